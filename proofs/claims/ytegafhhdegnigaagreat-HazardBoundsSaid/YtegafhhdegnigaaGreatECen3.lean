/-
  The census: the calls' ends.
-/
import Derived.Test.YtegafhhdegnigaaGreatECen5
import Derived.Test.YtegafhhdegnigaaGreatEBndW3
import Derived.Test.YtegafhhdegnigaaGreatENew3
import Derived.Lib.Hide
set_option linter.all false
namespace Go.Proofs.YtegafhhdegnigaaGreat
section
open Go.RowKit Hp
set_option maxRecDepth 100000
set_option maxHeartbeats 2000000
attribute [local irreducible] Go.Calls
abbrev eB (b:Bool):List Value:=[.bool b]
theorem mem_take {α:Type}{xs:List α}{k:Nat}{x:α}(h:x∈xs.take k):∃j,j<k∧xs[j]? = some x:=by
 obtain⟨j,hj⟩:=List.getElem?_of_mem h
 rw[List.getElem?_take]at hj
 split at hj
 ·exact⟨j,by assumption,hj⟩
 ·cases hj
theorem take_mem {α:Type}{xs:List α}{j k:Nat}{x:α}(h:j<k)(hj:xs[j]? = some x):x∈xs.take k:=by
 apply Yc (i:=j)
 rw[List.getElem?_take,if_pos h];exact hj
theorem mem_take_succ {α:Type}{xs:List α}{k:Nat}{x z:α}(hz:xs[k]? = some z)(h:x∈xs.take (k+1)):x∈xs.take k∨x=z:=by
 rw[List.take_add_one,hz]at h
 rcases List.mem_append.1 h with h|h
 ·exact .inl h
 ·simp at h;exact .inr h
theorem cen_ends (cs:List Cll)(v:Value)(n:Int)(hn:n≤65536)(hl:cs.length<4294967296)(h0:∀x∈cs,(0≤x.begin_∧x.begin_<n)∧(x.end_ = -1∨0≤x.end_∧x.end_<n))
  (hb:Pw (fun x z=>x.begin_<z.begin_) cs) (he:Pw (fun x z=>x.end_ ≠ -1→x.end_≠z.end_) cs) (hbe:∀x∈cs,∀z∈cs,x.end_≠z.begin_) :
  ZB Tryz.prog 142 #[v] (cslR cs v) (.bool true) (cslR cs v):=by
 intro O w F hs
 obtain⟨a0,cap0,rfl⟩:=Qr (hs.pull (A:=cslR cs v) (by (with_reducible exact Qh)))
 simp only[List.length_map]at hs ⊢
 have h0:=Lh h0
 have hb:=Lh hb
 have he:=Lh he
 have hbe:=Lh hbe
 go_enter Tryz.func142,Tryz.ntmps142
 (repeat'(go_step))
 go_loopw [3,4] (fun tp q wr=>∃(k z:Nat),k≤cs.length∧q=.int .i64 (k:Int)∧tp=.int .i64 (z:Int)∧z≤65536∧Hid (∀x∈cs.take k,x.begin_≤(z:Int)∧x.end_≤(z:Int))∧Sat O wr (cslR cs (.slice a0 cs.length cap0)*F)) (fun _ q _=>cs.length+1-(intOf q).toNat)
 case atStart=>exact⟨0,0,by omega,rfl,rfl,by omega,Lh (by simp),by ((with_reducible apply Sat.fin hs);(with_reducible exact Ql))⟩
 case round=>
  obtain⟨k,z,k1,rfl,rfl,z1,hz,hs⟩:=hrel
  by_cases hkr:k=cs.length
  ·subst hkr
   have hlt:decide ((cs.length:Int)<(cs.length:Int))=false:=by simp
   have hz2:decide ((z:Int)≤262144)=true:=by simp;omega
   have hw:wrap64 ((z:Int)+1)=(z:Int)+1:=by unfold wrap64;omega
   have hz3:z+1≤4294967296:=by omega
   rw[List.take_length]at hz
   (repeat'(first|(go_big_may;(first|((with_reducible apply Zp hs);exact Ii;rfl;(with_reducible exact Qh);rfl;(simp only[Uc,Uz]))|((with_reducible apply wl_mk hs);exact Ii;exact Ii;rfl;rfl;rfl;rfl;(rfl);omega;(exact Vb rfl);rfl;clear hs;intro w v hs;(simp only[Uc,Uz]))))|go_step))
   obtain⟨a5,c5,rfl⟩:=Qr (hs.pull (A:=sl 4 1 _ v) (by (with_reducible exact Qh)))
   simp only[List.length_replicate,List.length_map]at hs ⊢
   go_loopw [6] (fun q wr=>∃(k:Nat) (bs:List Bool),k≤cs.length∧q=.int .i64 (k:Int)∧bs.length=z+1∧Hid (∀j:Nat,bs[j]? = some true→∃x∈cs.take k,x.begin_=(j:Int)∨x.end_=(j:Int)) ∧
    Sat O wr (sl 4 1 (bs.map eB) (.slice a5 (z+1) c5)*(cslR cs (.slice a0 cs.length cap0)*F))) (fun q _=>cs.length+1-(intOf q).toNat)
   case atStart=>
    refine⟨0,List.replicate (z+1) false,by omega,rfl,by simp,Lh (fun j hj => ?_),by rw[List.map_replicate];((with_reducible apply Sat.fin hs);(focus((repeat(first|with_reducible exact Ql|with_reducible apply Qb|exact Qh));done)))⟩
    have:=(List.mem_replicate.1 (Yc hj)).2
    cases this
   case round=>
    obtain⟨k,bs,k1,rfl,hbl,hbs,hs⟩:=hrel
    by_cases hkr:k=cs.length
    ·subst hkr
     have hlt:decide ((cs.length:Int)<(cs.length:Int))=false:=by simp
     (repeat'(first|(go_big_may;((with_reducible apply Zp hs);exact Ii;rfl;(with_reducible repeat first|exact Qh|apply Qk);rfl;(simp only[Uc,Uz])))|go_step))
     (go_ret)
     exact⟨rfl,by ((with_reducible apply Sat.fin hs);(with_reducible repeat first|exact Ql|exact Qh|apply Qb|apply Qk))⟩
    ·have hlt:decide ((k:Int)<(cs.length:Int))=true:=by simp;omega
     have hlt2:decide (k<cs.length)=true:=by simp;omega
     have hln:k<(cs.map Cll.e).length:=by simp;omega
     obtain⟨x,hx⟩:∃x,cs[k]? = some x:=⟨_,Yd (by omega)⟩
     obtain⟨⟨x1,x2⟩,x3⟩:=h0.out x (Yc hx)
     obtain⟨x4,x5⟩:=hz.out x (Yc hx)
     have hnB:∀j:Nat,(j:Int)=x.begin_→bs[j]? = some false:=by
      intro j hj
      have hjl:j<bs.length:=by omega
      cases hg:bs[j]'hjl with
      | false=>rw[Yd hjl,hg]
      | true=>
       obtain⟨y,hy,hy2⟩:=hbs.out j (by rw[Yd hjl,hg])
       obtain⟨i,hi,hy⟩:=mem_take hy
       rcases hy2 with hy2|hy2
       ·have:=hb.out i k y x hi hy hx;omega
       ·exact absurd (hy2.trans hj) (hbe.out y (Yc hy) x (Yc hx))
     have hnE:∀j:Nat,(j:Int)=x.end_→x.end_ ≠ -1→(bs.set x.begin_.toNat true)[j]? = some false:=by
      intro j hj hne
      have hjl:j<bs.length:=by omega
      have hjb:x.begin_.toNat≠j:=by
       intro e
       exact hbe.out x (Yc hx) x (Yc hx) (by omega)
      rw[Yf hjb]
      cases hg:bs[j]'hjl with
      | false=>rw[Yd hjl,hg]
      | true=>
       obtain⟨y,hy,hy2⟩:=hbs.out j (by rw[Yd hjl,hg])
       obtain⟨i,hi,hy⟩:=mem_take hy
       rcases hy2 with hy2|hy2
       ·exact absurd (hj.symm.trans hy2.symm) (hbe.out x (Yc hx) y (Yc hy))
       ·exact absurd (hy2.trans hj) (he.out i k y x hi hy hx (by omega))
     have hold:∀(bs':List Bool),(∀j:Nat,bs'[j]? = some true→bs[j]? = some true∨(j:Int)=x.begin_∨(j:Int)=x.end_)→∀j:Nat,bs'[j]? = some true→∃x∈cs.take (k+1),x.begin_=(j:Int)∨x.end_=(j:Int):=by
      intro bs' h j hj
      rcases h j hj with h|h|h
      ·obtain⟨y,hy,hy2⟩:=hbs.out j h
       obtain⟨i,hi,hy⟩:=mem_take hy
       exact⟨y,take_mem (by omega) hy,hy2⟩
      ·exact⟨x,take_mem (by omega) hx,.inl h.symm⟩
      ·exact⟨x,take_mem (by omega) hx,.inr h.symm⟩
     obtain⟨c1,c2,c3,c4,c5,c6,c7,c8,c9⟩:=x
     simp only[]at x1 x2 x3 x4 x5 hnB hnE hold
     obtain⟨B,rfl⟩:∃B:Nat,c5=(B:Int):=⟨c5.toNat,by omega⟩
     have hB:=hnB B rfl
     simp only[Yo]at hnE
     have hBl:B<bs.length:=(List.getElem?_eq_some_iff.1 hB).1
     have hBl2:B<(bs.map eB).length:=by simp;exact hBl
     have hBl3:decide (B<bs.length)=true:=by simpa using hBl
     have hBg:(bs.map eB)[B]? = some [.bool false]:=by rw[Ym,hB];rfl
     have hw:wrap64 ((k:Int)+1)=(k:Int)+1:=by unfold wrap64;omega
     have hgv:(cs.map Cll.e)[k]? = some (Cll.e ⟨c1,c2,c3,c4,(B:Int),c6,c7,c8,c9⟩):=by rw[Ym,hx];rfl
     have set_or:∀(l:List Bool) (i j:Nat),(l.set i true)[j]? = some true→l[j]? = some true∨j=i:=by
      intro l i j hj
      by_cases e:j=i
      ·exact .inr e
      ·rw[Yf (Ne.symm e)]at hj;exact .inl hj
     by_cases hE:c6 = -1
     ·subst hE
      have hge:decide ((-1:Int)≥0)=false:=rfl
      have hold:=Lh (hold (bs.set B true) (fun j hj=>by rcases set_or _ _ _ hj with h|h;exact .inl h;exact .inr (.inl (by omega))))
      have hbl:=Lh hbl
      clear hnE hnB x1 x2 x3 x4 x5 set_or hB hBl
      (repeat'(first|(go_big_may;(first|((with_reducible apply QI hs);exact Ii;rfl;assumption;(with_reducible repeat first|exact Qh|apply Qk);rfl;(assumption);rfl;rfl;(simp only[Uc,Uz]))|((with_reducible apply Zt hs);exact Ii;rfl;assumption;(with_reducible exact Qh);rfl;(assumption);rfl;rfl;(simp only[Uc,Uz]))|((with_reducible apply Qe hs);exact Ii;rfl;rfl;assumption;(with_reducible exact Qh);rfl;(assumption);(exact Vb rfl);(rfl);rfl;clear hs;intro w hs)|((with_reducible apply Z7 hs);exact Ii;exact Ii;rfl;assumption;rfl;(with_reducible repeat first|exact Qh|apply Qk);(rfl);(assumption);rfl;(simp only[Uc,Uz]))|((with_reducible apply ZN hs);exact Ii;exact Ii;rfl;rfl;(with_reducible repeat first|exact Qh|apply Qk);(rfl);(assumption);rfl;intro b off hat;(simp only[Uc,Uz]))|((with_reducible apply Zp hs);exact Ii;rfl;(with_reducible repeat first|exact Qh|apply Qk);rfl;(simp only[Uc,Uz]))))|go_step))
      go_roundw
      case rel=>exact⟨k+1,bs.set B true,by omega,by simp,by simp[hbl.out],hold,by rw[Yk];((with_reducible apply Sat.fin hs);(focus((repeat(first|with_reducible exact Ql|with_reducible apply Qb|exact Qh));done)))⟩
      case measure=>simp[intOf];omega
     ·obtain⟨E,rfl⟩:∃E:Nat,c6=(E:Int):=⟨c6.toNat,by omega⟩
      have hge:decide ((E:Int)≥0)=true:=by simp
      have hEg:=hnE E rfl hE
      have hEl:E<(bs.set B true).length:=(List.getElem?_eq_some_iff.1 hEg).1
      have hEl2:E<((bs.map eB).set B [.bool true]).length:=by simp at hEl ⊢;exact hEl
      have hEl3:decide (E<bs.length)=true:=by simpa using hEl
      have hEg2:((bs.map eB).set B [.bool true])[E]? = some [.bool false]:=by
       have:((bs.set B true).map eB)[E]? = some [.bool false]:=by rw[Ym,hEg];rfl
       rw[Yk]at this
       exact this
      have hold:=Lh (hold ((bs.set B true).set E true) (fun j hj=>by
       rcases set_or _ _ _ hj with h|h
       ·rcases set_or _ _ _ h with h|h
        ·exact .inl h
        ·exact .inr (.inl (by omega))
       ·exact .inr (.inr (by omega))))
      have hbl:=Lh hbl
      clear hnE hnB x1 x2 x3 x4 x5 set_or hE hEg hEl hB hBl
      (repeat'(first|(go_big_may;(first|((with_reducible apply QI hs);exact Ii;rfl;assumption;(with_reducible repeat first|exact Qh|apply Qk);rfl;(assumption);rfl;rfl;(simp only[Uc,Uz]))|((with_reducible apply Zt hs);exact Ii;rfl;assumption;(with_reducible exact Qh);rfl;(assumption);rfl;rfl;(simp only[Uc,Uz]))|((with_reducible apply Qe hs);exact Ii;rfl;rfl;assumption;(with_reducible exact Qh);rfl;(assumption);(exact Vb rfl);(rfl);rfl;clear hs;intro w hs)|((with_reducible apply Z7 hs);exact Ii;exact Ii;rfl;assumption;rfl;(with_reducible repeat first|exact Qh|apply Qk);(rfl);(assumption);rfl;(simp only[Uc,Uz]))|((with_reducible apply ZN hs);exact Ii;exact Ii;rfl;rfl;(with_reducible repeat first|exact Qh|apply Qk);(rfl);(assumption);rfl;intro b off hat;(simp only[Uc,Uz]))|((with_reducible apply Zp hs);exact Ii;rfl;(with_reducible repeat first|exact Qh|apply Qk);rfl;(simp only[Uc,Uz]))))|go_step))
      go_roundw
      case rel=>exact⟨k+1,(bs.set B true).set E true,by omega,by simp,by simp[hbl.out],hold,by rw[Yk,Yk];((with_reducible apply Sat.fin hs);(focus((repeat(first|with_reducible exact Ql|with_reducible apply Qb|exact Qh));done)))⟩
      case measure=>simp[intOf];omega
  ·have hlt:decide ((k:Int)<(cs.length:Int))=true:=by simp;omega
   have hlt2:decide (k<cs.length)=true:=by simp;omega
   have hln:k<(cs.map Cll.e).length:=by simp;omega
   obtain⟨x,hx⟩:∃x,cs[k]? = some x:=⟨_,Yd (by omega)⟩
   obtain⟨⟨x1,x2⟩,x3⟩:=h0.out x (Yc hx)
   have hnew:∀z':Nat,z≤z'→x.begin_≤(z':Int)→x.end_≤(z':Int)→∀y∈cs.take (k+1),y.begin_≤(z':Int)∧y.end_≤(z':Int):=by
    intro z' h1 h2 h3 y hy
    rcases mem_take_succ hx hy with hy|rfl
    ·have:=hz.out y hy;omega
    ·exact⟨h2,h3⟩
   obtain⟨c1,c2,c3,c4,c5,c6,c7,c8,c9⟩:=x
   simp only[]at x1 x2 x3 hnew
   obtain⟨B,rfl⟩:∃B:Nat,c5=(B:Int):=⟨c5.toNat,by omega⟩
   have hw:wrap64 ((k:Int)+1)=(k:Int)+1:=by unfold wrap64;omega
   have hgv:(cs.map Cll.e)[k]? = some (Cll.e ⟨c1,c2,c3,c4,(B:Int),c6,c7,c8,c9⟩):=by rw[Ym,hx];rfl
   by_cases e1:c6>(z:Int)
   ·obtain⟨E,rfl⟩:∃E:Nat,c6=(E:Int):=⟨c6.toNat,by omega⟩
    have f1:decide ((E:Int)>(z:Int))=true:=by simp;omega
    have f1':decide (z<E)=true:=by simp;omega
    by_cases e2:(B:Int)>(E:Int)
    ·have f2:decide ((B:Int)>(E:Int))=true:=by simp;omega
     have f2':decide (E<B)=true:=by simp;omega
     have hnew:=Lh (hnew B (by omega) (by omega) (by omega))
     have hB:=Lh (show B≤65536 by omega)
     clear e1 e2 x1 x2 x3
     (repeat'(first|(go_big_may;(first|((with_reducible apply QI hs);exact Ii;rfl;assumption;(with_reducible exact Qh);rfl;(assumption);rfl;rfl;(simp only[Uc,Uz]))|((with_reducible apply Z7 hs);exact Ii;exact Ii;rfl;assumption;rfl;(with_reducible exact Qh);(rfl);(assumption);rfl;(simp only[Uc,Uz]))|((with_reducible apply ZN hs);exact Ii;exact Ii;rfl;rfl;(with_reducible exact Qh);(rfl);(assumption);rfl;intro b off hat;(simp only[Uc,Uz]))|((with_reducible apply Zp hs);exact Ii;rfl;(with_reducible exact Qh);rfl;(simp only[Uc,Uz]))))|go_step))
     go_roundw
     case rel=>exact⟨k+1,B,by omega,by simp,rfl,hB.out,hnew,by ((with_reducible apply Sat.fin hs);(with_reducible exact Ql))⟩
     case measure=>simp[intOf];omega
    ·have f2:decide ((B:Int)>(E:Int))=false:=by simp;omega
     have f2':decide (E<B)=false:=by simp;omega
     have hnew:=Lh (hnew E (by omega) (by omega) (by omega))
     have hB:=Lh (show E≤65536 by omega)
     clear e1 e2 x1 x2 x3
     (repeat'(first|(go_big_may;(first|((with_reducible apply QI hs);exact Ii;rfl;assumption;(with_reducible exact Qh);rfl;(assumption);rfl;rfl;(simp only[Uc,Uz]))|((with_reducible apply Z7 hs);exact Ii;exact Ii;rfl;assumption;rfl;(with_reducible exact Qh);(rfl);(assumption);rfl;(simp only[Uc,Uz]))|((with_reducible apply ZN hs);exact Ii;exact Ii;rfl;rfl;(with_reducible exact Qh);(rfl);(assumption);rfl;intro b off hat;(simp only[Uc,Uz]))|((with_reducible apply Zp hs);exact Ii;rfl;(with_reducible exact Qh);rfl;(simp only[Uc,Uz]))))|go_step))
     go_roundw
     case rel=>exact⟨k+1,E,by omega,by simp,rfl,hB.out,hnew,by ((with_reducible apply Sat.fin hs);(with_reducible exact Ql))⟩
     case measure=>simp[intOf];omega
   ·have f1:decide (c6>(z:Int))=false:=by simp;omega
    by_cases e2:(B:Int)>(z:Int)
    ·have f2:decide ((B:Int)>(z:Int))=true:=by simp;omega
     have f2':decide (z<B)=true:=by simp;omega
     have hnew:=Lh (hnew B (by omega) (by omega) (by omega))
     have hB:=Lh (show B≤65536 by omega)
     clear e1 e2 x1 x2 x3
     (repeat'(first|(go_big_may;(first|((with_reducible apply QI hs);exact Ii;rfl;assumption;(with_reducible exact Qh);rfl;(assumption);rfl;rfl;(simp only[Uc,Uz]))|((with_reducible apply Z7 hs);exact Ii;exact Ii;rfl;assumption;rfl;(with_reducible exact Qh);(rfl);(assumption);rfl;(simp only[Uc,Uz]))|((with_reducible apply ZN hs);exact Ii;exact Ii;rfl;rfl;(with_reducible exact Qh);(rfl);(assumption);rfl;intro b off hat;(simp only[Uc,Uz]))|((with_reducible apply Zp hs);exact Ii;rfl;(with_reducible exact Qh);rfl;(simp only[Uc,Uz]))))|go_step))
     go_roundw
     case rel=>exact⟨k+1,B,by omega,by simp,rfl,hB.out,hnew,by ((with_reducible apply Sat.fin hs);(with_reducible exact Ql))⟩
     case measure=>simp[intOf];omega
    ·have f2:decide ((B:Int)>(z:Int))=false:=by simp;omega
     have f2':decide (z<B)=false:=by simp;omega
     have hnew:=Lh (hnew z (by omega) (by omega) (by omega))
     have hB:=Lh (show z≤65536 by omega)
     clear e1 e2 x1 x2 x3
     (repeat'(first|(go_big_may;(first|((with_reducible apply QI hs);exact Ii;rfl;assumption;(with_reducible exact Qh);rfl;(assumption);rfl;rfl;(simp only[Uc,Uz]))|((with_reducible apply Z7 hs);exact Ii;exact Ii;rfl;assumption;rfl;(with_reducible exact Qh);(rfl);(assumption);rfl;(simp only[Uc,Uz]))|((with_reducible apply ZN hs);exact Ii;exact Ii;rfl;rfl;(with_reducible exact Qh);(rfl);(assumption);rfl;intro b off hat;(simp only[Uc,Uz]))|((with_reducible apply Zp hs);exact Ii;rfl;(with_reducible exact Qh);rfl;(simp only[Uc,Uz]))))|go_step))
     go_roundw
     case rel=>exact⟨k+1,z,by omega,by simp,rfl,hB.out,hnew,by ((with_reducible apply Sat.fin hs);(with_reducible exact Ql))⟩
     case measure=>simp[intOf];omega
end
section
open Go.RowKit
namespace Hp
section
variable {P:Program}{ops:Array Oper}{Q:Exit→Act→World→Prop}{w:World}{rest:List Oper}{l:List Value}{ds:List Deferred}{T T' ty:TypeId}{pos:String}{after:Array Edge}{gd:Option (Nat×Bool)}{d:Nat}{x y:Operand}{K:IntKind}{a b:Int}{r:Bool}
theorem wl_neqC (hx:ev l x=some (.int K a))(hy:ev l y=some (.int K b))(hr:(a != b)=r)
  (hg:Region.wanted { dst:=some d,op:=.binOp .neq T x y T',type:=ty,pos,after,guard:=gd } (yielded ops l.toArray)=true)
  (kk:wpList P ops Q rest ⟨(l.set d (.bool r)).toArray,ds⟩ w) :
  wpList P ops Q ({ dst:=some d,op:=.binOp .neq T x y T',type:=ty,pos,after,guard:=gd }::rest) ⟨l.toArray,ds⟩ w:=by
 refine QA (v:=.bool r) (w':=w) hg ?_ (Z9▸kk)
 have h1:=Zs (ds:=ds) hx
 have h2:=Zs (ds:=ds) hy
 subst hr
 simp[execOp,h1,h2,binOp,Op.intCmp,eqGuard]
theorem wl_eqlC (hx:ev l x=some (.int K a))(hy:ev l y=some (.int K b))(hr:(a==b)=r)
  (hg:Region.wanted { dst:=some d,op:=.binOp .eql T x y T',type:=ty,pos,after,guard:=gd } (yielded ops l.toArray)=true)
  (kk:wpList P ops Q rest ⟨(l.set d (.bool r)).toArray,ds⟩ w) :
  wpList P ops Q ({ dst:=some d,op:=.binOp .eql T x y T',type:=ty,pos,after,guard:=gd }::rest) ⟨l.toArray,ds⟩ w:=by
 refine QA (v:=.bool r) (w':=w) hg ?_ (Z9▸kk)
 have h1:=Zs (ds:=ds) hx
 have h2:=Zs (ds:=ds) hy
 subst hr
 simp[execOp,h1,h2,binOp,Op.intCmp,eqGuard]
theorem wl_lssC (hx:ev l x=some (.int K a))(hy:ev l y=some (.int K b))(hr:decide (a<b)=r)
  (hg:Region.wanted { dst:=some d,op:=.binOp .lss T x y T',type:=ty,pos,after,guard:=gd } (yielded ops l.toArray)=true)
  (kk:wpList P ops Q rest ⟨(l.set d (.bool r)).toArray,ds⟩ w) :
  wpList P ops Q ({ dst:=some d,op:=.binOp .lss T x y T',type:=ty,pos,after,guard:=gd }::rest) ⟨l.toArray,ds⟩ w:=by
 refine QA (v:=.bool r) (w':=w) hg ?_ (Z9▸kk)
 have h1:=Zs (ds:=ds) hx
 have h2:=Zs (ds:=ds) hy
 subst hr
 simp[execOp,h1,h2,binOp,Op.intCmp,eqGuard]
theorem wl_leqC (hx:ev l x=some (.int K a))(hy:ev l y=some (.int K b))(hr:decide (a≤b)=r)
  (hg:Region.wanted { dst:=some d,op:=.binOp .leq T x y T',type:=ty,pos,after,guard:=gd } (yielded ops l.toArray)=true)
  (kk:wpList P ops Q rest ⟨(l.set d (.bool r)).toArray,ds⟩ w) :
  wpList P ops Q ({ dst:=some d,op:=.binOp .leq T x y T',type:=ty,pos,after,guard:=gd }::rest) ⟨l.toArray,ds⟩ w:=by
 refine QA (v:=.bool r) (w':=w) hg ?_ (Z9▸kk)
 have h1:=Zs (ds:=ds) hx
 have h2:=Zs (ds:=ds) hy
 subst hr
 simp[execOp,h1,h2,binOp,Op.intCmp,eqGuard]
theorem wl_gtrC (hx:ev l x=some (.int K a))(hy:ev l y=some (.int K b))(hr:decide (a>b)=r)
  (hg:Region.wanted { dst:=some d,op:=.binOp .gtr T x y T',type:=ty,pos,after,guard:=gd } (yielded ops l.toArray)=true)
  (kk:wpList P ops Q rest ⟨(l.set d (.bool r)).toArray,ds⟩ w) :
  wpList P ops Q ({ dst:=some d,op:=.binOp .gtr T x y T',type:=ty,pos,after,guard:=gd }::rest) ⟨l.toArray,ds⟩ w:=by
 refine QA (v:=.bool r) (w':=w) hg ?_ (Z9▸kk)
 have h1:=Zs (ds:=ds) hx
 have h2:=Zs (ds:=ds) hy
 subst hr
 simp[execOp,h1,h2,binOp,Op.intCmp,eqGuard]
theorem wl_geqC (hx:ev l x=some (.int K a))(hy:ev l y=some (.int K b))(hr:decide (a≥b)=r)
  (hg:Region.wanted { dst:=some d,op:=.binOp .geq T x y T',type:=ty,pos,after,guard:=gd } (yielded ops l.toArray)=true)
  (kk:wpList P ops Q rest ⟨(l.set d (.bool r)).toArray,ds⟩ w) :
  wpList P ops Q ({ dst:=some d,op:=.binOp .geq T x y T',type:=ty,pos,after,guard:=gd }::rest) ⟨l.toArray,ds⟩ w:=by
 refine QA (v:=.bool r) (w':=w) hg ?_ (Z9▸kk)
 have h1:=Zs (ds:=ds) hx
 have h2:=Zs (ds:=ds) hy
 subst hr
 simp[execOp,h1,h2,binOp,Op.intCmp,eqGuard]
theorem wl_mvB {z:Value}(hx:ev l x=some z)
  (hg:Region.wanted { dst:=some d,op:=.move x,type:=ty,pos,after,guard:=gd } (yielded ops l.toArray)=true)
  (kk:wpList P ops Q rest ⟨(l.set d z).toArray,ds⟩ w) :
  wpList P ops Q ({ dst:=some d,op:=.move x,type:=ty,pos,after,guard:=gd }::rest) ⟨l.toArray,ds⟩ w:=by
 refine QA (v:=z) (w':=w) hg ?_ (Z9▸kk)
 have h1:=Zs (ds:=ds) hx
 simp[execOp,h1]
end
end Hp
end
section
open Go.RowKit Hp
set_option maxRecDepth 100000
set_option maxHeartbeats 8000000
attribute [local irreducible] Go.Calls Go.wpList
abbrev cfgR (b:Nat)(c:Cfg):Zd:=pt b (.cells #[.int .i64 c.T,.int .i64 c.R,.int .i64 c.Hz,.int .i64 c.Rt,.int .i64 c.Ca,.int .i64 c.Sl,.int .i64 c.Bu] 23)
theorem prev_cll {cs:List Cll}(hs:Pw (fun x z=>x.begin_<z.begin_) cs){n:Nat}{e:Cll}(he:cs[n]? = some e) :
  (decide ((n:Int)>0)=false∧decide (0<n)=false)∨∃z1 z2 z3 z4 z5 z6 z7 z8 z9:Int,1≤n∧((n:Int)-1).toNat<(cs.map Cll.e).length∧(cs.map Cll.e)[n-1]? = some (Cll.e ⟨z1,z2,z3,z4,z5,z6,z7,z8,z9⟩)∧decide (e.begin_≤z5)=false∧decide ((n:Int)>0)=true:=by
 have hn:=(List.getElem?_eq_some_iff.1 he).1
 cases n with
 | zero=>exact .inl ⟨rfl,rfl⟩
 | succ j=>
  right
  obtain⟨z,hz⟩:∃z,cs[j]? = some z:=⟨_,Yd (by omega)⟩
  have hm:=hs j (j+1) z e (by omega) hz he
  obtain⟨z1,z2,z3,z4,z5,z6,z7,z8,z9⟩:=z
  have hm:z5<e.begin_:=hm
  have e0:(((j+1:Nat):Int)-1).toNat=j:=by omega
  have e1:j<(cs.map Cll.e).length:=by rw[List.length_map];omega
  have e3:(cs.map Cll.e)[j]? = some (Cll.e ⟨z1,z2,z3,z4,z5,z6,z7,z8,z9⟩):=by rw[Ym,hz];rfl
  have e4:decide (e.begin_≤z5)=false:=by rw[decide_eq_false_iff_not];omega
  have e5:decide (((j+1:Nat):Int)>0)=true:=by rw[decide_eq_true_eq];omega
  exact⟨z1,z2,z3,z4,z5,z6,z7,z8,z9,by omega,by rw[e0];exact e1,e3,e4,e5⟩
theorem cen_calls (c:Cfg)(hok:c.Ok)(cs:List Cll)(v:Value)(n:Int)(hn:n≤65536)(hl:cs.length<4294967296)(h0:∀x∈cs,ClOk c n x)
  (hb:Pw (fun x z=>x.begin_<z.begin_) cs) (ho:Pw (fun x z=>x.thread=z.thread→x.end_ ≠ -1∧x.end_<z.begin_) cs) (he:Pw (fun x z=>x.end_ ≠ -1→x.end_≠z.end_) cs) (hbe:∀x∈cs,∀z∈cs,x.end_≠z.begin_) :
  ZB Tryz.prog 118 #[c.v,v] (cslR cs v) (.bool true) (cslR cs v):=by
 intro O w F hs
 have hE:=Lh (fun v=>cen_ends cs v n hn hl (fun x hx=>by have:=h0 x hx;obtain⟨q1,q2,q3,q4,q5,q6⟩:=this;exact⟨⟨q3,q4⟩,by omega⟩) hb he hbe)
 obtain⟨a0,cap0,rfl⟩:=Qr (hs.pull (A:=cslR cs v) (by (with_reducible exact Qh)))
 simp only[List.length_map]at hs ⊢
 have hT1:=hok.T1
 have hT2:=hok.T2
 have h0:=Lh h0
 have hb:=Lh hb
 have ho:=Lh ho
 clear he hbe hok
 go_enter Tryz.func118,Tryz.ntmps118
 (repeat'(first|(go_big_may;((with_reducible apply Zv hs);rfl;rfl;rfl;clear hs;intro w b hs;(simp only[Uc,Uz])))|go_step))
 obtain⟨bc,hbc⟩:∃x,x=b:=⟨_,rfl⟩
 subst hbc
 go_loopw [5] (fun q wr=>∃k:Nat,k≤cs.length∧q=.int .i64 (k:Int)∧Sat O wr (cfgR bc c*(cslR cs (.slice a0 cs.length cap0)*F))) (fun q _=>cs.length+1-(intOf q).toNat)
 case atStart=>exact⟨0,by omega,rfl,by ((with_reducible apply Sat.fin hs);(with_reducible exact Ql))⟩
 case round=>
  obtain⟨k,k1,rfl,hs⟩:=hrel
  by_cases hkr:k=cs.length
  ·subst hkr
   have hlt:decide ((cs.length:Int)<(cs.length:Int))=false:=by simp
   (repeat'(first|(go_big_may;(first|(first|((with_reducible apply Zc hs);exact Ii;rfl;(with_reducible exact Qh);rfl;rfl;(simp only[Uc,Uz]))|((with_reducible apply Zp hs);exact Ii;rfl;(with_reducible repeat first|exact Qh|apply Qk);rfl;(simp only[Uc,Uz])))|((with_reducible apply wl_mk hs);exact Ii;exact Ii;rfl;rfl;rfl;rfl;(exact(Int.toNat_of_nonneg (by omega)).symm);omega;(exact Vb rfl);rfl;clear hs;intro w v hs;(simp only[Uc,Uz]))))|go_step))
   obtain⟨a8,c8,rfl⟩:=Qr (hs.pull (A:=sl 3 1 _ v) (by (with_reducible exact Qh)))
   simp only[List.length_replicate,List.length_map]at hs ⊢
   obtain⟨T0,hT0⟩:∃T0:Nat,c.T=(T0:Int):=⟨c.T.toNat,by omega⟩
   have hT2':c.T.toNat=T0:=by omega
   rw[hT2']at hs ⊢
   have hTl:T0≤16:=by omega
   have hT0:=Lh hT0
   clear hT2' hT1 hT2
   go_loopw [9] (fun q wr=>∃(k:Nat) (ls:List Int),k≤T0∧q=.int .i64 (k:Int)∧Hid (ls.length=T0∧∀j z,j<k→ls[j]? = some z→z = -1) ∧
    Sat O wr (sl 3 1 (ls.map eI) (.slice a8 T0 c8)*(cfgR bc c*(cslR cs (.slice a0 cs.length cap0)*F)))) (fun q _=>T0+1-(intOf q).toNat)
   case atStart=>exact⟨0,List.replicate T0 0,by omega,rfl,Lh ⟨by simp,by omega⟩,by rw[List.map_replicate];((with_reducible apply Sat.fin hs);(focus((repeat(first|with_reducible exact Ql|with_reducible apply Qb|exact Qh));done)))⟩
   case round=>
    obtain⟨k,ls,k1,rfl,hls,hs⟩:=hrel
    by_cases hkr:k=T0
    ·have hkr:=hkr.symm
     subst hkr
     have hl1:=hls.out.1
     have hlt:decide ((T0:Int)<(T0:Int))=false:=by simp
     have hlt3:decide ((T0:Int)<(ls.length:Int))=false:=by simp;omega
     have hlt4:decide (T0<ls.length)=false:=by simp;omega
     have hlt5:decide ((T0:Int)<((ls.map eI).length:Int))=false:=by simp;omega
     clear hl1
     (repeat'(first|(go_big_may;((with_reducible apply Zp hs);exact Ii;rfl;(with_reducible exact Qh);rfl;(simp only[Uc,Uz])))|go_step))
     simp only[List.length_map]at hs ⊢
     go_loopw [10] (fun q wr=>∃(k:Nat) (ls:List Int),k≤cs.length∧q=.int .i64 (k:Int)∧Hid (ls.length=T0∧∀(t:Nat) (z:Int),ls[t]? = some z→z = -1∨∃j:Nat,z=(j:Int)∧j<k∧∃y,cs[j]? = some y∧y.thread=(t:Int)) ∧
      Sat O wr (sl 3 1 (ls.map eI) (.slice a8 T0 c8)*(cfgR bc c*(cslR cs (.slice a0 cs.length cap0)*F)))) (fun q _=>cs.length+1-(intOf q).toNat)
     case atStart=>
      refine⟨0,ls,by omega,rfl,Lh ⟨hls.out.1,fun t z hz=>.inl ?_⟩,by ((with_reducible apply Sat.fin hs);(with_reducible exact Ql))⟩
      have h1:=(List.getElem?_eq_some_iff.1 hz).1
      rw[hls.out.1]at h1
      exact hls.out.2 t z h1 hz
     case round=>
      obtain⟨k,ls,k1,rfl,hls,hs⟩:=hrel
      by_cases hkr:k=cs.length
      ·subst hkr
       have hlt:decide ((cs.length:Int)<(cs.length:Int))=false:=by simp
       (repeat'(first|(go_big_may;(first|((with_reducible apply Zp hs);exact Ii;rfl;(with_reducible repeat first|exact Qh|apply Qk);rfl;(simp only[Uc,Uz]))|(go_at_call 142;((refine((hE.out _)).at hs (by (with_reducible repeat first|exact Qh|apply Qk)) ?_);clear hs;intro w hs;(try simp only[Em,Ma]at hs)))))|go_step|(dsimp only)))
       (go_ret)
       exact⟨rfl,by ((with_reducible apply Sat.fin hs);(with_reducible repeat first|exact Ql|exact Qh|apply Qb|apply Qk))⟩
      ·have hlt:decide ((k:Int)<(cs.length:Int))=true:=by simp;omega
       have hlt2:decide (k<cs.length)=true:=by simp;omega
       have hln:k<(cs.map Cll.e).length:=by simp;omega
       obtain⟨x,hx⟩:∃x,cs[k]? = some x:=⟨_,Yd (by omega)⟩
       obtain⟨q1,q2,_,_,_,_⟩:=h0.out x (Yc hx)
       obtain⟨hl1,hl2⟩:=hls.out
       have hT0':=hT0.out
       obtain⟨th,hth⟩:∃th:Nat,x.thread=(th:Int):=⟨x.thread.toNat,by omega⟩
       have hthT:th<T0:=by omega
       clear hT0'
       obtain⟨z,hz⟩:∃z,ls[th]? = some z:=⟨_,Yd (by omega)⟩
       have hnew:Hid ((ls.set th (k:Int)).length=T0∧∀(t:Nat) (z:Int),(ls.set th (k:Int))[t]? = some z→z = -1∨∃j:Nat,z=(j:Int)∧j<k+1∧∃y,cs[j]? = some y∧y.thread=(t:Int)):=by
        refine Lh ⟨by simp[hl1],fun t z hz => ?_⟩
        by_cases e:t=th
        ·subst e
         rw[Ye (by omega)]at hz
         cases hz
         exact .inr ⟨k,rfl,by omega,x,hx,hth⟩
        ·rw[Yf (Ne.symm e)]at hz
         rcases hl2 t z hz with h|⟨j,h1,h2,h3⟩
         ·exact .inl h
         ·exact .inr ⟨j,h1,by omega,h3⟩
       have hprev:=hl2 th z hz
       have hthl:th<(ls.map eI).length:=by simp;omega
       have hthl2:decide (th<T0)=true:=by simp;omega
       have hgz:(ls.map eI)[th]? = some (eI z):=by rw[Ym,hz];rfl
       rcases hprev with rfl|⟨j,rfl,hjk,y,hy,hyt⟩
       ·obtain⟨c1,c2,c3,c4,c5,c6,c7,c8,c9⟩:=x
        simp only[]at hth
        subst hth
        have hgv:(cs.map Cll.e)[k]? = some (Cll.e ⟨(th:Int),c2,c3,c4,c5,c6,c7,c8,c9⟩):=by rw[Ym,hx];rfl
        have hge:decide ((-1:Int)≥0)=false:=rfl
        have hnL:=Lh (show k<cs.length by omega)
        clear hl1 hl2 hz q1 q2 hx hls hkr
        (repeat'(first|((first|((with_reducible apply Z6);rfl;rfl;((simp only[ev,Ue,Uf]);rfl);rfl;(simp only[Uc,Uz]))|((with_reducible apply wl_pass3);rfl;rfl;(simp only[Ue,Uf]);(simp only[Uc,Uz])));(repeat(fail)))|((with_reducible apply Z4);((simp only[ev,Ue,Uf]);rfl);((simp only[cond_true,cond_false,ev,Ue,Uf]);rfl);(with_reducible exact ZG);(simp only[Uc,Uz]))|(go_big_may;(first|(first|(first|(with_reducible refine NQ.mk ?_)|((with_reducible apply Zl);rfl;rfl)|(with_reducible refine Zm ?_))|((with_reducible apply Zt hs);exact Ii;rfl;assumption;(with_reducible repeat first|exact Qh|apply Qk);rfl;(assumption);rfl;rfl;(simp only[Uc,Uz]))|((with_reducible apply Qe hs);exact Ii;rfl;rfl;assumption;(with_reducible exact Qh);rfl;(assumption);(exact Vb rfl);(rfl);rfl;clear hs;intro w hs)|((with_reducible apply Z7 hs);exact Ii;exact Ii;rfl;assumption;rfl;(with_reducible repeat first|exact Qh|apply Qk);(rfl);(assumption);rfl;(simp only[Uc,Uz]))|((with_reducible apply ZN hs);exact Ii;exact Ii;rfl;rfl;(with_reducible repeat first|exact Qh|apply Qk);(rfl);(assumption);rfl;intro b off hat;(simp only[Uc,Uz]))|((with_reducible apply Zp hs);exact Ii;rfl;(with_reducible repeat first|exact Qh|apply Qk);rfl;(simp only[Uc,Uz])))|((with_reducible refine Wp (id:=23) (Paz (Pbz (Pcz (Pdz [.neu 20,.neu 21,.neu 22])))) hs rfl ?_ ?_);kernel_rfl;clear hs;intro w hs)))|go_step))
        go_roundw
        case rel=>exact⟨k+1,ls.set th (k:Int),(by have:=hnL.out;omega),by simp,hnew,by rw[Yk];((with_reducible apply Sat.fin hs);(focus((repeat(first|with_reducible exact Ql|with_reducible apply Qb|exact Qh));done)))⟩
        case measure=>have:=hnL.out;simp[intOf];omega
       ·have hord:=ho.out j k y x hjk hy hx (by omega)
        obtain⟨o1,o2⟩:=hord
        obtain⟨c1,c2,c3,c4,c5,c6,c7,c8,c9⟩:=x
        obtain⟨d1,d2,d3,d4,d5,d6,d7,d8,d9⟩:=y
        simp only[]at hth o1 o2
        subst hth
        have hgv:(cs.map Cll.e)[k]? = some (Cll.e ⟨(th:Int),c2,c3,c4,c5,c6,c7,c8,c9⟩):=by rw[Ym,hx];rfl
        have hgy:(cs.map Cll.e)[j]? = some (Cll.e ⟨d1,d2,d3,d4,d5,d6,d7,d8,d9⟩):=by rw[Ym,hy];rfl
        have hge:decide ((j:Int)≥0)=true:=by simp
        have hjl:j<(cs.map Cll.e).length:=by simp;omega
        have hjl2:decide (j<cs.length)=true:=by simp;omega
        have hne:(d6 == -1)=false:=by simpa using o1
        have hge2:decide (d6≥c5)=false:=by simp;omega
        have hnL:=Lh (show k<cs.length by omega)
        clear hl1 hl2 hz q1 q2 hx hls hkr hy hyt o1 o2 hjk
        (repeat'(first|((with_reducible apply Z4);((simp only[ev,Ue,Uf]);rfl);((simp only[cond_true,cond_false,ev,Ue,Uf]);rfl);(first|(with_reducible exact ZG)|((with_reducible apply QJ);rfl;rfl;(simp only[Ue,Uf])));(simp only[Uc,Uz]))|(go_big_may;(first|(first|(first|(with_reducible refine NQ.mk ?_)|((with_reducible apply Zl);rfl;rfl)|(with_reducible refine Zm ?_))|((with_reducible apply QI hs);exact Ii;rfl;assumption;(with_reducible repeat first|exact Qh|apply Qk);rfl;(assumption);rfl;rfl;(simp only[Uc,Uz]))|((with_reducible apply Zt hs);exact Ii;rfl;assumption;(with_reducible repeat first|exact Qh|apply Qk);rfl;(assumption);rfl;rfl;(simp only[Uc,Uz]))|((with_reducible apply Qe hs);exact Ii;rfl;rfl;assumption;(with_reducible exact Qh);rfl;(assumption);(exact Vb rfl);(rfl);rfl;clear hs;intro w hs)|((with_reducible apply Z7 hs);exact Ii;exact Ii;rfl;assumption;rfl;(with_reducible repeat first|exact Qh|apply Qk);(rfl);(assumption);rfl;(simp only[Uc,Uz]))|((with_reducible apply ZN hs);exact Ii;exact Ii;rfl;rfl;(with_reducible repeat first|exact Qh|apply Qk);(rfl);(assumption);rfl;intro b off hat;(simp only[Uc,Uz]))|((with_reducible apply Zp hs);exact Ii;rfl;(with_reducible repeat first|exact Qh|apply Qk);rfl;(simp only[Uc,Uz])))|((with_reducible refine Wp (id:=23) (Paz (Pbz (Pcz (Pdz [.neu 20,.neu 21,.neu 22])))) hs rfl ?_ ?_);kernel_rfl;clear hs;intro w hs)))|go_guarded|go_step))
        go_roundw
        case rel=>exact⟨k+1,ls.set th (k:Int),(by have:=hnL.out;omega),by simp,hnew,by rw[Yk];((with_reducible apply Sat.fin hs);(focus((repeat(first|with_reducible exact Ql|with_reducible apply Qb|exact Qh));done)))⟩
        case measure=>have:=hnL.out;simp[intOf];omega
    ·have hlt:decide ((k:Int)<(T0:Int))=true:=by simp;omega
     have hlt2:decide (k<T0)=true:=by simp;omega
     have hl1:=hls.out.1
     have hlt3:decide ((k:Int)<(ls.length:Int))=true:=by simp;omega
     have hlt4:decide (k<ls.length)=true:=by simp;omega
     have hlt5:decide ((k:Int)<((ls.map eI).length:Int))=true:=by simp;omega
     have hln:k<(ls.map eI).length:=by simp;omega
     obtain⟨z,hz⟩:∃z,ls[k]? = some z:=⟨_,Yd (by omega)⟩
     have hgz:(ls.map eI)[k]? = some (eI z):=by rw[Ym,hz];rfl
     have hnew:Hid ((ls.set k (-1)).length=T0∧∀j z,j<k+1→(ls.set k (-1))[j]? = some z→z = -1):=by
      refine Lh ⟨by simp[hl1],fun j z hj hz => ?_⟩
      by_cases e:j=k
      ·subst e
       rw[Ye (by omega)]at hz
       cases hz;rfl
      ·rw[Yf (Ne.symm e)]at hz
       exact hls.out.2 j z (by omega) hz
     have hnL:=Lh (show k<T0 by omega)
     clear hl1 hz hkr
     (repeat'(first|(go_big_may;(first|((with_reducible apply Qe hs);exact Ii;rfl;rfl;assumption;(with_reducible exact Qh);rfl;(assumption);(exact Vb rfl);(rfl);rfl;clear hs;intro w hs)|((with_reducible apply ZN hs);exact Ii;exact Ii;rfl;rfl;(with_reducible exact Qh);(rfl);(assumption);rfl;intro b off hat;(simp only[Uc,Uz]))|((with_reducible apply Zp hs);exact Ii;rfl;(with_reducible exact Qh);rfl;(simp only[Uc,Uz]))))|go_step))
     go_roundw
     case rel=>exact⟨k+1,ls.set k (-1),(by have:=hnL.out;omega),by simp,hnew,by rw[Yk];((with_reducible apply Sat.fin hs);(focus((repeat(first|with_reducible exact Ql|with_reducible apply Qb|exact Qh));done)))⟩
     case measure=>have:=hnL.out;simp[intOf];omega
  ·have hlt:decide ((k:Int)<(cs.length:Int))=true:=by simp;omega
   have hlt2:decide (k<cs.length)=true:=by simp;omega
   have hln:k<(cs.map Cll.e).length:=by simp;omega
   obtain⟨x,hx⟩:∃x,cs[k]? = some x:=⟨_,Yd (by omega)⟩
   obtain⟨q1,q2,q3,q4,q5,q6⟩:=h0.out x (Yc hx)
   have hprev:=Lh (prev_cll hb.out hx)
   have hnL:=Lh (show k<cs.length by omega)
   obtain⟨c1,c2,c3,c4,c5,c6,c7,c8,c9⟩:=x
   simp only[]at q1 q2 q3 q4 q5 q6
   have f1:decide (c1<0)=false:=by simp;omega
   have f2:decide (c1≥c.T)=false:=by simp;omega
   have f2':decide (c.T≤c1)=false:=by simp;omega
   have f3:decide (c5<0)=false:=by simp;omega
   have f4:Hid (((c6 != -1)=false∧(c6 == -1)=true∧(c8==0)=true∧(c8 != 2)=true∧(c9 != 0)=false)∨((c6 != -1)=true∧(c6 == -1)=false∧decide (c6≤c5)=false∧(c8==0)=false∧((c8 != 2)=false∨(c8 != 2)=true∧(c9 != 0)=false))):=by
    refine Lh ?_
    rcases q5 with⟨e1,e2,e3⟩|⟨e1,e2,e3,e4,e5⟩
    ·exact .inl ⟨by simp;omega,by simp;omega,by simp;omega,by simp;omega,by simp;omega⟩
    ·refine .inr ⟨by simp;omega,by simp;omega,by simp;omega,by simp;omega,?_⟩
     by_cases e:c8=2
     ·exact .inl (by simpa using e)
     ·exact .inr ⟨by simpa using e,by simpa using e5 e⟩
   have f5:Hid ((c7 != -1)=false∨((c7 != -1)=true∧decide (c7≤c5)=false∧((c6 != -1)=true→decide (c7>c6)=false∧decide (c6<c7)=false))):=by
    refine Lh ?_
    rcases q6 with e|⟨e1,e2,e3⟩
    ·exact .inl (by simp;omega)
    ·exact .inr ⟨by simp;omega,by simp;omega,fun h=>by have h':c6 ≠ -1:=(by simpa using h);have:=e3 h';constructor<;>simp<;>omega⟩
   have f6:decide (c8<0)=false:=by simp;omega
   have f7:decide (c8>6)=false:=by simp;omega
   have f7':decide (6<c8)=false:=by simp;omega
   have hgv:(cs.map Cll.e)[k]? = some (Cll.e ⟨c1,c2,c3,c4,c5,c6,c7,c8,c9⟩):=by rw[Ym,hx];rfl
   clear hx q1 q2 q3 q4 q5 q6 hkr
   have f1:=Lh f1
   have f2:=Lh f2
   have f3:=Lh f3
   have f6:=Lh f6
   have f7:=Lh f7
   clear f2' f7'
   rcases hprev.out with⟨j6,j7⟩|⟨z1,z2,z3,z4,z5,z6,z7,z8,z9,j1,j2,j3,j4,j6⟩
   all_goals rcases f4.out with⟨e1,e2,e3,e4,e5⟩|⟨e1,e2,e3,e4,e5|⟨e5,e6⟩⟩
   all_goals rcases f5.out with d1|⟨d1,d2,d3⟩
   all_goals(
    try clear j7
    try replace j4:decide (c5≤z5)=false:=j4
    try replace j4:=Lh j4
    replace j6:=Lh j6
    (first|(have d45:=d3 e1;obtain⟨d4,d5⟩:=d45)|skip)
    try clear d5
    try clear d3
    try replace d4:=Lh d4
    try replace d2:=Lh d2
    replace d1:=Lh d1
    replace e1:=Lh e1
    replace e2:=Lh e2
    replace e3:=Lh e3
    replace e4:=Lh e4
    replace e5:=Lh e5
    try replace e6:=Lh e6
    clear f4 f5 hprev
    (repeat'(first|(((with_reducible apply Z6);rfl;rfl;((simp only[ev,Ue,Uf]);rfl);rfl;(simp only[Uc,Uz]));(repeat(first|((with_reducible apply Z6);rfl;rfl;((simp only[ev,Ue,Uf]);rfl);rfl;(simp only[Uc,Uz]))|((with_reducible apply wl_pass3);rfl;rfl;(simp only[Ue,Uf]);(simp only[Uc,Uz])))))|((with_reducible apply Z4);((simp only[ev,Ue,Uf]);rfl);((simp only[cond_true,cond_false,ev,Ue,Uf]);rfl);(first|(with_reducible exact ZG)|((with_reducible apply QJ);rfl;rfl;(simp only[Ue,Uf])));(simp only[Uc,Uz]))|(first|((with_reducible apply wl_neqC);((simp only[ev,Ue,Uf]);rfl);((simp only[ev,Ue,Uf]);rfl);(with_reducible exact Hid.out (by with_reducible assumption));(first|(with_reducible exact ZG)|((with_reducible apply QJ);rfl;rfl;(simp only[Ue,Uf])));(simp only[Uc,Uz]))|((with_reducible apply wl_eqlC);((simp only[ev,Ue,Uf]);rfl);((simp only[ev,Ue,Uf]);rfl);(with_reducible exact Hid.out (by with_reducible assumption));((with_reducible apply QJ);rfl;rfl;(simp only[Ue,Uf]));(simp only[Uc,Uz]))|((with_reducible apply wl_lssC);((simp only[ev,Ue,Uf]);rfl);((simp only[ev,Ue,Uf]);rfl);(with_reducible exact Hid.out (by with_reducible assumption));(first|(with_reducible exact ZG)|((with_reducible apply QJ);rfl;rfl;(simp only[Ue,Uf])));(simp only[Uc,Uz]))|((with_reducible apply wl_leqC);((simp only[ev,Ue,Uf]);rfl);((simp only[ev,Ue,Uf]);rfl);(with_reducible exact Hid.out (by with_reducible assumption));((with_reducible apply QJ);rfl;rfl;(simp only[Ue,Uf]));(simp only[Uc,Uz]))|((with_reducible apply wl_gtrC);((simp only[ev,Ue,Uf]);rfl);((simp only[ev,Ue,Uf]);rfl);(with_reducible exact Hid.out (by with_reducible assumption));(first|(with_reducible exact ZG)|((with_reducible apply QJ);rfl;rfl;(simp only[Ue,Uf])));(simp only[Uc,Uz]))|((with_reducible apply wl_geqC);((simp only[ev,Ue,Uf]);rfl);((simp only[ev,Ue,Uf]);rfl);(with_reducible exact Hid.out (by with_reducible assumption));((with_reducible apply QJ);rfl;rfl;(simp only[Ue,Uf]));(simp only[Uc,Uz])))|((with_reducible apply wl_mvB);((simp only[ev,Ue,Uf]);rfl);(first|(with_reducible exact ZG)|((with_reducible apply QJ);rfl;rfl;(simp only[Ue,Uf])));(simp only[Uc,Uz]))|(go_big_may;(first|(first|(first|(with_reducible refine NQ.mk ?_)|((with_reducible apply Zl);rfl;rfl)|(with_reducible refine Zm ?_))|((with_reducible apply Zc hs);exact Ii;rfl;(with_reducible repeat first|exact Qh|apply Qk);rfl;rfl;(simp only[Uc,Uz]))|((with_reducible apply ZR hs);exact Ii;rfl;rfl;(with_reducible exact Qh);rfl;rfl;rfl;rfl;clear hs;intro w hs)|((with_reducible apply Zw hs);exact Ii;rfl;clear hs;intro w b hs;(simp only[Uc,Uz]))|((with_reducible apply QI hs);exact Ii;rfl;assumption;(with_reducible repeat first|exact Qh|apply Qk);rfl;(assumption);rfl;rfl;(simp only[Uc,Uz]))|((with_reducible apply Qu (k:=0) hs);exact Ii;rfl;assumption;(with_reducible repeat first|exact Qh|apply Qk);(exact(Nat.add_zero _).symm);(assumption);(exact Vb rfl);rfl;rfl;(simp only[Uc,Uz]))|((with_reducible apply Z7 hs);exact Ii;exact Ii;rfl;assumption;rfl;(with_reducible repeat first|exact Qh|apply Qk);(exact(Int.toNat_of_nonneg (by omega)).symm);(assumption);rfl;(simp only[Uc,Uz]))|((with_reducible apply ZN hs);exact Ii;exact Ii;rfl;rfl;(with_reducible repeat first|exact Qh|apply Qk);(rfl);(assumption);rfl;intro b off hat;(simp only[Uc,Uz]))|((with_reducible apply Zp hs);exact Ii;rfl;(with_reducible repeat first|exact Qh|apply Qk);rfl;(simp only[Uc,Uz])))|((with_reducible refine Wp (id:=7) (Paz (Pbz [.neu 10,.neu 11,.neu 12])) hs rfl ?_ ?_);kernel_rfl;clear hs;intro w hs)))|go_guarded|go_step))
    go_roundw
    case rel=>exact⟨k+1,(by have:=hnL.out;omega),by simp,by ((with_reducible apply Sat.fin hs);(with_reducible repeat first|exact Ql|exact Qh|apply Qb|apply Qk))⟩
    case measure=>have:=hnL.out;simp[intOf];omega)
end
end Go.Proofs.YtegafhhdegnigaaGreat
