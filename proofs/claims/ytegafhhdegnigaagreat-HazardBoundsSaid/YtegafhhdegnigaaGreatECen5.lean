/-
  The census: where an access or a shift may stand.
-/
import Derived.Test.YtegafhhdegnigaaGreatEVw
import Derived.Test.YtegafhhdegnigaaGreatERun
import Derived.Test.YtegafhhdegnigaaGreatEBndW3
set_option linter.all false
namespace Go.Proofs.YtegafhhdegnigaaGreat
open Go.RowKit Hp
set_option maxRecDepth 100000
attribute [local irreducible] Go.Calls
section
set_option maxHeartbeats 1000000
abbrev Cll.v (x:Cll):Value:=.agg (Cll.e x).toArray
def inB (x:Cll)(mv:Int):Bool:=decide (x.begin_<mv)&&(decide (x.end_<0)||decide (mv≤x.end_))
theorem cen_in (x:Cll)(mv:Int):ZB Tryz.prog 125 #[x.v,.int .i64 mv] emp (.bool (inB x mv)) emp:=by
 intro O w F hs
 obtain⟨c1,c2,c3,c4,c5,c6,c7,c8,c9⟩:=x
 by_cases h1:c5<mv
 ·have f1:decide (mv>c5)=true:=by simpa using h1
  have g1:decide (c5<mv)=true:=by simpa using h1
  clear h1
  by_cases h2:c6<0
  ·have f2:decide (c6<0)=true:=by simpa using h2
   clear h2
   go_enter Tryz.func125,Tryz.ntmps125
   go_wp2_with (first|((with_reducible apply Zc hs);exact Ii;rfl;(with_reducible exact Qh);rfl;rfl;(simp only[Uc,Uz]))|((with_reducible apply Zv hs);rfl;rfl;rfl;clear hs;intro w b hs;(simp only[Uc,Uz])))
   (go_ret)
   exact⟨by unfold inB;simp only[g1,f2];rfl,by ((with_reducible apply Sat.fin hs);(focus with_reducible (repeat first|exact Ql|exact Qn|apply Qb|apply Qk);done))⟩
  ·have f2:decide (c6<0)=false:=by simpa using h2
   clear h2
   go_enter Tryz.func125,Tryz.ntmps125
   go_wp2_with (first|((with_reducible apply Zc hs);exact Ii;rfl;(with_reducible exact Qh);rfl;rfl;(simp only[Uc,Uz]))|((with_reducible apply Zv hs);rfl;rfl;rfl;clear hs;intro w b hs;(simp only[Uc,Uz])))
   (go_ret)
   exact⟨by unfold inB;simp only[g1,f2];rfl,by ((with_reducible apply Sat.fin hs);(focus with_reducible (repeat first|exact Ql|exact Qn|apply Qb|apply Qk);done))⟩
 ·have f1:decide (mv>c5)=false:=by simpa using h1
  have g1:decide (c5<mv)=false:=by simpa using h1
  clear h1
  go_enter Tryz.func125,Tryz.ntmps125
  go_wp2_with (first|go_skip|(first|((with_reducible apply Zc hs);exact Ii;rfl;(with_reducible exact Qh);rfl;rfl;(simp only[Uc,Uz]))|((with_reducible apply Zv hs);rfl;rfl;rfl;clear hs;intro w b hs;(simp only[Uc,Uz]))))
  (go_ret)
  exact⟨by unfold inB;simp only[g1];rfl,by ((with_reducible apply Sat.fin hs);(focus with_reducible (repeat first|exact Ql|exact Qn|apply Qb|apply Qk);done))⟩
abbrev cslR (cs:List Cll)(v:Value):Zd:=sl 50 9 (cs.map Cll.e) v
theorem cen_begins (cs:List Cll)(v:Value)(mv:Int)(hl:cs.length<4294967296)(h:∀x∈cs,x.begin_≠mv) :
  ZB Tryz.prog 151 #[v,.int .i64 mv] (cslR cs v) (.bool false) (cslR cs v):=by
 intro O w F hs
 obtain⟨a0,cap0,rfl⟩:=Qr (hs.pull (A:=cslR cs v) (by (with_reducible exact Qh)))
 simp only[List.length_map]at hs ⊢
 have h:=Lh h
 go_enter Tryz.func151,Tryz.ntmps151
 go_wp2_with (fail)
 go_loopw [5] (fun q wr=>∃n:Nat,n≤cs.length∧q=.int .i64 (n:Int)∧Sat O wr (cslR cs (.slice a0 cs.length cap0)*F)) (fun q _=>cs.length+1-(intOf q).toNat)
 case atStart=>exact⟨0,by omega,rfl,by ((with_reducible apply Sat.fin hs);(with_reducible exact Ql))⟩
 case round=>
  obtain⟨n,k1,rfl,hs⟩:=hrel
  by_cases hkr:n=cs.length
  ·subst hkr
   have hlt:decide ((cs.length:Int)<(cs.length:Int))=false:=by simp
   go_wp2_with ((with_reducible apply Zp hs);exact Ii;rfl;(with_reducible exact Qh);rfl;(simp only[Uc,Uz]))
   (go_ret)
   exact⟨rfl,by ((with_reducible apply Sat.fin hs);(with_reducible exact Ql))⟩
  ·have hlt:decide ((n:Int)<(cs.length:Int))=true:=by simp;omega
   have hlt2:decide (n<cs.length)=true:=by simp;omega
   have hln:n<(cs.map Cll.e).length:=by simp;omega
   obtain⟨x,hx⟩:∃x,cs[n]? = some x:=⟨_,Yd (by omega)⟩
   have hne:=h.out x (Yc hx)
   obtain⟨c1,c2,c3,c4,c5,c6,c7,c8,c9⟩:=x
   have hne2:(c5==mv)=false:=by simpa using hne
   clear hne
   have hw:wrap64 ((n:Int)+1)=(n:Int)+1:=by unfold wrap64;omega
   have hgv:(cs.map Cll.e)[n]? = some (Cll.e ⟨c1,c2,c3,c4,c5,c6,c7,c8,c9⟩):=by rw[Ym,hx];rfl
   go_wp2_with (first|((with_reducible apply QI hs);exact Ii;rfl;assumption;(with_reducible exact Qh);rfl;(assumption);rfl;rfl;(simp only[Uc,Uz]))|((with_reducible apply ZN hs);exact Ii;exact Ii;rfl;rfl;(with_reducible exact Qh);(rfl);(assumption);rfl;intro b off hat;(simp only[Uc,Uz]))|((with_reducible apply Zp hs);exact Ii;rfl;(with_reducible exact Qh);rfl;(simp only[Uc,Uz])))
   go_roundw
   case rel=>exact⟨n+1,by omega,by simp,by ((with_reducible apply Sat.fin hs);(with_reducible exact Ql))⟩
   case measure=>simp[intOf];omega
def enderOf:List Cll→Int→Int
 | [],_ => -1
 | x::r,mv=>if x.end_=mv then x.thread else enderOf r mv
theorem enderOf_or:∀ {cs:List Cll} {th mv:Int},(∀x∈cs,x.end_=mv→x.thread=th)→enderOf cs mv = -1∨enderOf cs mv=th
 | [],_,_,_=>.inl rfl
 | x::r,th,mv,h=>by
  simp only[enderOf]
  split
  ·rename_i he;exact .inr (h x (List.mem_cons_self ..) he)
  ·exact enderOf_or (fun z hz=>h z (List.mem_cons_of_mem _ hz))
theorem cen_ender (cs:List Cll)(v:Value)(mv:Int)(hl:cs.length<4294967296) :
  ZB Tryz.prog 153 #[v,.int .i64 mv] (cslR cs v) (.int .i64 (enderOf cs mv)) (cslR cs v):=by
 intro O w F hs
 obtain⟨a0,cap0,rfl⟩:=Qr (hs.pull (A:=cslR cs v) (by (with_reducible exact Qh)))
 simp only[List.length_map]at hs ⊢
 go_enter Tryz.func153,Tryz.ntmps153
 go_wp2_with (fail)
 go_loopw [5] (fun q wr=>∃n:Nat,n≤cs.length∧q=.int .i64 (n:Int)∧enderOf (cs.drop n) mv=enderOf cs mv∧Sat O wr (cslR cs (.slice a0 cs.length cap0)*F)) (fun q _=>cs.length+1-(intOf q).toNat)
 case atStart=>exact⟨0,by omega,rfl,rfl,by ((with_reducible apply Sat.fin hs);(with_reducible exact Ql))⟩
 case round=>
  obtain⟨n,k1,rfl,hE,hs⟩:=hrel
  by_cases hkr:n=cs.length
  ·subst hkr
   have hlt:decide ((cs.length:Int)<(cs.length:Int))=false:=by simp
   rw[List.drop_length]at hE
   have hE:=Lh hE
   go_wp2_with ((with_reducible apply Zp hs);exact Ii;rfl;(with_reducible exact Qh);rfl;(simp only[Uc,Uz]))
   (go_ret)
   exact⟨by rw[←hE.out];rfl,by ((with_reducible apply Sat.fin hs);(with_reducible exact Ql))⟩
  ·have hlt:decide ((n:Int)<(cs.length:Int))=true:=by simp;omega
   have hlt2:decide (n<cs.length)=true:=by simp;omega
   have hln:n<(cs.map Cll.e).length:=by simp;omega
   obtain⟨x,hx⟩:∃x,cs[n]? = some x:=⟨_,Yd (by omega)⟩
   have hd:cs.drop n=x::cs.drop (n+1):=by
    obtain⟨h1,rfl⟩:=List.getElem?_eq_some_iff.1 hx
    exact List.drop_eq_getElem_cons h1
   rw[hd]at hE
   simp only[enderOf]at hE
   obtain⟨c1,c2,c3,c4,c5,c6,c7,c8,c9⟩:=x
   have hw:wrap64 ((n:Int)+1)=(n:Int)+1:=by unfold wrap64;omega
   have hgv:(cs.map Cll.e)[n]? = some (Cll.e ⟨c1,c2,c3,c4,c5,c6,c7,c8,c9⟩):=by rw[Ym,hx];rfl
   clear hd
   by_cases he:c6=mv
   ·have he2:(c6==mv)=true:=by simpa using he
    rw[if_pos he]at hE
    have hE:=Lh hE
    clear he
    go_wp2_with (first|((with_reducible apply QI hs);exact Ii;rfl;assumption;(with_reducible exact Qh);rfl;(assumption);rfl;rfl;(simp only[Uc,Uz]))|((with_reducible apply Zt hs);exact Ii;rfl;assumption;(with_reducible exact Qh);rfl;(assumption);rfl;rfl;(simp only[Uc,Uz]))|((with_reducible apply Z7 hs);exact Ii;exact Ii;rfl;assumption;rfl;(with_reducible exact Qh);(rfl);(assumption);rfl;(simp only[Uc,Uz]))|((with_reducible apply ZN hs);exact Ii;exact Ii;rfl;rfl;(with_reducible exact Qh);(rfl);(assumption);rfl;intro b off hat;(simp only[Uc,Uz]))|((with_reducible apply Zp hs);exact Ii;rfl;(with_reducible exact Qh);rfl;(simp only[Uc,Uz])))
    (go_ret)
    exact⟨by rw[←hE.out];rfl,by ((with_reducible apply Sat.fin hs);(with_reducible exact Ql))⟩
   ·have he2:(c6==mv)=false:=by simpa using he
    rw[if_neg he]at hE
    have hE:=Lh hE
    clear he
    go_wp2_with (first|((with_reducible apply QI hs);exact Ii;rfl;assumption;(with_reducible exact Qh);rfl;(assumption);rfl;rfl;(simp only[Uc,Uz]))|((with_reducible apply ZN hs);exact Ii;exact Ii;rfl;rfl;(with_reducible exact Qh);(rfl);(assumption);rfl;intro b off hat;(simp only[Uc,Uz]))|((with_reducible apply Zp hs);exact Ii;rfl;(with_reducible exact Qh);rfl;(simp only[Uc,Uz])))
    go_roundw
    case rel=>exact⟨n+1,by omega,by simp,hE.out,by ((with_reducible apply Sat.fin hs);(with_reducible exact Ql))⟩
    case measure=>simp[intOf];omega
theorem cen_whose (cs:List Cll)(v:Value)(th mv:Int)(hl:cs.length<4294967296)(h:∃x∈cs,x.thread=th∧x.begin_<mv∧(x.end_<0∨mv≤x.end_)) :
  Does Tryz.prog 152 #[v,.int .i64 th,.int .i64 mv] (cslR cs v) (fun u=>(ex fun i:Nat=>pu (u=.int .i64 (i:Int)))*cslR cs v):=by
 intro O w F hs
 obtain⟨a0,cap0,rfl⟩:=Qr (hs.pull (A:=cslR cs v) (by (with_reducible exact Qh)))
 simp only[List.length_map]at hs ⊢
 obtain⟨z,hz,hz1,hz2,hz3⟩:=h
 obtain⟨j,hj⟩:=List.getElem?_of_mem hz
 have hjl:=(List.getElem?_eq_some_iff.1 hj).1
 have hzi:inB z mv=true:=by
  simp only[inB,Bool.and_eq_true,Bool.or_eq_true,decide_eq_true_eq]
  exact⟨hz2,hz3⟩
 clear hz2 hz3 hz
 have hI:=Lh cen_in
 have hw0:wrap64 ((cs.length:Int)-1)=(cs.length:Int)-1:=by unfold wrap64;omega
 go_enter Tryz.func152,Tryz.ntmps152
 go_wp2_with ((with_reducible apply Zp hs);exact Ii;rfl;(with_reducible exact Qh);rfl;(simp only[Uc,Uz]))
 simp only[List.length_map]
 go_loopw [7] (fun q wr=>∃n:Nat,j≤n∧n<cs.length∧q=.int .i64 (n:Int)∧Sat O wr (cslR cs (.slice a0 cs.length cap0)*F)) (fun q _=>(intOf q).toNat)
 case atStart=>exact⟨cs.length-1,by omega,by omega,by congr 1;omega,by ((with_reducible apply Sat.fin hs);(with_reducible exact Ql))⟩
 case round=>
  obtain⟨n,k0,k1,rfl,hs⟩:=hrel
  have hge:decide ((n:Int)≥0)=true:=by simp
  have hlt2:decide (n<cs.length)=true:=by simpa using k1
  have hln:n<(cs.map Cll.e).length:=by simp;omega
  obtain⟨x,hx⟩:∃x,cs[n]? = some x:=⟨_,Yd (by omega)⟩
  have hjx:n=j→x=z:=by intro e;subst e;rw[hx]at hj;cases hj;rfl
  obtain⟨c1,c2,c3,c4,c5,c6,c7,c8,c9⟩:=x
  have hw:wrap64 ((n:Int)-1)=(n:Int)-1:=by unfold wrap64;omega
  have hgv:(cs.map Cll.e)[n]? = some (Cll.e ⟨c1,c2,c3,c4,c5,c6,c7,c8,c9⟩):=by rw[Ym,hx];rfl
  by_cases he:c1=th∧inB ⟨c1,c2,c3,c4,c5,c6,c7,c8,c9⟩ mv=true
  ·obtain⟨h1,h2⟩:=he
   have h1':(c1==th)=true:=by simpa using h1
   clear hjx hzi hz1 h1
   go_wp2_with (first|(first|((with_reducible apply Zt hs);exact Ii;rfl;assumption;(with_reducible exact Qh);rfl;(assumption);rfl;rfl;(simp only[Uc,Uz]))|((with_reducible apply Qu (k:=0) hs);exact Ii;rfl;assumption;(with_reducible exact Qh);(exact(Nat.add_zero _).symm);(assumption);(exact Vb rfl);rfl;rfl;(simp only[Uc,Uz]))|((with_reducible apply Z7 hs);exact Ii;exact Ii;rfl;assumption;rfl;(with_reducible exact Qh);(rfl);(assumption);rfl;(simp only[Uc,Uz]))|((with_reducible apply ZN hs);exact Ii;exact Ii;rfl;rfl;(with_reducible exact Qh);(rfl);(assumption);rfl;intro b off hat;(simp only[Uc,Uz])))|(go_at_call 125;((refine((hI.out ⟨c1,c2,c3,c4,c5,c6,c7,c8,c9⟩ mv)).at hs (by (focus((repeat(with_reducible exact Qn));done))) ?_);clear hs;intro w hs;(try simp only[Em,Ma]at hs))))
   (go_ret)
   refine⟨_,rfl,?_⟩
   simp only[ZM,Ma,ZH]
   exact⟨n,rfl,by ((with_reducible apply Sat.fin hs);(with_reducible exact Ql))⟩
  ·have hne:n≠j:=by
    intro e
    have:=hjx e
    subst this
    exact he ⟨hz1,hzi⟩
   clear hjx hzi hz1
   by_cases h1:c1=th
   ·have h1':(c1==th)=true:=by simpa using h1
    have h2:inB ⟨c1,c2,c3,c4,c5,c6,c7,c8,c9⟩ mv=false:=by
     cases hh:inB ⟨c1,c2,c3,c4,c5,c6,c7,c8,c9⟩ mv with
     | false=>rfl
     | true=>exact absurd ⟨h1,hh⟩ he
    clear he h1
    go_wp2_with (first|(first|((with_reducible apply Zt hs);exact Ii;rfl;assumption;(with_reducible exact Qh);rfl;(assumption);rfl;rfl;(simp only[Uc,Uz]))|((with_reducible apply Qu (k:=0) hs);exact Ii;rfl;assumption;(with_reducible exact Qh);(exact(Nat.add_zero _).symm);(assumption);(exact Vb rfl);rfl;rfl;(simp only[Uc,Uz]))|((with_reducible apply Z7 hs);exact Ii;exact Ii;rfl;assumption;rfl;(with_reducible exact Qh);(rfl);(assumption);rfl;(simp only[Uc,Uz]))|((with_reducible apply ZN hs);exact Ii;exact Ii;rfl;rfl;(with_reducible exact Qh);(rfl);(assumption);rfl;intro b off hat;(simp only[Uc,Uz])))|(go_at_call 125;((refine((hI.out ⟨c1,c2,c3,c4,c5,c6,c7,c8,c9⟩ mv)).at hs (by (focus((repeat(with_reducible exact Qn));done))) ?_);clear hs;intro w hs;(try simp only[Em,Ma]at hs))))
    go_roundw
    case rel=>exact⟨n-1,by omega,by omega,by congr 1;omega,by ((with_reducible apply Sat.fin hs);(with_reducible exact Ql))⟩
    case measure=>simp[intOf];omega
   ·have h1':(c1==th)=false:=by simpa using h1
    clear he h1
    go_wp2_with (first|((with_reducible apply Zt hs);exact Ii;rfl;assumption;(with_reducible exact Qh);rfl;(assumption);rfl;rfl;(simp only[Uc,Uz]))|((with_reducible apply ZN hs);exact Ii;exact Ii;rfl;rfl;(with_reducible exact Qh);(rfl);(assumption);rfl;intro b off hat;(simp only[Uc,Uz])))
    go_roundw
    case rel=>exact⟨n-1,by omega,by omega,by congr 1;omega,by ((with_reducible apply Sat.fin hs);(with_reducible exact Ql))⟩
    case measure=>simp[intOf];omega
theorem cen_place (cs:List Cll)(v:Value)(th mv:Int)(hl:cs.length<4294967296)(h:PlOk cs th mv) :
  ZB Tryz.prog 143 #[v,.int .i64 th,.int .i64 mv] (cslR cs v) (.bool true) (cslR cs v):=by
 intro O w F hs
 have h1:=Lh (cen_begins cs v mv hl h.beg)
 have h2:=Lh (cen_whose cs v th mv hl h.who)
 have h3:=Lh (cen_ender cs v mv hl)
 have h4:=enderOf_or h.ends
 generalize enderOf cs mv=z at h3 h4
 clear h
 rcases h4 with rfl|rfl
 ·go_enter Tryz.func143,Tryz.ntmps143
  go_wp2_with (first|(go_at_call 151;((refine(h1.out).at hs (by (with_reducible exact Qh)) ?_);clear hs;intro w hs;(try simp only[Em,Ma]at hs)))|(go_at_call 152;((refine(h2.out).at hs (by (with_reducible exact Qh)) ?_);clear hs;intro v w hs;(try simp only[Em,Ma]at hs));(simp only[ZM,Ma,ZH]at hs);(obtain⟨i,rfl,hs⟩:=hs);(have hi0:decide ((i:Int)<0)=false:=by simp))|(go_at_call 153;((refine(h3.out).at hs (by (with_reducible exact Qh)) ?_);clear hs;intro w hs;(try simp only[Em,Ma]at hs))))
  (go_ret)
  exact⟨rfl,by ((with_reducible apply Sat.fin hs);(with_reducible exact Ql))⟩
 ·by_cases hz:z<0
  ·have hz:decide (z<0)=true:=by simpa using hz
   go_enter Tryz.func143,Tryz.ntmps143
   go_wp2_with (first|(go_at_call 151;((refine(h1.out).at hs (by (with_reducible exact Qh)) ?_);clear hs;intro w hs;(try simp only[Em,Ma]at hs)))|(go_at_call 152;((refine(h2.out).at hs (by (with_reducible exact Qh)) ?_);clear hs;intro v w hs;(try simp only[Em,Ma]at hs));(simp only[ZM,Ma,ZH]at hs);(obtain⟨i,rfl,hs⟩:=hs);(have hi0:decide ((i:Int)<0)=false:=by simp))|(go_at_call 153;((refine(h3.out).at hs (by (with_reducible exact Qh)) ?_);clear hs;intro w hs;(try simp only[Em,Ma]at hs))))
   (go_ret)
   exact⟨rfl,by ((with_reducible apply Sat.fin hs);(with_reducible exact Ql))⟩
  ·have hz:decide (z<0)=false:=by simpa using hz
   have hz2:(z==z)=true:=by simp
   go_enter Tryz.func143,Tryz.ntmps143
   go_wp2_with (first|(go_at_call 151;((refine(h1.out).at hs (by (with_reducible exact Qh)) ?_);clear hs;intro w hs;(try simp only[Em,Ma]at hs)))|(go_at_call 152;((refine(h2.out).at hs (by (with_reducible exact Qh)) ?_);clear hs;intro v w hs;(try simp only[Em,Ma]at hs));(simp only[ZM,Ma,ZH]at hs);(obtain⟨i,rfl,hs⟩:=hs);(have hi0:decide ((i:Int)<0)=false:=by simp))|(go_at_call 153;((refine(h3.out).at hs (by (with_reducible exact Qh)) ?_);clear hs;intro w hs;(try simp only[Em,Ma]at hs))))
   (go_ret)
   exact⟨rfl,by ((with_reducible apply Sat.fin hs);(with_reducible exact Ql))⟩
end
section
set_option maxHeartbeats 1000000
structure RunLen (cs:List Cll)(lg:List Acc)(sh:List Shf)(ws:List Int):Prop where
 l1:cs.length<100000000
 l2:lg.length<100000000
 l3:sh.length<100000000
 l4:ws.length<100000000
theorem runR_mk {O w:World}{F:Zd}{cs:List Cll}{lg:List Acc}{sh:List Shf}{ws:List Int}{vc vt vs vw:Value}
  (hs:Sat O w (sl 50 9 (cs.map Cll.e) vc*(sl 138 7 (lg.map Acc.e) vt*(sl 127 5 (sh.map Shf.e) vs*(sl 57 1 (ws.map eU) vw*F))))):Sat O w (RunR cs lg sh ws (.agg #[vc,vt,vs,vw])*F):=by
 unfold RunR
 simp only[ZM,Ma,ZH]
 exact⟨_,_,_,_,rfl,hs⟩
theorem Jj {O w:World}{F:Zd}{cs:List Cll}{lg:List Acc}{sh:List Shf}{ws:List Int}{v:Value}(hs:Sat O w (RunR cs lg sh ws v*F)) :
  ∃a1 k1 a2 k2 a3 k3 a4 k4,v=.agg #[.slice a1 cs.length k1,.slice a2 lg.length k2,.slice a3 sh.length k3,.slice a4 ws.length k4] ∧
   Sat O w (sl 50 9 (cs.map Cll.e) (.slice a1 cs.length k1)*(sl 138 7 (lg.map Acc.e) (.slice a2 lg.length k2)*(sl 127 5 (sh.map Shf.e) (.slice a3 sh.length k3)*(sl 57 1 (ws.map eU) (.slice a4 ws.length k4)*F)))):=by
 unfold RunR at hs
 simp only[ZM,Ma,ZH]at hs
 obtain⟨vc,vt,vs,vw,rfl,hs⟩:=hs
 obtain⟨_,_,rfl⟩:=Qr (hs.pull (A:=sl 50 9 _ vc) (by (with_reducible exact Qh)))
 obtain⟨_,_,rfl⟩:=Qr (hs.pull (A:=sl 138 7 _ vt) (by (with_reducible repeat first|exact Qh|apply Qk)))
 obtain⟨_,_,rfl⟩:=Qr (hs.pull (A:=sl 127 5 _ vs) (by (with_reducible repeat first|exact Qh|apply Qk)))
 obtain⟨_,_,rfl⟩:=Qr (hs.pull (A:=sl 57 1 _ vw) (by (with_reducible repeat first|exact Qh|apply Qk)))
 simp only[List.length_map]at hs ⊢
 exact⟨_,_,_,_,_,_,_,_,rfl,hs⟩
end
section
set_option maxHeartbeats 8000000
abbrev stR (l:List Int)(v:Value):Zd:=sl 125 1 (l.map eI) v
abbrev hoR (l:List Int)(v:Value):Zd:=sl 3 1 (l.map eI) v
abbrev Shf.v (x:Shf):Value:=.agg (Shf.e x).toArray
theorem cen_begin (c:Cfg)(hok:c.Ok):Does Tryz.prog 82 #[c.v,.int .i64 0] emp (fun u=>ex fun v1=>ex fun v2=>pu (u=.tuple #[v1,v2])*(stR (List.replicate c.Sl.toNat 0) v1*hoR (List.replicate c.Sl.toNat (-1)) v2)):=by
 intro O w F hs
 have hS1:=hok.S1
 have hS2:=hok.S2
 obtain⟨S0,hS0⟩:∃S0:Nat,c.Sl=(S0:Int):=⟨c.Sl.toNat,by omega⟩
 have hSn:c.Sl.toNat=S0:=by omega
 rw[hSn]
 obtain⟨c1,c2,c3,c4,c5,c6,c7⟩:=c
 simp only[]at hS0 hS1 hS2
 subst hS0
 have hSl:S0≤1024:=by omega
 clear hok hSn hS1 hS2
 have hs:=sl_nil (E:=125) (sz:=1) hs (by omega)
 have hs:=sl_nil (E:=3) (sz:=1) hs (by omega)
 go_enter Tryz.func82,Tryz.ntmps82
 (repeat'(first|(go_big_may;((with_reducible apply Zv hs);rfl;rfl;rfl;clear hs;intro w b hs;(simp only[Uc,Uz])))|go_step))
 obtain⟨bC,hbC⟩:∃x,x=b:=⟨_,rfl⟩
 subst hbC
 go_loopw [6,7,8] (fun v1 v2 q wr=>∃n:Nat,n≤S0∧q=.int .i64 (n:Int)∧Sat O wr (stR (List.replicate n 0) v1*(hoR (List.replicate n (-1)) v2*(pt bC (.cells #[.int .i64 c1,.int .i64 c2,.int .i64 c3,.int .i64 c4,.int .i64 c5,.int .i64 (S0:Int),.int .i64 c7] 23)*F)))) (fun _ _ q _=>S0+1-(intOf q).toNat)
 case atStart=>exact⟨0,by omega,rfl,by simp only[List.replicate_zero,Yj];((with_reducible apply Sat.fin hs);(focus((repeat(first|with_reducible exact Ql|with_reducible exact Qh|with_reducible apply Qb|exact Qh|with_reducible apply Qk));done)))⟩
 case round=>
  obtain⟨n,kn,rfl,hs⟩:=hrel
  have hnl:(List.replicate n (0:Int)).length<4294967296:=by simp;omega
  have hnl2:(List.replicate n (-1:Int)).length<4294967296:=by simp;omega
  by_cases hkr:n=S0
  ·have hkr:=hkr.symm
   subst hkr
   have hlt:decide ((S0:Int)<(S0:Int))=false:=by simp
   (repeat'(first|(go_big_may;((with_reducible apply Zc hs);exact Ii;rfl;(with_reducible repeat first|exact Qh|apply Qk);rfl;rfl;(simp only[Uc,Uz])))|go_step))
   (go_ret2)
   refine⟨_,rfl,?_⟩
   simp only[ZM,Ma,ZH]
   exact⟨_,_,rfl,by ((with_reducible apply Sat.fin hs);(focus((repeat(first|with_reducible exact Ql|with_reducible apply Qb|exact Qh|with_reducible apply Qk));done)))⟩
  ·have hlt:decide ((n:Int)<(S0:Int))=true:=by simp;omega
   have hlt2:decide (n<S0)=true:=by simp;omega
   have hn0:decide ((n:Int)<0)=false:=by simp
   have hnL:=Lh (show n<S0 by omega)
   have e1:Hid (List.replicate (n+1) (0:Int)=List.replicate n 0++[0]):=Lh List.replicate_succ'
   have e2:Hid (List.replicate (n+1) (-1:Int)=List.replicate n (-1)++[-1]):=Lh List.replicate_succ'
   clear hkr
   generalize List.replicate n (0:Int)=l1 at *
   generalize List.replicate n (-1:Int)=l2 at *
   (repeat'(first|(go_big_may;(first|((with_reducible apply Zc hs);exact Ii;rfl;(with_reducible repeat first|exact Qh|apply Qk);rfl;rfl;(simp only[Uc,Uz]))|((with_reducible apply wl_bs hs);exact Ii;exact Ii;rfl;rfl;rfl;rfl;(exact Vb rfl);rfl;clear hs;intro w v hs;(simp only[Uc,Uz]))|((with_reducible apply Jd hs);exact Ii;exact Ii;rfl;rfl;(focus with_reducible (repeat first|exact Qh|apply Qk);done);(with_reducible exact Qh);(simp only[Wm,Ws,Wa,Wc,Wn,Wr]at *;omega);(exact Vb rfl);rfl;clear hs;intro w v hs;(simp only[Uc,Uz]))))|go_step))
   go_roundw
   case rel=>exact⟨n+1,(by have:=hnL.out;omega),by simp,by rw[e1.out,e2.out];simp only[stR,hoR];((try simp only[Yh,Yi,Yj,Yk,Yl]);(try simp only[Yh,Yi,Yj,Yk,Yl]at hs);((with_reducible apply Sat.fin hs);(with_reducible repeat first|exact Ql|exact Qh|apply Qb|apply Qk)))⟩
   case measure=>have:=hnL.out;simp[intOf];omega
def putS (l:List Int)(x:Shf):List Int:=l.set x.slot.toNat x.to
def putH (l:List Int)(x:Shf):List Int:=l.set x.slot.toNat (if x.to=0∨x.to=3 then -1 else x.thread)
theorem cen_put (l1 l2:List Int)(x:Shf)(v1 v2:Value)(i:Nat)(hi:x.slot=(i:Int))(h1:i<l1.length)(h2:i<l2.length)(hl1:l1.length<4294967296)(hl2:l2.length<4294967296) :
  ZB Tryz.prog 81 #[v1,v2,x.v] (stR l1 v1*hoR l2 v2) (.tuple #[]) (stR (putS l1 x) v1*hoR (putH l2 x) v2):=by
 intro O w F hs
 simp only[Ma]at hs
 obtain⟨a1,k1,rfl⟩:=Qr (hs.pull (A:=stR l1 v1) (by (with_reducible exact Qh)))
 obtain⟨a2,k2,rfl⟩:=Qr (hs.pull (A:=hoR l2 v2) (by (with_reducible repeat first|exact Qh|apply Qk)))
 simp only[List.length_map]at hs ⊢
 obtain⟨x1,x2,x3,x4,x5⟩:=x
 simp only[]at hi
 subst hi
 obtain⟨y1,hy1⟩:∃y,l1[i]? = some y:=⟨_,Yd h1⟩
 obtain⟨y2,hy2⟩:∃y,l2[i]? = some y:=⟨_,Yd h2⟩
 have g1:(l1.map eI)[i]? = some (eI y1):=by rw[Ym,hy1];rfl
 have g2:(l2.map eI)[i]? = some (eI y2):=by rw[Ym,hy2];rfl
 have g3:((l2.map eI).set i (eI x2))[i]? = some (eI x2):=by rw[Ye (by simpa using h2)]
 have b1:i<(l1.map eI).length:=by simpa using h1
 have b2:i<(l2.map eI).length:=by simpa using h2
 have b3:i<((l2.map eI).set i (eI x2)).length:=by simpa using h2
 have d1:decide (i<l1.length)=true:=by simpa using h1
 have d2:decide (i<l2.length)=true:=by simpa using h2
 have hin:((i:Nat):Int).toNat=i:=Yo i
 clear hy1 hy2
 by_cases e0:x5=0
 ·subst e0
  have eH:putH l2 ⟨x1,x2,(i:Int),x4,0⟩=(l2.set i x2).set i (-1):=by simp[putH,Yl]
  have eS:putS l1 ⟨x1,x2,(i:Int),x4,0⟩=l1.set i 0:=by simp[putS]
  rw[eH,eS]
  clear eH eS
  go_enter Tryz.func81,Tryz.ntmps81
  (repeat'(first|(((with_reducible apply Z6);rfl;rfl;((simp only[ev,Ue,Uf]);rfl);rfl;(simp only[Uc,Uz]));(repeat((with_reducible apply Z6);rfl;rfl;((simp only[ev,Ue,Uf]);rfl);rfl;(simp only[Uc,Uz]))))|((with_reducible apply Z4);((simp only[ev,Ue,Uf]);rfl);((simp only[cond_true,cond_false,ev,Ue,Uf]);rfl);(with_reducible exact ZG);(simp only[Uc,Uz]))|(go_big_may;(first|((with_reducible apply Zc hs);exact Ii;rfl;(with_reducible repeat first|exact Qh|apply Qk);rfl;rfl;(simp only[Uc,Uz]))|((with_reducible apply Zv hs);rfl;rfl;rfl;clear hs;intro w b hs;(simp only[Uc,Uz]))|((with_reducible apply Qe hs);exact Ii;rfl;rfl;assumption;(with_reducible repeat first|exact Qh|apply Qk);rfl;(assumption);(exact Vb rfl);(rfl);rfl;clear hs;intro w hs)|((with_reducible apply Z7 hs);exact Ii;exact Ii;rfl;assumption;rfl;(with_reducible exact Qh);(rfl);(assumption);rfl;(simp only[Uc,Uz]))|((with_reducible apply ZN hs);exact Ii;exact Ii;rfl;rfl;(with_reducible repeat first|exact Qh|apply Qk);(rfl);(assumption);rfl;intro b off hat;(simp only[Uc,Uz]))))|go_step))
  (go_end0)
  exact⟨rfl,by simp only[stR,hoR,Ma];((try simp only[Yh,Yi,Yj,Yk,Yl]);(try simp only[Yh,Yi,Yj,Yk,Yl]at hs);((with_reducible apply Sat.fin hs);(focus((repeat(first|with_reducible exact Ql|with_reducible apply Qb|exact Qh|with_reducible apply Qk));done))))⟩
 ·by_cases e3:x5=3
  ·subst e3
   have eH:putH l2 ⟨x1,x2,(i:Int),x4,3⟩=(l2.set i x2).set i (-1):=by simp[putH,Yl]
   have eS:putS l1 ⟨x1,x2,(i:Int),x4,3⟩=l1.set i 3:=by simp[putS]
   rw[eH,eS]
   clear eH eS e0
   go_enter Tryz.func81,Tryz.ntmps81
   (repeat'(first|((with_reducible apply Z4);((simp only[ev,Ue,Uf]);rfl);((simp only[cond_true,cond_false,ev,Ue,Uf]);rfl);(with_reducible exact ZG);(simp only[Uc,Uz]))|(go_big_may;(first|((with_reducible apply Zc hs);exact Ii;rfl;(with_reducible repeat first|exact Qh|apply Qk);rfl;rfl;(simp only[Uc,Uz]))|((with_reducible apply Zv hs);rfl;rfl;rfl;clear hs;intro w b hs;(simp only[Uc,Uz]))|((with_reducible apply Qe hs);exact Ii;rfl;rfl;assumption;(with_reducible repeat first|exact Qh|apply Qk);rfl;(assumption);(exact Vb rfl);(rfl);rfl;clear hs;intro w hs)|((with_reducible apply Z7 hs);exact Ii;exact Ii;rfl;assumption;rfl;(with_reducible exact Qh);(rfl);(assumption);rfl;(simp only[Uc,Uz]))|((with_reducible apply ZN hs);exact Ii;exact Ii;rfl;rfl;(with_reducible repeat first|exact Qh|apply Qk);(rfl);(assumption);rfl;intro b off hat;(simp only[Uc,Uz]))))|go_guarded|go_step))
   (go_end0)
   exact⟨rfl,by simp only[stR,hoR,Ma];((try simp only[Yh,Yi,Yj,Yk,Yl]);(try simp only[Yh,Yi,Yj,Yk,Yl]at hs);((with_reducible apply Sat.fin hs);(focus((repeat(first|with_reducible exact Ql|with_reducible apply Qb|exact Qh|with_reducible apply Qk));done))))⟩
  ·have f0:(x5==0)=false:=by simpa using e0
   have f3:(x5==3)=false:=by simpa using e3
   have eH:putH l2 ⟨x1,x2,(i:Int),x4,x5⟩=l2.set i x2:=by simp[putH,e0,e3]
   have eS:putS l1 ⟨x1,x2,(i:Int),x4,x5⟩=l1.set i x5:=by simp[putS]
   rw[eH,eS]
   clear eH eS e0 e3
   go_enter Tryz.func81,Tryz.ntmps81
   (repeat'(first|((with_reducible apply Z4);((simp only[ev,Ue,Uf]);rfl);((simp only[cond_true,cond_false,ev,Ue,Uf]);rfl);(with_reducible exact ZG);(simp only[Uc,Uz]))|(go_big_may;(first|((with_reducible apply Zc hs);exact Ii;rfl;(with_reducible repeat first|exact Qh|apply Qk);rfl;rfl;(simp only[Uc,Uz]))|((with_reducible apply Zv hs);rfl;rfl;rfl;clear hs;intro w b hs;(simp only[Uc,Uz]))|((with_reducible apply Qe hs);exact Ii;rfl;rfl;assumption;(with_reducible repeat first|exact Qh|apply Qk);rfl;(assumption);(exact Vb rfl);(rfl);rfl;clear hs;intro w hs)|((with_reducible apply ZN hs);exact Ii;exact Ii;rfl;rfl;(with_reducible repeat first|exact Qh|apply Qk);(rfl);(assumption);rfl;intro b off hat;(simp only[Uc,Uz]))))|go_guarded|go_step))
   (go_end0)
   exact⟨rfl,by simp only[stR,hoR,Ma];((try simp only[Yh,Yi,Yj,Yk,Yl]);(try simp only[Yh,Yi,Yj,Yk,Yl]at hs);((with_reducible apply Sat.fin hs);(focus((repeat(first|with_reducible exact Ql|with_reducible apply Qb|exact Qh|with_reducible apply Qk));done))))⟩
end
end Go.Proofs.YtegafhhdegnigaaGreat
