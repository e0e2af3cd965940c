import Derived.Test.YtefjbdajgakgpaaGreatBGHis
import Derived.Test.YtefjbdajgakgpaaGreatBQueW
set_option linter.all false
namespace Go.Proofs.YtefjbdajgakgpaaGreat
open Go.RowKit Hp
set_option maxRecDepth 100000
attribute [local irreducible] Go.Calls
section
set_option maxHeartbeats 1000000
abbrev Cll.v (x:Cll):Value:=.agg (Cll.e x).toArray
def inB (x:Cll)(mv:Int):Bool:=decide (x.begin_<mv)&&(decide (x.end_<0)||decide (mv≤x.end_))
theorem cen_in (x:Cll)(mv:Int):Zj Tryz.prog 81 #[x.v,.int .i64 mv] emp (.bool (inB x mv)) emp:=by
 intro O w F hs
 obtain⟨c1,c2,c3,c4,c5,c6,c7,c8,c9⟩:=x
 by_cases h1:c5<mv
 ·have f1:decide (mv>c5)=true:=by simpa using h1
  have g1:decide (c5<mv)=true:=by simpa using h1
  clear h1
  by_cases h2:c6<0
  ·have f2:decide (c6<0)=true:=by simpa using h2
   clear h2
   go_enter Tryz.func81,Tryz.ntmps81
   go_wp2_with (first|((with_reducible apply Za hs);exact Ii;rfl;(with_reducible exact Qh);rfl;rfl;simp only[Uc,Uz])|((with_reducible apply Zq hs);rfl;rfl;rfl;clear hs;intro w b hs;simp only[Uc,Uz]))
   go_ret
   exact⟨by unfold inB;simp only[g1,f2];rfl,by ((with_reducible apply Sat.fin hs);(focus with_reducible (repeat first|exact Ql|exact Qn|apply Qb|apply Qk);done))⟩
  ·have f2:decide (c6<0)=false:=by simpa using h2
   clear h2
   go_enter Tryz.func81,Tryz.ntmps81
   go_wp2_with (first|((with_reducible apply Za hs);exact Ii;rfl;(with_reducible exact Qh);rfl;rfl;simp only[Uc,Uz])|((with_reducible apply Zq hs);rfl;rfl;rfl;clear hs;intro w b hs;simp only[Uc,Uz]))
   go_ret
   exact⟨by unfold inB;simp only[g1,f2];rfl,by ((with_reducible apply Sat.fin hs);(focus with_reducible (repeat first|exact Ql|exact Qn|apply Qb|apply Qk);done))⟩
 ·have f1:decide (mv>c5)=false:=by simpa using h1
  have g1:decide (c5<mv)=false:=by simpa using h1
  clear h1
  go_enter Tryz.func81,Tryz.ntmps81
  go_wp2_with (first|go_skip|(first|((with_reducible apply Za hs);exact Ii;rfl;(with_reducible exact Qh);rfl;rfl;simp only[Uc,Uz])|((with_reducible apply Zq hs);rfl;rfl;rfl;clear hs;intro w b hs;simp only[Uc,Uz])))
  go_ret
  exact⟨by unfold inB;simp only[g1];rfl,by ((with_reducible apply Sat.fin hs);(focus with_reducible (repeat first|exact Ql|exact Qn|apply Qb|apply Qk);done))⟩
abbrev cslR (cs:List Cll)(v:Value):Zb:=sl 59 9 (cs.map Cll.e) v
theorem cen_begins (cs:List Cll)(v:Value)(mv:Int)(hl:cs.length<4294967296)(h:∀x∈cs,x.begin_≠mv) :
  Zj Tryz.prog 109 #[v,.int .i64 mv] (cslR cs v) (.bool false) (cslR cs v):=by
 intro O w F hs
 obtain⟨a0,cap0,rfl⟩:=ZY (hs.pull (A:=cslR cs v) (by (with_reducible exact Qh)))
 simp only[List.length_map]at hs ⊢
 have h:=Lh h
 go_enter Tryz.func109,Tryz.ntmps109
 go_wp2_with (fail)
 go_loopw [5] (fun q wr=>∃n:Nat,n≤cs.length∧q=.int .i64 (n:Int)∧Sat O wr (cslR cs (.slice a0 cs.length cap0)*F)) (fun q _=>cs.length+1-(intOf q).toNat)
 case atStart=>exact⟨0,by omega,rfl,by ((with_reducible apply Sat.fin hs);(with_reducible exact Ql))⟩
 case round=>
  obtain⟨n,k1,rfl,hs⟩:=hrel
  by_cases hkr:n=cs.length
  ·subst hkr
   have hlt:decide ((cs.length:Int)<(cs.length:Int))=false:=by simp
   go_wp2_with ((with_reducible apply Zp hs);exact Ii;rfl;(with_reducible exact Qh);rfl;simp only[Uc,Uz])
   go_ret
   exact⟨rfl,by ((with_reducible apply Sat.fin hs);(with_reducible exact Ql))⟩
  ·have hlt:decide ((n:Int)<(cs.length:Int))=true:=by simp;omega
   have hlt2:decide (n<cs.length)=true:=by simp;omega
   have hln:n<(cs.map Cll.e).length:=by simp;omega
   obtain⟨x,hx⟩:∃x,cs[n]? = some x:=⟨_,Yd (by omega)⟩
   have hne:=h.out x (Yc hx)
   obtain⟨c1,c2,c3,c4,c5,c6,c7,c8,c9⟩:=x
   have hne2:(c5==mv)=false:=by simpa using hne
   clear hne
   have hw:wrap64 ((n:Int)+1)=(n:Int)+1:=by unfold wrap64;omega
   have hgv:(cs.map Cll.e)[n]? = some (Cll.e ⟨c1,c2,c3,c4,c5,c6,c7,c8,c9⟩):=by rw[Ym,hx];rfl
   go_wp2_with (first|((with_reducible apply QU hs);exact Ii;rfl;assumption;(with_reducible exact Qh);rfl;(assumption);rfl;rfl;simp only[Uc,Uz])|((with_reducible apply ZA hs);exact Ii;exact Ii;rfl;rfl;(with_reducible exact Qh);rfl;(assumption);rfl;intro b off hat;simp only[Uc,Uz])|((with_reducible apply Zp hs);exact Ii;rfl;(with_reducible exact Qh);rfl;simp only[Uc,Uz]))
   go_roundw
   case rel=>exact⟨n+1,by omega,by simp,by ((with_reducible apply Sat.fin hs);(with_reducible exact Ql))⟩
   case measure=>simp[intOf];omega
def enderOf:List Cll→Int→Int
 | [],_ => -1
 | x::r,mv=>if x.end_=mv then x.thread else enderOf r mv
theorem enderOf_or:∀ {cs:List Cll} {th mv:Int},(∀x∈cs,x.end_=mv→x.thread=th)→enderOf cs mv = -1∨enderOf cs mv=th
 | [],_,_,_=>.inl rfl
 | x::r,th,mv,h=>by
  simp only[enderOf]
  split
  ·rename_i he;exact .inr (h x (List.mem_cons_self ..) he)
  ·exact enderOf_or (fun z hz=>h z (List.mem_cons_of_mem _ hz))
theorem cen_ender (cs:List Cll)(v:Value)(mv:Int)(hl:cs.length<4294967296) :
  Zj Tryz.prog 111 #[v,.int .i64 mv] (cslR cs v) (.int .i64 (enderOf cs mv)) (cslR cs v):=by
 intro O w F hs
 obtain⟨a0,cap0,rfl⟩:=ZY (hs.pull (A:=cslR cs v) (by (with_reducible exact Qh)))
 simp only[List.length_map]at hs ⊢
 go_enter Tryz.func111,Tryz.ntmps111
 go_wp2_with (fail)
 go_loopw [5] (fun q wr=>∃n:Nat,n≤cs.length∧q=.int .i64 (n:Int)∧enderOf (cs.drop n) mv=enderOf cs mv∧Sat O wr (cslR cs (.slice a0 cs.length cap0)*F)) (fun q _=>cs.length+1-(intOf q).toNat)
 case atStart=>exact⟨0,by omega,rfl,rfl,by ((with_reducible apply Sat.fin hs);(with_reducible exact Ql))⟩
 case round=>
  obtain⟨n,k1,rfl,hE,hs⟩:=hrel
  by_cases hkr:n=cs.length
  ·subst hkr
   have hlt:decide ((cs.length:Int)<(cs.length:Int))=false:=by simp
   rw[List.drop_length]at hE
   have hE:=Lh hE
   go_wp2_with ((with_reducible apply Zp hs);exact Ii;rfl;(with_reducible exact Qh);rfl;simp only[Uc,Uz])
   go_ret
   exact⟨by rw[←hE.out];rfl,by ((with_reducible apply Sat.fin hs);(with_reducible exact Ql))⟩
  ·have hlt:decide ((n:Int)<(cs.length:Int))=true:=by simp;omega
   have hlt2:decide (n<cs.length)=true:=by simp;omega
   have hln:n<(cs.map Cll.e).length:=by simp;omega
   obtain⟨x,hx⟩:∃x,cs[n]? = some x:=⟨_,Yd (by omega)⟩
   have hd:cs.drop n=x::cs.drop (n+1):=by
    obtain⟨h1,rfl⟩:=List.getElem?_eq_some_iff.1 hx
    exact List.drop_eq_getElem_cons h1
   rw[hd]at hE
   simp only[enderOf]at hE
   obtain⟨c1,c2,c3,c4,c5,c6,c7,c8,c9⟩:=x
   have hw:wrap64 ((n:Int)+1)=(n:Int)+1:=by unfold wrap64;omega
   have hgv:(cs.map Cll.e)[n]? = some (Cll.e ⟨c1,c2,c3,c4,c5,c6,c7,c8,c9⟩):=by rw[Ym,hx];rfl
   clear hd
   by_cases he:c6=mv
   ·have he2:(c6==mv)=true:=by simpa using he
    rw[if_pos he]at hE
    have hE:=Lh hE
    clear he
    go_wp2_with (first|((with_reducible apply QU hs);exact Ii;rfl;assumption;(with_reducible exact Qh);rfl;(assumption);rfl;rfl;simp only[Uc,Uz])|((with_reducible apply Zk hs);exact Ii;rfl;assumption;(with_reducible exact Qh);rfl;(assumption);rfl;rfl;simp only[Uc,Uz])|((with_reducible apply ZJ hs);exact Ii;exact Ii;rfl;assumption;rfl;(with_reducible exact Qh);rfl;(assumption);rfl;simp only[Uc,Uz])|((with_reducible apply ZA hs);exact Ii;exact Ii;rfl;rfl;(with_reducible exact Qh);rfl;(assumption);rfl;intro b off hat;simp only[Uc,Uz])|((with_reducible apply Zp hs);exact Ii;rfl;(with_reducible exact Qh);rfl;simp only[Uc,Uz]))
    go_ret
    exact⟨by rw[←hE.out];rfl,by ((with_reducible apply Sat.fin hs);(with_reducible exact Ql))⟩
   ·have he2:(c6==mv)=false:=by simpa using he
    rw[if_neg he]at hE
    have hE:=Lh hE
    clear he
    go_wp2_with (first|((with_reducible apply QU hs);exact Ii;rfl;assumption;(with_reducible exact Qh);rfl;(assumption);rfl;rfl;simp only[Uc,Uz])|((with_reducible apply ZA hs);exact Ii;exact Ii;rfl;rfl;(with_reducible exact Qh);rfl;(assumption);rfl;intro b off hat;simp only[Uc,Uz])|((with_reducible apply Zp hs);exact Ii;rfl;(with_reducible exact Qh);rfl;simp only[Uc,Uz]))
    go_roundw
    case rel=>exact⟨n+1,by omega,by simp,hE.out,by ((with_reducible apply Sat.fin hs);(with_reducible exact Ql))⟩
    case measure=>simp[intOf];omega
theorem cen_whose (cs:List Cll)(v:Value)(th mv:Int)(hl:cs.length<4294967296)(h:∃x∈cs,x.thread=th∧x.begin_<mv∧(x.end_<0∨mv≤x.end_)) :
  Does Tryz.prog 110 #[v,.int .i64 th,.int .i64 mv] (cslR cs v) (fun u=>(ex fun i:Nat=>pu (u=.int .i64 (i:Int)))*cslR cs v):=by
 intro O w F hs
 obtain⟨a0,cap0,rfl⟩:=ZY (hs.pull (A:=cslR cs v) (by (with_reducible exact Qh)))
 simp only[List.length_map]at hs ⊢
 obtain⟨z,hz,hz1,hz2,hz3⟩:=h
 obtain⟨j,hj⟩:=List.getElem?_of_mem hz
 have hjl:=(List.getElem?_eq_some_iff.1 hj).1
 have hzi:inB z mv=true:=by
  simp only[inB,Bool.and_eq_true,Bool.or_eq_true,decide_eq_true_eq]
  exact⟨hz2,hz3⟩
 clear hz2 hz3 hz
 have hI:=Lh cen_in
 have hw0:wrap64 ((cs.length:Int)-1)=(cs.length:Int)-1:=by unfold wrap64;omega
 go_enter Tryz.func110,Tryz.ntmps110
 go_wp2_with ((with_reducible apply Zp hs);exact Ii;rfl;(with_reducible exact Qh);rfl;simp only[Uc,Uz])
 simp only[List.length_map]
 go_loopw [7] (fun q wr=>∃n:Nat,j≤n∧n<cs.length∧q=.int .i64 (n:Int)∧Sat O wr (cslR cs (.slice a0 cs.length cap0)*F)) (fun q _=>(intOf q).toNat)
 case atStart=>exact⟨cs.length-1,by omega,by omega,by congr 1;omega,by ((with_reducible apply Sat.fin hs);(with_reducible exact Ql))⟩
 case round=>
  obtain⟨n,k0,k1,rfl,hs⟩:=hrel
  have hge:decide ((n:Int)≥0)=true:=by simp
  have hlt2:decide (n<cs.length)=true:=by simpa using k1
  have hln:n<(cs.map Cll.e).length:=by simp;omega
  obtain⟨x,hx⟩:∃x,cs[n]? = some x:=⟨_,Yd (by omega)⟩
  have hjx:n=j→x=z:=by intro e;subst e;rw[hx]at hj;cases hj;rfl
  obtain⟨c1,c2,c3,c4,c5,c6,c7,c8,c9⟩:=x
  have hw:wrap64 ((n:Int)-1)=(n:Int)-1:=by unfold wrap64;omega
  have hgv:(cs.map Cll.e)[n]? = some (Cll.e ⟨c1,c2,c3,c4,c5,c6,c7,c8,c9⟩):=by rw[Ym,hx];rfl
  by_cases he:c1=th∧inB ⟨c1,c2,c3,c4,c5,c6,c7,c8,c9⟩ mv=true
  ·obtain⟨h1,h2⟩:=he
   have h1':(c1==th)=true:=by simpa using h1
   clear hjx hzi hz1 h1
   go_wp2_with (first|((with_reducible apply Zk hs);exact Ii;rfl;assumption;(with_reducible exact Qh);rfl;(assumption);rfl;rfl;simp only[Uc,Uz])|((with_reducible apply Qj (k:=0) hs);exact Ii;rfl;assumption;(with_reducible exact Qh);(exact(Nat.add_zero _).symm);(assumption);exact Vb rfl;rfl;rfl;simp only[Uc,Uz])|((with_reducible apply ZJ hs);exact Ii;exact Ii;rfl;assumption;rfl;(with_reducible exact Qh);rfl;(assumption);rfl;simp only[Uc,Uz])|((with_reducible apply ZA hs);exact Ii;exact Ii;rfl;rfl;(with_reducible exact Qh);rfl;(assumption);rfl;intro b off hat;simp only[Uc,Uz])|(go_at_call 81;((refine((hI.out ⟨c1,c2,c3,c4,c5,c6,c7,c8,c9⟩ mv)).at hs (by (focus((repeat(with_reducible exact Qn));done))) ?_);clear hs;intro w hs;(try simp only[Em,Ma]at hs))))
   go_ret
   refine⟨_,rfl,?_⟩
   simp only[ZB,Ma,Zw]
   exact⟨n,rfl,by ((with_reducible apply Sat.fin hs);(with_reducible exact Ql))⟩
  ·have hne:n≠j:=by
    intro e
    have:=hjx e
    subst this
    exact he ⟨hz1,hzi⟩
   clear hjx hzi hz1
   by_cases h1:c1=th
   ·have h1':(c1==th)=true:=by simpa using h1
    have h2:inB ⟨c1,c2,c3,c4,c5,c6,c7,c8,c9⟩ mv=false:=by
     cases hh:inB ⟨c1,c2,c3,c4,c5,c6,c7,c8,c9⟩ mv with
     | false=>rfl
     | true=>exact absurd ⟨h1,hh⟩ he
    clear he h1
    go_wp2_with (first|((with_reducible apply Zk hs);exact Ii;rfl;assumption;(with_reducible exact Qh);rfl;(assumption);rfl;rfl;simp only[Uc,Uz])|((with_reducible apply Qj (k:=0) hs);exact Ii;rfl;assumption;(with_reducible exact Qh);(exact(Nat.add_zero _).symm);(assumption);exact Vb rfl;rfl;rfl;simp only[Uc,Uz])|((with_reducible apply ZJ hs);exact Ii;exact Ii;rfl;assumption;rfl;(with_reducible exact Qh);rfl;(assumption);rfl;simp only[Uc,Uz])|((with_reducible apply ZA hs);exact Ii;exact Ii;rfl;rfl;(with_reducible exact Qh);rfl;(assumption);rfl;intro b off hat;simp only[Uc,Uz])|(go_at_call 81;((refine((hI.out ⟨c1,c2,c3,c4,c5,c6,c7,c8,c9⟩ mv)).at hs (by (focus((repeat(with_reducible exact Qn));done))) ?_);clear hs;intro w hs;(try simp only[Em,Ma]at hs))))
    go_roundw
    case rel=>exact⟨n-1,by omega,by omega,by congr 1;omega,by ((with_reducible apply Sat.fin hs);(with_reducible exact Ql))⟩
    case measure=>simp[intOf];omega
   ·have h1':(c1==th)=false:=by simpa using h1
    clear he h1
    go_wp2_with (first|((with_reducible apply Zk hs);exact Ii;rfl;assumption;(with_reducible exact Qh);rfl;(assumption);rfl;rfl;simp only[Uc,Uz])|((with_reducible apply ZA hs);exact Ii;exact Ii;rfl;rfl;(with_reducible exact Qh);rfl;(assumption);rfl;intro b off hat;simp only[Uc,Uz]))
    go_roundw
    case rel=>exact⟨n-1,by omega,by omega,by congr 1;omega,by ((with_reducible apply Sat.fin hs);(with_reducible exact Ql))⟩
    case measure=>simp[intOf];omega
theorem cen_place (cs:List Cll)(v:Value)(th mv:Int)(hl:cs.length<4294967296)(h:PlOk cs th mv) :
  Zj Tryz.prog 103 #[v,.int .i64 th,.int .i64 mv] (cslR cs v) (.bool true) (cslR cs v):=by
 intro O w F hs
 have h1:=Lh (cen_begins cs v mv hl h.beg)
 have h2:=Lh (cen_whose cs v th mv hl h.who)
 have h3:=Lh (cen_ender cs v mv hl)
 have h4:=enderOf_or h.ends
 generalize enderOf cs mv=z at h3 h4
 clear h
 rcases h4 with rfl|rfl
 ·go_enter Tryz.func103,Tryz.ntmps103
  go_wp2_with (first|(go_at_call 109;((refine(h1.out).at hs (by (with_reducible exact Qh)) ?_);clear hs;intro w hs;(try simp only[Em,Ma]at hs)))|(go_at_call 110;((refine(h2.out).at hs (by (with_reducible exact Qh)) ?_);clear hs;intro v w hs;(try simp only[Em,Ma]at hs));(simp only[ZB,Ma,Zw]at hs);(obtain⟨i,rfl,hs⟩:=hs);(have hi0:decide ((i:Int)<0)=false:=by simp))|(go_at_call 111;((refine(h3.out).at hs (by (with_reducible exact Qh)) ?_);clear hs;intro w hs;(try simp only[Em,Ma]at hs))))
  go_ret
  exact⟨rfl,by ((with_reducible apply Sat.fin hs);(with_reducible exact Ql))⟩
 ·by_cases hz:z<0
  ·have hz:decide (z<0)=true:=by simpa using hz
   go_enter Tryz.func103,Tryz.ntmps103
   go_wp2_with (first|(go_at_call 109;((refine(h1.out).at hs (by (with_reducible exact Qh)) ?_);clear hs;intro w hs;(try simp only[Em,Ma]at hs)))|(go_at_call 110;((refine(h2.out).at hs (by (with_reducible exact Qh)) ?_);clear hs;intro v w hs;(try simp only[Em,Ma]at hs));(simp only[ZB,Ma,Zw]at hs);(obtain⟨i,rfl,hs⟩:=hs);(have hi0:decide ((i:Int)<0)=false:=by simp))|(go_at_call 111;((refine(h3.out).at hs (by (with_reducible exact Qh)) ?_);clear hs;intro w hs;(try simp only[Em,Ma]at hs))))
   go_ret
   exact⟨rfl,by ((with_reducible apply Sat.fin hs);(with_reducible exact Ql))⟩
  ·have hz:decide (z<0)=false:=by simpa using hz
   have hz2:(z==z)=true:=by simp
   go_enter Tryz.func103,Tryz.ntmps103
   go_wp2_with (first|(go_at_call 109;((refine(h1.out).at hs (by (with_reducible exact Qh)) ?_);clear hs;intro w hs;(try simp only[Em,Ma]at hs)))|(go_at_call 110;((refine(h2.out).at hs (by (with_reducible exact Qh)) ?_);clear hs;intro v w hs;(try simp only[Em,Ma]at hs));(simp only[ZB,Ma,Zw]at hs);(obtain⟨i,rfl,hs⟩:=hs);(have hi0:decide ((i:Int)<0)=false:=by simp))|(go_at_call 111;((refine(h3.out).at hs (by (with_reducible exact Qh)) ?_);clear hs;intro w hs;(try simp only[Em,Ma]at hs))))
   go_ret
   exact⟨rfl,by ((with_reducible apply Sat.fin hs);(with_reducible exact Ql))⟩
end
section
set_option maxHeartbeats 2000000
abbrev eB (b:Bool):List Value:=[.bool b]
theorem mem_take {α:Type}{xs:List α}{k:Nat}{x:α}(h:x∈xs.take k):∃j,j<k∧xs[j]? = some x:=by
 obtain⟨j,hj⟩:=List.getElem?_of_mem h
 rw[List.getElem?_take]at hj
 split at hj
 ·exact⟨j,by assumption,hj⟩
 ·cases hj
theorem take_mem {α:Type}{xs:List α}{j k:Nat}{x:α}(h:j<k)(hj:xs[j]? = some x):x∈xs.take k:=by
 apply Yc (i:=j)
 rw[List.getElem?_take,if_pos h];exact hj
theorem mem_take_succ {α:Type}{xs:List α}{k:Nat}{x z:α}(hz:xs[k]? = some z)(h:x∈xs.take (k+1)):x∈xs.take k∨x=z:=by
 rw[List.take_add_one,hz]at h
 rcases List.mem_append.1 h with h|h
 ·exact .inl h
 ·simp at h;exact .inr h
theorem cen_ends (cs:List Cll)(v:Value)(n:Int)(hn:n≤65536)(hl:cs.length<4294967296)(h0:∀x∈cs,(0≤x.begin_∧x.begin_<n)∧(x.end_ = -1∨0≤x.end_∧x.end_<n))
  (hb:Pw (fun x z=>x.begin_<z.begin_) cs) (he:Pw (fun x z=>x.end_ ≠ -1→x.end_≠z.end_) cs) (hbe:∀x∈cs,∀z∈cs,x.end_≠z.begin_) :
  Zj Tryz.prog 102 #[v] (cslR cs v) (.bool true) (cslR cs v):=by
 intro O w F hs
 obtain⟨a0,cap0,rfl⟩:=ZY (hs.pull (A:=cslR cs v) (by (with_reducible exact Qh)))
 simp only[List.length_map]at hs ⊢
 have h0:=Lh h0
 have hb:=Lh hb
 have he:=Lh he
 have hbe:=Lh hbe
 go_enter Tryz.func102,Tryz.ntmps102
 (repeat'(go_step))
 go_loopw [3,4] (fun tp q wr=>∃(k z:Nat),k≤cs.length∧q=.int .i64 (k:Int)∧tp=.int .i64 (z:Int)∧z≤65536∧Hid (∀x∈cs.take k,x.begin_≤(z:Int)∧x.end_≤(z:Int))∧Sat O wr (cslR cs (.slice a0 cs.length cap0)*F)) (fun _ q _=>cs.length+1-(intOf q).toNat)
 case atStart=>exact⟨0,0,by omega,rfl,rfl,by omega,Lh (by simp),by ((with_reducible apply Sat.fin hs);(with_reducible exact Ql))⟩
 case round=>
  obtain⟨k,z,k1,rfl,rfl,z1,hz,hs⟩:=hrel
  by_cases hkr:k=cs.length
  ·subst hkr
   have hlt:decide ((cs.length:Int)<(cs.length:Int))=false:=by simp
   have hz2:decide ((z:Int)≤262144)=true:=by simp;omega
   have hw:wrap64 ((z:Int)+1)=(z:Int)+1:=by unfold wrap64;omega
   have hz3:z+1≤4294967296:=by omega
   rw[List.take_length]at hz
   (repeat'(first|(go_big_may;(first|((with_reducible apply Zp hs);exact Ii;rfl;(with_reducible exact Qh);rfl;simp only[Uc,Uz])|((with_reducible apply wl_mk hs);exact Ii;exact Ii;rfl;rfl;rfl;rfl;rfl;omega;exact Vb rfl;rfl;clear hs;intro w v hs;simp only[Uc,Uz])))|go_step))
   obtain⟨a5,c5,rfl⟩:=ZY (hs.pull (A:=sl 4 1 _ v) (by (with_reducible exact Qh)))
   simp only[List.length_replicate,List.length_map]at hs ⊢
   go_loopw [6] (fun q wr=>∃(k:Nat) (bs:List Bool),k≤cs.length∧q=.int .i64 (k:Int)∧bs.length=z+1∧Hid (∀j:Nat,bs[j]? = some true→∃x∈cs.take k,x.begin_=(j:Int)∨x.end_=(j:Int)) ∧
    Sat O wr (sl 4 1 (bs.map eB) (.slice a5 (z+1) c5)*(cslR cs (.slice a0 cs.length cap0)*F))) (fun q _=>cs.length+1-(intOf q).toNat)
   case atStart=>
    refine⟨0,List.replicate (z+1) false,by omega,rfl,by simp,Lh (fun j hj => ?_),by rw[List.map_replicate];((with_reducible apply Sat.fin hs);(focus((repeat(first|with_reducible exact Ql|with_reducible apply Qb|exact Qh));done)))⟩
    have:=(List.mem_replicate.1 (Yc hj)).2
    cases this
   case round=>
    obtain⟨k,bs,k1,rfl,hbl,hbs,hs⟩:=hrel
    by_cases hkr:k=cs.length
    ·subst hkr
     have hlt:decide ((cs.length:Int)<(cs.length:Int))=false:=by simp
     (repeat'(first|(go_big_may;((with_reducible apply Zp hs);exact Ii;rfl;(with_reducible repeat first|exact Qh|apply Qk);rfl;simp only[Uc,Uz]))|go_step))
     go_ret
     exact⟨rfl,by (with_reducible apply Sat.fin hs;repeat first|exact Ql|exact Qh|apply Qb|apply Qk)⟩
    ·have hlt:decide ((k:Int)<(cs.length:Int))=true:=by simp;omega
     have hlt2:decide (k<cs.length)=true:=by simp;omega
     have hln:k<(cs.map Cll.e).length:=by simp;omega
     obtain⟨x,hx⟩:∃x,cs[k]? = some x:=⟨_,Yd (by omega)⟩
     obtain⟨⟨x1,x2⟩,x3⟩:=h0.out x (Yc hx)
     obtain⟨x4,x5⟩:=hz.out x (Yc hx)
     have hnB:∀j:Nat,(j:Int)=x.begin_→bs[j]? = some false:=by
      intro j hj
      have hjl:j<bs.length:=by omega
      cases hg:bs[j]'hjl with
      | false=>rw[Yd hjl,hg]
      | true=>
       obtain⟨y,hy,hy2⟩:=hbs.out j (by rw[Yd hjl,hg])
       obtain⟨i,hi,hy⟩:=mem_take hy
       rcases hy2 with hy2|hy2
       ·have:=hb.out i k y x hi hy hx;omega
       ·exact absurd (hy2.trans hj) (hbe.out y (Yc hy) x (Yc hx))
     have hnE:∀j:Nat,(j:Int)=x.end_→x.end_ ≠ -1→(bs.set x.begin_.toNat true)[j]? = some false:=by
      intro j hj hne
      have hjl:j<bs.length:=by omega
      have hjb:x.begin_.toNat≠j:=by
       intro e
       exact hbe.out x (Yc hx) x (Yc hx) (by omega)
      rw[Yf hjb]
      cases hg:bs[j]'hjl with
      | false=>rw[Yd hjl,hg]
      | true=>
       obtain⟨y,hy,hy2⟩:=hbs.out j (by rw[Yd hjl,hg])
       obtain⟨i,hi,hy⟩:=mem_take hy
       rcases hy2 with hy2|hy2
       ·exact absurd (hj.symm.trans hy2.symm) (hbe.out x (Yc hx) y (Yc hy))
       ·exact absurd (hy2.trans hj) (he.out i k y x hi hy hx (by omega))
     have hold:∀(bs':List Bool),(∀j:Nat,bs'[j]? = some true→bs[j]? = some true∨(j:Int)=x.begin_∨(j:Int)=x.end_)→∀j:Nat,bs'[j]? = some true→∃x∈cs.take (k+1),x.begin_=(j:Int)∨x.end_=(j:Int):=by
      intro bs' h j hj
      rcases h j hj with h|h|h
      ·obtain⟨y,hy,hy2⟩:=hbs.out j h
       obtain⟨i,hi,hy⟩:=mem_take hy
       exact⟨y,take_mem (by omega) hy,hy2⟩
      ·exact⟨x,take_mem (by omega) hx,.inl h.symm⟩
      ·exact⟨x,take_mem (by omega) hx,.inr h.symm⟩
     obtain⟨c1,c2,c3,c4,c5,c6,c7,c8,c9⟩:=x
     simp only[]at x1 x2 x3 x4 x5 hnB hnE hold
     obtain⟨B,rfl⟩:∃B:Nat,c5=(B:Int):=⟨c5.toNat,by omega⟩
     have hB:=hnB B rfl
     simp only[Yo]at hnE
     have hBl:B<bs.length:=(List.getElem?_eq_some_iff.1 hB).1
     have hBl2:B<(bs.map eB).length:=by simp;exact hBl
     have hBl3:decide (B<bs.length)=true:=by simpa using hBl
     have hBg:(bs.map eB)[B]? = some [.bool false]:=by rw[Ym,hB];rfl
     have hw:wrap64 ((k:Int)+1)=(k:Int)+1:=by unfold wrap64;omega
     have hgv:(cs.map Cll.e)[k]? = some (Cll.e ⟨c1,c2,c3,c4,(B:Int),c6,c7,c8,c9⟩):=by rw[Ym,hx];rfl
     have set_or:∀(l:List Bool) (i j:Nat),(l.set i true)[j]? = some true→l[j]? = some true∨j=i:=by
      intro l i j hj
      by_cases e:j=i
      ·exact .inr e
      ·rw[Yf (Ne.symm e)]at hj;exact .inl hj
     by_cases hE:c6 = -1
     ·subst hE
      have hge:decide ((-1:Int)≥0)=false:=rfl
      have hold:=Lh (hold (bs.set B true) (fun j hj=>by rcases set_or _ _ _ hj with h|h;exact .inl h;exact .inr (.inl (by omega))))
      have hbl:=Lh hbl
      clear hnE hnB x1 x2 x3 x4 x5 set_or hB hBl
      (repeat'(first|(go_big_may;(first|((with_reducible apply QU hs);exact Ii;rfl;assumption;(with_reducible repeat first|exact Qh|apply Qk);rfl;(assumption);rfl;rfl;simp only[Uc,Uz])|((with_reducible apply Zk hs);exact Ii;rfl;assumption;(with_reducible exact Qh);rfl;(assumption);rfl;rfl;simp only[Uc,Uz])|((with_reducible apply ZN hs);exact Ii;rfl;rfl;assumption;(with_reducible exact Qh);rfl;(assumption);exact Vb rfl;rfl;rfl;clear hs;intro w hs)|((with_reducible apply ZJ hs);exact Ii;exact Ii;rfl;assumption;rfl;(with_reducible repeat first|exact Qh|apply Qk);rfl;(assumption);rfl;simp only[Uc,Uz])|((with_reducible apply ZA hs);exact Ii;exact Ii;rfl;rfl;(with_reducible repeat first|exact Qh|apply Qk);rfl;(assumption);rfl;intro b off hat;simp only[Uc,Uz])|((with_reducible apply Zp hs);exact Ii;rfl;(with_reducible repeat first|exact Qh|apply Qk);rfl;simp only[Uc,Uz])))|go_step))
      go_roundw
      case rel=>exact⟨k+1,bs.set B true,by omega,by simp,by simp[hbl.out],hold,by rw[Yk];((with_reducible apply Sat.fin hs);(focus((repeat(first|with_reducible exact Ql|with_reducible apply Qb|exact Qh));done)))⟩
      case measure=>simp[intOf];omega
     ·obtain⟨E,rfl⟩:∃E:Nat,c6=(E:Int):=⟨c6.toNat,by omega⟩
      have hge:decide ((E:Int)≥0)=true:=by simp
      have hEg:=hnE E rfl hE
      have hEl:E<(bs.set B true).length:=(List.getElem?_eq_some_iff.1 hEg).1
      have hEl2:E<((bs.map eB).set B [.bool true]).length:=by simp at hEl ⊢;exact hEl
      have hEl3:decide (E<bs.length)=true:=by simpa using hEl
      have hEg2:((bs.map eB).set B [.bool true])[E]? = some [.bool false]:=by
       have:((bs.set B true).map eB)[E]? = some [.bool false]:=by rw[Ym,hEg];rfl
       rw[Yk]at this
       exact this
      have hold:=Lh (hold ((bs.set B true).set E true) (fun j hj=>by
       rcases set_or _ _ _ hj with h|h
       ·rcases set_or _ _ _ h with h|h
        ·exact .inl h
        ·exact .inr (.inl (by omega))
       ·exact .inr (.inr (by omega))))
      have hbl:=Lh hbl
      clear hnE hnB x1 x2 x3 x4 x5 set_or hE hEg hEl hB hBl
      (repeat'(first|(go_big_may;(first|((with_reducible apply QU hs);exact Ii;rfl;assumption;(with_reducible repeat first|exact Qh|apply Qk);rfl;(assumption);rfl;rfl;simp only[Uc,Uz])|((with_reducible apply Zk hs);exact Ii;rfl;assumption;(with_reducible exact Qh);rfl;(assumption);rfl;rfl;simp only[Uc,Uz])|((with_reducible apply ZN hs);exact Ii;rfl;rfl;assumption;(with_reducible exact Qh);rfl;(assumption);exact Vb rfl;rfl;rfl;clear hs;intro w hs)|((with_reducible apply ZJ hs);exact Ii;exact Ii;rfl;assumption;rfl;(with_reducible repeat first|exact Qh|apply Qk);rfl;(assumption);rfl;simp only[Uc,Uz])|((with_reducible apply ZA hs);exact Ii;exact Ii;rfl;rfl;(with_reducible repeat first|exact Qh|apply Qk);rfl;(assumption);rfl;intro b off hat;simp only[Uc,Uz])|((with_reducible apply Zp hs);exact Ii;rfl;(with_reducible repeat first|exact Qh|apply Qk);rfl;simp only[Uc,Uz])))|go_step))
      go_roundw
      case rel=>exact⟨k+1,(bs.set B true).set E true,by omega,by simp,by simp[hbl.out],hold,by rw[Yk,Yk];((with_reducible apply Sat.fin hs);(focus((repeat(first|with_reducible exact Ql|with_reducible apply Qb|exact Qh));done)))⟩
      case measure=>simp[intOf];omega
  ·have hlt:decide ((k:Int)<(cs.length:Int))=true:=by simp;omega
   have hlt2:decide (k<cs.length)=true:=by simp;omega
   have hln:k<(cs.map Cll.e).length:=by simp;omega
   obtain⟨x,hx⟩:∃x,cs[k]? = some x:=⟨_,Yd (by omega)⟩
   obtain⟨⟨x1,x2⟩,x3⟩:=h0.out x (Yc hx)
   have hnew:∀z':Nat,z≤z'→x.begin_≤(z':Int)→x.end_≤(z':Int)→∀y∈cs.take (k+1),y.begin_≤(z':Int)∧y.end_≤(z':Int):=by
    intro z' h1 h2 h3 y hy
    rcases mem_take_succ hx hy with hy|rfl
    ·have:=hz.out y hy;omega
    ·exact⟨h2,h3⟩
   obtain⟨c1,c2,c3,c4,c5,c6,c7,c8,c9⟩:=x
   simp only[]at x1 x2 x3 hnew
   obtain⟨B,rfl⟩:∃B:Nat,c5=(B:Int):=⟨c5.toNat,by omega⟩
   have hw:wrap64 ((k:Int)+1)=(k:Int)+1:=by unfold wrap64;omega
   have hgv:(cs.map Cll.e)[k]? = some (Cll.e ⟨c1,c2,c3,c4,(B:Int),c6,c7,c8,c9⟩):=by rw[Ym,hx];rfl
   by_cases e1:c6>(z:Int)
   ·obtain⟨E,rfl⟩:∃E:Nat,c6=(E:Int):=⟨c6.toNat,by omega⟩
    have f1:decide ((E:Int)>(z:Int))=true:=by simp;omega
    have f1':decide (z<E)=true:=by simp;omega
    by_cases e2:(B:Int)>(E:Int)
    ·have f2:decide ((B:Int)>(E:Int))=true:=by simp;omega
     have f2':decide (E<B)=true:=by simp;omega
     have hnew:=Lh (hnew B (by omega) (by omega) (by omega))
     have hB:=Lh (show B≤65536 by omega)
     clear e1 e2 x1 x2 x3
     (repeat'(first|(go_big_may;(first|((with_reducible apply QU hs);exact Ii;rfl;assumption;(with_reducible exact Qh);rfl;(assumption);rfl;rfl;simp only[Uc,Uz])|((with_reducible apply ZJ hs);exact Ii;exact Ii;rfl;assumption;rfl;(with_reducible exact Qh);rfl;(assumption);rfl;simp only[Uc,Uz])|((with_reducible apply ZA hs);exact Ii;exact Ii;rfl;rfl;(with_reducible exact Qh);rfl;(assumption);rfl;intro b off hat;simp only[Uc,Uz])|((with_reducible apply Zp hs);exact Ii;rfl;(with_reducible exact Qh);rfl;simp only[Uc,Uz])))|go_step))
     go_roundw
     case rel=>exact⟨k+1,B,by omega,by simp,rfl,hB.out,hnew,by ((with_reducible apply Sat.fin hs);(with_reducible exact Ql))⟩
     case measure=>simp[intOf];omega
    ·have f2:decide ((B:Int)>(E:Int))=false:=by simp;omega
     have f2':decide (E<B)=false:=by simp;omega
     have hnew:=Lh (hnew E (by omega) (by omega) (by omega))
     have hB:=Lh (show E≤65536 by omega)
     clear e1 e2 x1 x2 x3
     (repeat'(first|(go_big_may;(first|((with_reducible apply QU hs);exact Ii;rfl;assumption;(with_reducible exact Qh);rfl;(assumption);rfl;rfl;simp only[Uc,Uz])|((with_reducible apply ZJ hs);exact Ii;exact Ii;rfl;assumption;rfl;(with_reducible exact Qh);rfl;(assumption);rfl;simp only[Uc,Uz])|((with_reducible apply ZA hs);exact Ii;exact Ii;rfl;rfl;(with_reducible exact Qh);rfl;(assumption);rfl;intro b off hat;simp only[Uc,Uz])|((with_reducible apply Zp hs);exact Ii;rfl;(with_reducible exact Qh);rfl;simp only[Uc,Uz])))|go_step))
     go_roundw
     case rel=>exact⟨k+1,E,by omega,by simp,rfl,hB.out,hnew,by ((with_reducible apply Sat.fin hs);(with_reducible exact Ql))⟩
     case measure=>simp[intOf];omega
   ·have f1:decide (c6>(z:Int))=false:=by simp;omega
    by_cases e2:(B:Int)>(z:Int)
    ·have f2:decide ((B:Int)>(z:Int))=true:=by simp;omega
     have f2':decide (z<B)=true:=by simp;omega
     have hnew:=Lh (hnew B (by omega) (by omega) (by omega))
     have hB:=Lh (show B≤65536 by omega)
     clear e1 e2 x1 x2 x3
     (repeat'(first|(go_big_may;(first|((with_reducible apply QU hs);exact Ii;rfl;assumption;(with_reducible exact Qh);rfl;(assumption);rfl;rfl;simp only[Uc,Uz])|((with_reducible apply ZJ hs);exact Ii;exact Ii;rfl;assumption;rfl;(with_reducible exact Qh);rfl;(assumption);rfl;simp only[Uc,Uz])|((with_reducible apply ZA hs);exact Ii;exact Ii;rfl;rfl;(with_reducible exact Qh);rfl;(assumption);rfl;intro b off hat;simp only[Uc,Uz])|((with_reducible apply Zp hs);exact Ii;rfl;(with_reducible exact Qh);rfl;simp only[Uc,Uz])))|go_step))
     go_roundw
     case rel=>exact⟨k+1,B,by omega,by simp,rfl,hB.out,hnew,by ((with_reducible apply Sat.fin hs);(with_reducible exact Ql))⟩
     case measure=>simp[intOf];omega
    ·have f2:decide ((B:Int)>(z:Int))=false:=by simp;omega
     have f2':decide (z<B)=false:=by simp;omega
     have hnew:=Lh (hnew z (by omega) (by omega) (by omega))
     have hB:=Lh (show z≤65536 by omega)
     clear e1 e2 x1 x2 x3
     (repeat'(first|(go_big_may;(first|((with_reducible apply QU hs);exact Ii;rfl;assumption;(with_reducible exact Qh);rfl;(assumption);rfl;rfl;simp only[Uc,Uz])|((with_reducible apply ZJ hs);exact Ii;exact Ii;rfl;assumption;rfl;(with_reducible exact Qh);rfl;(assumption);rfl;simp only[Uc,Uz])|((with_reducible apply ZA hs);exact Ii;exact Ii;rfl;rfl;(with_reducible exact Qh);rfl;(assumption);rfl;intro b off hat;simp only[Uc,Uz])|((with_reducible apply Zp hs);exact Ii;rfl;(with_reducible exact Qh);rfl;simp only[Uc,Uz])))|go_step))
     go_roundw
     case rel=>exact⟨k+1,z,by omega,by simp,rfl,hB.out,hnew,by ((with_reducible apply Sat.fin hs);(with_reducible exact Ql))⟩
     case measure=>simp[intOf];omega
end
end Go.Proofs.YtefjbdajgakgpaaGreat
