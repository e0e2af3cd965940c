import Derived.Test.YtefjbdajgakgpaaGreatDAppR
import Derived.Test.YtefjbdajgakgpaaGreatDQueFit
set_option linter.all false
namespace Go.Proofs.YtefjbdajgakgpaaGreat
open Go.RowKit Hp
set_option maxRecDepth 100000
set_option maxHeartbeats 1000000
attribute [local irreducible] Go.Calls Go.wpList
def mostC (c:Cfg):Int:=if c.Rt<c.R*c.Hz+1 then c.R*c.Hz+1 else c.Rt
def Jq (c:Cfg):Int:=mostC c+(c.R-1)*(c.R*c.Hz)
theorem listed_b {c:Cfg}(hok:c.Ok):0≤Jq c∧Jq c≤4000:=by
 obtain⟨b1,b2,b8,b9,b10,b11,b12,b13,b14,rh,rh2⟩:=Qg hok
 have:=hok.Rt1
 have:=hok.Rt2
 have:=hok.R1
 have:=hok.R2
 have h1:(c.R-1)*(c.R*c.Hz)≤15*128:=Int.mul_le_mul (by omega) rh2 (by omega) (by omega)
 have h2:0≤(c.R-1)*(c.R*c.Hz):=Int.mul_nonneg (by omega) (by omega)
 unfold Jq mostC
 split<;>omega
theorem law_listed (c:Cfg)(hok:c.Ok):Zk Tryz.prog 50 #[c.v] emp (.int .i64 (Jq c)) emp:=by
 intro O w F hs
 have hb:=Qg hok
 have rh:=hb.rh
 have rh2:=hb.rh2
 have:=hok.Rt1
 have:=hok.Rt2
 have:=hok.R1
 have:=hok.R2
 have h1:(c.R-1)*(c.R*c.Hz)≤15*128:=Int.mul_le_mul (by omega) rh2 (by omega) (by omega)
 have h2:0≤(c.R-1)*(c.R*c.Hz):=Int.mul_nonneg (by omega) (by omega)
 have hw1:wrap64 (c.R*c.Hz)=c.R*c.Hz:=by unfold wrap64;omega
 have hw2:wrap64 (c.R*c.Hz+1)=c.R*c.Hz+1:=by unfold wrap64;omega
 have hw3:wrap64 (c.R-1)=c.R-1:=by unfold wrap64;omega
 have hw4:wrap64 ((c.R-1)*(c.R*c.Hz))=(c.R-1)*(c.R*c.Hz):=by unfold wrap64;omega
 clear hb
 by_cases hm:c.Rt<c.R*c.Hz+1
 ·have hd:decide (c.R*c.Hz+1>c.Rt)=true:=by simpa using hm
  have hw5:wrap64 (c.R*c.Hz+1+(c.R-1)*(c.R*c.Hz))=c.R*c.Hz+1+(c.R-1)*(c.R*c.Hz):=by unfold wrap64;omega
  have he:Jq c=c.R*c.Hz+1+(c.R-1)*(c.R*c.Hz):=by unfold Jq mostC;rw[if_pos hm]
  rw[he]
  clear he hm h1 h2 rh rh2
  go_enter Tryz.func50,Tryz.ntmps50
  (repeat'(first|(go_big_may;(first|((with_reducible apply Zb hs);exact Ii;rfl;(with_reducible exact Qh);rfl;rfl;simp only[Uc,Uz])|((with_reducible apply Zt hs);rfl;rfl;rfl;clear hs;intro w b hs;simp only[Uc,Uz])))|go_step))
  go_ret
  exact⟨by show Ending.returned (Value.int _ (wrap64 _))=_;rw[hw5],by ((with_reducible apply Sat.fin hs);(focus with_reducible (repeat first|exact Ql|exact Qn|apply Qb|apply Qk);done))⟩
 ·have hd:decide (c.R*c.Hz+1>c.Rt)=false:=by simpa using hm
  have hw5:wrap64 (c.Rt+(c.R-1)*(c.R*c.Hz))=c.Rt+(c.R-1)*(c.R*c.Hz):=by unfold wrap64;omega
  have he:Jq c=c.Rt+(c.R-1)*(c.R*c.Hz):=by unfold Jq mostC;rw[if_neg hm]
  rw[he]
  clear he hm h1 h2 rh rh2
  go_enter Tryz.func50,Tryz.ntmps50
  (repeat'(first|(go_big_may;(first|((with_reducible apply Zb hs);exact Ii;rfl;(with_reducible exact Qh);rfl;rfl;simp only[Uc,Uz])|((with_reducible apply Zt hs);rfl;rfl;rfl;clear hs;intro w b hs;simp only[Uc,Uz])))|go_step))
  go_ret
  exact⟨by show Ending.returned (Value.int _ (wrap64 _))=_;rw[hw5],by ((with_reducible apply Sat.fin hs);(focus with_reducible (repeat first|exact Ql|exact Qn|apply Qb|apply Qk);done))⟩
theorem solo_b {c:Cfg}(hok:c.Ok):0≤soloC c (Jq c)∧soloC c (Jq c)≤300000:=by
 obtain⟨l1,l2⟩:=listed_b hok
 have hb:=Qg hok
 have rh:=hb.rh
 have rh2:=hb.rh2
 have:=hok.R1
 have:=hok.R2
 have:=hok.T1
 have:=hok.T2
 have:=hok.S1
 have:=hok.S2
 have:=hok.C1
 have:=hok.C2
 have:=hok.H1
 have:=hok.H2
 generalize Jq c=L at l1 l2 ⊢
 have h1:(c.T+2)*(3*c.R+c.R*c.Hz+3*L+3)≤18*12300:=Int.mul_le_mul (by omega) (by omega) (by omega) (by omega)
 have h2:0≤(c.T+2)*(3*c.R+c.R*c.Hz+3*L+3):=Int.mul_nonneg (by omega) (by omega)
 unfold soloC
 omega
theorem law_solo (c:Cfg)(hok:c.Ok):Zk Tryz.prog 20 #[c.v] emp (.int .i64 (soloC c (Jq c))) emp:=by
 intro O w F hs
 obtain⟨l1,l2⟩:=listed_b hok
 have hL:=Lh (law_listed c hok)
 have hb:=Qg hok
 have rh:=hb.rh
 have rh2:=hb.rh2
 have:=hok.R1
 have:=hok.R2
 have:=hok.T1
 have:=hok.T2
 have:=hok.S1
 have:=hok.S2
 have:=hok.C1
 have:=hok.C2
 have:=hok.H1
 have:=hok.H2
 generalize Jq c=L at l1 l2 hL ⊢
 have h1:(c.T+2)*(3*c.R+c.R*c.Hz+3*L+3)≤18*12300:=Int.mul_le_mul (by omega) (by omega) (by omega) (by omega)
 have h2:0≤(c.T+2)*(3*c.R+c.R*c.Hz+3*L+3):=Int.mul_nonneg (by omega) (by omega)
 have w1:wrap64 (c.R*c.Hz)=c.R*c.Hz:=by unfold wrap64;omega
 have w2:wrap64 (56*c.Sl)=56*c.Sl:=by unfold wrap64;omega
 have w3:wrap64 (c.T+2)=c.T+2:=by unfold wrap64;omega
 have w4:wrap64 (3*c.R)=3*c.R:=by unfold wrap64;omega
 have w5:wrap64 (3*c.R+c.R*c.Hz)=3*c.R+c.R*c.Hz:=by unfold wrap64;omega
 have w6:wrap64 (3*L)=3*L:=by unfold wrap64;omega
 have w7:wrap64 (3*c.R+c.R*c.Hz+3*L)=3*c.R+c.R*c.Hz+3*L:=by unfold wrap64;omega
 have w8:wrap64 (3*c.R+c.R*c.Hz+3*L+3)=3*c.R+c.R*c.Hz+3*L+3:=by unfold wrap64;omega
 have w9:wrap64 ((c.T+2)*(3*c.R+c.R*c.Hz+3*L+3))=(c.T+2)*(3*c.R+c.R*c.Hz+3*L+3):=by unfold wrap64;omega
 have w10:wrap64 (56*c.Sl+(c.T+2)*(3*c.R+c.R*c.Hz+3*L+3))=56*c.Sl+(c.T+2)*(3*c.R+c.R*c.Hz+3*L+3):=by unfold wrap64;omega
 have w11:wrap64 (3*c.Ca)=3*c.Ca:=by unfold wrap64;omega
 have w12:wrap64 (56*c.Sl+(c.T+2)*(3*c.R+c.R*c.Hz+3*L+3)+3*c.Ca)=56*c.Sl+(c.T+2)*(3*c.R+c.R*c.Hz+3*L+3)+3*c.Ca:=by unfold wrap64;omega
 have w13:wrap64 (2*c.R)=2*c.R:=by unfold wrap64;omega
 have w14:wrap64 (56*c.Sl+(c.T+2)*(3*c.R+c.R*c.Hz+3*L+3)+3*c.Ca+2*c.R)=56*c.Sl+(c.T+2)*(3*c.R+c.R*c.Hz+3*L+3)+3*c.Ca+2*c.R:=by unfold wrap64;omega
 have w15:wrap64 (56*c.Sl+(c.T+2)*(3*c.R+c.R*c.Hz+3*L+3)+3*c.Ca+2*c.R+c.Hz)=56*c.Sl+(c.T+2)*(3*c.R+c.R*c.Hz+3*L+3)+3*c.Ca+2*c.R+c.Hz:=by unfold wrap64;omega
 have w16:wrap64 (56*c.Sl+(c.T+2)*(3*c.R+c.R*c.Hz+3*L+3)+3*c.Ca+2*c.R+c.Hz+100)=56*c.Sl+(c.T+2)*(3*c.R+c.R*c.Hz+3*L+3)+3*c.Ca+2*c.R+c.Hz+100:=by unfold wrap64;omega
 have he:soloC c L=56*c.Sl+(c.T+2)*(3*c.R+c.R*c.Hz+3*L+3)+3*c.Ca+2*c.R+c.Hz+100:=rfl
 rw[he]
 clear he h1 h2 rh rh2 hb l1 l2
 go_enter Tryz.func20,Tryz.ntmps20
 (repeat'(first|(go_big_may;(first|(with_reducible first|apply NQ.mk|apply EQ.mk|exact Zg|apply Zj)|((with_reducible apply Zi);rfl;rfl)|((with_reducible apply Zo);rfl)|((with_reducible refine Zn ?_ ?_);focus((with_reducible apply ZI);rfl;rfl))|(show Qd _ _ _;rfl)|((with_reducible apply Zb hs);exact Ii;rfl;(with_reducible exact Qh);rfl;rfl;simp only[Uc,Uz])|((with_reducible apply Qy hs);exact Ii;rfl;(with_reducible exact Qh);rfl;rfl;simp only[Uc,Uz])|((with_reducible apply Zt hs);rfl;rfl;rfl;clear hs;intro w b hs;simp only[Uc,Uz])|(go_at_call 50;((refine(hL.out).at hs (by (focus((repeat(with_reducible exact Qn));done))) ?_);clear hs;intro w hs;(try simp only[Em,Ma]at hs)))|((with_reducible refine Wp (id:=2) (Paz (Pbz [.neu 10,.neu 11,.neu 18,.neu 19,.neu 20,.neu 22,.neu 23,.neu 24,.neu 26,.neu 27,.eff 12 [0,1,2,3,4,5,6,7,8,9,10,18,19,20,22,23,24,26,27],.neu 13,.neu 14,.neu 15,.neu 16,.neu 17,.neu 21,.neu 25,.neu 28,.neu 29,.neu 30])) hs rfl ?_ ?_);kernel_rfl;clear hs;intro w hs)))|go_step|(dsimp only)))
 go_ret
 exact⟨by show Ending.returned (Value.int _ (wrap64 _))=_;rw[w16],by ((with_reducible apply Sat.fin hs);(focus with_reducible (repeat first|exact Ql|exact Qn|apply Qb|apply Qk);done))⟩
def RunW (t:Int)(u:Value):Zc:=ex fun cs:List Cll=>ex fun lg:List Acc=>ex fun sh:List Shf=>ex fun ws:List Int=>ex fun v1=>ex fun v2=>ex fun v3=>ex fun v4=>
 pu (u=.tuple #[.agg #[v1,v2,v3,v4],.int .i64 0]∧(∀x∈cs,x.thread=t→0≤x.end_)∧cs.length≤65536) *
 (sl 59 9 (cs.map Cll.e) v1*(sl 87 7 (lg.map Acc.e) v2*(sl 102 5 (sh.map Shf.e) v3*sl 79 1 (ws.map eU) v4)))
theorem play_runW {c:Cfg}(h:c.Ok){M:List Mv}{t N:Nat}(ht:(t:Int)<c.T)(hl:(M++List.replicate N (⟨(t:Int),0,0,0⟩:Mv)).length≤65536)(hN:qBd c+2≤N){A:Zc}(v:Value)(hRd:Rd A 4 ((M++List.replicate N (⟨(t:Int),0,0,0⟩:Mv)).map Mv.e) v) :
  Does Tryz.prog 21 #[c.v,v] A (fun u=>RunW t u*A):=by
 intro O w F hs
 have hlen:(M++List.replicate N (⟨(t:Int),0,0,0⟩:Mv)).length=M.length+N:=by simp
 refine(que_playJ c h v _ hl (AloJ c t M.length) (fun km vs => ?_) ?_ A hRd O w F hs).mono ?_
 ·refine⟨dk_start c h km vs,fun h0 => ?_⟩
  rcases alo_task ht (PM.start h km vs) with h1|⟨k,se,h1,h2⟩
  ·exact .inl h1
  ·exact .inr ⟨k,se,h1,h2,fun h3=>by omega⟩
 ·intro CX bh ba x z k y mv b y' hmv P J hm
  have:=(List.getElem?_eq_some_iff.1 hmv).1
  exact alo_move ht hmv (by omega) P J hm
 ·rintro e w' ⟨u,rfl,hs'⟩
  refine⟨u,rfl,?_⟩
  unfold gplayR at hs'
  unfold RunW
  simp only[ZG,Ma,Zz]at hs' ⊢
  obtain⟨y,v',⟨⟨⟨P,_⟩,J⟩,rfl⟩,hs'⟩:=hs'
  rw[hlen]at P J hl
  unfold RunR at hs'
  simp only[ZG,Ma,Zz]at hs'
  obtain⟨v1,v2,v3,v4,rfl,hs'⟩:=hs'
  exact⟨_,_,_,_,v1,v2,v3,v4,⟨rfl,alo_end P J hN,by have:=P.calls;omega⟩,hs'⟩
set_option maxHeartbeats 16000000 in
theorem que_alone (c:Cfg)(mvs0:List Mv)(v0:Value)(th:Int)(A:Zc)(hRd0:Rd A 4 (mvs0.map Mv.e) v0) :
  Zk Tryz.prog 7 #[c.v,v0,.int .i64 th] A (.bool true) A:=by
 intro O w F hs
 obtain⟨C,hok,M,hl,hFit⟩:∃C:Cfg,C.Ok∧∃M:List Mv,M.length≤65536∧Hid (Does Tryz.prog 18 #[c.v,v0] A (fun u=>ex fun v=>pu (u=.tuple #[C.v,v]∧Rd A 4 (M.map Mv.e) v)*A)):=⟨_,fitC_ok c,_,fitM_len mvs0,Lh (law_fit c mvs0 v0 A hRd0)⟩
 clear hRd0
 have hW:=Lh law_awake
 obtain⟨s1,s2⟩:=solo_b hok
 obtain⟨N,hN⟩:∃N:Nat,soloC C (Jq C)=(N:Int):=⟨(soloC C (Jq C)).toNat,by omega⟩
 have hSo:=law_solo C hok
 rw[hN]at s1 s2 hSo
 have hSo:=Lh hSo
 by_cases h0:th<0
 ·have d0:decide (th<0)=true:=by simpa using h0
  clear h0 hN hok s1 s2
  go_enter Tryz.func7,Tryz.ntmps7
  (repeat'(first|(((with_reducible apply wl_pass2);rfl;rfl;((simp only[ev,Ue,Uf]);rfl);rfl;simp only[Uc,Uz]);(repeat((with_reducible apply wl_pass2);rfl;rfl;((simp only[ev,Ue,Uf]);rfl);rfl;simp only[Uc,Uz])))|((with_reducible apply wl_pick);((simp only[ev,Ue,Uf]);rfl);((simp only[cond_true,cond_false,ev,Ue,Uf]);rfl);(with_reducible exact QX);simp only[Uc,Uz])|(go_big_may;(first|((with_reducible apply Qy hs);exact Ii;rfl;(with_reducible exact Qh);rfl;rfl;simp only[Uc,Uz])|((with_reducible apply ZN hs);exact Ii;rfl;rfl;(with_reducible repeat first|exact Qh|apply Qk);rfl;rfl;rfl;rfl;clear hs;intro w hs)|((with_reducible apply Zt hs);rfl;rfl;rfl;clear hs;intro w b hs;simp only[Uc,Uz])|(go_at_call 18;(refine(hFit.out).at hs (by with_reducible repeat first|exact Qh|apply Qk) ?_;clear hs;intro v w hs;(try simp only[Em,Ma]at hs));(simp only[ZG,Ma,Zz]at hs);(obtain⟨vm,⟨rfl,hRd⟩,hs⟩:=hs);(obtain⟨am,cm,rfl⟩:=hRd.len);(simp only[List.length_map]at hRd hs);(have hRd:=Lh hRd))|(go_at_call 19;((refine(hW.out).at hs (by (focus((repeat(with_reducible exact Qn));done))) ?_);clear hs;intro w hs;(try simp only[Em,Ma]at hs)))))|go_step|(dsimp only)))
  go_ret
  exact⟨rfl,by (with_reducible apply Sat.fin hs;repeat first|exact Ql|exact Qh|apply Qb|apply Qk)⟩
 obtain⟨t,rfl⟩:∃t:Nat,th=(t:Int):=⟨th.toNat,by omega⟩
 by_cases h1:(t:Int)≥C.T
 ·have d0:decide ((t:Int)<0)=false:=by simp
  have d1:decide ((t:Int)≥C.T)=true:=by simpa using h1
  clear h0 h1 hN hok s1 s2
  go_enter Tryz.func7,Tryz.ntmps7
  (repeat'(first|(((with_reducible apply wl_pass2);rfl;rfl;((simp only[ev,Ue,Uf]);rfl);rfl;simp only[Uc,Uz]);(repeat((with_reducible apply wl_pass2);rfl;rfl;((simp only[ev,Ue,Uf]);rfl);rfl;simp only[Uc,Uz])))|((with_reducible apply wl_pick);((simp only[ev,Ue,Uf]);rfl);((simp only[cond_true,cond_false,ev,Ue,Uf]);rfl);(with_reducible exact QX);simp only[Uc,Uz])|(go_big_may;(first|((with_reducible apply Zb hs);exact Ii;rfl;(with_reducible exact Qh);rfl;rfl;simp only[Uc,Uz])|((with_reducible apply Qy hs);exact Ii;rfl;(with_reducible exact Qh);rfl;rfl;simp only[Uc,Uz])|((with_reducible apply ZN hs);exact Ii;rfl;rfl;(with_reducible repeat first|exact Qh|apply Qk);rfl;rfl;rfl;rfl;clear hs;intro w hs)|((with_reducible apply Zt hs);rfl;rfl;rfl;clear hs;intro w b hs;simp only[Uc,Uz])|(go_at_call 18;(refine(hFit.out).at hs (by with_reducible repeat first|exact Qh|apply Qk) ?_;clear hs;intro v w hs;(try simp only[Em,Ma]at hs));(simp only[ZG,Ma,Zz]at hs);(obtain⟨vm,⟨rfl,hRd⟩,hs⟩:=hs);(obtain⟨am,cm,rfl⟩:=hRd.len);(simp only[List.length_map]at hRd hs);(have hRd:=Lh hRd))|(go_at_call 19;((refine(hW.out).at hs (by (focus((repeat(with_reducible exact Qn));done))) ?_);clear hs;intro w hs;(try simp only[Em,Ma]at hs)))))|go_guarded|go_step|(dsimp only)))
  go_ret
  exact⟨rfl,by (with_reducible apply Sat.fin hs;repeat first|exact Ql|exact Qh|apply Qb|apply Qk)⟩
 by_cases h2:(M.length:Int)+(N:Int)>65536
 ·have d0:decide ((t:Int)<0)=false:=by simp
  have d1:decide ((t:Int)≥C.T)=false:=by simpa using h1
  have d2:decide ((M.length:Int)+(N:Int)>65536)=true:=by simpa using h2
  have w1:wrap64 ((M.length:Int)+(N:Int))=(M.length:Int)+(N:Int):=by unfold wrap64;omega
  clear h0 h1 h2 hN hok s1 s2 hl
  go_enter Tryz.func7,Tryz.ntmps7
  (repeat'(first|((with_reducible apply wl_pick);((simp only[ev,Ue,Uf]);rfl);((simp only[cond_true,cond_false,ev,Ue,Uf]);rfl);(with_reducible exact QX);simp only[Uc,Uz])|(go_big_may;(first|((with_reducible apply Zb hs);exact Ii;rfl;(with_reducible exact Qh);rfl;rfl;simp only[Uc,Uz])|((with_reducible apply Qy hs);exact Ii;rfl;(with_reducible exact Qh);rfl;rfl;simp only[Uc,Uz])|((with_reducible apply ZN hs);exact Ii;rfl;rfl;(with_reducible repeat first|exact Qh|apply Qk);rfl;rfl;rfl;rfl;clear hs;intro w hs)|((with_reducible apply Zt hs);rfl;rfl;rfl;clear hs;intro w b hs;simp only[Uc,Uz])|(go_at_call 18;(refine(hFit.out).at hs (by with_reducible repeat first|exact Qh|apply Qk) ?_;clear hs;intro v w hs;(try simp only[Em,Ma]at hs));(simp only[ZG,Ma,Zz]at hs);(obtain⟨vm,⟨rfl,hRd⟩,hs⟩:=hs);(obtain⟨am,cm,rfl⟩:=hRd.len);(simp only[List.length_map]at hRd hs);(have hRd:=Lh hRd))|(go_at_call 19;((refine(hW.out).at hs (by (focus((repeat(with_reducible exact Qn));done))) ?_);clear hs;intro w hs;(try simp only[Em,Ma]at hs)))|(go_at_call 20;((refine(hSo.out).at hs (by (focus((repeat(with_reducible exact Qn));done))) ?_);clear hs;intro w hs;(try simp only[Em,Ma]at hs)))))|go_guarded|go_step|(dsimp only)))
  go_ret
  exact⟨rfl,by (with_reducible apply Sat.fin hs;repeat first|exact Ql|exact Qh|apply Qb|apply Qk)⟩
 have d0:decide ((t:Int)<0)=false:=by simp
 have d1:decide ((t:Int)≥C.T)=false:=by simpa using h1
 have d2:decide ((M.length:Int)+(N:Int)>65536)=false:=by simpa using h2
 have w1:wrap64 ((M.length:Int)+(N:Int))=(M.length:Int)+(N:Int):=by unfold wrap64;omega
 have hBd:=solo_bd hok (listed_b hok).1 hN.symm
 have hLen2:(M++List.replicate N (⟨(t:Int),0,0,0⟩:Mv)).length≤65536:=by simp;omega
 have hP:=Lh (fun v=>does_sl (E:=90) (v:=v) (fun A hA=>play_runW (A:=A) hok (show(t:Int)<C.T by omega) hLen2 hBd v hA))
 have hSt:=Lh (fun v=>law_steps v M (t:Int) N (by omega) (by omega))
 have hone:=Lh (show ∀c∈M.map Mv.e,c.all Value.oneCell'=true by intro c hc;obtain⟨m,_,rfl⟩:=List.mem_map.1 hc;rfl)
 have hML:(M.map Mv.e).length≤4294967296:=by simp;omega
 clear hBd
 clear h0 h1 h2 hN hok s1 s2 hLen2
 go_enter Tryz.func7,Tryz.ntmps7
 (repeat'(first|((with_reducible apply wl_pick);((simp only[ev,Ue,Uf]);rfl);((simp only[cond_true,cond_false,ev,Ue,Uf]);rfl);(with_reducible exact QX);simp only[Uc,Uz])|(go_big_may;(first|(with_reducible first|apply NQ.mk|apply EQ.mk|exact Zg|apply Zj)|((with_reducible apply Zi);rfl;rfl)|((with_reducible refine Zn ?_ ?_);focus((with_reducible apply ZI);rfl;rfl))|(show Qd _ _ _;rfl)|((with_reducible apply Zb hs);exact Ii;rfl;(with_reducible exact Qh);rfl;rfl;simp only[Uc,Uz])|((with_reducible apply Qy hs);exact Ii;rfl;(with_reducible repeat first|exact Qh|apply Qk);rfl;rfl;simp only[Uc,Uz])|((with_reducible apply ZN hs);exact Ii;rfl;rfl;(with_reducible repeat first|exact Qh|apply Qk);rfl;rfl;rfl;rfl;clear hs;intro w hs)|((with_reducible apply Zw hs);exact Ii;rfl;clear hs;intro w b hs;simp only[Uc,Uz])|((with_reducible apply Zt hs);rfl;rfl;rfl;clear hs;intro w b hs;simp only[Uc,Uz])|((with_reducible apply ZS hs);exact Ii;rfl;(with_reducible repeat first|exact Qh|apply Qk);rfl;simp only[Uc,Uz])|(go_at_call 18;(refine(hFit.out).at hs (by with_reducible repeat first|exact Qh|apply Qk) ?_;clear hs;intro v w hs;(try simp only[Em,Ma]at hs));(simp only[ZG,Ma,Zz]at hs);(obtain⟨vm,⟨rfl,hRd⟩,hs⟩:=hs);(obtain⟨am,cm,rfl⟩:=hRd.len);(simp only[List.length_map]at hRd hs);(have hRd:=Lh hRd))|(go_at_call 19;((refine(hW.out).at hs (by (focus((repeat(with_reducible exact Qn));done))) ?_);clear hs;intro w hs;(try simp only[Em,Ma]at hs)))|(go_at_call 20;((refine(hSo.out).at hs (by (focus((repeat(with_reducible exact Qn));done))) ?_);clear hs;intro w hs;(try simp only[Em,Ma]at hs)))|((with_reducible apply wl_app0 hs hRd.out);exact Ii;exact Ii;exact Vb rfl;(exact hone.out);rfl;rfl;(with_reducible repeat first|exact Qh|apply Qk);exact hML;exact Vb rfl;rfl;clear hs;intro w v hs;simp only[Uc,Uz])|(go_at_call 22;((refine((hSt.out _)).at hs (by (with_reducible repeat first|exact Qh|apply Qk)) ?_);clear hs;intro v w hs;(try simp only[Em,Ma]at hs)))|(go_at_call 21;((refine((hP.out _)).at hs (by (with_reducible repeat first|exact Qh|apply Qk)) ?_);clear hs;intro v w hs;(try simp only[Em,Ma]at hs));(unfold RunW at hs);(simp only[ZG,Ma,Zz]at hs);(obtain⟨cs,lg,sh,ws,p1,p2,p3,p4,⟨rfl,hE,hcl⟩,hs⟩:=hs);(have hE:=Lh hE);(obtain⟨a1,c1,rfl⟩:=QY (hs.pull (A:=sl 59 9 _ p1) (by (with_reducible exact Qh))));(obtain⟨a2,c2,rfl⟩:=QY (hs.pull (A:=sl 87 7 _ p2) (by (with_reducible repeat first|exact Qh|apply Qk))));(obtain⟨a3,c3,rfl⟩:=QY (hs.pull (A:=sl 102 5 _ p3) (by (with_reducible repeat first|exact Qh|apply Qk))));(obtain⟨a4,c4,rfl⟩:=QY (hs.pull (A:=sl 79 1 _ p4) (by (with_reducible repeat first|exact Qh|apply Qk))));(simp only[List.length_map]at hs ⊢))|(first|((with_reducible refine plt_leaf ?_);(try simp only[Yi,Yj]))|((with_reducible refine plt_one ?_);(try simp only[Yi,Yj]))|((with_reducible refine plt_two ?_);(try simp only[Yi,Yj]))|((with_reducible apply te_eff);rfl)|(with_reducible refine Two.mk ?_ ?_))|((with_reducible refine wp_tree_sat (id:=6) (.two [0,1,3,4] 2 [0,3,4] (.two [] 5 [0,3] (.two [] 6 [0] (.two [] 7 [] (.one [8,9,10] 11 [0,1,3,4,8,9,10] (.one [] 12 [10] (.leaf [13]))) 11 [0,1,3,4] (.one [] 7 [] (.one [8,9,10] 12 [10] (.leaf [13])))) 11 [0,1,3,4] (.one [] 6 [0] (.one [] 7 [] (.one [8,9,10] 12 [10] (.leaf [13]))))) 11 [0,1,3,4] (.one [] 5 [0,3] (.one [] 6 [0] (.one [] 7 [] (.one [8,9,10] 12 [10] (.leaf [13])))))) 11 [0,1,3,4] (.one [] 2 [0,3,4] (.one [] 5 [0,3] (.one [] 6 [0] (.one [] 7 [] (.one [8,9,10] 12 [10] (.leaf [13]))))))) hs rfl ?_ ?_);kernel_rfl;clear hs;intro w hs)))|go_guarded|go_step|(dsimp only)))
 all_goals(
  go_loopw [10,51] (fun _ q wr=>∃k:Nat,k≤cs.length∧q=.int .i64 (k:Int)∧Sat O wr (sl 59 9 (cs.map Cll.e) (.slice a1 cs.length c1)*(A*F))) (fun _ q _=>cs.length+1-(intOf q).toNat)
  case atStart=>exact⟨0,by omega,rfl,by (with_reducible apply Sat.fin hs;repeat first|exact Ql|exact Qh|apply Qb|apply Qk)⟩
  case round=>
   obtain⟨k,k1,rfl,hs⟩:=hrel
   by_cases hkr:k=cs.length
   ·subst hkr
    have hlt:decide ((cs.length:Int)<(cs.length:Int))=false:=by simp
    (repeat'(go_step))
    go_ret
    exact⟨rfl,by (with_reducible apply Sat.fin hs;repeat first|exact Ql|exact Qh|apply Qb|apply Qk)⟩
   ·have hlt:decide ((k:Int)<(cs.length:Int))=true:=by simp;omega
    have hlt2:decide (k<cs.length)=true:=by simp;omega
    have hln:k<(cs.map Cll.e).length:=by simp;omega
    obtain⟨x,hx⟩:∃x,cs[k]? = some x:=⟨_,Yd (by omega)⟩
    have hxe:=hE.out x (Yc hx)
    obtain⟨x1,x2,x3,x4,x5,x6,x7,x8,x9⟩:=x
    simp only[]at hxe
    have hw:wrap64 ((k:Int)+1)=(k:Int)+1:=by unfold wrap64;omega
    have hgv:(cs.map Cll.e)[k]? = some (Cll.e ⟨x1,x2,x3,x4,x5,x6,x7,x8,x9⟩):=by rw[Ym,hx];rfl
    have hk2:=Lh (show k+1≤cs.length by omega)
    by_cases hxt:x1=(t:Int)
    ·have e1:(x1==(t:Int))=true:=by simpa using hxt
     have e2:decide (x6<0)=false:=by have:=hxe hxt;simp;omega
     clear hxe hxt hx hkr
     (repeat'(first|((with_reducible apply wl_pick);((simp only[ev,Ue,Uf]);rfl);((simp only[cond_true,cond_false,ev,Ue,Uf]);rfl);(with_reducible exact QX);simp only[Uc,Uz])|(go_big_may;(first|((with_reducible apply Zb hs);exact Ii;rfl;(with_reducible exact Qh);rfl;rfl;simp only[Uc,Uz])|((with_reducible apply ZN hs);exact Ii;rfl;rfl;(with_reducible exact Qh);rfl;rfl;rfl;rfl;clear hs;intro w hs)|((with_reducible apply Zw hs);exact Ii;rfl;clear hs;intro w b hs;simp only[Uc,Uz])|((with_reducible apply wl_ldSN (k:=0) hs);exact Ii;rfl;assumption;(with_reducible exact Qh);(exact(Nat.add_zero _).symm);(assumption);exact Vb rfl;rfl;rfl;simp only[Uc,Uz])|((with_reducible apply Qe hs);exact Ii;exact Ii;rfl;rfl;(with_reducible exact Qh);rfl;(assumption);rfl;intro b off hat;simp only[Uc,Uz])))|go_guarded|go_step))
     go_roundw
     case rel=>exact⟨k+1,hk2.out,by simp,by (with_reducible apply Sat.fin hs;repeat first|exact Ql|exact Qh|apply Qb|apply Qk)⟩
     case measure=>have:=hk2.out;simp[intOf];omega
    ·have e1:(x1==(t:Int))=false:=by simpa using hxt
     clear hxe hxt hx hkr
     (repeat'(first|(((with_reducible apply wl_pass2);rfl;rfl;((simp only[ev,Ue,Uf]);rfl);rfl;simp only[Uc,Uz]);(repeat((with_reducible apply wl_pass2);rfl;rfl;((simp only[ev,Ue,Uf]);rfl);rfl;simp only[Uc,Uz])))|((with_reducible apply wl_pick);((simp only[ev,Ue,Uf]);rfl);((simp only[cond_true,cond_false,ev,Ue,Uf]);rfl);(with_reducible exact QX);simp only[Uc,Uz])|(go_big_may;(first|((with_reducible apply Zb hs);exact Ii;rfl;(with_reducible exact Qh);rfl;rfl;simp only[Uc,Uz])|((with_reducible apply ZN hs);exact Ii;rfl;rfl;(with_reducible exact Qh);rfl;rfl;rfl;rfl;clear hs;intro w hs)|((with_reducible apply Zw hs);exact Ii;rfl;clear hs;intro w b hs;simp only[Uc,Uz])|((with_reducible apply wl_ldSN (k:=0) hs);exact Ii;rfl;assumption;(with_reducible exact Qh);(exact(Nat.add_zero _).symm);(assumption);exact Vb rfl;rfl;rfl;simp only[Uc,Uz])|((with_reducible apply Qe hs);exact Ii;exact Ii;rfl;rfl;(with_reducible exact Qh);rfl;(assumption);rfl;intro b off hat;simp only[Uc,Uz])))|go_step))
     go_roundw
     case rel=>exact⟨k+1,hk2.out,by simp,by (with_reducible apply Sat.fin hs;repeat first|exact Ql|exact Qh|apply Qb|apply Qk)⟩
     case measure=>have:=hk2.out;simp[intOf];omega)
end Go.Proofs.YtefjbdajgakgpaaGreat
