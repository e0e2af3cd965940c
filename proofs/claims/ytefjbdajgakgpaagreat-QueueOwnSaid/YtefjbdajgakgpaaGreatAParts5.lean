/-
  The arena's parts: flushing; giving, whole.
-/
import Derived.Test.YtefjbdajgakgpaaGreatAParts4
set_option linter.all false
namespace Go.Proofs.YtefjbdajgakgpaaGreat
open Go.RowKit Hp
set_option maxRecDepth 100000
set_option maxHeartbeats 1000000
attribute [local irreducible] Go.Calls
def Zr (a:Are)(m:Mch)(p:Psh):Bool×Are×Mch×Psh:=
 if a.c.Ca≤((a.caches.getD p.thread.toNat []).length:Int) then (false,a,m,p)
 else (true,{ a with caches:=a.caches.set p.thread.toNat (a.caches.getD p.thread.toNat []++[p.slot]) }.shift p.slot.toNat m.thread 1,m.shift p.slot (a.slots.getD p.slot.toNat ⟨0,0⟩).state 1,{ p with at_:=0 })
theorem give_ready (g b d bx bm:Nat)(E:TypeId)(a:Are)(m:Mch)(p:Psh)(t n:Nat)(x:List Int)(ht:p.thread=(t:Int))(hn:p.slot=(n:Int))(hx:a.caches[t]? = some x)(hsn:n<a.slots.length)(hp:p.at_=1)(hl:m.shifts.length<4294967296)(hxl:x.length<4294967296) :
  Zh Tryz.prog 182 #[.pointer (some ⟨g,0,none⟩),.pointer (some ⟨d,0,none⟩)] (PshR g b E p*(AreR b a*DkR d bx bm m))
   (.bool (Zr a m p).1) (PshR g b E (Zr a m p).2.2.2*(AreR b (Zr a m p).2.1*DkR d bx bm (Zr a m p).2.2.1)):=by
 have hxd:a.caches.getD p.thread.toNat []=x:=by simp[Yb,hx,ht]
 by_cases hf:a.c.Ca≤(x.length:Int)
 ·have e:Zr a m p=(false,a,m,p):=by unfold Zr;rw[hxd,if_pos hf]
  rw[e]
  exact give_ready_full g b d bx bm E a m p t x ht hx hp hf
 ·have e:Zr a m p=(true,{ a with caches:=a.caches.set t (x++[p.slot]) }.shift n m.thread 1,m.shift n (a.slots.getD n ⟨0,0⟩).state 1,{ p with at_:=0 }):=by
   unfold Zr;rw[hxd,if_neg hf,ht,hn];rfl
  rw[e]
  exact give_ready_room g b d bx bm E a m p t n _ x ht hn hx (by simp[hsn]) hp hf hl hxl
theorem give_step (g b d bx bm:Nat)(a:Are)(m:Mch)(p:Psh)(h:PushOk a m p) :
  Zh Tryz.prog 180 #[.pointer (some ⟨g,0,none⟩),.pointer (some ⟨d,0,none⟩)] (PshR g b 292 p*(AreR b a*DkR d bx bm m))
   (.bool (Zi a m p).1) (PshR g b 292 (Zi a m p).2.2.2*(AreR b (Zi a m p).2.1*DkR d bx bm (Zi a m p).2.2.1)):=by
 intro O w F hs
 simp only[Ma]at hs
 have hP:=push_step g b d bx bm 292 a m p h
 have h0:(p.at_==0)=false:=by have:=h.at0;simp;omega
 unfold PshR at hs hP
 generalize Zi a m p=r at hP ⊢
 obtain⟨b1,a1,m1,p1⟩:=r
 have HP:=Lh hP;clear hP h
 go_enter Tryz.func180,Tryz.ntmps180
 go_wp2_with (first|((with_reducible apply Za hs);exact Ii;rfl;(with_reducible exact Qh);rfl;rfl;(simp only[Uc,Uz]))|(go_at_call 183;((refine(HP.out).at hs (by (focus with_reducible (repeat first|exact Qh|apply Qb);done)) ?_);clear hs;intro w hs;(try simp only[Em,Ma]at hs))))
 (go_ret)
 refine⟨rfl,?_⟩
 unfold PshR
 simp only[Ma]
 ((with_reducible apply Sat.fin hs);(with_reducible exact Ql))
theorem flush_again (g b:Nat)(a:Are)(p:Psh)(n:Nat)(x:List Int)(z:Int)(ht:p.thread=(n:Int))(hx:a.caches[n]? = some x)(hz:x[x.length-1]? = some z)(hxl:x.length<4294967296) :
  Zh Tryz.prog 193 #[.pointer (some ⟨g,0,none⟩)] (PshR g b 296 p*AreR b a) (.tuple #[]) (PshR g b 296 { p with slot:=z,at_:=1 }*AreR b a):=by
 intro O w F hs
 simp only[Ma]at hs
 obtain⟨ps,pa,ph,pt_⟩:=p
 simp only[]at ht hs
 subst ht
 unfold PshR at hs
 have hlt:=(List.getElem?_eq_some_iff.1 hx).1
 have hzl:=(List.getElem?_eq_some_iff.1 hz).1
 have hs:=hs.pull (A:=AreR b a) (by (with_reducible repeat first|exact Qh|apply Qk))
 (obtain⟨vas,vac,us,u,hus,hu,hs⟩:=areT hs hx)
 have hltu:n<us.length:=by omega
 have hpos:0<x.length:=by omega
 have hz2:x[((x.length:Int)-1).toNat]? = some z:=by rw[show((x.length:Int)-1).toNat=x.length-1 by omega];exact hz
 clear hz hzl
 go_enter Tryz.func193,Tryz.ntmps193
 go_wp2_with (first|(first|(first|(with_reducible refine NQ.mk ?_)|((with_reducible apply Zd);rfl;rfl)|(with_reducible refine Ze ?_))|((with_reducible apply Za hs);exact Ii;rfl;(with_reducible repeat first|exact Qh|apply Qk);rfl;rfl;(simp only[Uc,Uz]))|((with_reducible apply Zt hs);exact Ii;rfl;rfl;(with_reducible repeat first|exact Qh|apply Qk);(rfl);(exact Vb rfl);rfl;clear hs;intro w hs;simp only[Yg,Uc,Uz]at hs)|((with_reducible apply Zx hs);exact Ii;rfl;assumption;(with_reducible repeat first|exact Qh|apply Qk);rfl;(exact Zc (by assumption));rfl;rfl;(simp only[Uc,Uz]))|((with_reducible apply ZH hs);exact Ii;exact Ii;rfl;rfl;(with_reducible repeat first|exact Qh|apply Qk);(first|rfl|exact(Int.toNat_of_nonneg (by omega)).symm);(simp only[Wm,Ws,Wa,Wc,Wn,Wr]at *;omega);rfl;intro b off hat;(simp only[Uc,Uz]))|((with_reducible apply Zs hs);exact Ii;rfl;(with_reducible repeat first|exact Qh|apply Qk);rfl;(simp only[Uc,Uz])))|((with_reducible refine Wp (id:=0) (Paz (Pbz [.neu 10,.neu 11,.neu 12,.neu 13,.neu 14])) hs rfl ?_ ?_);kernel_rfl;clear hs;intro w hs))
 (go_end0)
 refine⟨rfl,?_⟩
 (replace hs:=areT_back hus hu hx (hs.fin (by (with_reducible repeat first|exact Ql|exact Qh|apply Qb|apply Qk))))
 unfold PshR
 simp only[Ma]
 ((with_reducible apply Sat.fin hs);(with_reducible repeat first|exact Ql|exact Qh|apply Qb|apply Qk))
def QG (a:Are)(p:Psh):Bool×Psh:=
 let x:=a.caches.getD p.thread.toNat []
 if x.length=0 then (true,p) else (false,{ p with slot:=x.getD (x.length-1) 0,at_:=1 })
theorem flush_ready (g b:Nat)(dv:Value)(a:Are)(p:Psh)(n:Nat)(x:List Int)(ht:p.thread=(n:Int))(hx:a.caches[n]? = some x)(hxl:x.length<4294967296) :
  Zh Tryz.prog 192 #[.pointer (some ⟨g,0,none⟩),dv] (PshR g b 296 p*AreR b a) (.bool (QG a p).1) (PshR g b 296 (QG a p).2*AreR b a):=by
 intro O w F hs
 simp only[Ma]at hs
 obtain⟨ps,pa,ph,pt_⟩:=p
 simp only[]at ht hs
 subst ht
 have hlt:=(List.getElem?_eq_some_iff.1 hx).1
 have hT:=Lh (arena_thread b a n x hx)
 have hxd:a.caches.getD n []=x:=by simp[Yb,hx]
 by_cases h0:x.length=0
 ·have e:QG a ⟨ps,pa,ph,n⟩=(true,⟨ps,pa,ph,n⟩):=by unfold QG;simp only[Yo,hxd,h0,if_true]
  rw[e]
  have h0':((x.length:Int)==0)=true:=by simp;exact List.length_eq_zero_iff.1 h0
  unfold PshR at hs
  clear hxd h0 e
  go_enter Tryz.func192,Tryz.ntmps192
  go_wp2_with (first|(first|(first|(with_reducible refine NQ.mk ?_)|((with_reducible apply Zd);rfl;rfl)|((with_reducible apply Zm);rfl)|(with_reducible refine EQ.mk ?_ ?_)|(with_reducible exact Zf)|(with_reducible refine Ze ?_))|((with_reducible apply Za hs);exact Ii;rfl;(with_reducible repeat first|exact Qh|apply Qk);rfl;rfl;(simp only[Uc,Uz]))|((with_reducible apply Zx hs);exact Ii;rfl;assumption;(with_reducible repeat first|exact Qh|apply Qk);rfl;(exact Zc (by assumption));rfl;rfl;(simp only[Uc,Uz]))|((with_reducible apply ZH hs);exact Ii;exact Ii;rfl;rfl;(with_reducible repeat first|exact Qh|apply Qk);(rfl);(simp only[Wm,Ws,Wa,Wc,Wn,Wr]at *;omega);rfl;intro b off hat;(simp only[Uc,Uz]))|((with_reducible apply Zs hs);exact Ii;rfl;(with_reducible repeat first|exact Qh|apply Qk);rfl;(simp only[Uc,Uz])))|(go_at_call 151;((refine(hT.out).at hs (by (with_reducible repeat first|exact Qh|apply Qk)) ?_);clear hs;intro w hs;(try simp only[Em,Ma]at hs));(obtain⟨vas,vac,us,u,hus,hu,hs⟩:=areT hs hx);(have hltu:n<us.length:=by omega))|((with_reducible refine Wp (id:=1) (Paz (Pbz [.neu 10,.neu 11,.eff 12 [],.neu 13,.neu 14,.neu 15,.neu 16,.neu 17,.neu 18,.neu 19,.neu 20,.neu 21,.neu 22,.neu 23,.neu 24,.neu 25,.neu 26,.neu 27,.neu 28,.neu 29,.neu 30,.neu 31,.neu 32])) hs rfl ?_ ?_);kernel_rfl;clear hs;intro w hs))
  (go_ret)
  refine⟨rfl,?_⟩
  (replace hs:=areT_back hus hu hx (hs.fin (by (with_reducible exact Ql))))
  unfold PshR
  simp only[Ma]
  ((with_reducible apply Sat.fin hs);(with_reducible repeat first|exact Ql|exact Qh|apply Qb|apply Qk))
 ·have hlen:x.length-1<x.length:=by omega
  obtain⟨v,hv⟩:∃v,x[x.length-1]? = some v:=⟨_,Yd hlen⟩
  have hvd:x.getD (x.length-1) 0=v:=by rw[Yb,hv];rfl
  have e:QG a ⟨ps,pa,ph,n⟩=(false,⟨v,1,ph,n⟩):=by unfold QG;simp only[Yo,hxd,h0,if_false,hvd]
  rw[e]
  have h0':((x.length:Int)==0)=false:=by simp;intro e;simp[e]at h0
  have hA:=flush_again g b a ⟨ps,pa,ph,n⟩ n x v rfl hx hv hxl
  unfold PshR at hs hA
  have HA:=Lh hA;clear hA
  clear hxd h0 e hvd hv
  go_enter Tryz.func192,Tryz.ntmps192
  go_wp2_with (first|(first|(first|(with_reducible refine NQ.mk ?_)|((with_reducible apply Zd);rfl;rfl)|((with_reducible apply Zm);rfl)|(with_reducible refine EQ.mk ?_ ?_)|(with_reducible exact Zf)|(with_reducible refine Ze ?_))|((with_reducible apply Za hs);exact Ii;rfl;(with_reducible repeat first|exact Qh|apply Qk);rfl;rfl;(simp only[Uc,Uz]))|((with_reducible apply Zx hs);exact Ii;rfl;assumption;(with_reducible repeat first|exact Qh|apply Qk);rfl;(exact Zc (by assumption));rfl;rfl;(simp only[Uc,Uz]))|((with_reducible apply ZH hs);exact Ii;exact Ii;rfl;rfl;(with_reducible repeat first|exact Qh|apply Qk);(rfl);(simp only[Wm,Ws,Wa,Wc,Wn,Wr]at *;omega);rfl;intro b off hat;(simp only[Uc,Uz]))|((with_reducible apply Zs hs);exact Ii;rfl;(with_reducible repeat first|exact Qh|apply Qk);rfl;(simp only[Uc,Uz])))|(go_at_call 151;((refine(hT.out).at hs (by (with_reducible repeat first|exact Qh|apply Qk)) ?_);clear hs;intro w hs;(try simp only[Em,Ma]at hs));(obtain⟨vas,vac,us,u,hus,hu,hs⟩:=areT hs hx);(have hltu:n<us.length:=by omega))|(go_at_call 193;(replace hs:=areT_back hus hu hx (hs.fin (by (with_reducible exact Ql))));((refine(HA.out).at hs (by (with_reducible repeat first|exact Qh|apply Qb|apply Qk)) ?_);clear hs;intro w hs;(try simp only[Em,Ma]at hs)))|((with_reducible refine Wp (id:=1) (Paz (Pbz [.neu 10,.neu 11,.eff 12 [],.neu 13,.neu 14,.neu 15,.neu 16,.neu 17,.neu 18,.neu 19,.neu 20,.neu 21,.neu 22,.neu 23,.neu 24,.neu 25,.neu 26,.neu 27,.neu 28,.neu 29,.neu 30,.neu 31,.neu 32])) hs rfl ?_ ?_);kernel_rfl;clear hs;intro w hs))
  (go_ret)
  refine⟨rfl,?_⟩
  unfold PshR
  simp only[Ma]
  ((with_reducible apply Sat.fin hs);(with_reducible exact Ql))
def ZF (a:Are)(m:Mch)(p:Psh):Bool×Are×Mch×Psh:=
 if (Zi a m p).1=false then Zi a m p else
 let x:=a.caches.getD p.thread.toNat []
 let y:=x.take (x.length-1)
 let a':={ (Zi a m p).2.1 with caches:=a.caches.set p.thread.toNat y }
 if x.length=1 then (true,a',(Zi a m p).2.2.1,(Zi a m p).2.2.2)
 else (false,a',(Zi a m p).2.2.1,{ (Zi a m p).2.2.2 with slot:=y.getD (y.length-1) 0,at_:=1 })
theorem pushStep_caches (a:Are)(m:Mch)(p:Psh):(Zi a m p).2.1.caches=a.caches:=by
 unfold Zi;split
 ·rfl
 ·split
  ·rfl
  ·simp only[];split<;>rfl
theorem pushStep_thread (a:Are)(m:Mch)(p:Psh):(Zi a m p).2.2.2.thread=p.thread:=by
 unfold Zi;split
 ·rfl
 ·split
  ·rfl
  ·simp only[];split<;>rfl
theorem flush_step (g b d bx bm:Nat)(a:Are)(m:Mch)(p:Psh)(h:PushOk a m p)(n:Nat)(x:List Int)(ht:p.thread=(n:Int))(hx:a.caches[n]? = some x)(hxl:x.length<4294967296)(hpos:0<x.length) :
  Zh Tryz.prog 190 #[.pointer (some ⟨g,0,none⟩),.pointer (some ⟨d,0,none⟩)] (PshR g b 296 p*(AreR b a*DkR d bx bm m))
   (.bool (ZF a m p).1) (PshR g b 296 (ZF a m p).2.2.2*(AreR b (ZF a m p).2.1*DkR d bx bm (ZF a m p).2.2.1)):=by
 intro O w F hs
 simp only[Ma]at hs
 have hP:=push_step g b d bx bm 296 a m p h
 have h0:(p.at_==0)=false:=by have:=h.at0;simp;omega
 have hcs:=pushStep_caches a m p
 have hth:=pushStep_thread a m p
 have hxd:a.caches.getD p.thread.toNat []=x:=by simp[Yb,hx,ht]
 have hlt:=(List.getElem?_eq_some_iff.1 hx).1
 unfold ZF
 simp only[hxd]
 unfold PshR at hs hP
 generalize Zi a m p=r at hP hcs hth ⊢
 obtain⟨b1,a1,m1,p1⟩:=r
 simp only[]at hP hcs hth ⊢
 have HP:=Lh hP;clear hP h
 cases b1 with
 | false=>
  simp only[if_true]
  clear hth hcs
  go_enter Tryz.func190,Tryz.ntmps190
  go_wp2_with (first|((with_reducible apply Za hs);exact Ii;rfl;(with_reducible exact Qh);rfl;rfl;(simp only[Uc,Uz]))|(go_at_call 183;((refine(HP.out).at hs (by (focus with_reducible (repeat first|exact Qh|apply Qb);done)) ?_);clear hs;intro w hs;(try simp only[Em,Ma]at hs))))
  (go_ret)
  refine⟨rfl,?_⟩
  unfold PshR
  simp only[Ma]
  ((with_reducible apply Sat.fin hs);(with_reducible exact Ql))
 | true=>
  have hx1:a1.caches[n]? = some x:=by rw[hcs];exact hx
  have hlt1:n<a1.caches.length:=by rw[hcs];exact hlt
  obtain⟨ps,pa,ph,pt_⟩:=p1
  simp only[]at hth HP
  rw[ht]at hth
  subst hth
  rw[ht,Yo,←hcs]
  clear hcs hxd hx hlt ht
  have HE:=Lh (show((x.length:Int)-1).toNat=x.length-1 by omega)
  by_cases h1:x.length=1
  ·have h1':((x.length:Int)==1)=true:=by simp;omega
   have H1:=Lh h1;clear h1
   simp only[if_pos H1.out]
   go_enter Tryz.func190,Tryz.ntmps190
   go_wp2_with (first|(first|(first|(with_reducible refine NQ.mk ?_)|((with_reducible apply Zd);rfl;rfl)|((with_reducible apply Zm);rfl)|(with_reducible refine EQ.mk ?_ ?_)|(with_reducible exact Zf)|(with_reducible refine Ze ?_))|((with_reducible apply Za hs);exact Ii;rfl;(with_reducible repeat first|exact Qh|apply Qk);rfl;rfl;(simp only[Uc,Uz]))|((with_reducible apply Zx hs);exact Ii;rfl;assumption;(with_reducible repeat first|exact Qh|apply Qk);rfl;(exact Zc (by assumption));rfl;rfl;(simp only[Uc,Uz]))|((with_reducible apply Qi hs);exact Ii;rfl;rfl;assumption;(with_reducible repeat first|exact Qh|apply Qk);rfl;(exact Zc (by assumption));(exact Vb rfl);(apply resH_one;apply Qs;apply hs.pull;(with_reducible repeat first|exact Qh|apply Qk));rfl;clear hs;intro w hs)|((with_reducible apply Q7 hs);exact Ii;exact Ii;rfl;assumption;rfl;(with_reducible repeat first|exact Qh|apply Qk);(rfl);(simp only[Wm,Ws,Wa,Wc,Wn,Wr]at *;omega);rfl;(simp only[Uc,Uz]))|((with_reducible apply ZH hs);exact Ii;exact Ii;rfl;rfl;(with_reducible repeat first|exact Qh|apply Qk);(rfl);(simp only[Wm,Ws,Wa,Wc,Wn,Wr]at *;omega);rfl;intro b off hat;(simp only[Uc,Uz]))|((with_reducible apply Zs hs);exact Ii;rfl;(with_reducible repeat first|exact Qh|apply Qk);rfl;(simp only[Uc,Uz]))|((with_reducible apply wl_reH hs);exact Ii;exact Ii;rfl;rfl;(with_reducible repeat first|exact Qh|apply Qk);(exact(Int.toNat_of_nonneg (by omega)).symm);(simp only[Wm,Ws,Wa,Wc,Wn,Wr]at *;omega);rfl;(simp only[Uc,Uz])))|(go_at_call 183;((refine(HP.out).at hs (by (focus with_reducible (repeat first|exact Qh|apply Qb);done)) ?_);clear hs;intro w hs;(try simp only[Em,Ma]at hs));(replace hs:=hs.pull (A:=AreR b a1) (by (with_reducible repeat first|exact Qh|apply Qk)));(obtain⟨vas,vac,us,u,hus,hu,hs⟩:=areT hs hx1);(have hltu:n<us.length:=by omega))|((with_reducible refine Wp (id:=5) (Paz (Pbz [.neu 10,.neu 11,.neu 12,.neu 13,.neu 14])) hs rfl ?_ ?_);kernel_rfl;clear hs;intro w hs)|((with_reducible refine Wp (id:=6) (Paz (Pbz (Pcz [.neu 15,.neu 16,.neu 17,.eff 18 []]))) hs rfl ?_ ?_);kernel_rfl;clear hs;intro w hs))
   rw[HE.out]at hs;(replace hs:=sl_takeH (h:=x.length-1) (hs.pull (A:=sl 3 1 (x.map eI) u) (by (with_reducible repeat first|exact Qh|apply Qk))) (by simp));rw[←List.map_take]at hs;(replace hs:=areT_mk2 (x:=((x.take (x.length-1)))) hus hlt1 (hs.fin (by (focus((repeat(first|with_reducible exact Ql|with_reducible exact Qh|with_reducible apply Qb|exact Qh|with_reducible apply Qk));done)))) (by rfl))
   (go_ret)
   refine⟨rfl,?_⟩
   unfold PshR
   simp only[Ma]
   ((with_reducible apply Sat.fin hs);(with_reducible repeat first|exact Ql|exact Qh|apply Qb|apply Qk))
  ·have h1':((x.length:Int)==1)=false:=by simp;omega
   have hv:(x.take (x.length-1))[(x.take (x.length-1)).length-1]? = some ((x.take (x.length-1)).getD ((x.take (x.length-1)).length-1) 0):=by
    have:(x.take (x.length-1)).length-1<(x.take (x.length-1)).length:=by simp;omega
    rw[Yb,Yd this];rfl
   have hA:=flush_again g b { a1 with caches:=a1.caches.set n (x.take (x.length-1)) } ⟨ps,pa,ph,n⟩ n (x.take (x.length-1)) _ rfl (by simp[hlt1]) hv (by simp;omega)
   have H1:=Lh h1;clear h1 hv
   simp only[if_neg H1.out]
   unfold PshR at hA
   generalize (x.take (x.length-1)).getD ((x.take (x.length-1)).length-1) 0=v at hA ⊢
   have HA:=Lh hA;clear hA
   go_enter Tryz.func190,Tryz.ntmps190
   go_wp2_with (first|(first|(first|(with_reducible refine NQ.mk ?_)|((with_reducible apply Zd);rfl;rfl)|((with_reducible apply Zm);rfl)|(with_reducible refine EQ.mk ?_ ?_)|(with_reducible exact Zf)|(with_reducible refine Ze ?_))|((with_reducible apply Za hs);exact Ii;rfl;(with_reducible repeat first|exact Qh|apply Qk);rfl;rfl;(simp only[Uc,Uz]))|((with_reducible apply Zx hs);exact Ii;rfl;assumption;(with_reducible repeat first|exact Qh|apply Qk);rfl;(exact Zc (by assumption));rfl;rfl;(simp only[Uc,Uz]))|((with_reducible apply Qi hs);exact Ii;rfl;rfl;assumption;(with_reducible repeat first|exact Qh|apply Qk);rfl;(exact Zc (by assumption));(exact Vb rfl);(apply resH_one;apply Qs;apply hs.pull;(with_reducible repeat first|exact Qh|apply Qk));rfl;clear hs;intro w hs)|((with_reducible apply Q7 hs);exact Ii;exact Ii;rfl;assumption;rfl;(with_reducible repeat first|exact Qh|apply Qk);(rfl);(simp only[Wm,Ws,Wa,Wc,Wn,Wr]at *;omega);rfl;(simp only[Uc,Uz]))|((with_reducible apply ZH hs);exact Ii;exact Ii;rfl;rfl;(with_reducible repeat first|exact Qh|apply Qk);(rfl);(simp only[Wm,Ws,Wa,Wc,Wn,Wr]at *;omega);rfl;intro b off hat;(simp only[Uc,Uz]))|((with_reducible apply Zs hs);exact Ii;rfl;(with_reducible repeat first|exact Qh|apply Qk);rfl;(simp only[Uc,Uz]))|((with_reducible apply wl_reH hs);exact Ii;exact Ii;rfl;rfl;(with_reducible repeat first|exact Qh|apply Qk);(exact(Int.toNat_of_nonneg (by omega)).symm);(simp only[Wm,Ws,Wa,Wc,Wn,Wr]at *;omega);rfl;(simp only[Uc,Uz])))|(go_at_call 183;((refine(HP.out).at hs (by (focus with_reducible (repeat first|exact Qh|apply Qb);done)) ?_);clear hs;intro w hs;(try simp only[Em,Ma]at hs));(replace hs:=hs.pull (A:=AreR b a1) (by (with_reducible repeat first|exact Qh|apply Qk)));(obtain⟨vas,vac,us,u,hus,hu,hs⟩:=areT hs hx1);(have hltu:n<us.length:=by omega))|(go_at_call 193;rw[HE.out]at hs;(replace hs:=sl_takeH (h:=x.length-1) (hs.pull (A:=sl 3 1 (x.map eI) u) (by (with_reducible repeat first|exact Qh|apply Qk))) (by simp));rw[←List.map_take]at hs;(replace hs:=areT_mk2 (x:=((x.take (x.length-1)))) hus hlt1 (hs.fin (by (focus((repeat(first|with_reducible exact Ql|with_reducible exact Qh|with_reducible apply Qb|exact Qh|with_reducible apply Qk));done)))) (by rfl));((refine(HA.out).at hs (by (with_reducible repeat first|exact Qh|apply Qb|apply Qk)) ?_);clear hs;intro w hs;(try simp only[Em,Ma]at hs)))|((with_reducible refine Wp (id:=5) (Paz (Pbz [.neu 10,.neu 11,.neu 12,.neu 13,.neu 14])) hs rfl ?_ ?_);kernel_rfl;clear hs;intro w hs)|((with_reducible refine Wp (id:=6) (Paz (Pbz (Pcz [.neu 15,.neu 16,.neu 17,.eff 18 []]))) hs rfl ?_ ?_);kernel_rfl;clear hs;intro w hs))
   (go_ret)
   refine⟨rfl,?_⟩
   unfold PshR
   simp only[Ma]
   ((with_reducible apply Sat.fin hs);(with_reducible exact Ql))
end Go.Proofs.YtefjbdajgakgpaaGreat
