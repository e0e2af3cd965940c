import Derived.Test.YtefjbdajgakgpaaGreatDQueM
set_option linter.all false
namespace Go.Proofs.YtefjbdajgakgpaaGreat
open Go.RowKit Hp
set_option maxRecDepth 100000
set_option maxHeartbeats 1000000
attribute [local irreducible] Go.Calls
def tlw (c:Cfg)(m:Mch):Int:=m.word (adr c 5 0)
theorem QP {c:Cfg}{m m':Mch}(e:m'.mem.words=m.mem.words):tlw c m'=tlw c m:=by unfold tlw Mch.word;rw[e]
theorem tl_nt {c:Cfg}{m m':Mch}(N:Nt (qQ c) m m'):tlw c m'=tlw c m:=N.word _ (fun h=>h.2 rfl)
def quStk (c:Cfg)(m:Mch)(stk:List Int):Zx→List Int
 | .hz _=>stk
 | .put p=>if p.stage=8∧m.word (adr c 13 (p.t-1))=0 then stk++[p.slot] else stk
 | .get p=>if p.stage=10∧m.word (adr c 4 0)=p.h0 then stk.tail else stk
structure KP (stk stk':List Int)(c:Cfg)(n:Int)(Z Y:Int→Nat)(pr:Int→Prop)(h:Haz)(a:Are)(m:Mch)(t:Nat)(r:GR Zx):Prop where
 ex:∃(pr':Int→Prop) (F':List Int),Gd c n Z Y F' (sx stk' pr' c r.2.1.1 r.2.1.2 r.2.2.1) (if r.1=true then [] else kS r.2.2.2) (if r.1=true then [] else kL r.2.2.2)∧Rl Z t (OwW c t (sx stk pr c h a m) m.mem.log r.2.2.1.mem.log) (sx stk pr c h a m) (sx stk' pr' c r.2.1.1 r.2.1.2 r.2.2.1)∧(r.1=false→KD c t (sx stk' pr' c r.2.1.1 r.2.1.2 r.2.2.1) (tlw c r.2.2.1) r.2.2.2)∧QRl (sx stk pr c h a m) (tlw c m) (sx stk' pr' c r.2.1.1 r.2.1.2 r.2.2.1) (tlw c r.2.2.1)∧TlI stk' (tlw c r.2.2.1)
section
variable {c:Cfg}{Lg S N:Nat}{h:Haz}{a:Are}{m m':Mch}
variable {n:Int}{Z Y:Int→Nat}{F stk:List Int}{pr:Int→Prop}{K L:List Int}{t:Nat}{W:Int→Prop}{x:Sx}{tl z:Int}
theorem ln_at {s:Int}(hs0:0≤s)(hs1:s<c.Sl):(mv c m).ln s=m.word (adr c 13 s):=by simp[mv,hs0,hs1]
theorem adr5_lt (hok:c.Ok):((adr c 5 0:Nat):Int)<base c 14:=by
 have e:=ZY hok 5 (Int.le_refl 0)
 obtain⟨q4,q5⟩:=base45 c
 obtain⟨b1,b2,b8,b9,b10,b11,b12,b13,b14,rh,rh2,b3⟩:=Qg hok
 have:=hok.R1
 have:=hok.S1
 omega
theorem adr4_lt (hok:c.Ok):((adr c 4 0:Nat):Int)<base c 14:=by
 have e:=ZY hok 4 (Int.le_refl 0)
 obtain⟨q4,q5⟩:=base45 c
 obtain⟨b1,b2,b8,b9,b10,b11,b12,b13,b14,rh,rh2,b3⟩:=Qg hok
 have:=hok.R1
 have:=hok.S1
 omega
theorem mv_tail (hok:c.Ok)(hw:m'.mem.words=m.mem.words.set (adr c 5 0) z)(hA:adr c 5 0<m.mem.words.length):mv c m'=mv c m:=by
 have e5:=ZY hok 5 (Int.le_refl 0)
 have e4:=ZY hok 4 (Int.le_refl 0)
 obtain⟨q4,q5⟩:=base45 c
 obtain⟨b1,b2,b8,b9,b10,b11,b12,b13,b14,rh,rh2,b3⟩:=Qg hok
 obtain⟨a1,a2,a3,a8,a9,a10,a11,a13⟩:=adrs hok
 have hR:=hok.R1
 have hS:=hok.S1
 have hne:∀j,j≠adr c 5 0→m'.word j=m.word j:=fun j hj=>by rw[Q4 hw hA,if_neg hj]
 unfold mv
 congr 1
 ·exact hne _ (by omega)
 ·exact hne _ (by omega)
 ·funext s;split
  ·rename_i hs;have:=a10 s hs.1;exact hne _ (by omega)
  ·rfl
 ·funext s;split
  ·rename_i hs;have:=a8 s hs.1;exact hne _ (by omega)
  ·rfl
 ·funext s;split
  ·rename_i hs;have:=a9 s hs.1;exact hne _ (by omega)
  ·rfl
 ·funext s;split
  ·rename_i hs;have:=a11 s hs.1;exact hne _ (by omega)
  ·rfl
 ·show m'.word (adr c 4 0)=m.word (adr c 4 0)
  exact hne _ (by omega)
 ·funext s;split
  ·rename_i hs;have:=a13 s hs.1;exact hne _ (by omega)
  ·rfl
theorem tl_adv (G:Gd c n Z Y F x K L)(T:TlI x.stk tl)(hl:x.V.ln (tl-1)=z)(hz:z≠0):∃pre s u,x.stk=pre++[s,u]∧tl=s+1∧z=u+1:=by
 obtain⟨pre,s,post,e,hp,e2⟩:=T
 rw[e2,show s+1-1=s by omega]at hl
 have hk:=G.lk
 rw[e]at hk
 cases post with
 | nil=>exact absurd (hl.symm.trans hk.last) hz
 | cons u post=>
  have:post=[]:=by cases post with
   | nil=>rfl
   | cons _ _=>simp at hp
  subst this
  obtain⟨h1,h2⟩:=hk.next
  exact⟨pre,s,u,e,e2,by omega⟩
theorem TlI.adv {stk:List Int}{pre:List Int}{s u:Int}(e:stk=pre++[s,u])(hz:z=u+1):TlI stk z:=⟨pre++[s],u,[],by rw[e];simp,by simp,hz⟩
theorem TlI.mem {stk:List Int}(T:TlI stk tl):tl-1∈stk:=by
 obtain⟨pre,s,post,e,_,e2⟩:=T
 rw[e,e2,show s+1-1=s by omega]
 simp
theorem hzq_gd (C:Core c Lg S N h a m){jw:Int}(ho:Own c t (sx stk pr c h a m) jw)(z:Int)(G:Gd c n Z Y F (sx stk pr c h a m) K L) :
  ∃pr',Gd c n Z Y F (sx stk pr' c h a (m.store (adr c 9 jw) (m.word (adr c 9 jw)) z)) K L∧Rl Z t (fun j=>j=jw) (sx stk pr c h a m) (sx stk pr' c h a (m.store (adr c 9 jw) (m.word (adr c 9 jw)) z))∧mv c (m.store (adr c 9 jw) (m.word (adr c 9 jw)) z)={ mv c m with hz:=upd (mv c m).hz jw z }:=by
 have hok:=C.ok
 have hb:=Qg hok
 obtain⟨j0,j1⟩:=JD hok ho
 have hA:adr c 9 jw<m.mem.words.length:=C.lt (by have:=ZY hok 9 j0;have:=hb.b10;have:=hb.b11;have:=hb.b12;have:=hb.b13;have:=hb.b14;have:=hok.S1;omega)
 obtain⟨g1,g2⟩:=G.hzd (t:=t) jw z j0 j1
 have e:mv c (m.store (adr c 9 jw) (m.word (adr c 9 jw)) z)={ mv c m with hz:=upd (mv c m).hz jw z }:=mv_hz hok j0 j1 rfl hA
 refine⟨fun j=>if j=jw then 1≤z∧(a.sl (z-1)).state=3 else pr j,?_,?_,e⟩
 ·unfold sx;rw[e];exact g1
 ·unfold sx;rw[e];exact g2
theorem kS_put0 {p:Pt}(h:¬pS p):kS (.put p)=[]:=by simp only[kS];rw[if_neg h]
theorem QW {p:Pt}(h:pS p):kS (.put p)=[p.slot]:=by simp only[kS];rw[if_pos h]
theorem ptd45 {p:Pt}(hs:p.stage=4∨p.stage=5)(o:x.sl p.slot=⟨2,(t:Int)⟩)(v:x.V.val p.slot=p.value%18446744073709551616)(l:x.V.ln p.slot=0):PtD c t x tl p:=
 ⟨fun h=>by omega,fun _=>o,fun _ _=>v,fun _ _ _=>l,fun h=>by omega,fun h=>by omega,fun h=>by omega,fun h=>by omega,fun h=>by omega⟩
theorem ptaken_kd {p:Pt}{i:Nat}{cl:Cll}{se:Sea}{a':Are}{m':Mch}(hk:Zd p.take = -1∨(0≤Zd p.take∧Zd p.take<c.Sl))(hst:p.stage=1)(T:TlI stk (tlw c m))(htl:tlw c m'=tlw c m)
  (G:Gd c n Z Y F (sx stk pr c h a' m') (if 0≤Zd p.take then [Zd p.take] else []) []) (R:Rl Z t (fun _=>False) (sx stk pr c h a m) (sx stk pr c h a' m')) (hs:0≤Zd p.take→a'.sl (Zd p.take)=⟨2,(t:Int)⟩) :
  KP stk stk c n Z Y pr h a m t ((ZV m' i t cl se p).1,(h,a'),(ZV m' i t cl se p).2.1,.put (ZV m' i t cl se p).2.2):=by
 unfold ZV
 split
 ·rename_i h0
  have e:sx stk pr c h a' ((m'.point i cl m'.now).answer t se 4 0)=sx stk pr c h a' m':=ZL rfl
  have e2:tlw c ((m'.point i cl m'.now).answer t se 4 0)=tlw c m:=(QP rfl).trans htl
  rw[if_neg (by omega)]at G
  refine⟨pr,F,?_,?_,fun hf=>(by cases hf),.same rfl e2,by rw[e2];exact T⟩
  ·simp only[if_true,e];exact G
  ·simp only[e];exact R.weaken (fun _ h=>h.elim)
 ·rename_i h0
  rw[if_pos (by omega)]at G
  refine⟨pr,F,?_,R.weaken (fun _ h=>h.elim),fun _=>⟨fun hf=>by simp at hf,fun _=>hs (by omega),fun _ hf=>by simp at hf,fun _ hf=>by simp at hf,fun hf=>by simp at hf,fun hf=>by simp at hf,fun hf=>by simp at hf,fun hf=>by simp at hf,fun hf=>by simp at hf⟩,.same rfl htl,by simp only[];rw[htl];exact T⟩
  simp only[Yn,if_false]
  rw[QW (by unfold pS;simp)]
  exact G
theorem ptd_vac {p:Pt}(h:p.stage=0∨p.stage=10):PtD c t x tl p:=
 ⟨fun h=>by omega,fun h=>by unfold pS at h;omega,fun h=>by unfold pS at h;omega,fun h=>by unfold pS at h;omega,fun h=>by omega,fun h=>by omega,fun h=>by omega,fun h=>by omega,fun h=>by omega⟩
theorem put_rdy {p:Pt}{i:Nat}{cl:Cll}{se:Sea}(C:Core c Lg S N h a m)(ht:(t:Int)<c.T)(hm:m.thread=(t:Int))(hp:p.take=⟨t,1,0,0,0,false⟩)(T:TlI stk (tlw c m))
  (hS0:kS (.put p)=[]) (G:Gd c n Z Y F (sx stk pr c h a m) (kS (.put p)) []):KP stk stk c n Z Y pr h a m t (Q6 (h,a) m i t cl se (.put p)):=by
 rw[hS0]at G
 simp only[Q6]
 unfold ZW
 simp only[hp]
 have hR:=takeReady_gd (t:=t) (W:=fun _=>False) (k:=⟨t,1,0,0,0,false⟩) C rfl ht hm G
 have hTk:=takeReady_core (k:=⟨t,1,0,0,0,false⟩) C (by simp only[];omega) (by simp only[];omega)
 have hwd:(Zf a m ⟨t,1,0,0,0,false⟩).2.2.1.mem.words=m.mem.words:=by unfold Zf;simp only[];split<;>rfl
 generalize Zf a m ⟨t,1,0,0,0,false⟩=r at hR hTk hwd ⊢
 rcases hR with e|⟨e1,e2,e3,e4⟩
 ·cases e
  simp only[Yn,if_false]
  refine⟨pr,F,?_,Rl.refl ..,fun _=>⟨fun _=>⟨fun hf=>absurd rfl hf,fun hf=>by simp at hf⟩,fun hf=>by unfold pS at hf;simp at hf,fun hf=>by unfold pS at hf;simp at hf,fun hf=>by unfold pS at hf;simp at hf,fun hf=>by simp at hf,fun hf=>by simp at hf,fun hf=>by simp at hf,fun hf=>by simp at hf,fun hf=>by simp at hf⟩,.same rfl rfl,T⟩
  simp only[Yn,if_false]
  rw[kS_put0 (by unfold pS;simp)]
  exact G
 ·rcases hTk with e|⟨_,_,q,_⟩
  ·rw[e]at e1;cases e1
  ·simp only[e1,if_true]
   refine ptaken_kd (F:=F) (p:={ p with take:=r.2.2.2,stage:=1,hz:=(qHz h p.thread 0:Int) }) (.inr q) rfl T (QP hwd) ?_ e3 (fun _=>e4)
   rw[if_pos q.1];exact e2
theorem put_kd {p:Pt}{i:Nat}{cl:Cll}{se:Sea}(C:Core c Lg S N h a m)(ht:(t:Int)<c.T)(hm:m.thread=(t:Int))(hu:p.thread=(t:Int))(hus:m.used=false)(hd:0≤h.held.getD t 0)(I:PtI c p)(hn:n<4294967295)(T:TlI stk (tlw c m))
  (G:Gd c n Z Y F (sx stk pr c h a m) (kS (.put p)) []) (D:PtD c t (sx stk pr c h a m) (tlw c m) p):KP stk (quStk c m stk (.put p)) c (n+1) Z Y pr h a m t (Q5 (h,a) m i t cl se (.put p)):=by
 have hok:=C.ok
 obtain rfl:=C.hc
 haveI:=q_qok hok
 obtain⟨r1,_⟩:=C.hget ht
 have hlt:t<h.held.length:=by rw[C.held];omega
 have hh:h.held[t]? = some (h.held.getD t 0):=by rw[Yb,Yd hlt];rfl
 have ho:Own h.c t (sx stk pr h.c h a m) (hz0 h.c t (sx stk pr h.c h a m)):=by
  have:=own_hz0 hok (t:=t) (x:=sx stk pr h.c h a m) ⟨_,hh,hd,r1⟩ (k:=0) (by omega) (by omega)
  rwa [Int.add_zero]at this
 obtain⟨j0,j1⟩:=JD hok ho
 have hpt:p.thread.toNat=t:=by omega
 have hpz:qHz h p.thread 0=adr h.c 9 (hz0 h.c t (sx stk pr h.c h a m)):=by
  unfold qHz adr hz0
  rw[hpt,Int.add_zero];rfl
 have hZ:=hz_q (th:=p.thread) (k:=0) C ht hu hd (by omega) (by omega)
 obtain⟨i1,i2,i3,i4,i5⟩:=I
 obtain⟨d1,d2,d3,d4,d5,d6,d7,d8,d9⟩:=D
 have hk8:¬(p.stage=8∧m.word (adr h.c 13 (p.t-1))=0)→quStk h.c m stk (.put p)=stk:=fun h8=>by simp only[quStk];rw[if_neg h8]
 have eld:∀A u,sx stk pr h.c h a (m.load A u)=sx stk pr h.c h a m:=fun A u=>ZL rfl
 have etl0:∀A u,tlw h.c (m.load A u)=tlw h.c m:=fun A u=>QP rfl
 simp only[Q5]
 unfold Qc
 simp only[]
 by_cases s1:p.stage=1
 ·rw[kS_put0 (by unfold pS;omega)]at G
  rw[hk8 (by omega),if_pos s1]
  have Ev:=evq_nt (evq_take (Q:=qQ h.c) (i:=i) (t:=t) C (i2 s1) hus)
  unfold ptTake
  simp only[]
  obtain⟨⟨F',t1⟩,t2,t3,t4⟩:=take_gd (W:=fun _=>False) (L:=[]) C (i2 s1) hm hn G (d1 s1)
  have hr:=(take_core C (i2 s1)).2.2.1
  have htl:=tl_nt Ev
  simp only[]at htl
  clear Ev
  generalize Zh a m p.take=r at t1 t2 t3 t4 hr htl ⊢
  split
  ·exact ptaken_kd (p:={ p with take:=r.2.2.2 }) hr s1 T htl t1 t2 t4
  ·rename_i hf
   obtain⟨u1,u2⟩:=t3 (by simpa using hf)
   rw[u2,if_neg (by omega)]at t1
   have hnp:¬pS { p with take:=r.2.2.2 }:=by unfold pS;simp only[];omega
   refine⟨pr,F',?_,t2.weaken (fun _ h=>h.elim),fun _=>⟨fun _=>u1,fun hf=>absurd hf hnp,fun hf=>absurd hf hnp,fun hf=>absurd hf hnp,fun hf=>by simp only[s1]at hf;omega,fun hf=>by simp only[s1]at hf;omega,fun hf=>by simp only[s1]at hf;omega,fun hf=>by simp only[s1]at hf;omega,fun hf=>by simp only[s1]at hf;omega⟩,.same rfl htl,by simp only[];rw[htl];exact T⟩
   simp only[Yn,if_false]
   rw[kS_put0 hnp]
   exact t1
 rw[if_neg s1]
 obtain⟨g1,g2⟩:=i3 s1
 by_cases s2:p.stage=2
 ·have hp:pS p:=by unfold pS;omega
  rw[QW hp]at G
  rw[hk8 (by omega),if_pos s2]
  have hsl:a.sl p.slot=⟨2,(t:Int)⟩:=d2 hp
  have hA:=C.lt (adr_lt' hok (r:=11) (.inr ⟨.inr (.inl rfl),rfl⟩) g1 g2)
  obtain⟨G2,R2⟩:=G.value (t:=t) (W:=fun _=>False) (s:=p.slot) (List.mem_cons_self ..) (p.value%18446744073709551616)
  have e:sx stk pr h.c h a (m.store (adr h.c 11 p.slot) (m.word (adr h.c 11 p.slot)) (p.value%18446744073709551616))={ sx stk pr h.c h a m with V:={ (sx stk pr h.c h a m).V with val:=upd (sx stk pr h.c h a m).V.val p.slot (p.value%18446744073709551616) } }:=by
   unfold sx
   rw[mv_val hok g1 g2 (z:=p.value%18446744073709551616) rfl hA]
  have htl:tlw h.c (m.store (adr h.c 11 p.slot) (m.word (adr h.c 11 p.slot)) (p.value%18446744073709551616))=tlw h.c m:=tl_nt (QV (Q:=qQ h.c) _ (val_q hok (.inl rfl) g1) _ _)
  refine⟨pr,F,?_,?_,fun _=>⟨fun hf=>by simp at hf,fun _=>hsl,fun _ _ => ?_,fun _ _ hf=>by simp at hf,fun hf=>by simp at hf,fun hf=>by simp at hf,fun hf=>by simp at hf,fun hf=>by simp at hf,fun hf=>by simp at hf⟩,.same rfl htl,by simp only[];rw[htl];exact T⟩
  ·simp only[Yn,if_false]
   rw[QW (by unfold pS;simp),e]
   exact G2.mono (by omega)
  ·simp only[];rw[e];exact R2.weaken (fun _ h=>h.elim)
  ·simp only[];rw[e];exact Qm ..
 rw[if_neg s2]
 by_cases s3:p.stage=3
 ·have hp:pS p:=by unfold pS;omega
  rw[QW hp]at G
  rw[hk8 (by omega),if_pos s3]
  have hsl:a.sl p.slot=⟨2,(t:Int)⟩:=d2 hp
  have hA:=C.lt (adr_lt' hok (r:=13) (.inr ⟨.inr (.inr rfl),rfl⟩) g1 g2)
  obtain⟨G2,R2⟩:=G.tie (t:=t) (W:=fun _=>False) (s:=p.slot) (List.mem_cons_self ..) (by show(a.sl p.slot).state=2;rw[hsl]) 0
  have e:sx stk pr h.c h a (m.store (adr h.c 13 p.slot) (m.word (adr h.c 13 p.slot)) 0)={ sx stk pr h.c h a m with V:={ (sx stk pr h.c h a m).V with ln:=upd (sx stk pr h.c h a m).V.ln p.slot 0 } }:=by
   unfold sx
   rw[mv_ln hok g1 g2 (z:=0) rfl hA]
  have htl:tlw h.c (m.store (adr h.c 13 p.slot) (m.word (adr h.c 13 p.slot)) 0)=tlw h.c m:=tl_nt (QV (Q:=qQ h.c) _ (val_q hok (.inr rfl) g1) _ _)
  refine⟨pr,F,?_,?_,fun _=>ptd45 (.inl rfl) hsl ?_ ?_,.same rfl htl,by simp only[];rw[htl];exact T⟩
  ·simp only[Yn,if_false]
   rw[QW (by unfold pS;simp),e]
   exact G2.mono (by omega)
  ·simp only[];rw[e];exact R2.weaken (fun _ h=>h.elim)
  ·simp only[];rw[e];exact d3 hp (by omega)
  ·simp only[];rw[e];exact Qm ..
 rw[if_neg s3]
 by_cases s4:p.stage=4
 ·have hp:pS p:=by unfold pS;omega
  rw[QW hp]at G
  rw[hk8 (by omega),if_pos s4]
  refine⟨pr,F,?_,?_,fun _=>ptd45 (.inr rfl) ?_ ?_ ?_,.same rfl (QP rfl),by simp only[];rw[etl0];exact T⟩
  ·simp only[Yn,if_false]
   rw[QW (by unfold pS;simp),eld]
   exact G.mono (by omega)
  ·simp only[];rw[eld];exact Rl.refl ..
  ·simp only[];rw[eld];exact d2 hp
  ·simp only[];rw[eld];exact d3 hp (by omega)
  ·simp only[];rw[eld];exact d4 hp (by omega) (by omega)
 rw[if_neg s4]
 have hT:=i4 (by omega)
 by_cases s5:p.stage=5
 ·have hp:pS p:=by unfold pS;omega
  rw[QW hp]at G
  rw[hk8 (by omega),if_pos s5]
  rw[hpz]at hZ ⊢
  obtain⟨pr',g1',g2',g3'⟩:=hzq_gd (n:=n) (Z:=Z) (Y:=Y) (F:=F) C ho p.t G
  have htl:tlw h.c (m.store (adr h.c 9 (hz0 h.c t (sx stk pr h.c h a m))) (m.word (adr h.c 9 (hz0 h.c t (sx stk pr h.c h a m)))) p.t)=tlw h.c m:=tl_nt (QV (Q:=qQ h.c) _ hZ _ _)
  have hvv:∀s,(mv h.c (m.store (adr h.c 9 (hz0 h.c t (sx stk pr h.c h a m))) (m.word (adr h.c 9 (hz0 h.c t (sx stk pr h.c h a m)))) p.t)).val s=(mv h.c m).val s∧(mv h.c (m.store (adr h.c 9 (hz0 h.c t (sx stk pr h.c h a m))) (m.word (adr h.c 9 (hz0 h.c t (sx stk pr h.c h a m)))) p.t)).ln s=(mv h.c m).ln s:=fun s=>by rw[g3'];exact⟨rfl,rfl⟩
  refine⟨pr',F,?_,g2'.weaken (fun j hj=>by rw[hj];exact⟨ho,_,rfl,rfl,ZY hok 9 j0⟩),fun _=>⟨fun hf=>by simp at hf,fun _=>d2 hp,fun _ _=>(hvv _).1.trans (d3 hp (by omega)),fun _ _ _=>(hvv _).2.trans (d4 hp (by omega) (by omega)),fun _ => ?_,fun hf=>by simp at hf,fun hf=>by simp at hf,fun hf=>by simp at hf,fun hf=>by simp at hf⟩,.same rfl htl,by simp only[];rw[htl];exact T⟩
  ·simp only[Yn,if_false]
   rw[QW (by unfold pS;simp)]
   exact g1'.mono (by omega)
  ·show(mv h.c _).hz _=p.t
   rw[g3']
   exact Qm ..
 rw[if_neg s5]
 by_cases s6:p.stage=6
 ·have hp:pS p:=by unfold pS;omega
  rw[QW hp]at G
  rw[hk8 (by omega),if_pos s6]
  split
  ·rename_i hw
   have hz:=d5 s6
   have hmem:=T.mem
   have htw:tlw h.c m=p.t:=hw
   rw[htw]at hmem
   refine⟨pr,F,?_,?_,fun _=>⟨fun hf=>by simp at hf,fun _ => ?_,fun _ _ => ?_,fun _ _ _ => ?_,fun hf=>by simp at hf,fun _ => ?_,fun _ => ?_,fun hf=>by simp at hf,fun hf=>by simp at hf⟩,.same rfl (QP rfl),by simp only[];rw[etl0];exact T⟩
   ·simp only[Yn,if_false]
    rw[QW (by unfold pS;simp),eld]
    exact G.mono (by omega)
   ·simp only[];rw[eld];exact Rl.refl ..
   ·simp only[];rw[eld];exact d2 hp
   ·simp only[];rw[eld];exact d3 hp (by omega)
   ·simp only[];rw[eld];exact d4 hp (by omega) (by omega)
   ·simp only[]
    rw[eld]
    refine⟨G.pr2 _ j0 j1 (by rw[hz];exact hT.1) ?_,hz⟩
    rw[hz]
    exact G.stK _ hmem
   ·simp only[]
    rw[eld,etl0,htw]
    exact⟨.inl hmem,fun pre post _=>⟨p.t-1,List.mem_cons_self ..,by omega⟩⟩
  ·refine⟨pr,F,?_,?_,fun _=>ptd45 (.inr rfl) ?_ ?_ ?_,.same rfl (QP rfl),by simp only[];rw[etl0];exact T⟩
   ·simp only[Yn,if_false]
    rw[QW (by unfold pS;simp),eld]
    exact G.mono (by omega)
   ·simp only[];rw[eld];exact Rl.refl ..
   ·simp only[];rw[eld];exact d2 hp
   ·simp only[];rw[eld];exact d3 hp (by omega)
   ·simp only[];rw[eld];exact d4 hp (by omega) (by omega)
 rw[if_neg s6]
 by_cases s7:p.stage=7
 ·have hp:pS p:=by unfold pS;omega
  rw[QW hp]at G
  rw[hk8 (by omega),if_pos s7]
  split
  ·refine⟨pr,F,?_,?_,fun _=>⟨fun hf=>by simp at hf,fun _ => ?_,fun _ _ => ?_,fun _ _ _ => ?_,fun hf=>by simp at hf,fun _ => ?_,fun hf=>by simp at hf,fun _ => ?_,fun hf=>by simp at hf⟩,.same rfl (QP rfl),by simp only[];rw[etl0];exact T⟩
   ·simp only[Yn,if_false]
    rw[QW (by unfold pS;simp),eld]
    exact G.mono (by omega)
   ·simp only[];rw[eld];exact Rl.refl ..
   ·simp only[];rw[eld];exact d2 hp
   ·simp only[];rw[eld];exact d3 hp (by omega)
   ·simp only[];rw[eld];exact d4 hp (by omega) (by omega)
   ·simp only[];rw[eld];exact d6 (.inl s7)
   ·simp only[];rw[eld];exact ln_at (by omega) (by omega)
  ·refine⟨pr,F,?_,?_,fun _=>⟨fun hf=>by simp at hf,fun _ => ?_,fun _ _ => ?_,fun _ _ _ => ?_,fun hf=>by simp at hf,fun _ => ?_,fun _ => ?_,fun hf=>by simp at hf,fun hf=>by simp at hf⟩,.same rfl (QP rfl),by simp only[];rw[etl0];exact T⟩
   ·simp only[Yn,if_false]
    rw[QW (by unfold pS;simp),eld]
    exact G.mono (by omega)
   ·simp only[];rw[eld];exact Rl.refl ..
   ·simp only[];rw[eld];exact d2 hp
   ·simp only[];rw[eld];exact d3 hp (by omega)
   ·simp only[];rw[eld];exact d4 hp (by omega) (by omega)
   ·simp only[];rw[eld];exact d6 (.inl s7)
   ·simp only[];rw[eld,etl0];exact d7 (.inl s7)
 rw[if_neg s7]
 by_cases s8:p.stage=8
 ·have hp:pS p:=by unfold pS;omega
  rw[QW hp]at G
  rw[if_pos s8]
  have hsl:a.sl p.slot=⟨2,(t:Int)⟩:=d2 hp
  split
  ·rename_i hw
   have hk:quStk h.c m stk (.put p)=stk++[p.slot]:=by simp only[quStk];rw[if_pos ⟨s8,hw⟩]
   rw[hk]
   obtain⟨q1,q2⟩:=d6 (.inr (.inl s8))
   obtain⟨q3,q4⟩:=d7 (.inr s8)
   have hln:(mv h.c m).ln (p.t-1)=0:=by rw[ln_at (by omega) (by omega)];exact hw
   have hmem:p.t-1∈stk:=q3.resolve_right (fun hf=>hf hln)
   obtain⟨pre,post,hst⟩:=List.append_of_mem hmem
   have hpo:post=[]:=by
    cases post with
    | nil=>rfl
    | cons b post=>
     have hlk:=G.lk
     have hlk:Jt (mv h.c m).ln (mv h.c m).top stk:=hlk
     rw[hst]at hlk
     obtain⟨y1,y2⟩:=hlk.next
     omega
   subst hpo
   have htw:tlw h.c m=p.t:=by
    obtain⟨u,u1,u2⟩:=q4 pre [] hst
    have:u=p.t-1:=by simpa using u1
    omega
   have hpr:∀j,pr j→(mv h.c m).hz j≠p.slot+1:=by
    intro j hj hz
    obtain⟨_,_,p3⟩:=G.pr1 j hj
    have p3:(a.sl ((mv h.c m).hz j-1)).state=3∨(a.sl ((mv h.c m).hz j-1)).state=4∨(a.sl ((mv h.c m).hz j-1)).state=5:=p3
    rw[hz,show p.slot+1-1=p.slot by omega,hsl]at p3
    simp at p3
   have hslt:p.slot.toNat<a.slots.length:=by rw[C.slots];omega
   have hA:=C.lt (adr_lt' hok (r:=13) (z:=p.t-1) (.inr ⟨.inr (.inr rfl),rfl⟩) (by omega) (by omega))
   have em:∀w:Mch,w.mem.words=(m.swap (adr h.c 13 (p.t-1)) (m.word (adr h.c 13 (p.t-1))) 0 (p.slot+1)).mem.words→mv h.c w={ mv h.c m with ln:=upd (mv h.c m).ln (p.t-1) (p.slot+1) }:=by
    intro w ew
    exact mv_ln hok (by omega) (by omega) (z:=p.slot+1) (by rw[ew];simp only[Mch.swap];rw[if_pos hw]) hA
   have etl:∀w:Mch,w.mem.words=(m.swap (adr h.c 13 (p.t-1)) (m.word (adr h.c 13 (p.t-1))) 0 (p.slot+1)).mem.words→tlw h.c w=tlw h.c m:=fun w ew=>(QP ew).trans (tl_nt (nt_swap (Q:=qQ h.c) _ (val_q hok (.inr rfl) (by omega)) _ _ _))
   have hth:(m.swap (adr h.c 13 (p.t-1)) (m.word (adr h.c 13 (p.t-1))) 0 (p.slot+1)).thread=(t:Int):=hm
   generalize m.swap (adr h.c 13 (p.t-1)) (m.word (adr h.c 13 (p.t-1))) 0 (p.slot+1)=mw at em etl hth ⊢
   have e3:=Jn (a:=a) (th:=m.thread) (to:=3) (s:=p.slot) g1 hslt
   simp only[or_true,if_true]at e3
   obtain⟨G2,R2⟩:=G.attach (t:=t) (W:=fun _=>False) ⟨3,-1⟩ rfl hpr hst (d4 hp (by omega) (by omega))
   have e:∀pr' x1,sx (stk++[p.slot]) pr' h.c h (a.shift p.slot.toNat m.thread 3) ((mw.point i cl m.now).shift p.slot x1 3) =
     { sx stk pr h.c h a m with stk:=stk++[p.slot],pr:=pr',V:={ (mv h.c m) with ln:=upd (mv h.c m).ln (p.t-1) (p.slot+1) },sl:=updS a.sl p.slot ⟨3,-1⟩ }:=by
    intro pr' x1
    unfold sx
    rw[em ((mw.point i cl m.now).shift p.slot x1 3) rfl,e3];rfl
   have hnp:¬pS { p with stage:=9 }:=by unfold pS;simp
   refine⟨fun j=>pr j∨(0≤j∧j<h.c.R*h.c.Hz∧(mv h.c m).hz j=p.slot+1),F,?_,?_,fun _ => ?_,.att p.slot rfl (by show(a.sl p.slot).state=2;rw[hsl]) (etl _ rfl),?_⟩
   ·simp only[Yn,if_false]
    rw[kS_put0 hnp,e];exact G2.mono (by omega)
   ·simp only[];rw[e];exact R2.weaken (fun _ h=>h.elim)
   ·simp only[]
    rw[e]
    exact⟨fun hf=>by simp at hf,fun hf=>absurd hf hnp,fun hf=>absurd hf hnp,fun hf=>absurd hf hnp,fun hf=>by simp at hf,fun _=>⟨.inl q1,q2⟩,fun hf=>by simp at hf,fun hf=>by simp at hf,fun _=>Qm ..⟩
   ·simp only[]
    rw[etl ((mw.point i cl m.now).shift p.slot (a.slots.getD p.slot.toNat ⟨0,0⟩).state 3) rfl,htw]
    exact⟨pre,p.t-1,[p.slot],by rw[hst];simp,by simp,by omega⟩
  ·rename_i hw
   rw[hk8 (by rintro⟨_,h⟩;exact hw h)]
   have e:sx stk pr h.c h a (m.swap (adr h.c 13 (p.t-1)) (m.word (adr h.c 13 (p.t-1))) 0 (p.slot+1))=sx stk pr h.c h a m:=ZL (by simp only[Mch.swap];rw[if_neg hw])
   have htl:tlw h.c (m.swap (adr h.c 13 (p.t-1)) (m.word (adr h.c 13 (p.t-1))) 0 (p.slot+1))=tlw h.c m:=QP (by simp only[Mch.swap];rw[if_neg hw])
   refine⟨pr,F,?_,?_,fun _=>ptd45 (.inl rfl) ?_ ?_ ?_,.same rfl htl,by simp only[];rw[htl];exact T⟩
   ·simp only[Yn,if_false]
    rw[QW (by unfold pS;simp),e]
    exact G.mono (by omega)
   ·simp only[];rw[e];exact Rl.refl ..
   ·simp only[];rw[e];exact d2 hp
   ·simp only[];rw[e];exact d3 hp (by omega)
   ·simp only[];rw[e];exact d4 hp (by omega) (by omega)
 rw[if_neg s8,hk8 (by omega)]
 have hA5:=C.lt (adr5_lt hok)
 have swp:∀z:Int,z≠0→(tlw h.c m=p.t→(mv h.c m).ln (p.t-1)=z)→sx stk pr h.c h a (m.swap (adr h.c 5 0) (m.word (adr h.c 5 0)) p.t z)=sx stk pr h.c h a m∧QRl (sx stk pr h.c h a m) (tlw h.c m) (sx stk pr h.c h a m) (tlw h.c (m.swap (adr h.c 5 0) (m.word (adr h.c 5 0)) p.t z))∧TlI stk (tlw h.c (m.swap (adr h.c 5 0) (m.word (adr h.c 5 0)) p.t z)):=by
  intro z hz hl
  by_cases hw:m.word (adr h.c 5 0)=p.t
  ·have htw:tlw h.c m=p.t:=hw
   have ews:(m.swap (adr h.c 5 0) (m.word (adr h.c 5 0)) p.t z).mem.words=m.mem.words.set (adr h.c 5 0) z:=by simp only[Mch.swap];rw[if_pos hw]
   have e:sx stk pr h.c h a (m.swap (adr h.c 5 0) (m.word (adr h.c 5 0)) p.t z)=sx stk pr h.c h a m:=by
    unfold sx
    rw[mv_tail hok ews hA5]
   have et:tlw h.c (m.swap (adr h.c 5 0) (m.word (adr h.c 5 0)) p.t z)=z:=by
    unfold tlw
    rw[Q4 ews hA5,if_pos rfl]
   obtain⟨pre,s,u,y1,y2,y3⟩:=tl_adv G T (by rw[htw];exact hl htw) hz
   rw[et]
   exact⟨e,.adv pre s u y1 rfl y2 y3,TlI.adv y1 y3⟩
  ·have e:sx stk pr h.c h a (m.swap (adr h.c 5 0) (m.word (adr h.c 5 0)) p.t z)=sx stk pr h.c h a m:=ZL (by simp only[Mch.swap];rw[if_neg hw])
   have et:tlw h.c (m.swap (adr h.c 5 0) (m.word (adr h.c 5 0)) p.t z)=tlw h.c m:=QP (by simp only[Mch.swap];rw[if_neg hw])
   rw[et]
   exact⟨e,.same rfl rfl,T⟩
 by_cases s9:p.stage=9
 ·have hp:¬pS p:=by unfold pS;omega
  rw[kS_put0 hp]at G
  rw[if_pos s9]
  obtain⟨e,Q,T2⟩:=swp (p.slot+1) (by omega) (fun _=>d9 s9)
  refine⟨pr,F,?_,?_,fun _=>ptd_vac (.inr rfl),?_,T2⟩
  ·simp only[Yn,if_false]
   rw[kS_put0 (by unfold pS;simp),e]
   exact G.mono (by omega)
  ·simp only[];rw[e];exact Rl.refl ..
  ·simp only[];rw[e];exact Q
 rw[if_neg s9]
 by_cases s10:p.stage=10
 ·have hp:¬pS p:=by unfold pS;omega
  rw[kS_put0 hp]at G
  rw[if_pos s10]
  rw[hpz]at hZ ⊢
  obtain⟨pr',g1',g2',g3'⟩:=hzq_gd (n:=n) (Z:=Z) (Y:=Y) (F:=F) C ho 0 G
  have htl:tlw h.c ((m.store (adr h.c 9 (hz0 h.c t (sx stk pr h.c h a m))) (m.word (adr h.c 9 (hz0 h.c t (sx stk pr h.c h a m)))) 0).answer t se 1 0)=tlw h.c m:=by
   have:=tl_nt (m:=m) (QV (Q:=qQ h.c) _ hZ (m.word (adr h.c 9 (hz0 h.c t (sx stk pr h.c h a m)))) 0)
   exact(QP rfl).trans this
  refine⟨pr',F,?_,g2'.weaken (fun j hj=>by rw[hj];exact⟨ho,_,rfl,rfl,ZY hok 9 j0⟩),fun hf=>(by cases hf),.same rfl htl,by simp only[];rw[htl];exact T⟩
  simp only[if_true]
  exact g1'.mono (by omega)
 rw[if_neg s10]
 have s11:p.stage=11:=by omega
 have hp:pS p:=by unfold pS;omega
 rw[QW hp]at G
 obtain⟨e,Q,T2⟩:=swp p.n (by have:=i5 s11;omega) (fun _=>d8 s11)
 refine⟨pr,F,?_,?_,fun _=>ptd45 (.inl rfl) ?_ ?_ ?_,?_,T2⟩
 ·simp only[Yn,if_false]
  rw[QW (by unfold pS;simp),e]
  exact G.mono (by omega)
 ·simp only[];rw[e];exact Rl.refl ..
 ·simp only[];rw[e];exact d2 hp
 ·simp only[];rw[e];exact d3 hp (by omega)
 ·simp only[];rw[e];exact d4 hp (by omega) (by omega)
 ·simp only[];rw[e];exact Q
end
end Go.Proofs.YtefjbdajgakgpaaGreat
