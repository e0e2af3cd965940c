import Derived.Test.YtefjbdajgakgpaaGreatCQueM
set_option linter.all false
namespace Go.Proofs.YtefjbdajgakgpaaGreat
section
open Go.RowKit Hp
set_option maxRecDepth 100000
set_option maxHeartbeats 1000000
attribute [local irreducible] Go.Calls
def tlw (c:Cfg)(m:Mch):Int:=m.word (adr c 5 0)
theorem QQ {c:Cfg}{m m':Mch}(e:m'.mem.words=m.mem.words):tlw c m'=tlw c m:=by unfold tlw Mch.word;rw[e]
theorem tl_nt {c:Cfg}{m m':Mch}(N:Nt (qQ c) m m'):tlw c m'=tlw c m:=N.word _ (fun h=>h.2 rfl)
def quStk (c:Cfg)(m:Mch)(stk:List Int):Zu→List Int
 | .hz _=>stk
 | .put p=>if p.stage=8∧m.word (adr c 13 (p.t-1))=0 then stk++[p.slot] else stk
 | .get p=>if p.stage=10∧m.word (adr c 4 0)=p.h0 then stk.tail else stk
structure KP (stk stk':List Int)(c:Cfg)(n:Int)(Z Y:Int→Nat)(pr:Int→Prop)(h:Haz)(a:Are)(m:Mch)(t:Nat)(r:GR Zu):Prop where
 ex:∃(pr':Int→Prop) (F':List Int),Gd c n Z Y F' (sx stk' pr' c r.2.1.1 r.2.1.2 r.2.2.1) (if r.1=true then [] else kS r.2.2.2) (if r.1=true then [] else kL r.2.2.2)∧Rl Z t (OwW c t (sx stk pr c h a m) m.mem.log r.2.2.1.mem.log) (sx stk pr c h a m) (sx stk' pr' c r.2.1.1 r.2.1.2 r.2.2.1)∧(r.1=false→KD c t (sx stk' pr' c r.2.1.1 r.2.1.2 r.2.2.1) (tlw c r.2.2.1) r.2.2.2)∧QRl (sx stk pr c h a m) (tlw c m) (sx stk' pr' c r.2.1.1 r.2.1.2 r.2.2.1) (tlw c r.2.2.1)∧TlI stk' (tlw c r.2.2.1)
section
variable {c:Cfg}{Lg S N:Nat}{h:Haz}{a:Are}{m m':Mch}
variable {n:Int}{Z Y:Int→Nat}{F stk:List Int}{pr:Int→Prop}{K L:List Int}{t:Nat}{W:Int→Prop}{x:Sx}{tl z:Int}
theorem ln_at {s:Int}(hs0:0≤s)(hs1:s<c.Sl):(mv c m).ln s=m.word (adr c 13 s):=by simp[mv,hs0,hs1]
theorem adr5_lt (hok:c.Ok):((adr c 5 0:Nat):Int)<base c 14:=by
 have e:=Qm hok 5 (Int.le_refl 0)
 obtain⟨q4,q5⟩:=base45 c
 obtain⟨b1,b2,b8,b9,b10,b11,b12,b13,b14,rh,rh2,b3⟩:=QP hok
 have:=hok.R1
 have:=hok.S1
 omega
theorem adr4_lt (hok:c.Ok):((adr c 4 0:Nat):Int)<base c 14:=by
 have e:=Qm hok 4 (Int.le_refl 0)
 obtain⟨q4,q5⟩:=base45 c
 obtain⟨b1,b2,b8,b9,b10,b11,b12,b13,b14,rh,rh2,b3⟩:=QP hok
 have:=hok.R1
 have:=hok.S1
 omega
theorem mv_tail (hok:c.Ok)(hw:m'.mem.words=m.mem.words.set (adr c 5 0) z)(hA:adr c 5 0<m.mem.words.length):mv c m'=mv c m:=by
 have e5:=Qm hok 5 (Int.le_refl 0)
 have e4:=Qm hok 4 (Int.le_refl 0)
 obtain⟨q4,q5⟩:=base45 c
 obtain⟨b1,b2,b8,b9,b10,b11,b12,b13,b14,rh,rh2,b3⟩:=QP hok
 obtain⟨a1,a2,a3,a8,a9,a10,a11,a13⟩:=adrs hok
 have hR:=hok.R1
 have hS:=hok.S1
 have hne:∀j,j≠adr c 5 0→m'.word j=m.word j:=fun j hj=>by rw[Jx hw hA,if_neg hj]
 unfold mv
 congr 1
 ·exact hne _ (by omega)
 ·exact hne _ (by omega)
 ·funext s;split
  ·rename_i hs;have:=a10 s hs.1;exact hne _ (by omega)
  ·rfl
 ·funext s;split
  ·rename_i hs;have:=a8 s hs.1;exact hne _ (by omega)
  ·rfl
 ·funext s;split
  ·rename_i hs;have:=a9 s hs.1;exact hne _ (by omega)
  ·rfl
 ·funext s;split
  ·rename_i hs;have:=a11 s hs.1;exact hne _ (by omega)
  ·rfl
 ·show m'.word (adr c 4 0)=m.word (adr c 4 0)
  exact hne _ (by omega)
 ·funext s;split
  ·rename_i hs;have:=a13 s hs.1;exact hne _ (by omega)
  ·rfl
theorem tl_adv (G:Gd c n Z Y F x K L)(T:TlI x.stk tl)(hl:x.V.ln (tl-1)=z)(hz:z≠0):∃pre s u,x.stk=pre++[s,u]∧tl=s+1∧z=u+1:=by
 obtain⟨pre,s,post,e,hp,e2⟩:=T
 rw[e2,show s+1-1=s by omega]at hl
 have hk:=G.lk
 rw[e]at hk
 cases post with
 | nil=>exact absurd (hl.symm.trans hk.last) hz
 | cons u post=>
  have:post=[]:=by cases post with
   | nil=>rfl
   | cons _ _=>simp at hp
  subst this
  obtain⟨h1,h2⟩:=hk.next
  exact⟨pre,s,u,e,e2,by omega⟩
theorem TlI.adv {stk:List Int}{pre:List Int}{s u:Int}(e:stk=pre++[s,u])(hz:z=u+1):TlI stk z:=⟨pre++[s],u,[],by rw[e];simp,by simp,hz⟩
theorem TlI.mem {stk:List Int}(T:TlI stk tl):tl-1∈stk:=by
 obtain⟨pre,s,post,e,_,e2⟩:=T
 rw[e,e2,show s+1-1=s by omega]
 simp
theorem hzq_gd (C:Core c Lg S N h a m){jw:Int}(ho:Own c t (sx stk pr c h a m) jw)(z:Int)(G:Gd c n Z Y F (sx stk pr c h a m) K L) :
  ∃pr',Gd c n Z Y F (sx stk pr' c h a (m.store (adr c 9 jw) (m.word (adr c 9 jw)) z)) K L∧Rl Z t (fun j=>j=jw) (sx stk pr c h a m) (sx stk pr' c h a (m.store (adr c 9 jw) (m.word (adr c 9 jw)) z))∧mv c (m.store (adr c 9 jw) (m.word (adr c 9 jw)) z)={ mv c m with hz:=upd (mv c m).hz jw z }:=by
 have hok:=C.ok
 have hb:=QP hok
 obtain⟨j0,j1⟩:=JG hok ho
 have hA:adr c 9 jw<m.mem.words.length:=C.lt (by have:=Qm hok 9 j0;have:=hb.b10;have:=hb.b11;have:=hb.b12;have:=hb.b13;have:=hb.b14;have:=hok.S1;omega)
 obtain⟨g1,g2⟩:=G.hzd (t:=t) jw z j0 j1
 have e:mv c (m.store (adr c 9 jw) (m.word (adr c 9 jw)) z)={ mv c m with hz:=upd (mv c m).hz jw z }:=mv_hz hok j0 j1 rfl hA
 refine⟨fun j=>if j=jw then 1≤z∧(a.sl (z-1)).state=3 else pr j,?_,?_,e⟩
 ·unfold sx;rw[e];exact g1
 ·unfold sx;rw[e];exact g2
theorem kS_put0 {p:Pt}(h:¬pS p):kS (.put p)=[]:=by simp only[kS];rw[if_neg h]
theorem Q5 {p:Pt}(h:pS p):kS (.put p)=[p.slot]:=by simp only[kS];rw[if_pos h]
theorem ptd45 {p:Pt}(hs:p.stage=4∨p.stage=5)(o:x.sl p.slot=⟨2,(t:Int)⟩)(v:x.V.val p.slot=p.value%18446744073709551616)(l:x.V.ln p.slot=0):PtD c t x tl p:=
 ⟨fun h=>by omega,fun _=>o,fun _ _=>v,fun _ _ _=>l,fun h=>by omega,fun h=>by omega,fun h=>by omega,fun h=>by omega,fun h=>by omega⟩
theorem ptaken_kd {p:Pt}{i:Nat}{cl:Cll}{se:Sea}{a':Are}{m':Mch}(hk:Zd p.take = -1∨(0≤Zd p.take∧Zd p.take<c.Sl))(hst:p.stage=1)(T:TlI stk (tlw c m))(htl:tlw c m'=tlw c m)
  (G:Gd c n Z Y F (sx stk pr c h a' m') (if 0≤Zd p.take then [Zd p.take] else []) []) (R:Rl Z t (fun _=>False) (sx stk pr c h a m) (sx stk pr c h a' m')) (hs:0≤Zd p.take→a'.sl (Zd p.take)=⟨2,(t:Int)⟩) :
  KP stk stk c n Z Y pr h a m t ((ZX m' i t cl se p).1,(h,a'),(ZX m' i t cl se p).2.1,.put (ZX m' i t cl se p).2.2):=by
 unfold ZX
 split
 ·rename_i h0
  have e:sx stk pr c h a' ((m'.point i cl m'.now).answer t se 4 0)=sx stk pr c h a' m':=ZR rfl
  have e2:tlw c ((m'.point i cl m'.now).answer t se 4 0)=tlw c m:=(QQ rfl).trans htl
  rw[if_neg (by omega)]at G
  refine⟨pr,F,?_,?_,fun hf=>(by cases hf),.same rfl e2,by rw[e2];exact T⟩
  ·simp only[if_true,e];exact G
  ·simp only[e];exact R.weaken (fun _ h=>h.elim)
 ·rename_i h0
  rw[if_pos (by omega)]at G
  refine⟨pr,F,?_,R.weaken (fun _ h=>h.elim),fun _=>⟨fun hf=>by simp at hf,fun _=>hs (by omega),fun _ hf=>by simp at hf,fun _ hf=>by simp at hf,fun hf=>by simp at hf,fun hf=>by simp at hf,fun hf=>by simp at hf,fun hf=>by simp at hf,fun hf=>by simp at hf⟩,.same rfl htl,by simp only[];rw[htl];exact T⟩
  simp only[Yn,if_false]
  rw[Q5 (by unfold pS;simp)]
  exact G
theorem ptd_vac {p:Pt}(h:p.stage=0∨p.stage=10):PtD c t x tl p:=
 ⟨fun h=>by omega,fun h=>by unfold pS at h;omega,fun h=>by unfold pS at h;omega,fun h=>by unfold pS at h;omega,fun h=>by omega,fun h=>by omega,fun h=>by omega,fun h=>by omega,fun h=>by omega⟩
theorem put_rdy {p:Pt}{i:Nat}{cl:Cll}{se:Sea}(C:Core c Lg S N h a m)(ht:(t:Int)<c.T)(hm:m.thread=(t:Int))(hp:p.take=⟨t,1,0,0,0,false⟩)(T:TlI stk (tlw c m))
  (hS0:kS (.put p)=[]) (G:Gd c n Z Y F (sx stk pr c h a m) (kS (.put p)) []):KP stk stk c n Z Y pr h a m t (QR (h,a) m i t cl se (.put p)):=by
 rw[hS0]at G
 simp only[QR]
 unfold ZY
 simp only[hp]
 have hR:=takeReady_gd (t:=t) (W:=fun _=>False) (k:=⟨t,1,0,0,0,false⟩) C rfl ht hm G
 have hTk:=Jp (k:=⟨t,1,0,0,0,false⟩) C (by simp only[];omega) (by simp only[];omega)
 have hwd:(Zf a m ⟨t,1,0,0,0,false⟩).2.2.1.mem.words=m.mem.words:=by unfold Zf;simp only[];split<;>rfl
 generalize Zf a m ⟨t,1,0,0,0,false⟩=r at hR hTk hwd ⊢
 rcases hR with e|⟨e1,e2,e3,e4⟩
 ·cases e
  simp only[Yn,if_false]
  refine⟨pr,F,?_,Rl.refl ..,fun _=>⟨fun _=>⟨fun hf=>absurd rfl hf,fun hf=>by simp at hf⟩,fun hf=>by unfold pS at hf;simp at hf,fun hf=>by unfold pS at hf;simp at hf,fun hf=>by unfold pS at hf;simp at hf,fun hf=>by simp at hf,fun hf=>by simp at hf,fun hf=>by simp at hf,fun hf=>by simp at hf,fun hf=>by simp at hf⟩,.same rfl rfl,T⟩
  simp only[Yn,if_false]
  rw[kS_put0 (by unfold pS;simp)]
  exact G
 ·rcases hTk with e|⟨_,_,q,_⟩
  ·rw[e]at e1;cases e1
  ·simp only[e1,if_true]
   refine ptaken_kd (F:=F) (p:={ p with take:=r.2.2.2,stage:=1,hz:=(qHz h p.thread 0:Int) }) (.inr q) rfl T (QQ hwd) ?_ e3 (fun _=>e4)
   rw[if_pos q.1];exact e2
theorem put_kd {p:Pt}{i:Nat}{cl:Cll}{se:Sea}(C:Core c Lg S N h a m)(ht:(t:Int)<c.T)(hm:m.thread=(t:Int))(hu:p.thread=(t:Int))(hus:m.used=false)(hd:0≤h.held.getD t 0)(I:PtI c p)(hn:n<4294967295)(T:TlI stk (tlw c m))
  (G:Gd c n Z Y F (sx stk pr c h a m) (kS (.put p)) []) (D:PtD c t (sx stk pr c h a m) (tlw c m) p):KP stk (quStk c m stk (.put p)) c (n+1) Z Y pr h a m t (Jb (h,a) m i t cl se (.put p)):=by
 have hok:=C.ok
 obtain rfl:=C.hc
 haveI:=q_qok hok
 obtain⟨r1,_⟩:=C.hget ht
 have hlt:t<h.held.length:=by rw[C.held];omega
 have hh:h.held[t]? = some (h.held.getD t 0):=by rw[Yb,Yd hlt];rfl
 have ho:Own h.c t (sx stk pr h.c h a m) (hz0 h.c t (sx stk pr h.c h a m)):=by
  have:=own_hz0 hok (t:=t) (x:=sx stk pr h.c h a m) ⟨_,hh,hd,r1⟩ (k:=0) (by omega) (by omega)
  rwa [Int.add_zero]at this
 obtain⟨j0,j1⟩:=JG hok ho
 have hpt:p.thread.toNat=t:=by omega
 have hpz:qHz h p.thread 0=adr h.c 9 (hz0 h.c t (sx stk pr h.c h a m)):=by
  unfold qHz adr hz0
  rw[hpt,Int.add_zero];rfl
 have hZ:=hz_q (th:=p.thread) (k:=0) C ht hu hd (by omega) (by omega)
 obtain⟨i1,i2,i3,i4,i5⟩:=I
 obtain⟨d1,d2,d3,d4,d5,d6,d7,d8,d9⟩:=D
 have hk8:¬(p.stage=8∧m.word (adr h.c 13 (p.t-1))=0)→quStk h.c m stk (.put p)=stk:=fun h8=>by simp only[quStk];rw[if_neg h8]
 have eld:∀A u,sx stk pr h.c h a (m.load A u)=sx stk pr h.c h a m:=fun A u=>ZR rfl
 have etl0:∀A u,tlw h.c (m.load A u)=tlw h.c m:=fun A u=>QQ rfl
 simp only[Jb]
 unfold Z7
 simp only[]
 by_cases s1:p.stage=1
 ·rw[kS_put0 (by unfold pS;omega)]at G
  rw[hk8 (by omega),if_pos s1]
  have Ev:=evq_nt (evq_take (Q:=qQ h.c) (i:=i) (t:=t) C (i2 s1) hus)
  unfold ptTake
  simp only[]
  obtain⟨⟨F',t1⟩,t2,t3,t4⟩:=take_gd (W:=fun _=>False) (L:=[]) C (i2 s1) hm hn G (d1 s1)
  have hr:=(take_core C (i2 s1)).2.2.1
  have htl:=tl_nt Ev
  simp only[]at htl
  clear Ev
  generalize Zj a m p.take=r at t1 t2 t3 t4 hr htl ⊢
  split
  ·exact ptaken_kd (p:={ p with take:=r.2.2.2 }) hr s1 T htl t1 t2 t4
  ·rename_i hf
   obtain⟨u1,u2⟩:=t3 (by simpa using hf)
   rw[u2,if_neg (by omega)]at t1
   have hnp:¬pS { p with take:=r.2.2.2 }:=by unfold pS;simp only[];omega
   refine⟨pr,F',?_,t2.weaken (fun _ h=>h.elim),fun _=>⟨fun _=>u1,fun hf=>absurd hf hnp,fun hf=>absurd hf hnp,fun hf=>absurd hf hnp,fun hf=>by simp only[s1]at hf;omega,fun hf=>by simp only[s1]at hf;omega,fun hf=>by simp only[s1]at hf;omega,fun hf=>by simp only[s1]at hf;omega,fun hf=>by simp only[s1]at hf;omega⟩,.same rfl htl,by simp only[];rw[htl];exact T⟩
   simp only[Yn,if_false]
   rw[kS_put0 hnp]
   exact t1
 rw[if_neg s1]
 obtain⟨g1,g2⟩:=i3 s1
 by_cases s2:p.stage=2
 ·have hp:pS p:=by unfold pS;omega
  rw[Q5 hp]at G
  rw[hk8 (by omega),if_pos s2]
  have hsl:a.sl p.slot=⟨2,(t:Int)⟩:=d2 hp
  have hA:=C.lt (adr_lt' hok (r:=11) (.inr ⟨.inr (.inl rfl),rfl⟩) g1 g2)
  obtain⟨G2,R2⟩:=G.value (t:=t) (W:=fun _=>False) (s:=p.slot) (List.mem_cons_self ..) (p.value%18446744073709551616)
  have e:sx stk pr h.c h a (m.store (adr h.c 11 p.slot) (m.word (adr h.c 11 p.slot)) (p.value%18446744073709551616))={ sx stk pr h.c h a m with V:={ (sx stk pr h.c h a m).V with val:=upd (sx stk pr h.c h a m).V.val p.slot (p.value%18446744073709551616) } }:=by
   unfold sx
   rw[mv_val hok g1 g2 (z:=p.value%18446744073709551616) rfl hA]
  have htl:tlw h.c (m.store (adr h.c 11 p.slot) (m.word (adr h.c 11 p.slot)) (p.value%18446744073709551616))=tlw h.c m:=tl_nt (Q4 (Q:=qQ h.c) _ (val_q hok (.inl rfl) g1) _ _)
  refine⟨pr,F,?_,?_,fun _=>⟨fun hf=>by simp at hf,fun _=>hsl,fun _ _ => ?_,fun _ _ hf=>by simp at hf,fun hf=>by simp at hf,fun hf=>by simp at hf,fun hf=>by simp at hf,fun hf=>by simp at hf,fun hf=>by simp at hf⟩,.same rfl htl,by simp only[];rw[htl];exact T⟩
  ·simp only[Yn,if_false]
   rw[Q5 (by unfold pS;simp),e]
   exact G2.mono (by omega)
  ·simp only[];rw[e];exact R2.weaken (fun _ h=>h.elim)
  ·simp only[];rw[e];exact Qs ..
 rw[if_neg s2]
 by_cases s3:p.stage=3
 ·have hp:pS p:=by unfold pS;omega
  rw[Q5 hp]at G
  rw[hk8 (by omega),if_pos s3]
  have hsl:a.sl p.slot=⟨2,(t:Int)⟩:=d2 hp
  have hA:=C.lt (adr_lt' hok (r:=13) (.inr ⟨.inr (.inr rfl),rfl⟩) g1 g2)
  obtain⟨G2,R2⟩:=G.tie (t:=t) (W:=fun _=>False) (s:=p.slot) (List.mem_cons_self ..) (by show(a.sl p.slot).state=2;rw[hsl]) 0
  have e:sx stk pr h.c h a (m.store (adr h.c 13 p.slot) (m.word (adr h.c 13 p.slot)) 0)={ sx stk pr h.c h a m with V:={ (sx stk pr h.c h a m).V with ln:=upd (sx stk pr h.c h a m).V.ln p.slot 0 } }:=by
   unfold sx
   rw[mv_ln hok g1 g2 (z:=0) rfl hA]
  have htl:tlw h.c (m.store (adr h.c 13 p.slot) (m.word (adr h.c 13 p.slot)) 0)=tlw h.c m:=tl_nt (Q4 (Q:=qQ h.c) _ (val_q hok (.inr rfl) g1) _ _)
  refine⟨pr,F,?_,?_,fun _=>ptd45 (.inl rfl) hsl ?_ ?_,.same rfl htl,by simp only[];rw[htl];exact T⟩
  ·simp only[Yn,if_false]
   rw[Q5 (by unfold pS;simp),e]
   exact G2.mono (by omega)
  ·simp only[];rw[e];exact R2.weaken (fun _ h=>h.elim)
  ·simp only[];rw[e];exact d3 hp (by omega)
  ·simp only[];rw[e];exact Qs ..
 rw[if_neg s3]
 by_cases s4:p.stage=4
 ·have hp:pS p:=by unfold pS;omega
  rw[Q5 hp]at G
  rw[hk8 (by omega),if_pos s4]
  refine⟨pr,F,?_,?_,fun _=>ptd45 (.inr rfl) ?_ ?_ ?_,.same rfl (QQ rfl),by simp only[];rw[etl0];exact T⟩
  ·simp only[Yn,if_false]
   rw[Q5 (by unfold pS;simp),eld]
   exact G.mono (by omega)
  ·simp only[];rw[eld];exact Rl.refl ..
  ·simp only[];rw[eld];exact d2 hp
  ·simp only[];rw[eld];exact d3 hp (by omega)
  ·simp only[];rw[eld];exact d4 hp (by omega) (by omega)
 rw[if_neg s4]
 have hT:=i4 (by omega)
 by_cases s5:p.stage=5
 ·have hp:pS p:=by unfold pS;omega
  rw[Q5 hp]at G
  rw[hk8 (by omega),if_pos s5]
  rw[hpz]at hZ ⊢
  obtain⟨pr',g1',g2',g3'⟩:=hzq_gd (n:=n) (Z:=Z) (Y:=Y) (F:=F) C ho p.t G
  have htl:tlw h.c (m.store (adr h.c 9 (hz0 h.c t (sx stk pr h.c h a m))) (m.word (adr h.c 9 (hz0 h.c t (sx stk pr h.c h a m)))) p.t)=tlw h.c m:=tl_nt (Q4 (Q:=qQ h.c) _ hZ _ _)
  have hvv:∀s,(mv h.c (m.store (adr h.c 9 (hz0 h.c t (sx stk pr h.c h a m))) (m.word (adr h.c 9 (hz0 h.c t (sx stk pr h.c h a m)))) p.t)).val s=(mv h.c m).val s∧(mv h.c (m.store (adr h.c 9 (hz0 h.c t (sx stk pr h.c h a m))) (m.word (adr h.c 9 (hz0 h.c t (sx stk pr h.c h a m)))) p.t)).ln s=(mv h.c m).ln s:=fun s=>by rw[g3'];exact⟨rfl,rfl⟩
  refine⟨pr',F,?_,g2'.weaken (fun j hj=>by rw[hj];exact⟨ho,_,rfl,rfl,Qm hok 9 j0⟩),fun _=>⟨fun hf=>by simp at hf,fun _=>d2 hp,fun _ _=>(hvv _).1.trans (d3 hp (by omega)),fun _ _ _=>(hvv _).2.trans (d4 hp (by omega) (by omega)),fun _ => ?_,fun hf=>by simp at hf,fun hf=>by simp at hf,fun hf=>by simp at hf,fun hf=>by simp at hf⟩,.same rfl htl,by simp only[];rw[htl];exact T⟩
  ·simp only[Yn,if_false]
   rw[Q5 (by unfold pS;simp)]
   exact g1'.mono (by omega)
  ·show(mv h.c _).hz _=p.t
   rw[g3']
   exact Qs ..
 rw[if_neg s5]
 by_cases s6:p.stage=6
 ·have hp:pS p:=by unfold pS;omega
  rw[Q5 hp]at G
  rw[hk8 (by omega),if_pos s6]
  split
  ·rename_i hw
   have hz:=d5 s6
   have hmem:=T.mem
   have htw:tlw h.c m=p.t:=hw
   rw[htw]at hmem
   refine⟨pr,F,?_,?_,fun _=>⟨fun hf=>by simp at hf,fun _ => ?_,fun _ _ => ?_,fun _ _ _ => ?_,fun hf=>by simp at hf,fun _ => ?_,fun _ => ?_,fun hf=>by simp at hf,fun hf=>by simp at hf⟩,.same rfl (QQ rfl),by simp only[];rw[etl0];exact T⟩
   ·simp only[Yn,if_false]
    rw[Q5 (by unfold pS;simp),eld]
    exact G.mono (by omega)
   ·simp only[];rw[eld];exact Rl.refl ..
   ·simp only[];rw[eld];exact d2 hp
   ·simp only[];rw[eld];exact d3 hp (by omega)
   ·simp only[];rw[eld];exact d4 hp (by omega) (by omega)
   ·simp only[]
    rw[eld]
    refine⟨G.pr2 _ j0 j1 (by rw[hz];exact hT.1) ?_,hz⟩
    rw[hz]
    exact G.stK _ hmem
   ·simp only[]
    rw[eld,etl0,htw]
    exact⟨.inl hmem,fun pre post _=>⟨p.t-1,List.mem_cons_self ..,by omega⟩⟩
  ·refine⟨pr,F,?_,?_,fun _=>ptd45 (.inr rfl) ?_ ?_ ?_,.same rfl (QQ rfl),by simp only[];rw[etl0];exact T⟩
   ·simp only[Yn,if_false]
    rw[Q5 (by unfold pS;simp),eld]
    exact G.mono (by omega)
   ·simp only[];rw[eld];exact Rl.refl ..
   ·simp only[];rw[eld];exact d2 hp
   ·simp only[];rw[eld];exact d3 hp (by omega)
   ·simp only[];rw[eld];exact d4 hp (by omega) (by omega)
 rw[if_neg s6]
 by_cases s7:p.stage=7
 ·have hp:pS p:=by unfold pS;omega
  rw[Q5 hp]at G
  rw[hk8 (by omega),if_pos s7]
  split
  ·refine⟨pr,F,?_,?_,fun _=>⟨fun hf=>by simp at hf,fun _ => ?_,fun _ _ => ?_,fun _ _ _ => ?_,fun hf=>by simp at hf,fun _ => ?_,fun hf=>by simp at hf,fun _ => ?_,fun hf=>by simp at hf⟩,.same rfl (QQ rfl),by simp only[];rw[etl0];exact T⟩
   ·simp only[Yn,if_false]
    rw[Q5 (by unfold pS;simp),eld]
    exact G.mono (by omega)
   ·simp only[];rw[eld];exact Rl.refl ..
   ·simp only[];rw[eld];exact d2 hp
   ·simp only[];rw[eld];exact d3 hp (by omega)
   ·simp only[];rw[eld];exact d4 hp (by omega) (by omega)
   ·simp only[];rw[eld];exact d6 (.inl s7)
   ·simp only[];rw[eld];exact ln_at (by omega) (by omega)
  ·refine⟨pr,F,?_,?_,fun _=>⟨fun hf=>by simp at hf,fun _ => ?_,fun _ _ => ?_,fun _ _ _ => ?_,fun hf=>by simp at hf,fun _ => ?_,fun _ => ?_,fun hf=>by simp at hf,fun hf=>by simp at hf⟩,.same rfl (QQ rfl),by simp only[];rw[etl0];exact T⟩
   ·simp only[Yn,if_false]
    rw[Q5 (by unfold pS;simp),eld]
    exact G.mono (by omega)
   ·simp only[];rw[eld];exact Rl.refl ..
   ·simp only[];rw[eld];exact d2 hp
   ·simp only[];rw[eld];exact d3 hp (by omega)
   ·simp only[];rw[eld];exact d4 hp (by omega) (by omega)
   ·simp only[];rw[eld];exact d6 (.inl s7)
   ·simp only[];rw[eld,etl0];exact d7 (.inl s7)
 rw[if_neg s7]
 by_cases s8:p.stage=8
 ·have hp:pS p:=by unfold pS;omega
  rw[Q5 hp]at G
  rw[if_pos s8]
  have hsl:a.sl p.slot=⟨2,(t:Int)⟩:=d2 hp
  split
  ·rename_i hw
   have hk:quStk h.c m stk (.put p)=stk++[p.slot]:=by simp only[quStk];rw[if_pos ⟨s8,hw⟩]
   rw[hk]
   obtain⟨q1,q2⟩:=d6 (.inr (.inl s8))
   obtain⟨q3,q4⟩:=d7 (.inr s8)
   have hln:(mv h.c m).ln (p.t-1)=0:=by rw[ln_at (by omega) (by omega)];exact hw
   have hmem:p.t-1∈stk:=q3.resolve_right (fun hf=>hf hln)
   obtain⟨pre,post,hst⟩:=List.append_of_mem hmem
   have hpo:post=[]:=by
    cases post with
    | nil=>rfl
    | cons b post=>
     have hlk:=G.lk
     have hlk:Chain (mv h.c m).ln (mv h.c m).top stk:=hlk
     rw[hst]at hlk
     obtain⟨y1,y2⟩:=hlk.next
     omega
   subst hpo
   have htw:tlw h.c m=p.t:=by
    obtain⟨u,u1,u2⟩:=q4 pre [] hst
    have:u=p.t-1:=by simpa using u1
    omega
   have hpr:∀j,pr j→(mv h.c m).hz j≠p.slot+1:=by
    intro j hj hz
    obtain⟨_,_,p3⟩:=G.pr1 j hj
    have p3:(a.sl ((mv h.c m).hz j-1)).state=3∨(a.sl ((mv h.c m).hz j-1)).state=4∨(a.sl ((mv h.c m).hz j-1)).state=5:=p3
    rw[hz,show p.slot+1-1=p.slot by omega,hsl]at p3
    simp at p3
   have hslt:p.slot.toNat<a.slots.length:=by rw[C.slots];omega
   have hA:=C.lt (adr_lt' hok (r:=13) (z:=p.t-1) (.inr ⟨.inr (.inr rfl),rfl⟩) (by omega) (by omega))
   have em:∀w:Mch,w.mem.words=(m.swap (adr h.c 13 (p.t-1)) (m.word (adr h.c 13 (p.t-1))) 0 (p.slot+1)).mem.words→mv h.c w={ mv h.c m with ln:=upd (mv h.c m).ln (p.t-1) (p.slot+1) }:=by
    intro w ew
    exact mv_ln hok (by omega) (by omega) (z:=p.slot+1) (by rw[ew];simp only[Mch.swap];rw[if_pos hw]) hA
   have etl:∀w:Mch,w.mem.words=(m.swap (adr h.c 13 (p.t-1)) (m.word (adr h.c 13 (p.t-1))) 0 (p.slot+1)).mem.words→tlw h.c w=tlw h.c m:=fun w ew=>(QQ ew).trans (tl_nt (nt_swap (Q:=qQ h.c) _ (val_q hok (.inr rfl) (by omega)) _ _ _))
   have hth:(m.swap (adr h.c 13 (p.t-1)) (m.word (adr h.c 13 (p.t-1))) 0 (p.slot+1)).thread=(t:Int):=hm
   generalize m.swap (adr h.c 13 (p.t-1)) (m.word (adr h.c 13 (p.t-1))) 0 (p.slot+1)=mw at em etl hth ⊢
   have e3:=Jy (a:=a) (th:=m.thread) (to:=3) (s:=p.slot) g1 hslt
   simp only[or_true,if_true]at e3
   obtain⟨G2,R2⟩:=G.attach (t:=t) (W:=fun _=>False) ⟨3,-1⟩ rfl hpr hst (d4 hp (by omega) (by omega))
   have e:∀pr' x1,sx (stk++[p.slot]) pr' h.c h (a.shift p.slot.toNat m.thread 3) ((mw.point i cl m.now).shift p.slot x1 3) =
     { sx stk pr h.c h a m with stk:=stk++[p.slot],pr:=pr',V:={ (mv h.c m) with ln:=upd (mv h.c m).ln (p.t-1) (p.slot+1) },sl:=updS a.sl p.slot ⟨3,-1⟩ }:=by
    intro pr' x1
    unfold sx
    rw[em ((mw.point i cl m.now).shift p.slot x1 3) rfl,e3];rfl
   have hnp:¬pS { p with stage:=9 }:=by unfold pS;simp
   refine⟨fun j=>pr j∨(0≤j∧j<h.c.R*h.c.Hz∧(mv h.c m).hz j=p.slot+1),F,?_,?_,fun _ => ?_,.att p.slot rfl (by show(a.sl p.slot).state=2;rw[hsl]) (etl _ rfl),?_⟩
   ·simp only[Yn,if_false]
    rw[kS_put0 hnp,e];exact G2.mono (by omega)
   ·simp only[];rw[e];exact R2.weaken (fun _ h=>h.elim)
   ·simp only[]
    rw[e]
    exact⟨fun hf=>by simp at hf,fun hf=>absurd hf hnp,fun hf=>absurd hf hnp,fun hf=>absurd hf hnp,fun hf=>by simp at hf,fun _=>⟨.inl q1,q2⟩,fun hf=>by simp at hf,fun hf=>by simp at hf,fun _=>Qs ..⟩
   ·simp only[]
    rw[etl ((mw.point i cl m.now).shift p.slot (a.slots.getD p.slot.toNat ⟨0,0⟩).state 3) rfl,htw]
    exact⟨pre,p.t-1,[p.slot],by rw[hst];simp,by simp,by omega⟩
  ·rename_i hw
   rw[hk8 (by rintro⟨_,h⟩;exact hw h)]
   have e:sx stk pr h.c h a (m.swap (adr h.c 13 (p.t-1)) (m.word (adr h.c 13 (p.t-1))) 0 (p.slot+1))=sx stk pr h.c h a m:=ZR (by simp only[Mch.swap];rw[if_neg hw])
   have htl:tlw h.c (m.swap (adr h.c 13 (p.t-1)) (m.word (adr h.c 13 (p.t-1))) 0 (p.slot+1))=tlw h.c m:=QQ (by simp only[Mch.swap];rw[if_neg hw])
   refine⟨pr,F,?_,?_,fun _=>ptd45 (.inl rfl) ?_ ?_ ?_,.same rfl htl,by simp only[];rw[htl];exact T⟩
   ·simp only[Yn,if_false]
    rw[Q5 (by unfold pS;simp),e]
    exact G.mono (by omega)
   ·simp only[];rw[e];exact Rl.refl ..
   ·simp only[];rw[e];exact d2 hp
   ·simp only[];rw[e];exact d3 hp (by omega)
   ·simp only[];rw[e];exact d4 hp (by omega) (by omega)
 rw[if_neg s8,hk8 (by omega)]
 have hA5:=C.lt (adr5_lt hok)
 have swp:∀z:Int,z≠0→(tlw h.c m=p.t→(mv h.c m).ln (p.t-1)=z)→sx stk pr h.c h a (m.swap (adr h.c 5 0) (m.word (adr h.c 5 0)) p.t z)=sx stk pr h.c h a m∧QRl (sx stk pr h.c h a m) (tlw h.c m) (sx stk pr h.c h a m) (tlw h.c (m.swap (adr h.c 5 0) (m.word (adr h.c 5 0)) p.t z))∧TlI stk (tlw h.c (m.swap (adr h.c 5 0) (m.word (adr h.c 5 0)) p.t z)):=by
  intro z hz hl
  by_cases hw:m.word (adr h.c 5 0)=p.t
  ·have htw:tlw h.c m=p.t:=hw
   have ews:(m.swap (adr h.c 5 0) (m.word (adr h.c 5 0)) p.t z).mem.words=m.mem.words.set (adr h.c 5 0) z:=by simp only[Mch.swap];rw[if_pos hw]
   have e:sx stk pr h.c h a (m.swap (adr h.c 5 0) (m.word (adr h.c 5 0)) p.t z)=sx stk pr h.c h a m:=by
    unfold sx
    rw[mv_tail hok ews hA5]
   have et:tlw h.c (m.swap (adr h.c 5 0) (m.word (adr h.c 5 0)) p.t z)=z:=by
    unfold tlw
    rw[Jx ews hA5,if_pos rfl]
   obtain⟨pre,s,u,y1,y2,y3⟩:=tl_adv G T (by rw[htw];exact hl htw) hz
   rw[et]
   exact⟨e,.adv pre s u y1 rfl y2 y3,TlI.adv y1 y3⟩
  ·have e:sx stk pr h.c h a (m.swap (adr h.c 5 0) (m.word (adr h.c 5 0)) p.t z)=sx stk pr h.c h a m:=ZR (by simp only[Mch.swap];rw[if_neg hw])
   have et:tlw h.c (m.swap (adr h.c 5 0) (m.word (adr h.c 5 0)) p.t z)=tlw h.c m:=QQ (by simp only[Mch.swap];rw[if_neg hw])
   rw[et]
   exact⟨e,.same rfl rfl,T⟩
 by_cases s9:p.stage=9
 ·have hp:¬pS p:=by unfold pS;omega
  rw[kS_put0 hp]at G
  rw[if_pos s9]
  obtain⟨e,Q,T2⟩:=swp (p.slot+1) (by omega) (fun _=>d9 s9)
  refine⟨pr,F,?_,?_,fun _=>ptd_vac (.inr rfl),?_,T2⟩
  ·simp only[Yn,if_false]
   rw[kS_put0 (by unfold pS;simp),e]
   exact G.mono (by omega)
  ·simp only[];rw[e];exact Rl.refl ..
  ·simp only[];rw[e];exact Q
 rw[if_neg s9]
 by_cases s10:p.stage=10
 ·have hp:¬pS p:=by unfold pS;omega
  rw[kS_put0 hp]at G
  rw[if_pos s10]
  rw[hpz]at hZ ⊢
  obtain⟨pr',g1',g2',g3'⟩:=hzq_gd (n:=n) (Z:=Z) (Y:=Y) (F:=F) C ho 0 G
  have htl:tlw h.c ((m.store (adr h.c 9 (hz0 h.c t (sx stk pr h.c h a m))) (m.word (adr h.c 9 (hz0 h.c t (sx stk pr h.c h a m)))) 0).answer t se 1 0)=tlw h.c m:=by
   have:=tl_nt (m:=m) (Q4 (Q:=qQ h.c) _ hZ (m.word (adr h.c 9 (hz0 h.c t (sx stk pr h.c h a m)))) 0)
   exact(QQ rfl).trans this
  refine⟨pr',F,?_,g2'.weaken (fun j hj=>by rw[hj];exact⟨ho,_,rfl,rfl,Qm hok 9 j0⟩),fun hf=>(by cases hf),.same rfl htl,by simp only[];rw[htl];exact T⟩
  simp only[if_true]
  exact g1'.mono (by omega)
 rw[if_neg s10]
 have s11:p.stage=11:=by omega
 have hp:pS p:=by unfold pS;omega
 rw[Q5 hp]at G
 obtain⟨e,Q,T2⟩:=swp p.n (by have:=i5 s11;omega) (fun _=>d8 s11)
 refine⟨pr,F,?_,?_,fun _=>ptd45 (.inl rfl) ?_ ?_ ?_,?_,T2⟩
 ·simp only[Yn,if_false]
  rw[Q5 (by unfold pS;simp),e]
  exact G.mono (by omega)
 ·simp only[];rw[e];exact Rl.refl ..
 ·simp only[];rw[e];exact d2 hp
 ·simp only[];rw[e];exact d3 hp (by omega)
 ·simp only[];rw[e];exact d4 hp (by omega) (by omega)
 ·simp only[];rw[e];exact Q
end
end
section
open Go.RowKit
namespace Hp
theorem wl_pass {P:Program}{ops:Array Oper}{Q:Exit→Act→World→Prop}{w:World}{rest:List Oper}{l:List Value}{ds:List Deferred}{d:Nat}{op:Op}{ty:TypeId}{pos:String}{after:Array Edge}{g:Nat×Bool}
  (hw:Region.wanted { dst:=some d,op:=op,type:=ty,pos,after,guard:=some g } (yielded ops l.toArray)=false) (kk:wpList P ops Q rest ⟨(l.set d undef).toArray,ds⟩ w) :
  wpList P ops Q ({ dst:=some d,op:=op,type:=ty,pos,after,guard:=some g }::rest) ⟨l.toArray,ds⟩ w:=by
 refine wpList_skip hw ?_
 have e:(Act.put ⟨l.toArray,ds⟩ (some d) undef:Act)=⟨(l.set d undef).toArray,ds⟩:=ZO
 show wpList P ops Q rest (Act.put ⟨l.toArray,ds⟩ (some d) undef) w
 rw[e];exact kk
theorem Z8 {P:Program}{ops:Array Oper}{Q:Exit→Act→World→Prop}{w:World}{rest:List Oper}{l:List Value}{ds:List Deferred}{d:Nat}{op:Op}{ty:TypeId}{pos:String}{after:Array Edge}{i:Nat}{b z:Bool}{o:Oper}{e:Nat}
  (ho:ops[i]? = some o) (hd:o.dst=some e) (hv:l[e]? = some (.bool z)) (hb:(z==b)=false) (kk:wpList P ops Q rest ⟨(l.set d undef).toArray,ds⟩ w) :
  wpList P ops Q ({ dst:=some d,op:=op,type:=ty,pos,after,guard:=some (i,b) }::rest) ⟨l.toArray,ds⟩ w:=by
 refine wl_pass ?_ kk
 have hv':l.toArray[e]? = some (.bool z):=by simpa using hv
 simp only[Region.wanted,yielded,ho,Option.bind_some,hd,hv']
 cases z<;>cases b<;>first|rfl|cases hb
theorem wl_pass3 {P:Program}{ops:Array Oper}{Q:Exit→Act→World→Prop}{w:World}{rest:List Oper}{l:List Value}{ds:List Deferred}{d:Nat}{op:Op}{ty:TypeId}{pos:String}{after:Array Edge}{i:Nat}{b:Bool}{o:Oper}{e:Nat}
  (ho:ops[i]? = some o) (hd:o.dst=some e) (hv:l[e]? = some undef) (kk:wpList P ops Q rest ⟨(l.set d undef).toArray,ds⟩ w) :
  wpList P ops Q ({ dst:=some d,op:=op,type:=ty,pos,after,guard:=some (i,b) }::rest) ⟨l.toArray,ds⟩ w:=by
 refine wl_pass ?_ kk
 have hv':l.toArray[e]? = some undef:=by simpa using hv
 simp only[Region.wanted,yielded,ho,Option.bind_some,hd,hv']
 cases b<;>rfl
theorem ZT {P:Program}{ops:Array Oper}{Q:Exit→Act→World→Prop}{w:World}{rest:List Oper}{l:List Value}{ds:List Deferred}{d:Nat}{c x y:Operand}{ty:TypeId}{pos:String}{after:Array Edge}{gd:Option (Nat×Bool)}{z:Bool}{v:Value}
  (hc:ev l c=some (.bool z)) (hv:ev l (cond z x y)=some v)
  (hg:Region.wanted { dst:=some d,op:=.pick c x y,type:=ty,pos,after,guard:=gd } (yielded ops l.toArray)=true)
  (kk:wpList P ops Q rest ⟨(l.set d v).toArray,ds⟩ w) :
  wpList P ops Q ({ dst:=some d,op:=.pick c x y,type:=ty,pos,after,guard:=gd }::rest) ⟨l.toArray,ds⟩ w:=by
 refine Qr (v:=v) (w':=w) hg ?_ (ZO▸kk)
 have h1:=Zk (ds:=ds) hc
 have h2:=Zk (ds:=ds) hv
 cases z<;>simp[execOp,h1,asBool]<;>simpa using h2
theorem Zv {d:Option Nat}{op:Op}{ty:TypeId}{pos:String}{after:Array Edge}{f:Nat→Option Bool}:Region.wanted { dst:=d,op:=op,type:=ty,pos,after,guard:=none } f=true:=rfl
theorem Q6 {ops:Array Oper}{l:List Value}{d:Option Nat}{op:Op}{ty:TypeId}{pos:String}{after:Array Edge}{i:Nat}{b:Bool}{o:Oper}{e:Nat}
  (ho:ops[i]? = some o) (hd:o.dst=some e) (hv:l[e]? = some (.bool b)):Region.wanted { dst:=d,op:=op,type:=ty,pos,after,guard:=some (i,b) } (yielded ops l.toArray)=true:=by
 have hv':l.toArray[e]? = some (.bool b):=by simpa using hv
 simp only[Region.wanted,yielded,ho,Option.bind_some,hd,hv']
 cases b<;>rfl
end Hp
end
section
open Go.RowKit
namespace Hp
section
variable {P:Program}{ops:Array Oper}{Q:Exit→Act→World→Prop}{w:World}{rest:List Oper}{l:List Value}{ds:List Deferred}{T T' ty:TypeId}{pos:String}{after:Array Edge}{gd:Option (Nat×Bool)}{d:Nat}{x y:Operand}{K:IntKind}{a b:Int}{r:Bool}
theorem wl_neqC (hx:ev l x=some (.int K a))(hy:ev l y=some (.int K b))(hr:(a != b)=r)
  (hg:Region.wanted { dst:=some d,op:=.binOp .neq T x y T',type:=ty,pos,after,guard:=gd } (yielded ops l.toArray)=true)
  (kk:wpList P ops Q rest ⟨(l.set d (.bool r)).toArray,ds⟩ w) :
  wpList P ops Q ({ dst:=some d,op:=.binOp .neq T x y T',type:=ty,pos,after,guard:=gd }::rest) ⟨l.toArray,ds⟩ w:=by
 refine Qr (v:=.bool r) (w':=w) hg ?_ (ZO▸kk)
 have h1:=Zk (ds:=ds) hx
 have h2:=Zk (ds:=ds) hy
 subst hr
 simp[execOp,h1,h2,binOp,Op.intCmp,eqGuard]
theorem wl_eqlC (hx:ev l x=some (.int K a))(hy:ev l y=some (.int K b))(hr:(a==b)=r)
  (hg:Region.wanted { dst:=some d,op:=.binOp .eql T x y T',type:=ty,pos,after,guard:=gd } (yielded ops l.toArray)=true)
  (kk:wpList P ops Q rest ⟨(l.set d (.bool r)).toArray,ds⟩ w) :
  wpList P ops Q ({ dst:=some d,op:=.binOp .eql T x y T',type:=ty,pos,after,guard:=gd }::rest) ⟨l.toArray,ds⟩ w:=by
 refine Qr (v:=.bool r) (w':=w) hg ?_ (ZO▸kk)
 have h1:=Zk (ds:=ds) hx
 have h2:=Zk (ds:=ds) hy
 subst hr
 simp[execOp,h1,h2,binOp,Op.intCmp,eqGuard]
theorem wl_lssC (hx:ev l x=some (.int K a))(hy:ev l y=some (.int K b))(hr:decide (a<b)=r)
  (hg:Region.wanted { dst:=some d,op:=.binOp .lss T x y T',type:=ty,pos,after,guard:=gd } (yielded ops l.toArray)=true)
  (kk:wpList P ops Q rest ⟨(l.set d (.bool r)).toArray,ds⟩ w) :
  wpList P ops Q ({ dst:=some d,op:=.binOp .lss T x y T',type:=ty,pos,after,guard:=gd }::rest) ⟨l.toArray,ds⟩ w:=by
 refine Qr (v:=.bool r) (w':=w) hg ?_ (ZO▸kk)
 have h1:=Zk (ds:=ds) hx
 have h2:=Zk (ds:=ds) hy
 subst hr
 simp[execOp,h1,h2,binOp,Op.intCmp,eqGuard]
theorem wl_leqC (hx:ev l x=some (.int K a))(hy:ev l y=some (.int K b))(hr:decide (a≤b)=r)
  (hg:Region.wanted { dst:=some d,op:=.binOp .leq T x y T',type:=ty,pos,after,guard:=gd } (yielded ops l.toArray)=true)
  (kk:wpList P ops Q rest ⟨(l.set d (.bool r)).toArray,ds⟩ w) :
  wpList P ops Q ({ dst:=some d,op:=.binOp .leq T x y T',type:=ty,pos,after,guard:=gd }::rest) ⟨l.toArray,ds⟩ w:=by
 refine Qr (v:=.bool r) (w':=w) hg ?_ (ZO▸kk)
 have h1:=Zk (ds:=ds) hx
 have h2:=Zk (ds:=ds) hy
 subst hr
 simp[execOp,h1,h2,binOp,Op.intCmp,eqGuard]
theorem wl_gtrC (hx:ev l x=some (.int K a))(hy:ev l y=some (.int K b))(hr:decide (a>b)=r)
  (hg:Region.wanted { dst:=some d,op:=.binOp .gtr T x y T',type:=ty,pos,after,guard:=gd } (yielded ops l.toArray)=true)
  (kk:wpList P ops Q rest ⟨(l.set d (.bool r)).toArray,ds⟩ w) :
  wpList P ops Q ({ dst:=some d,op:=.binOp .gtr T x y T',type:=ty,pos,after,guard:=gd }::rest) ⟨l.toArray,ds⟩ w:=by
 refine Qr (v:=.bool r) (w':=w) hg ?_ (ZO▸kk)
 have h1:=Zk (ds:=ds) hx
 have h2:=Zk (ds:=ds) hy
 subst hr
 simp[execOp,h1,h2,binOp,Op.intCmp,eqGuard]
theorem wl_geqC (hx:ev l x=some (.int K a))(hy:ev l y=some (.int K b))(hr:decide (a≥b)=r)
  (hg:Region.wanted { dst:=some d,op:=.binOp .geq T x y T',type:=ty,pos,after,guard:=gd } (yielded ops l.toArray)=true)
  (kk:wpList P ops Q rest ⟨(l.set d (.bool r)).toArray,ds⟩ w) :
  wpList P ops Q ({ dst:=some d,op:=.binOp .geq T x y T',type:=ty,pos,after,guard:=gd }::rest) ⟨l.toArray,ds⟩ w:=by
 refine Qr (v:=.bool r) (w':=w) hg ?_ (ZO▸kk)
 have h1:=Zk (ds:=ds) hx
 have h2:=Zk (ds:=ds) hy
 subst hr
 simp[execOp,h1,h2,binOp,Op.intCmp,eqGuard]
theorem wl_mvB {z:Value}(hx:ev l x=some z)
  (hg:Region.wanted { dst:=some d,op:=.move x,type:=ty,pos,after,guard:=gd } (yielded ops l.toArray)=true)
  (kk:wpList P ops Q rest ⟨(l.set d z).toArray,ds⟩ w) :
  wpList P ops Q ({ dst:=some d,op:=.move x,type:=ty,pos,after,guard:=gd }::rest) ⟨l.toArray,ds⟩ w:=by
 refine Qr (v:=z) (w':=w) hg ?_ (ZO▸kk)
 have h1:=Zk (ds:=ds) hx
 simp[execOp,h1]
end
end Hp
end
section
open Go.RowKit Hp
set_option maxRecDepth 100000
set_option maxHeartbeats 1000000
attribute [local irreducible] Go.Calls Go.wpList
theorem que_slot (u v:Int)(h0:0≤u)(h1:u≤2147483647)(hv:u-1=v):Zl Tryz.prog 145 #[.int .u64 u] emp (.int .i64 v) emp:=by
 intro O w F hs
 subst hv
 have hl:=Lh (Jz u h0 h1)
 go_enter Tryz.func145,Tryz.ntmps145
 (repeat'(first|(go_big_may;(go_at_call 156;((refine(hl.out).at hs (by (with_reducible exact Qh)) ?_);clear hs;intro w hs;(try simp only[Em,Ma]at hs))))|go_step|(dsimp only)))
 go_ret
 exact⟨rfl,by ((with_reducible apply Sat.fin hs);(focus with_reducible (repeat first|exact Ql|exact Qn|apply Qb);done))⟩
theorem que_arena (bh ba:Nat)(h:Haz):Zl Tryz.prog 65 #[.pointer (some ⟨bh,0,none⟩)] (HazR bh ba h) (.pointer (some ⟨ba,0,none⟩)) (HazR bh ba h):=by
 intro O w F hs
 (obtain⟨vhh,vhl,hs⟩:=hazR.1 hs)
 go_enter Tryz.func65,Tryz.ntmps65
 go_wp2_with ((with_reducible apply Za hs);exact Ii;rfl;(with_reducible exact Qh);rfl;rfl;simp only[Uc,Uz])
 go_ret
 refine⟨rfl,?_⟩
 (apply ZF;((try simp only[Yh,Yi,Yj,Yk,Yl]);(try simp only[Yh,Yi,Yj,Yk,Yl]at hs);((with_reducible apply Sat.fin hs);(with_reducible exact Ql))))
def ptAt (st:Int):Int:=if st=0 then 0 else st-1
abbrev ptC (gp bh gt:Nat)(c:Cfg)(own:Int)(p:Pt):Zb:=pt gp (.cells #[.pointer (some ⟨bh,0,none⟩),.int .i64 (adr c 4 0:Nat),.int .i64 (adr c 5 0:Nat),.int .i64 (base c 11),.int .i64 (base c 13),.int .i64 p.thread,.int .i64 p.value,.int .i64 (ptAt p.stage),.pointer (some ⟨gt,0,none⟩),.int .u64 own,.int .u64 p.t,.int .u64 p.n,.int .i64 p.hz] 142)
def PtR (gp bh ba:Nat)(c:Cfg)(p:Pt):Zb:=ex fun gt=>ex fun(own:Int)=>pu (2≤p.stage→own=p.slot+1∧Zd p.take=p.slot)*(ptC gp bh gt c own p*TakR gt ba p.take)
theorem ptR {O w:World}{gp bh ba:Nat}{c:Cfg}{p:Pt}{R:Zb}:Sat O w (PtR gp bh ba c p*R)↔∃gt own,(2≤p.stage→own=p.slot+1∧Zd p.take=p.slot)∧Sat O w (ptC gp bh gt c own p*(TakR gt ba p.take*R)):=by
 unfold PtR
 simp only[ZC,Ma,Zy]
theorem JF {O w:World}{gp bh ba gt:Nat}{own:Int}{c:Cfg}{p:Pt}{R:Zb}(h1:2≤p.stage→own=p.slot+1∧Zd p.take=p.slot)(hs:Sat O w (ptC gp bh gt c own p*(TakR gt ba p.take*R))):Sat O w (PtR gp bh ba c p*R):=ptR.2 ⟨_,_,h1,hs⟩
attribute [irreducible] PtR
def PtR0 (gp bh:Nat)(c:Cfg)(p:Pt):Zb:=pt gp (.cells #[.pointer (some ⟨bh,0,none⟩),.int .i64 (adr c 4 0:Nat),.int .i64 (adr c 5 0:Nat),.int .i64 (base c 11),.int .i64 (base c 13),.int .i64 p.thread,.int .i64 p.value,.int .i64 0,.pointer none,.int .u64 0,.int .u64 p.t,.int .u64 p.n,.int .i64 0] 142)
theorem pt_taken (gp bh ba d bx bm:Nat)(cf:Cfg)(m:Mch)(i t:Nat)(c:Cll)(s:Sea)(p:Pt)(hk:Zd p.take = -1∨(0≤Zd p.take∧Zd p.take≤2147483646))(hst:p.stage=1)(hcur:Z6 m i t c s) :
  Zl Tryz.prog 139 #[.pointer (some ⟨gp,0,none⟩),.pointer (some ⟨d,0,none⟩)] (PtR gp bh ba cf p*DkR d bx bm m) (.bool (ZX m i t c s p).1)
   (PtR gp bh ba cf (ZX m i t c s p).2.2*DkR d bx bm (ZX m i t c s p).2.1):=by
 intro O w F hs
 simp only[Ma]at hs
 obtain⟨p1,p2,p3,p4,p5,p6,p7,p8⟩:=p
 obtain⟨gt,own,ho,hs⟩:=ptR.1 hs
 simp only[]at hs hst hk
 subst hst
 have hN:=Lh (desk_now d bx bm m)
 have hP:=Lh (JB d bx bm m i t c m.now hcur.cur hcur.call)
 have hA:=Lh (QK d bx bm (m.point i c m.now) i t s 4 0 hcur.cur hcur.seat)
 have hS:=take_slot gt ba p3
 unfold ZX
 change Zl _ _ _ _ (.int .i64 (Zd p3)) _ at hS
 simp only[]
 generalize hE:Zd p3=sl0 at hS hk ⊢
 have HS:=Lh hS
 have HE:=Lh hE
 clear hcur hS ho hE
 by_cases hu:sl0<0
 ·have hd:decide (sl0<0)=true:=by simpa using hu
  simp only[if_pos hu]
  clear hu hk
  go_enter Tryz.func139,Tryz.ntmps139
  (repeat'(first|(go_big_may;(first|((with_reducible apply Za hs);exact Ii;rfl;(with_reducible exact Qh);rfl;rfl;simp only[Uc,Uz])|(go_at_call 142;(refine(HS.out).at hs (by with_reducible repeat first|exact Qh|apply Qk) ?_;clear hs;intro w hs;(try simp only[Em,Ma]at hs)))|(go_at_call 148;(refine(hN.out).at hs (by with_reducible repeat first|exact Qh|apply Qk) ?_;clear hs;intro w hs;(try simp only[Em,Ma]at hs)))|(go_at_call 147;((refine(hP.out).at hs (by (with_reducible exact Qh)) ?_);clear hs;intro w hs;(try simp only[Em,Ma]at hs)))|(go_at_call 150;((refine(hA.out).at hs (by (with_reducible exact Qh)) ?_);clear hs;intro w hs;(try simp only[Em,Ma]at hs)))))|go_step|(dsimp only)))
  go_ret
  refine⟨rfl,?_⟩
  simp only[Ma]
  apply JF (gt:=gt) (own:=own) (fun hf=>by simp at hf)
  (with_reducible apply Sat.fin hs;repeat first|exact Ql|exact Qh|apply Qb|apply Qk)
 ·have hd:decide (sl0<0)=false:=by simpa using hu
  have hL:=Lh (word_link sl0 (by omega) (by omega))
  simp only[if_neg hu]
  clear hu hk
  go_enter Tryz.func139,Tryz.ntmps139
  (repeat'(first|(go_big_may;(first|((with_reducible apply Za hs);exact Ii;rfl;(with_reducible repeat first|exact Qh|apply Qk);rfl;rfl;simp only[Uc,Uz])|((with_reducible apply ZA hs);exact Ii;rfl;rfl;(with_reducible repeat first|exact Qh|apply Qk);rfl;exact Vb rfl;rfl;clear hs;intro w hs;simp only[Yg,Uc,Uz]at hs)|(go_at_call 142;(refine(HS.out).at hs (by with_reducible repeat first|exact Qh|apply Qk) ?_;clear hs;intro w hs;(try simp only[Em,Ma]at hs)))|(go_at_call 153;((refine(hL.out).at hs (by (focus((repeat(with_reducible exact Qn));done))) ?_);clear hs;intro w hs;(try simp only[Em,Ma]at hs)))))|go_step|(dsimp only)))
  go_ret
  refine⟨rfl,?_⟩
  simp only[Ma]
  apply JF (gt:=gt) (own:=sl0+1) (fun _=>⟨rfl,HE.out⟩)
  ((with_reducible apply Sat.fin hs);(focus((repeat(first|with_reducible exact Ql|with_reducible apply Qb|exact Qh));done)))
theorem takeReady_slot {a:Are}{m:Mch}{k:Tak}{N:Int}(hin:∀z∈a.caches.getD k.thread.toNat [],0≤z∧z<N)(hr:(Zf a m k).1=true):0≤Zd (Zf a m k).2.2.2∧Zd (Zf a m k).2.2.2<N:=by
 unfold Zf at hr ⊢
 simp only[]at hr ⊢
 by_cases h0:(a.caches.getD k.thread.toNat []).length=0
 ·rw[if_pos h0]at hr;cases hr
 ·rw[if_neg h0]
  generalize a.caches.getD k.thread.toNat []=x at hin h0 ⊢
  have hlt:x.length-1<x.length:=by omega
  have hm:x.getD (x.length-1) 0∈x:=by
   rw[Yb,Yd hlt];simp
  exact hin _ hm
theorem pt_ready (gp bh ba d bx bm:Nat)(h:Haz)(a:Are)(m:Mch)(i t:Nat)(c:Cll)(s:Sea)(p:Pt)(hz:HazOk h a m)(t0:0≤p.thread)(t1:p.thread<h.c.T)(hd:0≤h.held.getD p.thread.toNat 0)(hp:p.take=⟨p.thread,1,0,0,0,false⟩)(hcur:Z6 m i t c s) :
  Zl Tryz.prog 135 #[.pointer (some ⟨gp,0,none⟩),.pointer (some ⟨d,0,none⟩)] (PtR0 gp bh h.c p*(HazR bh ba h*(AreR ba a*DkR d bx bm m))) (.bool (ZY h a m i t c s p).1)
   (PtR gp bh ba h.c (ZY h a m i t c s p).2.2.2*(HazR bh ba h*(AreR ba (ZY h a m i t c s p).2.1*DkR d bx bm (ZY h a m i t c s p).2.2.1))):=by
 intro O w F hs
 simp only[Ma]at hs
 obtain⟨p1,p2,p3,p4,p5,p6,p7,p8⟩:=p
 simp only[]at t0 t1 hd hp
 obtain⟨tn,rfl⟩:=Int.eq_ofNat_of_zero_le t0
 obtain⟨x,hx,hxl,hin⟩:=hz.cache t0 t1
 obtain⟨r,hr,_,hr1⟩:=hz.hold t0 t1
 rw[Yo]at hx hr hd
 have hrd:h.held.getD tn 0=r:=by rw[Yb,hr];rfl
 rw[hrd]at hd
 have hOk:h.c.Ok:=hz.c▸hz.ok.c
 have hS2:=hOk.S2
 have hH1:=hOk.H1
 have hsh:=hz.sh
 have hsl:0<a.slots.length:=by rw[hz.ok.slots,←hz.c];have:=hOk.S1;omega
 have hAd:=haz_addr bh ba h hOk tn r 0 hr hd hr1 (by omega) (by omega)
 have hza:=hz_adr hOk hd hr1 (k:=0) (by omega) (by omega)
 have hb9:=(ZD hOk 9).1
 have e9:base h.c 9+r*h.c.Hz+0=((qHz h tn 0:Nat):Int):=by
  unfold qHz
  rw[Yo,hrd]
  omega
 rw[e9]at hAd
 have HAd:=Lh hAd
 have hG:=Lh (que_arena bh ba h)
 have hT:=Lh (arena_take ba a (tn:Int) hsl)
 have hR:=fun g=>take_ready g ba d bx bm a m ⟨tn,1,0,0,0,false⟩ tn x rfl hx rfl hin (by omega) (by omega)
 have hc0:=(Z3 a m ⟨tn,1,0,0,0,false⟩).curIn hcur
 have hsl2:(Zf a m ⟨tn,1,0,0,0,false⟩).1=true→0≤Zd (Zf a m ⟨tn,1,0,0,0,false⟩).2.2.2∧Zd (Zf a m ⟨tn,1,0,0,0,false⟩).2.2.2<(a.slots.length:Int):=fun hq=>takeReady_slot (N:=(a.slots.length:Int)) (fun z hzz=>hin z (by simp only[Yo]at hzz;rw[Yb,hx]at hzz;exact hzz)) hq
 have hlen:(a.slots.length:Int)≤2147483646:=by rw[hz.ok.slots,←hz.c];omega
 subst hp
 unfold PtR0 at hs
 unfold ZY
 simp only[]at hs ⊢
 clear hz hx hxl hin hsh hcur t0 t1 hr hd hrd hr1 hS2 hH1 hsl hAd hza hb9 e9 hOk
 generalize Zf a m ⟨tn,1,0,0,0,false⟩=q at hR hc0 hsl2 ⊢
 obtain⟨q1,q2,q3,q4⟩:=q
 simp only[]at hR hc0 hsl2 ⊢
 generalize ((qHz h tn 0:Nat):Int)=Z at HAd ⊢
 cases q1 with
 | true=>
  obtain⟨b0,b1⟩:=hsl2 rfl
  have hK:=pt_taken gp bh ba d bx bm h.c q3 i t c s ⟨tn,p2,q4,p4,p5,p6,1,Z⟩ (.inr ⟨b0,by simp only[];omega⟩) rfl hc0
  generalize ZX q3 i t c s ⟨tn,p2,q4,p4,p5,p6,1,Z⟩=qq at hK ⊢
  obtain⟨k1,k2,k3⟩:=qq
  have HR:=Lh hR;have HK:=Lh hK;clear hR hK hc0 hsl2 hlen b0 b1
  simp only[if_true]
  go_enter Tryz.func135,Tryz.ntmps135
  (repeat'(first|((with_reducible apply ZT);((simp only[ev,Ue,Uf]);rfl);((simp only[cond_true,cond_false,ev,Ue,Uf]);rfl);(with_reducible exact Zv);simp only[Uc,Uz])|(go_big_may;(first|(with_reducible first|apply NQ.mk|apply EQ.mk|exact Zg|apply Zi)|((with_reducible apply Zh);rfl;rfl)|((with_reducible apply Zm);rfl)|((with_reducible refine Zr ?_ ?_);focus((with_reducible apply ZK);rfl;rfl))|(show Qo _ _ _;rfl)|((with_reducible apply Za hs);exact Ii;rfl;(with_reducible repeat first|exact Qh|apply Qk);rfl;rfl;simp only[Uc,Uz])|((with_reducible apply ZA hs);exact Ii;rfl;rfl;(with_reducible repeat first|exact Qh|apply Qk);rfl;exact Vb rfl;rfl;clear hs;intro w hs;simp only[Yg,Uc,Uz]at hs)|(go_at_call 91;(refine(HAd.out).at hs (by with_reducible repeat first|exact Qh|apply Qk) ?_;clear hs;intro w hs;(try simp only[Em,Ma]at hs)))|(go_at_call 65;(refine(hG.out).at hs (by with_reducible repeat first|exact Qh|apply Qk) ?_;clear hs;intro w hs;(try simp only[Em,Ma]at hs)))|(go_at_call 137;(refine(hT.out).at hs (by with_reducible repeat first|exact Qh|apply Qk) ?_;clear hs;intro g w hs;(try simp only[Em,Ma]at hs)))|(go_at_call 138;((refine((HR.out g)).at hs (by (with_reducible repeat first|exact Qh|apply Qb|apply Qk)) ?_);clear hs;intro w hs;(try simp only[Em,Ma]at hs)))|(go_at_call 139;(replace hs:=JF (p:=⟨tn,p2,q4,p4,p5,p6,1,Z⟩) (gt:=g) (own:=0) (fun hf=>by simp at hf) (hs.fin (by (focus((repeat(first|with_reducible exact Ql|with_reducible apply Qb|exact Qh|with_reducible apply Qk));done)))));(refine(HK.out).at hs (by with_reducible repeat first|exact Qh|apply Qb|apply Qk) ?_;clear hs;intro w hs;(try simp only[Em,Ma]at hs)))|((with_reducible refine Wp (id:=1) (Paz (Pbz [.neu 11,.neu 12,.eff 10 [0,11,12],.neu 13,.eff 14 []])) hs rfl ?_ ?_);kernel_rfl;clear hs;intro w hs)|((with_reducible refine Wp (id:=2) (Paz [.neu 5,.neu 7,.neu 8,.neu 9,.neu 10,.eff 6 [0,7,8,9,10],.eff 11 [0],.neu 12,.neu 13,.eff 14 []]) hs rfl ?_ ?_);kernel_rfl;clear hs;intro w hs)))|go_guarded|go_step|(dsimp only)))
  go_ret
  refine⟨by simp,?_⟩
  simp only[Ma]
  (with_reducible apply Sat.fin hs;repeat first|exact Ql|exact Qh|apply Qb|apply Qk)
 | false=>
  have HR:=Lh hR;clear hR hc0 hsl2 hlen
  simp only[Yn,if_false]
  go_enter Tryz.func135,Tryz.ntmps135
  (repeat'(first|(((with_reducible apply Z8);rfl;rfl;((simp only[ev,Ue,Uf]);rfl);rfl;simp only[Uc,Uz]);(repeat((with_reducible apply Z8);rfl;rfl;((simp only[ev,Ue,Uf]);rfl);rfl;simp only[Uc,Uz])))|((with_reducible apply ZT);((simp only[ev,Ue,Uf]);rfl);((simp only[cond_true,cond_false,ev,Ue,Uf]);rfl);(with_reducible exact Zv);simp only[Uc,Uz])|(go_big_may;(first|(with_reducible first|apply NQ.mk|apply EQ.mk|exact Zg|apply Zi)|((with_reducible apply Zh);rfl;rfl)|((with_reducible apply Zm);rfl)|((with_reducible refine Zr ?_ ?_);focus((with_reducible apply ZK);rfl;rfl))|(show Qo _ _ _;rfl)|((with_reducible apply Za hs);exact Ii;rfl;(with_reducible repeat first|exact Qh|apply Qk);rfl;rfl;simp only[Uc,Uz])|((with_reducible apply ZA hs);exact Ii;rfl;rfl;(with_reducible repeat first|exact Qh|apply Qk);rfl;exact Vb rfl;rfl;clear hs;intro w hs;simp only[Yg,Uc,Uz]at hs)|(go_at_call 91;(refine(HAd.out).at hs (by with_reducible repeat first|exact Qh|apply Qk) ?_;clear hs;intro w hs;(try simp only[Em,Ma]at hs)))|(go_at_call 65;(refine(hG.out).at hs (by with_reducible repeat first|exact Qh|apply Qk) ?_;clear hs;intro w hs;(try simp only[Em,Ma]at hs)))|(go_at_call 137;(refine(hT.out).at hs (by with_reducible repeat first|exact Qh|apply Qk) ?_;clear hs;intro g w hs;(try simp only[Em,Ma]at hs)))|(go_at_call 138;((refine((HR.out g)).at hs (by (with_reducible repeat first|exact Qh|apply Qb|apply Qk)) ?_);clear hs;intro w hs;(try simp only[Em,Ma]at hs)))|((with_reducible refine Wp (id:=1) (Paz (Pbz [.neu 11,.neu 12,.eff 10 [0,11,12],.neu 13,.eff 14 []])) hs rfl ?_ ?_);kernel_rfl;clear hs;intro w hs)|((with_reducible refine Wp (id:=2) (Paz [.neu 5,.neu 7,.neu 8,.neu 9,.neu 10,.eff 6 [0,7,8,9,10],.eff 11 [0],.neu 12,.neu 13,.eff 14 []]) hs rfl ?_ ?_);kernel_rfl;clear hs;intro w hs)))|go_step|(dsimp only)))
  go_ret
  refine⟨by simp,?_⟩
  simp only[Ma]
  apply JF (gt:=g) (own:=0) (fun hf=>by simp at hf)
  ((with_reducible apply Sat.fin hs);(focus((repeat(first|with_reducible exact Ql|with_reducible exact Qh|with_reducible apply Qb|exact Qh|with_reducible apply Qk));done)))
end
end Go.Proofs.YtefjbdajgakgpaaGreat
