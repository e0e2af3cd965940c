import Derived.Test.YtefjbdajgakgpaaGreatDRs2
set_option linter.all false
namespace Go.Proofs.YtefjbdajgakgpaaGreat
section
open Go.RowKit Hp
set_option maxRecDepth 100000
set_option maxHeartbeats 1000000
attribute [local irreducible] Go.Calls
section
variable {c:Cfg}{Lg S N:Nat}{h:Haz}{a:Are}{m m':Mch}
variable {n:Int}{Z Y:Int→Nat}{F stk:List Int}{pr:Int→Prop}{K L:List Int}{t:Nat}{W:Int→Prop}{x:Sx}{tl z:Int}
theorem Q7 {p:Gt}(h:¬gS p)(h2:p.stage≠12):kS (.get p)=[]∧kL (.get p)=[]∧gtSc p=none:=by
 have e:gtSc p=none:=by unfold gtSc;rw[if_neg h2]
 refine⟨?_,?_,e⟩
 ·simp only[kS];rw[if_neg h,e]
 ·simp only[kL];rw[e]
theorem kS_get11 {p:Gt}(h:gS p):kS (.get p)=[p.h0-1]∧kL (.get p)=[]∧gtSc p=none:=by
 have e:gtSc p=none:=by unfold gtSc;rw[if_neg (by have:=h.1;omega)]
 refine⟨?_,?_,e⟩
 ·simp only[kS];rw[if_pos h]
 ·simp only[kL];rw[e]
theorem kS_get12 {p:Gt}{r:Ret}{s:Scn}(h:p.stage=12)(hr:p.retire=some r)(hs:r.scan=some s):kS (.get p)=scnP s∧kL (.get p)=lkS s∧gtSc p=some s:=by
 have e:gtSc p=some s:=by unfold gtSc;rw[if_pos h,hr];exact hs
 refine⟨?_,?_,e⟩
 ·simp only[kS];rw[if_neg (by unfold gS;omega),e]
 ·simp only[kL];rw[e]
theorem Jk {p:Gt}(h:p.stage≠11):¬gS p:=by unfold gS;omega
theorem gtd_vac {p:Gt}(h:p.stage=0∨p.stage=1∨p.stage=2∨p.stage=11)(hg:p.got=false):GtD c t x tl p:=
 ⟨fun _=>by omega,fun _ _=>by omega,fun _ _=>by omega,fun _ _=>by omega,fun _ _=>by omega,fun _=>by omega,fun _ _=>by omega,fun _=>by omega,fun _=>by omega,fun _=>by omega,fun h=>(by unfold gS at h;rw[hg]at h;cases h.2),fun s hs=>(by unfold gtSc at hs;rw[if_neg (by omega)]at hs;cases hs),fun _=>hg⟩
structure GtM (c:Cfg)(t:Nat)(x:Sx)(tl:Int)(p:Gt):Prop where
 pr:x.pr (hz0 c t x)∧x.V.hz (hz0 c t x)=p.h0
 hd:HdQ x (p.h0-1)
 tl:5≤p.stage→p.t≠p.h0→TlGt x tl (p.h0-1)
 gt:9≤p.stage→p.t≠p.h0
 eq8:p.stage=8→p.t=p.h0
 lnk:6≤p.stage→x.V.ln (p.h0-1)=p.n
 hz1:p.stage=7→x.V.hz (hz0 c t x+1)=p.n
 pr1:p.stage=9∨p.stage=10→x.pr (hz0 c t x+1)∧x.V.hz (hz0 c t x+1)=p.n
 val:p.stage=10→p.n-1∈x.stk→p.value=wrap64 (x.V.val (p.n-1))
theorem GtM.d {p:Gt}(M:GtM c t x tl p)(h1:4≤p.stage)(h2:p.stage≤10)(hg:p.got=false):GtD c t x tl p:=
 ⟨fun h=>by omega,fun _ _=>M.pr,fun _ _=>M.hd,fun h _=>M.tl h,fun h _=>M.gt h,M.eq8,fun h _=>M.lnk h,M.hz1,M.pr1,M.val,fun h=>by have:=h.1;omega,fun s hs=>(by unfold gtSc at hs;rw[if_neg (by omega)]at hs;cases hs),fun _=>hg⟩
theorem GtD.mid {p:Gt}(D:GtD c t x tl p)(h1:4≤p.stage)(h2:p.stage≤10):GtM c t x tl p:=
 ⟨D.pr h1 h2,D.hd h1 h2,fun h=>D.tl h h2,fun h=>D.gt h h2,D.eq8,fun h=>D.lnk h h2,D.hz1,D.pr1,D.val⟩
theorem get_swp (C:Core c Lg S N h a m)(T:TlI stk (tlw c m))(G:Gd c n Z Y F (sx stk pr c h a m) K L){o z:Int}(hz:z≠0)(hl:tlw c m=o→(mv c m).ln (o-1)=z) :
  sx stk pr c h a (m.swap (adr c 5 0) (m.word (adr c 5 0)) o z)=sx stk pr c h a m∧QRl (sx stk pr c h a m) (tlw c m) (sx stk pr c h a m) (tlw c (m.swap (adr c 5 0) (m.word (adr c 5 0)) o z))∧TlI stk (tlw c (m.swap (adr c 5 0) (m.word (adr c 5 0)) o z)):=by
 have hok:=C.ok
 have hA5:=C.lt (adr5_lt hok)
 by_cases hw:m.word (adr c 5 0)=o
 ·have htw:tlw c m=o:=hw
  have ews:(m.swap (adr c 5 0) (m.word (adr c 5 0)) o z).mem.words=m.mem.words.set (adr c 5 0) z:=by simp only[Mch.swap];rw[if_pos hw]
  have e:sx stk pr c h a (m.swap (adr c 5 0) (m.word (adr c 5 0)) o z)=sx stk pr c h a m:=by
   unfold sx
   rw[mv_tail hok ews hA5]
  have et:tlw c (m.swap (adr c 5 0) (m.word (adr c 5 0)) o z)=z:=by
   unfold tlw
   rw[Q4 ews hA5,if_pos rfl]
  obtain⟨pre,s,u,y1,y2,y3⟩:=tl_adv G T (by rw[htw];exact hl htw) hz
  rw[et]
  exact⟨e,.adv pre s u y1 rfl y2 y3,TlI.adv y1 y3⟩
 ·have e:sx stk pr c h a (m.swap (adr c 5 0) (m.word (adr c 5 0)) o z)=sx stk pr c h a m:=ZL (by simp only[Mch.swap];rw[if_neg hw])
  have et:tlw c (m.swap (adr c 5 0) (m.word (adr c 5 0)) o z)=tlw c m:=QP (by simp only[Mch.swap];rw[if_neg hw])
  rw[et]
  exact⟨e,.same rfl rfl,T⟩
theorem TlI.tail {stk rest:List Int}{b u:Int}(T:TlI stk tl)(e:stk=b::rest)(hn:b∉rest)(hu:u∈rest)(e2:tl=u+1):TlI rest tl:=by
 obtain⟨pre,s,post,e3,hp,e4⟩:=T
 have hsu:s=u:=by omega
 subst hsu
 cases pre with
 | nil=>
  rw[e]at e3
  injection e3 with q1 q2
  exact absurd (q1▸hu) hn
 | cons b' pre=>
  rw[e]at e3
  injection e3 with q1 q2
  exact⟨pre,s,post,q2,hp,e4⟩
theorem get_kd {p:Gt}{i:Nat}{cl:Cll}{se:Sea}(C:Core c Lg S N h a m)(ht:(t:Int)<c.T)(hm:m.thread=(t:Int))(hu:p.thread=(t:Int))(hus:m.used=false)(hd:0≤h.held.getD t 0)(I:GtI c p)(hn:n<4294967295)(T:TlI stk (tlw c m))
  (G:Gd c n Z Y F (sx stk pr c h a m) (kS (.get p)) (kL (.get p))) (D:GtD c t (sx stk pr c h a m) (tlw c m) p):KP stk (quStk c m stk (.get p)) c (n+1) Z Y pr h a m t (Q5 (h,a) m i t cl se (.get p)):=by
 have hok:=C.ok
 obtain rfl:=C.hc
 haveI:=q_qok hok
 obtain⟨r1,_⟩:=C.hget ht
 have hlt:t<h.held.length:=by rw[C.held];omega
 have hh:h.held[t]? = some (h.held.getD t 0):=by rw[Yb,Yd hlt];rfl
 have ho:∀k:Int,0≤k→k≤1→Own h.c t (sx stk pr h.c h a m) (hz0 h.c t (sx stk pr h.c h a m)+k):=fun k k0 k1=>own_hz0 hok ⟨_,hh,hd,r1⟩ k0 k1
 have ho0:=ho 0 (by omega) (by omega)
 rw[Int.add_zero]at ho0
 have ho1:=ho 1 (by omega) (by omega)
 obtain⟨j0,j1⟩:=JD hok ho0
 obtain⟨j2,j3⟩:=JD hok ho1
 have hpt:p.thread.toNat=t:=by omega
 have hpz:∀k:Int,qHz h p.thread k=adr h.c 9 (hz0 h.c t (sx stk pr h.c h a m)+k):=by
  intro k
  unfold qHz adr hz0
  rw[hpt,Int.add_assoc];rfl
 have hpz0:qHz h p.thread 0=adr h.c 9 (hz0 h.c t (sx stk pr h.c h a m)):=by rw[hpz 0,Int.add_zero]
 have hZ:∀k,0≤k→k≤1→qQ h.c (qHz h p.thread k):=fun k k0 k1=>hz_q C ht hu hd k0 k1
 have i7:=Lh I.ret
 obtain⟨i1,i2,i3,i4,i5,i6,_⟩:=I
 have hk10:¬(p.stage=10∧m.word (adr h.c 4 0)=p.h0)→quStk h.c m stk (.get p)=stk:=fun h8=>by simp only[quStk];rw[if_neg h8]
 have eld:∀A u,sx stk pr h.c h a (m.load A u)=sx stk pr h.c h a m:=fun A u=>ZL rfl
 have etl0:∀A u,tlw h.c (m.load A u)=tlw h.c m:=fun A u=>QP rfl
 have tp:m.word (adr h.c 4 0)=p.h0→1≤p.h0→∃rest,stk=(p.h0-1)::rest:=by
  intro hw h1
  have hk:=G.lk
  have hk:Jt (mv h.c m).ln (m.word (adr h.c 4 0)) stk:=hk
  rw[hw]at hk
  cases stk with
  | nil=>have:p.h0=0:=hk;omega
  | cons s rest=>
   obtain⟨k1,k2,k3⟩:=hk
   exact⟨rest,by rw[show p.h0-1=s by omega]⟩
 have ng:=D.ng
 have ld:∀(A:Nat) (u:Int) (p':Gt),¬gS p→p.stage≠12→¬gS p'→p'.stage≠12→GtD h.c t (sx stk pr h.c h a m) (tlw h.c m) p'→KP stk stk h.c (n+1) Z Y pr h a m t (false,(h,a),m.load A u,.get p'):=by
  intro A u p' a1 a2 a3 a4 D'
  obtain⟨y1,y2,_⟩:=Q7 a1 a2
  obtain⟨z1,z2,_⟩:=Q7 a3 a4
  rw[y1,y2]at G
  refine⟨pr,F,?_,?_,fun _ => ?_,.same rfl (etl0 _ _),by simp only[];rw[etl0];exact T⟩
  ·simp only[Yn,if_false]
   rw[z1,z2,eld]
   exact G.mono (by omega)
  ·simp only[];rw[eld];exact Rl.refl ..
  ·simp only[]
   rw[eld,etl0]
   exact D'
 simp only[Q5]
 unfold Z6
 simp only[]
 by_cases s1:p.stage=1
 ·rw[hk10 (by omega),if_pos s1]
  exact ld _ _ _ (Jk (by omega)) (by omega) (Jk (by simp)) (by simp) (gtd_vac (.inr (.inr (.inl rfl))) (ng (by omega)))
 rw[if_neg s1]
 have h0:=i2 (by omega)
 by_cases s2:p.stage=2
 ·rw[hk10 (by omega),if_pos s2]
  obtain⟨y1,y2,_⟩:=Q7 (p:=p) (Jk (by omega)) (by omega)
  rw[y1,y2]at G
  have hZ0:=hZ 0 (by omega) (by omega)
  rw[hpz0]at hZ0 ⊢
  obtain⟨pr',g1',g2',g3'⟩:=hzq_gd (n:=n) (Z:=Z) (Y:=Y) (F:=F) C ho0 p.h0 G
  have htl:tlw h.c (m.store (adr h.c 9 (hz0 h.c t (sx stk pr h.c h a m))) (m.word (adr h.c 9 (hz0 h.c t (sx stk pr h.c h a m)))) p.h0)=tlw h.c m:=tl_nt (QV (Q:=qQ h.c) _ hZ0 _ _)
  obtain⟨z1,z2,z3⟩:=Q7 (p:={ p with stage:=3 }) (Jk (by simp)) (by simp)
  refine⟨pr',F,?_,g2'.weaken (fun j hj=>by rw[hj];exact⟨ho0,_,rfl,rfl,ZY hok 9 (JD hok ho0).1⟩),fun _=>⟨fun _ => ?_,fun hf=>by simp at hf,fun hf=>by simp at hf,fun hf=>by simp at hf,fun hf=>by simp at hf,fun hf=>by simp at hf,fun hf=>by simp at hf,fun hf=>by simp at hf,fun hf=>by simp at hf,fun hf=>by simp at hf,fun hf=>absurd hf (Jk (by simp)),fun s hs=>(by rw[z3]at hs;cases hs),fun _=>ng (by omega)⟩,.same rfl htl,by simp only[];rw[htl];exact T⟩
  ·simp only[Yn,if_false]
   rw[z1,z2]
   exact g1'.mono (by omega)
  ·show(mv h.c _).hz _=p.h0
   rw[g3']
   exact Qm ..
 rw[if_neg s2]
 by_cases s3:p.stage=3
 ·rw[hk10 (by omega),if_pos s3]
  split
  ·rename_i hw
   obtain⟨rest,hst⟩:=tp hw h0.1
   have hz:=D.hz s3
   refine ld _ _ _ (Jk (by omega)) (by omega) (Jk (by simp)) (by simp) (GtM.d ⟨⟨G.pr2 _ j0 j1 (by rw[hz];exact h0.1) ?_,hz⟩,.inl ⟨rest,hst⟩,fun hf=>by simp at hf,fun hf=>by simp at hf,fun hf=>by simp at hf,fun hf=>by simp at hf,fun hf=>by simp at hf,fun hf=>by simp at hf,fun hf=>by simp at hf⟩ (by simp) (by simp) (ng (by omega)))
   rw[hz]
   exact G.stK _ (by show p.h0-1∈stk;rw[hst];exact List.mem_cons_self ..)
  ·exact ld _ _ _ (Jk (by omega)) (by omega) (Jk (by simp)) (by simp) (gtd_vac (.inr (.inr (.inl rfl))) (ng (by omega)))
 rw[if_neg s3]
 by_cases s4:p.stage=4
 ·rw[hk10 (by omega),if_pos s4]
  have M:=D.mid (by omega) (by omega)
  refine ld _ _ _ (Jk (by omega)) (by omega) (Jk (by simp)) (by simp) (GtM.d ⟨M.pr,M.hd,fun _ hne => ?_,fun hf=>by simp at hf,fun hf=>by simp at hf,fun hf=>by simp at hf,fun hf=>by simp at hf,fun hf=>by simp at hf,fun hf=>by simp at hf⟩ (by simp) (by simp) (ng (by omega)))
  intro pre post hst
  have hst:stk=pre++(p.h0-1)::post:=hst
  have hmem:=T.mem
  have hne:tlw h.c m≠p.h0:=hne
  obtain⟨n1,n2⟩:=G.nodup (s:=p.h0-1) hst
  rcases M.hd with⟨rest,e⟩|⟨e,_⟩
  ·have e:stk=(p.h0-1)::rest:=e
   have hp:pre=[]:=by
    cases pre with
    | nil=>rfl
    | cons b pre=>
     rw[e]at hst
     injection hst with q1 q2
     exact absurd (q1▸List.mem_cons_self ..) n1
   subst hp
   rw[hst]at hmem
   rcases List.mem_cons.1 hmem with q|q
   ·omega
   ·exact⟨_,q,by omega⟩
  ·exact absurd (by show p.h0-1∈stk;rw[hst];simp) e
 rw[if_neg s4]
 by_cases s5:p.stage=5
 ·rw[hk10 (by omega),if_pos s5]
  have M:=D.mid (by omega) (by omega)
  split
  ·exact ld _ _ _ (Jk (by omega)) (by omega) (Jk (by simp)) (by simp) (GtM.d ⟨M.pr,M.hd,fun _=>M.tl (by omega),fun hf=>by simp at hf,fun hf=>by simp at hf,fun _=>ln_at (s:=p.h0-1) (by omega) (by omega),fun hf=>by simp at hf,fun hf=>by simp at hf,fun hf=>by simp at hf⟩ (by simp) (by simp) (ng (by omega)))
  ·obtain⟨y1,y2,_⟩:=Q7 (p:=p) (Jk (by omega)) (by omega)
   rw[y1,y2]at G
   have hng:p.got=false:=ng (by omega)
   obtain⟨z1,z2,_⟩:=Q7 (p:={ p with n:=m.word (adr h.c 13 (p.h0-1)),stage:=11 }) (fun hg=>by rw[show p.got=true from hg.2]at hng;cases hng) (by simp)
   have e:sx stk pr h.c h a (((m.load (adr h.c 13 (p.h0-1)) (m.word (adr h.c 13 (p.h0-1)))).point i cl m.now).answer t se 3 0)=sx stk pr h.c h a m:=ZL rfl
   have et:tlw h.c (((m.load (adr h.c 13 (p.h0-1)) (m.word (adr h.c 13 (p.h0-1)))).point i cl m.now).answer t se 3 0)=tlw h.c m:=QP rfl
   refine⟨pr,F,?_,?_,fun _=>gtd_vac (.inr (.inr (.inr rfl))) hng,.same rfl et,by simp only[];rw[et];exact T⟩
   ·simp only[Yn,if_false]
    rw[z1,z2,e]
    exact G.mono (by omega)
   ·simp only[];rw[e];exact Rl.refl ..
 rw[if_neg s5]
 by_cases s6:p.stage=6
 ·rw[hk10 (by omega),if_pos s6]
  have M:=D.mid (by omega) (by omega)
  obtain⟨y1,y2,_⟩:=Q7 (p:=p) (Jk (by omega)) (by omega)
  rw[y1,y2]at G
  have hZ1:=hZ 1 (by omega) (by omega)
  rw[hpz 1]at hZ1 ⊢
  obtain⟨pr',g1',g2',g3'⟩:=hzq_gd (n:=n) (Z:=Z) (Y:=Y) (F:=F) C ho1 p.n G
  have htl:tlw h.c (m.store (adr h.c 9 (hz0 h.c t (sx stk pr h.c h a m)+1)) (m.word (adr h.c 9 (hz0 h.c t (sx stk pr h.c h a m)+1))) p.n)=tlw h.c m:=tl_nt (QV (Q:=qQ h.c) _ hZ1 _ _)
  obtain⟨z1,z2,z3⟩:=Q7 (p:={ p with stage:=7 }) (Jk (by simp)) (by simp)
  have hq:=g2'.hz (hz0 h.c t (sx stk pr h.c h a m)) (by omega)
  have hln:∀s,(mv h.c (m.store (adr h.c 9 (hz0 h.c t (sx stk pr h.c h a m)+1)) (m.word (adr h.c 9 (hz0 h.c t (sx stk pr h.c h a m)+1))) p.n)).ln s=(mv h.c m).ln s:=fun s=>by rw[g3']
  refine⟨pr',F,?_,g2'.weaken (fun j hj=>by rw[hj];exact⟨ho1,_,rfl,rfl,ZY hok 9 (JD hok ho1).1⟩),fun _=>GtM.d ⟨⟨hq.2 M.pr.1,hq.1.trans M.pr.2⟩,?_,fun _ hne => ?_,fun hf=>by simp at hf,fun hf=>by simp at hf,fun _=>(hln _).trans (M.lnk (by omega)),fun _ => ?_,fun hf=>by simp at hf,fun hf=>by simp at hf⟩ (by simp) (by simp) (ng (by omega)),.same rfl htl,by simp only[];rw[htl];exact T⟩
  ·simp only[Yn,if_false]
   rw[z1,z2]
   exact g1'.mono (by omega)
  ·rcases M.hd with e|⟨e1,e2⟩
   ·exact .inl e
   ·exact .inr ⟨e1,fun hf=>e2 ((hln _).symm.trans hf)⟩
  ·intro pre post hst
   simp only[htl]
   exact M.tl (by omega) hne pre post hst
  ·show(mv h.c _).hz _=p.n
   rw[g3']
   exact Qm ..
 rw[if_neg s6]
 by_cases s7:p.stage=7
 ·rw[hk10 (by omega),if_pos s7]
  have M:=D.mid (by omega) (by omega)
  have hn4:=i4 (by omega) (by omega)
  split
  ·rename_i hw
   split
   ·rename_i hht
    exact ld _ _ _ (Jk (by omega)) (by omega) (Jk (by simp)) (by simp) (GtM.d ⟨M.pr,M.hd,fun _=>M.tl (by omega),fun hf=>by simp at hf,fun _=>hht.symm,fun _=>M.lnk (by omega),fun hf=>by simp at hf,fun hf=>by simp at hf,fun hf=>by simp at hf⟩ (by simp) (by simp) (ng (by omega)))
   ·rename_i hht
    obtain⟨rest,hst⟩:=tp hw h0.1
    have hl:=M.lnk (by omega)
    have hl:(mv h.c m).ln (p.h0-1)=p.n:=hl
    have hk:=G.lk
    have hk:Jt (mv h.c m).ln (mv h.c m).top stk:=hk
    rw[hst]at hk
    obtain⟨k1,k2,k3⟩:=hk
    rw[hl]at k3
    have hz1:=M.hz1 s7
    refine ld _ _ _ (Jk (by omega)) (by omega) (Jk (by simp)) (by simp) (GtM.d ⟨M.pr,M.hd,fun _=>M.tl (by omega),fun _ hf=>hht hf.symm,fun hf=>by simp at hf,fun _=>M.lnk (by omega),fun hf=>by simp at hf,fun _=>⟨G.pr2 _ j2 j3 (by rw[hz1];exact hn4.1) ?_,hz1⟩,fun hf=>by simp at hf⟩ (by simp) (by simp) (ng (by omega)))
    rw[hz1]
    refine G.stK _ ?_
    show p.n-1∈stk
    cases rest with
    | nil=>have:p.n=0:=k3;omega
    | cons b rest=>
     have:p.n=b+1:=k3.1
     rw[hst,show p.n-1=b by omega]
     simp
  ·exact ld _ _ _ (Jk (by omega)) (by omega) (Jk (by simp)) (by simp) (gtd_vac (.inr (.inr (.inl rfl))) (ng (by omega)))
 rw[if_neg s7]
 by_cases s8:p.stage=8
 ·rw[hk10 (by omega),if_pos s8]
  have M:=D.mid (by omega) (by omega)
  have hn4:=i4 (by omega) (by omega)
  obtain⟨y1,y2,_⟩:=Q7 (p:=p) (Jk (by omega)) (by omega)
  rw[y1,y2]at G
  obtain⟨z1,z2,_⟩:=Q7 (p:={ p with stage:=1 }) (Jk (by simp)) (by simp)
  obtain⟨e,Q,T2⟩:=get_swp (o:=p.t) (z:=p.n) C T G (by omega) (fun _=>by rw[M.eq8 s8];exact M.lnk (by omega))
  refine⟨pr,F,?_,?_,fun _=>gtd_vac (.inr (.inl rfl)) (ng (by omega)),?_,T2⟩
  ·simp only[Yn,if_false]
   rw[z1,z2,e]
   exact G.mono (by omega)
  ·simp only[];rw[e];exact Rl.refl ..
  ·simp only[];rw[e];exact Q
 rw[if_neg s8]
 by_cases s9:p.stage=9
 ·rw[hk10 (by omega),if_pos s9]
  have M:=D.mid (by omega) (by omega)
  have hn4:=i4 (by omega) (by omega)
  refine ld _ _ _ (Jk (by omega)) (by omega) (Jk (by simp)) (by simp) (GtM.d ⟨M.pr,M.hd,fun _=>M.tl (by omega),fun _=>M.gt (by omega),fun hf=>by simp at hf,fun _=>M.lnk (by omega),fun hf=>by simp at hf,fun _=>M.pr1 (.inl s9),fun _ _ => ?_⟩ (by simp) (by simp) (ng (by omega)))
  show wrap64 _=wrap64 ((mv h.c m).val (p.n-1))
  rw[val_at (by omega) (by omega)]
 rw[if_neg s9]
 by_cases s10:p.stage=10
 ·rw[if_pos s10]
  have M:=D.mid (by omega) (by omega)
  have hn4:=i4 (by omega) (by omega)
  obtain⟨y1,y2,_⟩:=Q7 (p:=p) (Jk (by omega)) (by omega)
  rw[y1,y2]at G
  have hA:adr h.c 4 0<m.mem.words.length:=C.lt (adr4_lt hok)
  split
  ·rename_i hw
   obtain⟨rest,hst⟩:=tp hw h0.1
   have hk:quStk h.c m stk (.get p)=rest:=by simp only[quStk];rw[if_pos ⟨s10,hw⟩,hst];rfl
   rw[hk]
   obtain⟨u,u1,u2⟩:=M.tl (by omega) (M.gt (by omega)) [] rest hst
   obtain⟨b,rest',hr⟩:∃b rest',rest=b::rest':=by
    cases rest with
    | nil=>simp at u1
    | cons b r=>exact⟨b,r,rfl⟩
   obtain⟨_,hnr⟩:=G.nodup (pre:=[]) (post:=rest) hst
   obtain⟨G2,R2⟩:=G.detach (t:=t) (W:=fun _=>False) hst ⟨4,(t:Int)⟩ rfl
   have hl:(mv h.c m).ln (p.h0-1)=p.n:=M.lnk (by omega)
   have hslt:(p.h0-1).toNat<a.slots.length:=by rw[C.slots];omega
   have e3:=Jn (a:=a) (th:=m.thread) (to:=4) (s:=p.h0-1) (by omega) hslt
   rw[if_neg (by omega),hm]at e3
   obtain⟨z1,z2,z3⟩:=kS_get11 (p:={ p with got:=true,stage:=11 }) ⟨rfl,rfl⟩
   have ews:∀x1,(((m.swap (adr h.c 4 0) (m.word (adr h.c 4 0)) p.h0 p.n).point i cl m.now).shift (p.h0-1) x1 4).mem.words=m.mem.words.set (adr h.c 4 0) p.n:=by
    intro x1
    simp only[Mch.shift,Mch.point,Mch.swap]
    rw[if_pos hw]
   have e:∀x1,sx rest pr h.c h (a.shift (p.h0-1).toNat m.thread 4) (((m.swap (adr h.c 4 0) (m.word (adr h.c 4 0)) p.h0 p.n).point i cl m.now).shift (p.h0-1) x1 4) =
     { sx stk pr h.c h a m with stk:=rest,V:={ (mv h.c m) with top:=(mv h.c m).ln (p.h0-1) },sl:=updS a.sl (p.h0-1) ⟨4,(t:Int)⟩ }:=by
    intro x1
    unfold sx
    rw[mv_top hok (z:=p.n) (m:=m) (ews x1) hA,hm,e3,hl];rfl
   have et:∀x1,tlw h.c (((m.swap (adr h.c 4 0) (m.word (adr h.c 4 0)) p.h0 p.n).point i cl m.now).shift (p.h0-1) x1 4)=tlw h.c m:=by
    intro x1
    unfold tlw
    rw[Q4 (ews x1) hA,if_neg (q45 hok).symm]
   refine⟨pr,F,?_,?_,fun _ => ?_,.det (p.h0-1) b rest' (by rw[←hr];exact hst) hr (et _),by simp only[];rw[et];exact T.tail hst hnr u1 u2⟩
   ·simp only[Yn,if_false]
    rw[z1,z2,e]
    exact G2.mono (by omega)
   ·simp only[];rw[e];exact R2.weaken (fun _ h=>h.elim)
   ·simp only[]
    rw[e]
    exact⟨fun hf=>by simp at hf,fun _ hf=>by simp at hf,fun _ hf=>by simp at hf,fun _ hf=>by simp at hf,fun _ hf=>by simp at hf,fun hf=>by simp at hf,fun _ hf=>by simp at hf,fun hf=>by simp at hf,fun hf=>by simp at hf,fun hf=>by simp at hf,fun _=>Qo ..,fun s hs=>(by rw[z3]at hs;cases hs),fun hf=>by simp at hf⟩
  ·rename_i hw
   rw[hk10 (by rintro⟨_,h⟩;exact hw h)]
   have e:sx stk pr h.c h a (m.swap (adr h.c 4 0) (m.word (adr h.c 4 0)) p.h0 p.n)=sx stk pr h.c h a m:=ZL (by simp only[Mch.swap];rw[if_neg hw])
   have et:tlw h.c (m.swap (adr h.c 4 0) (m.word (adr h.c 4 0)) p.h0 p.n)=tlw h.c m:=QP (by simp only[Mch.swap];rw[if_neg hw])
   obtain⟨z1,z2,z3⟩:=Q7 (p:={ p with stage:=1 }) (Jk (by simp)) (by simp)
   refine⟨pr,F,?_,?_,fun _=>gtd_vac (.inr (.inl rfl)) (ng (by omega)),.same rfl et,by simp only[];rw[et];exact T⟩
   ·simp only[Yn,if_false]
    rw[z1,z2,e]
    exact G.mono (by omega)
   ·simp only[];rw[e];exact Rl.refl ..
 rw[if_neg s10,hk10 (by omega)]
 by_cases s11:p.stage=11
 ·rw[if_pos s11]
  have hcl:=i6 s11
  have hZc:=hZ p.cleared (by omega) (by omega)
  have hoc:=ho p.cleared (by omega) (by omega)
  unfold gtEnd
  simp only[]
  rw[hpz p.cleared]at hZc ⊢
  obtain⟨pr',g1,g2,g3⟩:=hzq_gd (n:=n) (Z:=Z) (Y:=Y) (F:=F) C hoc 0 G
  have htl:tlw h.c (m.store (adr h.c 9 (hz0 h.c t (sx stk pr h.c h a m)+p.cleared)) (m.word (adr h.c 9 (hz0 h.c t (sx stk pr h.c h a m)+p.cleared))) 0)=tlw h.c m:=tl_nt (QV (Q:=qQ h.c) _ hZc _ _)
  have g2w:=g2.weaken (W':=OwW h.c t (sx stk pr h.c h a m) m.mem.log (m.store (adr h.c 9 (hz0 h.c t (sx stk pr h.c h a m)+p.cleared)) (m.word (adr h.c 9 (hz0 h.c t (sx stk pr h.c h a m)+p.cleared))) 0).mem.log) (fun j hj=>by rw[hj];exact⟨hoc,_,rfl,rfl,ZY hok 9 (JD hok hoc).1⟩)
  split
  ·refine⟨pr',F,?_,g2w,fun _ => ?_,.same rfl htl,by simp only[];rw[htl];exact T⟩
   ·simp only[Yn,if_false]
    exact g1.mono (by omega)
   ·by_cases hg:p.got=true
    ·exact⟨fun hf=>by simp only[s11]at hf;omega,fun _ hf=>by simp only[s11]at hf;omega,fun _ hf=>by simp only[s11]at hf;omega,fun _ hf=>by simp only[s11]at hf;omega,fun _ hf=>by simp only[s11]at hf;omega,fun hf=>by simp only[s11]at hf;omega,fun _ hf=>by simp only[s11]at hf;omega,fun hf=>by simp only[s11]at hf;omega,fun hf=>by simp only[s11]at hf;omega,fun hf=>by simp only[s11]at hf;omega,fun _=>D.own ⟨s11,hg⟩,fun s hs=>(by unfold gtSc at hs;rw[if_neg (by simp only[s11];omega)]at hs;cases hs),fun hf=>by simp only[s11]at hf;omega⟩
    ·exact gtd_vac (.inr (.inr (.inr s11))) (by simpa using hg)
  ·split
   ·rename_i hg
    obtain⟨y1,y2,_⟩:=Q7 (p:=p) (fun hf=>by rw[hf.2]at hg;cases hg) (by omega)
    rw[y1,y2]at g1
    refine⟨pr',F,?_,g2w,fun hf=>(by cases hf),.same rfl htl,by simp only[];rw[htl];exact T⟩
    simp only[if_true]
    exact g1.mono (by omega)
   ·rename_i hg
    have hgt:p.got=true:=by simpa using hg
    obtain⟨y1,y2,_⟩:=kS_get11 (p:=p) ⟨s11,hgt⟩
    rw[y1,y2]at g1
    have hsl:a.sl (p.h0-1)=⟨4,(t:Int)⟩:=D.own ⟨s11,hgt⟩
    have hth:((m.store (adr h.c 9 (hz0 h.c t (sx stk pr h.c h a m)+p.cleared)) (m.word (adr h.c 9 (hz0 h.c t (sx stk pr h.c h a m)+p.cleared))) 0).answer t se 2 p.value).thread=(t:Int):=hm
    have hwd:((m.store (adr h.c 9 (hz0 h.c t (sx stk pr h.c h a m)+p.cleared)) (m.word (adr h.c 9 (hz0 h.c t (sx stk pr h.c h a m)+p.cleared))) 0).answer t se 2 p.value).mem.words=(m.store (adr h.c 9 (hz0 h.c t (sx stk pr h.c h a m)+p.cleared)) (m.word (adr h.c 9 (hz0 h.c t (sx stk pr h.c h a m)+p.cleared))) 0).mem.words:=rfl
    have htl2:=(QP (c:=h.c) hwd).trans htl
    have hlg:((m.store (adr h.c 9 (hz0 h.c t (sx stk pr h.c h a m)+p.cleared)) (m.word (adr h.c 9 (hz0 h.c t (sx stk pr h.c h a m)+p.cleared))) 0).answer t se 2 p.value).mem.log=(m.store (adr h.c 9 (hz0 h.c t (sx stk pr h.c h a m)+p.cleared)) (m.word (adr h.c 9 (hz0 h.c t (sx stk pr h.c h a m)+p.cleared))) 0).mem.log:=rfl
    generalize (m.store (adr h.c 9 (hz0 h.c t (sx stk pr h.c h a m)+p.cleared)) (m.word (adr h.c 9 (hz0 h.c t (sx stk pr h.c h a m)+p.cleared))) 0).answer t se 2 p.value=mw at hth hwd htl2 hlg ⊢
    have e0:=ZL (stk:=stk) (pr:=pr') (c:=h.c) (h:=h) (a:=a) hwd
    rw[←e0]at g1 g2w
    rw[←hlg]at g2w
    obtain⟨G4,R4⟩:=g1.state (t:=t) (W:=fun _=>False) (s:=p.h0-1) (List.mem_cons_self ..) ⟨5,(t:Int)⟩ (by simp) (.inl rfl)
    obtain⟨f1,f2,f3⟩:=C.lget hd r1
    have hslt:(p.h0-1).toNat<a.slots.length:=by rw[C.slots];omega
    obtain⟨G5,R5⟩:=G4.list (t:=t) (W:=fun _=>False) hd r1 (by exact hh) (l:=h.lists.getD (h.held.getD t 0).toNat []) (l':=h.lists.getD (h.held.getD t 0).toNat []++[p.h0-1]) (K':=[]) f1 (fun s'=>by
     simp only[List.count_append,List.count_nil];omega) (fun s0 h0'=>by
     show(updS a.sl (p.h0-1) ⟨5,(t:Int)⟩ s0).state=5
     rcases List.mem_append.1 h0' with h0'|h0'
     ·by_cases es:s0=p.h0-1
      ·rw[es,Qo]
      ·rw[updS_ne _ _ es]
       exact g1.stL _ (Yc f1) s0 h0'
     ·simp at h0';rw[h0',Qo])
    have R6:=g2w.trans ((R4.trans R5).weaken (W':=OwW h.c t (sx stk pr h.c h a m) m.mem.log mw.mem.log) (fun _ h=>h.elim))
    unfold Zr
    simp only[hpt,hth]
    have e7:=Jn (a:=a) (th:=(t:Int)) (to:=5) (s:=p.h0-1) (by omega) hslt
    rw[if_neg (by omega)]at e7
    have e:∀x1,sx stk pr' h.c { h with lists:=h.lists.set (h.held.getD t 0).toNat (h.lists.getD (h.held.getD t 0).toNat []++[p.h0-1]) } (a.shift (p.h0-1).toNat (t:Int) 5) (mw.shift (p.h0-1) x1 5) =
      { sx stk pr' h.c h a mw with sl:=updS a.sl (p.h0-1) ⟨5,(t:Int)⟩,lists:=h.lists.set (h.held.getD t 0).toNat (h.lists.getD (h.held.getD t 0).toNat []++[p.h0-1]) }:=by
     intro x1
     unfold sx
     rw[e7,mv_same (m:=mw) (m':=mw.shift (p.h0-1) x1 5) rfl];rfl
    have et:∀x1,tlw h.c (mw.shift (p.h0-1) x1 5)=tlw h.c m:=fun x1=>(QP rfl).trans htl2
    split
    ·refine⟨pr',F,?_,?_,fun hf=>(by cases hf),.same rfl (et _),by simp only[];rw[et];exact T⟩
     ·simp only[if_true];rw[e];exact G5.mono (by omega)
     ·simp only[];rw[e];exact R6
    ·generalize hh1:({ h with lists:=h.lists.set (h.held.getD t 0).toNat (h.lists.getD (h.held.getD t 0).toNat []++[p.h0-1]) }:Haz)=h1
     obtain⟨n1,n2,n3,n4⟩:=next_sd (h:=h1) (s:={ (⟨p.thread,h.held.getD t 0,6,0,false,fun _=>0,[],none⟩:Scn) with at_ := -1 }) (t:=t) (sx stk pr' h.c h1 (a.shift (p.h0-1).toNat (t:Int) 5) (mw.shift (p.h0-1) (a.slots.getD (p.h0-1).toNat ⟨0,0⟩).state 5)) (by rw[←hh1];exact hh)
     have n2:scnP (ZF h1 ⟨p.thread,h.held.getD t 0,6,0,false,fun _=>0,[],none⟩).2=[]:=n2
     have n3:lkS (ZF h1 ⟨p.thread,h.held.getD t 0,6,0,false,fun _=>0,[],none⟩).2=[]:=n3
     obtain⟨z1,z2,z3⟩:=kS_get12 (p:={ p with cleared:=p.cleared+1,retire:=some { thread:=p.thread,slot:=p.h0-1,scan:=some (ZF h1 ⟨p.thread,h.held.getD t 0,6,0,false,fun _=>0,[],none⟩).2 },stage:=12 }) rfl rfl rfl
     refine⟨pr',F,?_,?_,fun _=>⟨fun hf=>by simp at hf,fun _ hf=>by simp at hf,fun _ hf=>by simp at hf,fun _ hf=>by simp at hf,fun _ hf=>by simp at hf,fun hf=>by simp at hf,fun _ hf=>by simp at hf,fun hf=>by simp at hf,fun hf=>by simp at hf,fun hf=>by simp at hf,fun hf=>by have:=hf.1;simp at this,fun s hs => ?_,fun hf=>by simp at hf⟩,.same rfl (et _),by simp only[];rw[et];exact T⟩
     ·simp only[]
      rw[z1,z2,n2,n3,ite_self,←hh1,e]
      exact G5.mono (by omega)
     ·simp only[];rw[←hh1,e];exact R6
     ·simp only[]at hs ⊢
      rw[z3]at hs
      cases hs
      exact n1
 rw[if_neg s11]
 have s12:p.stage=12:=by omega
 obtain⟨r,sc,e1,e2,e3,e4⟩:=i7.out s12
 obtain⟨y1,y2,y3⟩:=kS_get12 s12 e1 e2
 rw[y1,y2]at G
 rw[e1]
 simp only[e2]
 have Ev:=tl_nt (evq_nt (evq_scan (Q:=qQ h.c) (i:=i) (t:=t) C e3 hus))
 simp only[]at Ev
 obtain⟨⟨F',g1⟩,g2,g3,g4⟩:=scan_gd (W:=fun _=>False) C e3 (e4.trans hu) hm ht hn G (D.scan sc y3)
 generalize Zl h a m sc=q at g1 g2 g3 g4 Ev ⊢
 obtain⟨z1,z2,z3⟩:=kS_get12 (p:={ p with retire:=some { r with scan:=some q.2.2.2.2 } }) s12 rfl rfl
 refine⟨pr,F',?_,g2.weaken (fun _ h=>h.elim),fun _=>⟨fun hf=>by simp only[s12]at hf;omega,fun _ hf=>by simp only[s12]at hf;omega,fun _ hf=>by simp only[s12]at hf;omega,fun _ hf=>by simp only[s12]at hf;omega,fun _ hf=>by simp only[s12]at hf;omega,fun hf=>by simp only[s12]at hf;omega,fun _ hf=>by simp only[s12]at hf;omega,fun hf=>by simp only[s12]at hf;omega,fun hf=>by simp only[s12]at hf;omega,fun hf=>by simp only[s12]at hf;omega,fun hf=>by have:=hf.1;simp only[s12]at this;omega,fun s hs => ?_,fun hf=>by simp only[s12]at hf;omega⟩,.same rfl Ev,by simp only[];rw[Ev];exact T⟩
 ·simp only[z1,z2]
  by_cases hb:q.1=true
  ·have h6:=g4 hb
   have k1:scnP q.2.2.2.2=[]:=by unfold scnP;rw[if_neg (by omega)]
   have k2:lkS q.2.2.2.2=[]:=by unfold lkS;rw[if_neg (by omega)]
   rw[if_pos hb,if_pos hb]
   rw[k1,k2]at g1;exact g1
  ·rw[if_neg hb,if_neg hb];exact g1
 ·rw[z3]at hs
  cases hs
  exact g3
end
end
section
open Go.RowKit
namespace Hp
theorem wl_pass {P:Program}{ops:Array Oper}{Q:Exit→Act→World→Prop}{w:World}{rest:List Oper}{l:List Value}{ds:List Deferred}{d:Nat}{op:Op}{ty:TypeId}{pos:String}{after:Array Edge}{g:Nat×Bool}
  (hw:Region.wanted { dst:=some d,op:=op,type:=ty,pos,after,guard:=some g } (yielded ops l.toArray)=false) (kk:wpList P ops Q rest ⟨(l.set d undef).toArray,ds⟩ w) :
  wpList P ops Q ({ dst:=some d,op:=op,type:=ty,pos,after,guard:=some g }::rest) ⟨l.toArray,ds⟩ w:=by
 refine wpList_skip hw ?_
 have e:(Act.put ⟨l.toArray,ds⟩ (some d) undef:Act)=⟨(l.set d undef).toArray,ds⟩:=ZU
 show wpList P ops Q rest (Act.put ⟨l.toArray,ds⟩ (some d) undef) w
 rw[e];exact kk
theorem wl_pass2 {P:Program}{ops:Array Oper}{Q:Exit→Act→World→Prop}{w:World}{rest:List Oper}{l:List Value}{ds:List Deferred}{d:Nat}{op:Op}{ty:TypeId}{pos:String}{after:Array Edge}{i:Nat}{b z:Bool}{o:Oper}{e:Nat}
  (ho:ops[i]? = some o) (hd:o.dst=some e) (hv:l[e]? = some (.bool z)) (hb:(z==b)=false) (kk:wpList P ops Q rest ⟨(l.set d undef).toArray,ds⟩ w) :
  wpList P ops Q ({ dst:=some d,op:=op,type:=ty,pos,after,guard:=some (i,b) }::rest) ⟨l.toArray,ds⟩ w:=by
 refine wl_pass ?_ kk
 have hv':l.toArray[e]? = some (.bool z):=by simpa using hv
 simp only[Region.wanted,yielded,ho,Option.bind_some,hd,hv']
 cases z<;>cases b<;>first|rfl|cases hb
theorem wl_pick {P:Program}{ops:Array Oper}{Q:Exit→Act→World→Prop}{w:World}{rest:List Oper}{l:List Value}{ds:List Deferred}{d:Nat}{c x y:Operand}{ty:TypeId}{pos:String}{after:Array Edge}{gd:Option (Nat×Bool)}{z:Bool}{v:Value}
  (hc:ev l c=some (.bool z)) (hv:ev l (cond z x y)=some v)
  (hg:Region.wanted { dst:=some d,op:=.pick c x y,type:=ty,pos,after,guard:=gd } (yielded ops l.toArray)=true)
  (kk:wpList P ops Q rest ⟨(l.set d v).toArray,ds⟩ w) :
  wpList P ops Q ({ dst:=some d,op:=.pick c x y,type:=ty,pos,after,guard:=gd }::rest) ⟨l.toArray,ds⟩ w:=by
 refine QE (v:=v) (w':=w) hg ?_ (ZU▸kk)
 have h1:=Zm (ds:=ds) hc
 have h2:=Zm (ds:=ds) hv
 cases z<;>simp[execOp,h1,asBool]<;>simpa using h2
theorem QX {d:Option Nat}{op:Op}{ty:TypeId}{pos:String}{after:Array Edge}{f:Nat→Option Bool}:Region.wanted { dst:=d,op:=op,type:=ty,pos,after,guard:=none } f=true:=rfl
end Hp
end
section
open Go.RowKit
namespace Hp
section
variable {P:Program}{ops:Array Oper}{Q:Exit→Act→World→Prop}{w:World}{rest:List Oper}{l:List Value}{ds:List Deferred}{T T' ty:TypeId}{pos:String}{after:Array Edge}{gd:Option (Nat×Bool)}{d:Nat}{x y:Operand}{K:IntKind}{a b:Int}{r:Bool}
end
end Hp
end
section
open Go.RowKit Hp
set_option maxRecDepth 100000
set_option maxHeartbeats 1000000
attribute [local irreducible] Go.Calls Go.wpList
theorem que_slot (u v:Int)(h0:0≤u)(h1:u≤2147483647)(hv:u-1=v):Zk Tryz.prog 145 #[.int .u64 u] emp (.int .i64 v) emp:=by
 intro O w F hs
 subst hv
 have hl:=Lh (Ju u h0 h1)
 go_enter Tryz.func145,Tryz.ntmps145
 (repeat'(first|(go_big_may;(go_at_call 156;((refine(hl.out).at hs (by (with_reducible exact Qh)) ?_);clear hs;intro w hs;(try simp only[Em,Ma]at hs))))|go_step|(dsimp only)))
 go_ret
 exact⟨rfl,by ((with_reducible apply Sat.fin hs);(focus with_reducible (repeat first|exact Ql|exact Qn|apply Qb);done))⟩
theorem que_arena (bh ba:Nat)(h:Haz):Zk Tryz.prog 65 #[.pointer (some ⟨bh,0,none⟩)] (HazR bh ba h) (.pointer (some ⟨ba,0,none⟩)) (HazR bh ba h):=by
 intro O w F hs
 (obtain⟨vhh,vhl,hs⟩:=hazR.1 hs)
 go_enter Tryz.func65,Tryz.ntmps65
 go_wp2_with ((with_reducible apply Zb hs);exact Ii;rfl;(with_reducible exact Qh);rfl;rfl;simp only[Uc,Uz])
 go_ret
 refine⟨rfl,?_⟩
 (apply ZA;((try simp only[Yh,Yi,Yj,Yk,Yl]);(try simp only[Yh,Yi,Yj,Yk,Yl]at hs);((with_reducible apply Sat.fin hs);(with_reducible exact Ql))))
def ptAt (st:Int):Int:=if st=0 then 0 else st-1
abbrev ptC (gp bh gt:Nat)(c:Cfg)(own:Int)(p:Pt):Zc:=pt gp (.cells #[.pointer (some ⟨bh,0,none⟩),.int .i64 (adr c 4 0:Nat),.int .i64 (adr c 5 0:Nat),.int .i64 (base c 11),.int .i64 (base c 13),.int .i64 p.thread,.int .i64 p.value,.int .i64 (ptAt p.stage),.pointer (some ⟨gt,0,none⟩),.int .u64 own,.int .u64 p.t,.int .u64 p.n,.int .i64 p.hz] 142)
def PtR (gp bh ba:Nat)(c:Cfg)(p:Pt):Zc:=ex fun gt=>ex fun(own:Int)=>pu (2≤p.stage→own=p.slot+1∧Zd p.take=p.slot)*(ptC gp bh gt c own p*TakR gt ba p.take)
theorem ptR {O w:World}{gp bh ba:Nat}{c:Cfg}{p:Pt}{R:Zc}:Sat O w (PtR gp bh ba c p*R)↔∃gt own,(2≤p.stage→own=p.slot+1∧Zd p.take=p.slot)∧Sat O w (ptC gp bh gt c own p*(TakR gt ba p.take*R)):=by
 unfold PtR
 simp only[ZG,Ma,Zz]
theorem JC {O w:World}{gp bh ba gt:Nat}{own:Int}{c:Cfg}{p:Pt}{R:Zc}(h1:2≤p.stage→own=p.slot+1∧Zd p.take=p.slot)(hs:Sat O w (ptC gp bh gt c own p*(TakR gt ba p.take*R))):Sat O w (PtR gp bh ba c p*R):=ptR.2 ⟨_,_,h1,hs⟩
attribute [irreducible] PtR
def PtR0 (gp bh:Nat)(c:Cfg)(p:Pt):Zc:=pt gp (.cells #[.pointer (some ⟨bh,0,none⟩),.int .i64 (adr c 4 0:Nat),.int .i64 (adr c 5 0:Nat),.int .i64 (base c 11),.int .i64 (base c 13),.int .i64 p.thread,.int .i64 p.value,.int .i64 0,.pointer none,.int .u64 0,.int .u64 p.t,.int .u64 p.n,.int .i64 0] 142)
theorem pt_taken (gp bh ba d bx bm:Nat)(cf:Cfg)(m:Mch)(i t:Nat)(c:Cll)(s:Sea)(p:Pt)(hk:Zd p.take = -1∨(0≤Zd p.take∧Zd p.take≤2147483646))(hst:p.stage=1)(hcur:ZX m i t c s) :
  Zk Tryz.prog 139 #[.pointer (some ⟨gp,0,none⟩),.pointer (some ⟨d,0,none⟩)] (PtR gp bh ba cf p*DkR d bx bm m) (.bool (ZV m i t c s p).1)
   (PtR gp bh ba cf (ZV m i t c s p).2.2*DkR d bx bm (ZV m i t c s p).2.1):=by
 intro O w F hs
 simp only[Ma]at hs
 obtain⟨p1,p2,p3,p4,p5,p6,p7,p8⟩:=p
 obtain⟨gt,own,ho,hs⟩:=ptR.1 hs
 simp only[]at hs hst hk
 subst hst
 have hN:=Lh (desk_now d bx bm m)
 have hP:=Lh (Jx d bx bm m i t c m.now hcur.cur hcur.call)
 have hA:=Lh (QD d bx bm (m.point i c m.now) i t s 4 0 hcur.cur hcur.seat)
 have hS:=take_slot gt ba p3
 unfold ZV
 change Zk _ _ _ _ (.int .i64 (Zd p3)) _ at hS
 simp only[]
 generalize hE:Zd p3=sl0 at hS hk ⊢
 have HS:=Lh hS
 have HE:=Lh hE
 clear hcur hS ho hE
 by_cases hu:sl0<0
 ·have hd:decide (sl0<0)=true:=by simpa using hu
  simp only[if_pos hu]
  clear hu hk
  go_enter Tryz.func139,Tryz.ntmps139
  (repeat'(first|(go_big_may;(first|((with_reducible apply Zb hs);exact Ii;rfl;(with_reducible exact Qh);rfl;rfl;simp only[Uc,Uz])|(go_at_call 142;(refine(HS.out).at hs (by with_reducible repeat first|exact Qh|apply Qk) ?_;clear hs;intro w hs;(try simp only[Em,Ma]at hs)))|(go_at_call 148;(refine(hN.out).at hs (by with_reducible repeat first|exact Qh|apply Qk) ?_;clear hs;intro w hs;(try simp only[Em,Ma]at hs)))|(go_at_call 147;((refine(hP.out).at hs (by (with_reducible exact Qh)) ?_);clear hs;intro w hs;(try simp only[Em,Ma]at hs)))|(go_at_call 150;((refine(hA.out).at hs (by (with_reducible exact Qh)) ?_);clear hs;intro w hs;(try simp only[Em,Ma]at hs)))))|go_step|(dsimp only)))
  go_ret
  refine⟨rfl,?_⟩
  simp only[Ma]
  apply JC (gt:=gt) (own:=own) (fun hf=>by simp at hf)
  (with_reducible apply Sat.fin hs;repeat first|exact Ql|exact Qh|apply Qb|apply Qk)
 ·have hd:decide (sl0<0)=false:=by simpa using hu
  have hL:=Lh (word_link sl0 (by omega) (by omega))
  simp only[if_neg hu]
  clear hu hk
  go_enter Tryz.func139,Tryz.ntmps139
  (repeat'(first|(go_big_may;(first|((with_reducible apply Zb hs);exact Ii;rfl;(with_reducible repeat first|exact Qh|apply Qk);rfl;rfl;simp only[Uc,Uz])|((with_reducible apply Zv hs);exact Ii;rfl;rfl;(with_reducible repeat first|exact Qh|apply Qk);rfl;exact Vb rfl;rfl;clear hs;intro w hs;simp only[Yg,Uc,Uz]at hs)|(go_at_call 142;(refine(HS.out).at hs (by with_reducible repeat first|exact Qh|apply Qk) ?_;clear hs;intro w hs;(try simp only[Em,Ma]at hs)))|(go_at_call 153;((refine(hL.out).at hs (by (focus((repeat(with_reducible exact Qn));done))) ?_);clear hs;intro w hs;(try simp only[Em,Ma]at hs)))))|go_step|(dsimp only)))
  go_ret
  refine⟨rfl,?_⟩
  simp only[Ma]
  apply JC (gt:=gt) (own:=sl0+1) (fun _=>⟨rfl,HE.out⟩)
  ((with_reducible apply Sat.fin hs);(focus((repeat(first|with_reducible exact Ql|with_reducible apply Qb|exact Qh));done)))
theorem takeReady_slot {a:Are}{m:Mch}{k:Tak}{N:Int}(hin:∀z∈a.caches.getD k.thread.toNat [],0≤z∧z<N)(hr:(Zf a m k).1=true):0≤Zd (Zf a m k).2.2.2∧Zd (Zf a m k).2.2.2<N:=by
 unfold Zf at hr ⊢
 simp only[]at hr ⊢
 by_cases h0:(a.caches.getD k.thread.toNat []).length=0
 ·rw[if_pos h0]at hr;cases hr
 ·rw[if_neg h0]
  generalize a.caches.getD k.thread.toNat []=x at hin h0 ⊢
  have hlt:x.length-1<x.length:=by omega
  have hm:x.getD (x.length-1) 0∈x:=by
   rw[Yb,Yd hlt];simp
  exact hin _ hm
theorem pt_ready (gp bh ba d bx bm:Nat)(h:Haz)(a:Are)(m:Mch)(i t:Nat)(c:Cll)(s:Sea)(p:Pt)(hz:HazOk h a m)(t0:0≤p.thread)(t1:p.thread<h.c.T)(hd:0≤h.held.getD p.thread.toNat 0)(hp:p.take=⟨p.thread,1,0,0,0,false⟩)(hcur:ZX m i t c s) :
  Zk Tryz.prog 135 #[.pointer (some ⟨gp,0,none⟩),.pointer (some ⟨d,0,none⟩)] (PtR0 gp bh h.c p*(HazR bh ba h*(AreR ba a*DkR d bx bm m))) (.bool (ZW h a m i t c s p).1)
   (PtR gp bh ba h.c (ZW h a m i t c s p).2.2.2*(HazR bh ba h*(AreR ba (ZW h a m i t c s p).2.1*DkR d bx bm (ZW h a m i t c s p).2.2.1))):=by
 intro O w F hs
 simp only[Ma]at hs
 obtain⟨p1,p2,p3,p4,p5,p6,p7,p8⟩:=p
 simp only[]at t0 t1 hd hp
 obtain⟨tn,rfl⟩:=Int.eq_ofNat_of_zero_le t0
 obtain⟨x,hx,hxl,hin⟩:=hz.cache t0 t1
 obtain⟨r,hr,_,hr1⟩:=hz.hold t0 t1
 rw[Yo]at hx hr hd
 have hrd:h.held.getD tn 0=r:=by rw[Yb,hr];rfl
 rw[hrd]at hd
 have hOk:h.c.Ok:=hz.c▸hz.ok.c
 have hS2:=hOk.S2
 have hH1:=hOk.H1
 have hsh:=hz.sh
 have hsl:0<a.slots.length:=by rw[hz.ok.slots,←hz.c];have:=hOk.S1;omega
 have hAd:=haz_addr bh ba h hOk tn r 0 hr hd hr1 (by omega) (by omega)
 have hza:=hz_adr hOk hd hr1 (k:=0) (by omega) (by omega)
 have hb9:=(ZD hOk 9).1
 have e9:base h.c 9+r*h.c.Hz+0=((qHz h tn 0:Nat):Int):=by
  unfold qHz
  rw[Yo,hrd]
  omega
 rw[e9]at hAd
 have HAd:=Lh hAd
 have hG:=Lh (que_arena bh ba h)
 have hT:=Lh (arena_take ba a (tn:Int) hsl)
 have hR:=fun g=>take_ready g ba d bx bm a m ⟨tn,1,0,0,0,false⟩ tn x rfl hx rfl hin (by omega) (by omega)
 have hc0:=(Z2 a m ⟨tn,1,0,0,0,false⟩).curIn hcur
 have hsl2:(Zf a m ⟨tn,1,0,0,0,false⟩).1=true→0≤Zd (Zf a m ⟨tn,1,0,0,0,false⟩).2.2.2∧Zd (Zf a m ⟨tn,1,0,0,0,false⟩).2.2.2<(a.slots.length:Int):=fun hq=>takeReady_slot (N:=(a.slots.length:Int)) (fun z hzz=>hin z (by simp only[Yo]at hzz;rw[Yb,hx]at hzz;exact hzz)) hq
 have hlen:(a.slots.length:Int)≤2147483646:=by rw[hz.ok.slots,←hz.c];omega
 subst hp
 unfold PtR0 at hs
 unfold ZW
 simp only[]at hs ⊢
 clear hz hx hxl hin hsh hcur t0 t1 hr hd hrd hr1 hS2 hH1 hsl hAd hza hb9 e9 hOk
 generalize Zf a m ⟨tn,1,0,0,0,false⟩=q at hR hc0 hsl2 ⊢
 obtain⟨q1,q2,q3,q4⟩:=q
 simp only[]at hR hc0 hsl2 ⊢
 generalize ((qHz h tn 0:Nat):Int)=Z at HAd ⊢
 cases q1 with
 | true=>
  obtain⟨b0,b1⟩:=hsl2 rfl
  have hK:=pt_taken gp bh ba d bx bm h.c q3 i t c s ⟨tn,p2,q4,p4,p5,p6,1,Z⟩ (.inr ⟨b0,by simp only[];omega⟩) rfl hc0
  generalize ZV q3 i t c s ⟨tn,p2,q4,p4,p5,p6,1,Z⟩=qq at hK ⊢
  obtain⟨k1,k2,k3⟩:=qq
  have HR:=Lh hR;have HK:=Lh hK;clear hR hK hc0 hsl2 hlen b0 b1
  simp only[if_true]
  go_enter Tryz.func135,Tryz.ntmps135
  (repeat'(first|((with_reducible apply wl_pick);((simp only[ev,Ue,Uf]);rfl);((simp only[cond_true,cond_false,ev,Ue,Uf]);rfl);(with_reducible exact QX);simp only[Uc,Uz])|(go_big_may;(first|(with_reducible first|apply NQ.mk|apply EQ.mk|exact Zg|apply Zj)|((with_reducible apply Zi);rfl;rfl)|((with_reducible apply Zo);rfl)|((with_reducible refine Zn ?_ ?_);focus((with_reducible apply ZI);rfl;rfl))|(show Qd _ _ _;rfl)|((with_reducible apply Zb hs);exact Ii;rfl;(with_reducible repeat first|exact Qh|apply Qk);rfl;rfl;simp only[Uc,Uz])|((with_reducible apply Zv hs);exact Ii;rfl;rfl;(with_reducible repeat first|exact Qh|apply Qk);rfl;exact Vb rfl;rfl;clear hs;intro w hs;simp only[Yg,Uc,Uz]at hs)|(go_at_call 91;(refine(HAd.out).at hs (by with_reducible repeat first|exact Qh|apply Qk) ?_;clear hs;intro w hs;(try simp only[Em,Ma]at hs)))|(go_at_call 65;(refine(hG.out).at hs (by with_reducible repeat first|exact Qh|apply Qk) ?_;clear hs;intro w hs;(try simp only[Em,Ma]at hs)))|(go_at_call 137;(refine(hT.out).at hs (by with_reducible repeat first|exact Qh|apply Qk) ?_;clear hs;intro g w hs;(try simp only[Em,Ma]at hs)))|(go_at_call 138;((refine((HR.out g)).at hs (by (with_reducible repeat first|exact Qh|apply Qb|apply Qk)) ?_);clear hs;intro w hs;(try simp only[Em,Ma]at hs)))|(go_at_call 139;(replace hs:=JC (p:=⟨tn,p2,q4,p4,p5,p6,1,Z⟩) (gt:=g) (own:=0) (fun hf=>by simp at hf) (hs.fin (by (focus((repeat(first|with_reducible exact Ql|with_reducible apply Qb|exact Qh|with_reducible apply Qk));done)))));(refine(HK.out).at hs (by with_reducible repeat first|exact Qh|apply Qb|apply Qk) ?_;clear hs;intro w hs;(try simp only[Em,Ma]at hs)))|((with_reducible refine Wp (id:=1) (Paz (Pbz [.neu 11,.neu 12,.eff 10 [0,11,12],.neu 13,.eff 14 []])) hs rfl ?_ ?_);kernel_rfl;clear hs;intro w hs)|((with_reducible refine Wp (id:=2) (Paz [.neu 5,.neu 7,.neu 8,.neu 9,.neu 10,.eff 6 [0,7,8,9,10],.eff 11 [0],.neu 12,.neu 13,.eff 14 []]) hs rfl ?_ ?_);kernel_rfl;clear hs;intro w hs)))|go_guarded|go_step|(dsimp only)))
  go_ret
  refine⟨by simp,?_⟩
  simp only[Ma]
  (with_reducible apply Sat.fin hs;repeat first|exact Ql|exact Qh|apply Qb|apply Qk)
 | false=>
  have HR:=Lh hR;clear hR hc0 hsl2 hlen
  simp only[Yn,if_false]
  go_enter Tryz.func135,Tryz.ntmps135
  (repeat'(first|(((with_reducible apply wl_pass2);rfl;rfl;((simp only[ev,Ue,Uf]);rfl);rfl;simp only[Uc,Uz]);(repeat((with_reducible apply wl_pass2);rfl;rfl;((simp only[ev,Ue,Uf]);rfl);rfl;simp only[Uc,Uz])))|((with_reducible apply wl_pick);((simp only[ev,Ue,Uf]);rfl);((simp only[cond_true,cond_false,ev,Ue,Uf]);rfl);(with_reducible exact QX);simp only[Uc,Uz])|(go_big_may;(first|(with_reducible first|apply NQ.mk|apply EQ.mk|exact Zg|apply Zj)|((with_reducible apply Zi);rfl;rfl)|((with_reducible apply Zo);rfl)|((with_reducible refine Zn ?_ ?_);focus((with_reducible apply ZI);rfl;rfl))|(show Qd _ _ _;rfl)|((with_reducible apply Zb hs);exact Ii;rfl;(with_reducible repeat first|exact Qh|apply Qk);rfl;rfl;simp only[Uc,Uz])|((with_reducible apply Zv hs);exact Ii;rfl;rfl;(with_reducible repeat first|exact Qh|apply Qk);rfl;exact Vb rfl;rfl;clear hs;intro w hs;simp only[Yg,Uc,Uz]at hs)|(go_at_call 91;(refine(HAd.out).at hs (by with_reducible repeat first|exact Qh|apply Qk) ?_;clear hs;intro w hs;(try simp only[Em,Ma]at hs)))|(go_at_call 65;(refine(hG.out).at hs (by with_reducible repeat first|exact Qh|apply Qk) ?_;clear hs;intro w hs;(try simp only[Em,Ma]at hs)))|(go_at_call 137;(refine(hT.out).at hs (by with_reducible repeat first|exact Qh|apply Qk) ?_;clear hs;intro g w hs;(try simp only[Em,Ma]at hs)))|(go_at_call 138;((refine((HR.out g)).at hs (by (with_reducible repeat first|exact Qh|apply Qb|apply Qk)) ?_);clear hs;intro w hs;(try simp only[Em,Ma]at hs)))|((with_reducible refine Wp (id:=1) (Paz (Pbz [.neu 11,.neu 12,.eff 10 [0,11,12],.neu 13,.eff 14 []])) hs rfl ?_ ?_);kernel_rfl;clear hs;intro w hs)|((with_reducible refine Wp (id:=2) (Paz [.neu 5,.neu 7,.neu 8,.neu 9,.neu 10,.eff 6 [0,7,8,9,10],.eff 11 [0],.neu 12,.neu 13,.eff 14 []]) hs rfl ?_ ?_);kernel_rfl;clear hs;intro w hs)))|go_step|(dsimp only)))
  go_ret
  refine⟨by simp,?_⟩
  simp only[Ma]
  apply JC (gt:=g) (own:=0) (fun hf=>by simp at hf)
  ((with_reducible apply Sat.fin hs);(focus((repeat(first|with_reducible exact Ql|with_reducible exact Qh|with_reducible apply Qb|exact Qh|with_reducible apply Qk));done)))
end
end Go.Proofs.YtefjbdajgakgpaaGreat
