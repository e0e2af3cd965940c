/-
  Any moves keep each slot in one place.
-/
import Derived.Test.YtegafhhdegnigaaGreatEOw5
import Derived.Test.YtegafhhdegnigaaGreatEInv5
set_option linter.all false
namespace Go.Proofs.YtegafhhdegnigaaGreat
open Go.RowKit Hp
set_option maxRecDepth 100000
set_option maxHeartbeats 1000000
attribute [local irreducible] Go.Calls
section
section
variable {c:Cfg}{Lg S N:Nat}{h:Haz}{a:Are}{m:Mch}
variable {n:Int}{Z Y:Int→Nat}{F:List Int}{pr:Int→Prop}{K L:List Int}{t:Nat}{W:Int→Prop}
theorem step_gd {k:Zz}{i:Nat}{cl:Cll}{se:Sea}(C:Core c Lg S N h a m)(hN:N<1000000)(ht:(t:Int)<c.T)(hm:m.thread=(t:Int))(I:TI c t true (h.held.getD t 0) (a.caches.getD t []) k)(hn:n<4294967295)
  (G:Gd c n Z Y F (sx pr c h a m) (hS k) (hL k)) (D:TD c t (sx pr c h a m) k):StP c n Z Y pr h a m t (Zn (h,a) m i t cl se k):=by
 cases k with
 | reg r=>exact reg_gd C I.1 I.2.1 I.2.2 G D
 | unr u=>exact unr_gd C hN ht hm I.1 I.2.1 I.2.2 hn G D
 | pst p=>exact post_gd C hN ht hm I.1 I.2.1 (I.2.2.1 rfl) hn G D
 | rdg r=>exact read_gd C I G D
 | clr ad=>exact clr_gd C I.1 G D
 | scn s=>exact scn_gd C (I.2.2 rfl) I.1 hm ht hn G D
theorem ready_gd {k:Zz}{i:Nat}{cl:Cll}{se:Sea}(C:Core c Lg S N h a m)(ht:(t:Int)<c.T)(hm:m.thread=(t:Int))(I:TI c t false (h.held.getD t 0) (a.caches.getD t []) k)
  (hfr:hS k=[]∧hL k=[]) (G:Gd c n Z Y F (sx pr c h a m) (hS k) (hL k)) (D:TD c t (sx pr c h a m) k):StP c (n-1) Z Y pr h a m t (Qj (h,a) m i t cl se k):=by
 have id_:StP c (n-1) Z Y pr h a m t (false,(h,a),m,k):=⟨pr,F,by simp only[Yn,if_false];exact G.mono (by omega),Rl.refl ..,fun _=>D⟩
 cases k with
 | reg r=>exact id_
 | unr u=>exact id_
 | rdg r=>exact id_
 | clr ad=>exact id_
 | scn s=>
  obtain⟨_,i2,_⟩:=I
  obtain⟨r0,r1,hp⟩:=i2 rfl
  have hlt:t<h.held.length:=by rw[C.held];omega
  obtain⟨n1,n2,n3,n4⟩:=next_sd (h:=h) (s:={ s with at_ := -1 }) (t:=t) (sx pr c h a m) (D.scan s rfl).rcd
  rw[hfr.1,hfr.2]at G
  have n2':hS (.scn (ZK h s).2)=[]:=n2
  have n3':hL (.scn (ZK h s).2)=[]:=n3
  refine⟨pr,F,?_,Rl.refl ..,fun _=>td_scn n1⟩
  simp only[Qj,n2',n3',ite_self]
  exact G.mono (by omega)
 | pst p=>
  obtain⟨i1,i2,_,i4⟩:=I
  obtain⟨n1,n2,n3⟩:=i4 rfl
  obtain⟨z1,z2⟩:=hS_pst0 n2
  rw[z1,z2]at G
  simp only[Qj]
  unfold Zq
  simp only[]
  have hR:=takeReady_gd (t:=t) (W:=fun _=>False) (k:=⟨p.thread,1,0,0,0,false⟩) C i1 ht hm G
  have hTk:=takeReady_core (k:=⟨p.thread,1,0,0,0,false⟩) C (by simp only[];omega) (by simp only[];omega)
  generalize Zk a m ⟨p.thread,1,0,0,0,false⟩=r at hR hTk ⊢
  rcases hR with e|⟨e1,e2,e3,e4⟩
  ·cases e
   simp only[Yn,if_false]
   obtain⟨y1,y2⟩:=hS_pst0 (p:={ p with take:=some ⟨p.thread,1,0,0,0,false⟩ }) n2
   refine⟨pr,F,?_,Rl.refl ..,fun _=>td_pst (fun hf=>by simp only[n2]at hf;omega) (fun _ k' hk' => ?_) (fun hf=>by simp only[n2]at hf;omega) (fun hf=>by simp only[n2]at hf;omega)⟩
   ·simp only[Yn,if_false,y1,y2];exact G.mono (by omega)
   ·simp only[Option.some.injEq]at hk'
    subst hk'
    exact⟨fun hf=>absurd rfl hf,fun hf=>by simp at hf⟩
  ·rw[if_pos e1]
   rcases hTk with e|⟨_,_,q,_⟩
   ·rw[e]at e1;cases e1
   ·have e2:Gd c (n-1+1) Z Y F (sx pr c h r.2.1 r.2.2.1) [Zh r.2.2.2] []:=e2.mono (by omega)
    have Q:=took_gd (n:=n-1+1) (i:=i) (cl:=cl) (se:=se) (h:=h) (a:=a) (m:=m) (p:={ p with take:=some r.2.2.2 }) (.inr q.1) (by rw[if_pos q.1];exact e2) e3 (fun _=>e4)
    obtain⟨pr',F2,q1,q2,q3⟩:=Q
    refine⟨pr',F2,?_,q2,q3⟩
    have tg:(mv c (ZE r.2.2.1 i t cl se { p with take:=some r.2.2.2 } r.2.2.2).2.1).hd / 4294967296≤n-1+1:=by
     have:=e2.tag
     have ew:(ZE r.2.2.1 i t cl se { p with take:=some r.2.2.2 } r.2.2.2).2.1.mem.words=r.2.2.1.mem.words:=by unfold ZE;split<;>rfl
     rw[QW ew];exact this
    exact⟨q1.tot,q1.stF,q1.stC,q1.stX,q1.stL,q1.stZ,q1.chain,q1.hd0,tg,q1.rcd,q1.act1,q1.pr1,q1.pr2⟩
structure DI (c:Cfg)(pr:Int→Prop)(F:List Int)(n:Int)(y:HW):Prop where
 gd:Gd c n (cnt2 (y.tasks.map tS)) (cnt2 (y.tasks.map tL)) F (sx pr c y.s.1 y.s.2 y.m) [] []
 td:∀(t:Nat) (k:Zz),y.tasks[t]? = some (some k)→TD c t (sx pr c y.s.1 y.s.2 y.m) k
 fresh:∀(t:Nat) (k:Zz) (se:Sea),y.tasks[t]? = some (some k)→y.m.seats[t]? = some se→se.ready=false→hS k=[]∧hL k=[]
theorem count_focus {tasks:List (Option Zz)}(f:Option Zz→List Int)(f0:f none=[]){t:Nat}{o:Option Zz}(h:tasks[t]? = some o)(s:Int) :
  cnt2 (tasks.map f) s=cnt2 ((tasks.set t none).map f) s+(f o).count s:=by
 have h1:(tasks.map f)[t]? = some (f o):=by rw[Ym,h];rfl
 have:=cnt2_set [] s h1
 rw[Yk,f0]
 simp only[List.count_nil]at this
 omega
theorem Gd.focus {x:Sx}{tasks:List (Option Zz)}{t:Nat}{o:Option Zz}(G:Gd c n (cnt2 (tasks.map tS)) (cnt2 (tasks.map tL)) F x [] [])(h:tasks[t]? = some o) :
  Gd c n (cnt2 ((tasks.set t none).map tS)) (cnt2 ((tasks.set t none).map tL)) F x (tS o) (tL o):=by
 refine⟨fun s => ?_,G.stF,G.stC,G.stX,G.stL,fun s hs=>G.stZ s ?_,G.chain,G.hd0,G.tag,fun r r0 r1 => ?_,G.act1,G.pr1,G.pr2⟩
 ·have:=G.tot s
  rw[count_focus tS rfl h s]at this
  simp only[List.count_nil]at this
  omega
 ·rw[count_focus tS rfl h s];omega
 ·have:=G.rcd r r0 r1
  rw[count_focus tL rfl h r]at this
  simp only[List.count_nil]at this
  omega
theorem Gd.unfocus {x:Sx}{tasks:List (Option Zz)}{t:Nat}{o:Option Zz}(h:t<tasks.length)(G:Gd c n (cnt2 ((tasks.set t none).map tS)) (cnt2 ((tasks.set t none).map tL)) F x (tS o) (tL o))
  (hst:∀s∈tS o,(x.sl s).state=2∨(x.sl s).state=5):Gd c n (cnt2 ((tasks.set t o).map tS)) (cnt2 ((tasks.set t o).map tL)) F x [] []:=by
 have ht:(tasks.set t o)[t]? = some o:=Ye h
 have e1:=count_focus tS rfl ht
 have e2:=count_focus tL rfl ht
 rw[Yl]at e1 e2
 refine⟨fun s => ?_,G.stF,G.stC,G.stX,G.stL,fun s hs => ?_,G.chain,G.hd0,G.tag,fun r r0 r1 => ?_,G.act1,G.pr1,G.pr2⟩
 ·have:=G.tot s
  rw[e1 s]
  simp only[List.count_nil]
  omega
 ·rw[e1 s]at hs
  by_cases h0:0<cnt2 ((tasks.set t none).map tS) s
  ·exact G.stZ s h0
  ·exact hst s (List.count_pos_iff.1 (by omega))
 ·have:=G.rcd r r0 r1
  rw[e2 r]
  simp only[List.count_nil]
  omega
theorem TD.st {x:Sx}{k:Zz}(D:TD c t x k)(s:Int)(hs:s∈hS k):(x.sl s).state=2∨(x.sl s).state=5:=by
 unfold hS at hs
 rcases List.mem_append.1 hs with hs|hs
 ·rw[D.own s hs];exact .inl rfl
 ·unfold hP at hs
  cases e:scOf k with
  | none=>rw[e]at hs;simp at hs
  | some z=>rw[e]at hs;exact .inr ((D.scan z e).st s hs)
theorem made_td {mv:Mv}{k:Zz}(C:Core c Lg S N h a m)(ht:(t:Int)<c.T)(hk:ZW (h,a) t mv=some k):hS k=[]∧hL k=[]∧TD c t (sx pr c h a m) k:=by
 have hc:=C.hc
 have hok:=C.ok
 obtain⟨r1,r0⟩:=C.hget ht
 have hlt:t<h.held.length:=by rw[C.held];omega
 have hh:h.held[t]? = some (h.held.getD t 0):=by rw[Yb,Yd hlt];rfl
 unfold ZW at hk
 simp only[hc]at hk
 generalize h.held.getD t 0=hd at hk r0 r1 hh
 split at hk
 ·split at hk
  ·rename_i hneg;cases hk;exact⟨rfl,rfl,td_reg hh hneg⟩
  ·cases hk
 ·split at hk
  ·cases hk
  ·rename_i hnn
   split at hk
   ·cases hk
    obtain⟨z1,z2⟩:=hS_unr (u:=⟨t,0,0,none,none⟩) (by simp)
    exact⟨z1,z2,td_unr (fun hf=>by simp at hf) (fun hf=>by simp at hf)⟩
   ·split at hk
    ·cases hk
     obtain⟨z1,z2⟩:=hS_pst0 (p:=⟨t,mv.arg,0,none,0,0,none⟩) rfl
     exact⟨z1,z2,td_pst (fun hf=>by simp at hf) (fun _ k' hk'=>(by cases hk')) (fun hf=>by simp at hf) (fun hf=>by simp at hf)⟩
    ·split at hk
     ·split at hk
      ·rename_i hb
       cases hk
       exact⟨rfl,rfl,td_rdg ⟨hd,hh,by omega,r1,by simp only[];omega,by simp only[];omega⟩ (fun hf=>by simp at hf) (fun hf=>by simp at hf)⟩
      ·cases hk
     ·split at hk
      ·split at hk
       ·rename_i hb
        obtain⟨a1,a2⟩:=hz_adr hok (by omega) r1 hb.1 hb.2
        have:=(ZS hok 9).1
        cases hk
        refine⟨rfl,rfl,td_clr ⟨hd,hh,by omega,r1,?_,?_⟩⟩<;>omega
       ·cases hk
      ·cases hk
       exact⟨rfl,rfl,td_scn ⟨hh,fun hf=>by simp at hf,fun hf=>by simp at hf,fun s0 h0=>by simp[scnP]at h0,fun s0 h0=>by simp[scnP]at h0⟩⟩
theorem TkS.of {k:Zz}{rdy:Bool}{hd:Int}{ca:List Int}(I:TI c t rdy hd ca k)(hf:rdy=false→hS k=[]∧hL k=[]):(∀s,scOf k=some s→0≤s.record)∧TkS k:=by
 have key:∀s,scOf k=some s→0≤s.record:=by
  intro s hs
  cases k with
  | reg r=>cases hs
  | rdg r=>cases hs
  | clr r=>cases hs
  | scn z=>
   simp only[scOf,Option.some.injEq]at hs;subst hs
   cases rdy with
   | false=>exact(I.2.1 rfl).1
   | true=>exact(I.2.2 rfl).rec0
  | unr u=>
   obtain⟨_,_,J⟩:=I
   simp only[scOf]at hs
   split at hs
   ·rename_i h1
    obtain⟨z,e1,e2,_⟩:=J.scan h1
    rw[e1]at hs;cases hs;exact e2.rec0
   ·cases hs
  | pst p=>
   obtain⟨_,_,J1,J2⟩:=I
   simp only[scOf]at hs
   split at hs
   ·rename_i h1
    cases rdy with
    | false=>have:=(J2 rfl).2.1;omega
    | true=>
     obtain⟨r,z,e1,e2,e3,_⟩:=(J1 rfl).ret h1
     rw[e1]at hs;simp only[e2]at hs;cases hs;exact e3.rec0
   ·cases hs
 refine⟨key,key,?_⟩
 rintro p rfl h0 k' hk h3
 obtain⟨_,_,J1,J2⟩:=I
 cases rdy with
 | false=>rw[(J2 rfl).1]at hk;cases hk
 | true=>
  obtain⟨⟨k2,e1,e2,_⟩,_⟩:=J1 rfl
  rw[hk]at e1;cases e1
  exact((e2 h0).head (by omega)).2.1
end
end
section
def Sea.er (s:Sea):Sea:={ s with task:=.nilIface }
def Mch.er (m:Mch):Mch:={ m with kit:=.nilIface,vs:=.nilIface,vc:=.nilIface,seats:=m.seats.map Sea.er }
section
variable {α β γ:Type}
def er3 (r:Bool×α×Mch×β):Bool×α×Mch×β:=(r.1,r.2.1,r.2.2.1.er,r.2.2.2)
def er4 (r:Bool×α×β×Mch×γ):Bool×α×β×Mch×γ:=(r.1,r.2.1,r.2.2.1,r.2.2.2.1.er,r.2.2.2.2)
def er2 (r:Bool×Mch×β):Bool×Mch×β:=(r.1,r.2.1.er,r.2.2)
theorem er3_ite {p:Prop}[Decidable p](x y:Bool×α×Mch×β):er3 (if p then x else y)=if p then er3 x else er3 y:=by split<;>rfl
theorem er4_ite {p:Prop}[Decidable p](x y:Bool×α×β×Mch×γ):er4 (if p then x else y)=if p then er4 x else er4 y:=by split<;>rfl
theorem er2_ite {p:Prop}[Decidable p](x y:Bool×Mch×β):er2 (if p then x else y)=if p then er2 x else er2 y:=by split<;>rfl
end
variable (h:Haz)(a:Are)(m:Mch)(i t:Nat)
theorem er_word (i:Nat):m.er.word i=m.word i:=rfl
theorem er_load (u:Int):m.er.load i u=(m.load i u).er:=rfl
theorem er_store (u z:Int):m.er.store i u z=(m.store i u z).er:=rfl
theorem er_swap (u o z:Int):m.er.swap i u o z=(m.swap i u o z).er:=rfl
theorem er_shift (s f t:Int):m.er.shift s f t=(m.shift s f t).er:=rfl
theorem er_point (c:Cll)(z:Int):m.er.point i c z=(m.point i c z).er:=rfl
theorem er_thread:m.er.thread=m.thread:=rfl
theorem er_now:m.er.now=m.now:=rfl
theorem er_answer (s:Sea)(k v:Int):m.er.answer t s.er k v=(m.answer t s k v).er:=by
 simp only[Mch.answer,Mch.er,Yk];rfl
theorem er_prep (now:Int)(s:Sea):m.er.prep t i now s.er=(m.prep t i now s).er:=by
 simp only[Mch.prep,Mch.er,Yk];rfl
theorem er_push (p:Psh):Za a m.er p=er3 (Za a m p):=by
 simp only[Za,er_word,er_load,er_store,er_swap,er_shift,er_thread,er3_ite];rfl
theorem er_give (p:Psh):Zy a m.er p=er3 (Zy a m p):=by
 simp only[Zy,er_shift,er_thread,er3_ite];rfl
def er5 {α β γ:Type}(r:Bool×α×β×γ×Mch):Bool×α×β×γ×Mch:=(r.1,r.2.1,r.2.2.1,r.2.2.2.1,r.2.2.2.2.er)
theorem er5_ite {α β γ:Type}{p:Prop}[Decidable p](x y:Bool×α×β×γ×Mch):er5 (if p then x else y)=if p then er5 x else er5 y:=by split<;>rfl
theorem er_free (th:Int):∀(l:List Int) (g:Option Psh) (a:Are) (m:Mch),Zu th l g a m.er=er5 (Zu th l g a m)
 | [],g,a,m=>rfl
 | s::r,g,a,m=>by
  unfold Zu
  rw[er_give,er5_ite]
  simp only[er3]
  rw[er_free th r]
  rfl
theorem er_takeReady (k:Tak):Zk a m.er k=er3 (Zk a m k):=by
 simp only[Zk,Q1,er_shift,er_thread,er3_ite];rfl
theorem er_take (k:Tak):Zi a m.er k=er3 (Zi a m k):=by
 simp only[Zi,Q1,er_word,er_load,er_swap,er_shift,er_thread,er3_ite];rfl
theorem er_try (s:Scn):QH h m.er s=er2 (QH h m s):=by
 simp only[QH,er_word,er_load,er2_ite];rfl
theorem er_stake (s:Scn):Qm h m.er s=er3 (Qm h m s):=by
 simp only[Qm,er_word,er_swap,er3_ite];rfl
theorem er_look (s:Scn):Qo h a m.er s=er4 (Qo h a m s):=by
 have e1:(Z2 h m.er s).1=(Z2 h m s).1.er:=rfl
 have e2:(Z2 h m.er s).2=(Z2 h m s).2:=rfl
 unfold Qo
 rw[e1,e2]
 dsimp only
 rw[er_free,er4_ite]
 rfl
theorem er_sgive (s:Scn)(p:Psh):Qp h a m.er s p=er3 (Qp h a m s p):=by
 simp only[Qp,er_push,er3_ite]
 simp only[er3,er_free];rfl
theorem er_scan (s:Scn):Zf h a m.er s=er4 (Zf h a m s):=by
 unfold Zf
 simp only[er4_ite]
 congr 1
 ·rw[er_try];rfl
 congr 1
 ·rw[er_stake];rfl
 congr 1
 congr 1
 ·exact er_look ..
 ·split
  ·rw[er_sgive];rfl
  ·rfl
theorem er_retire (r:Ret):ZA h a m.er r=er4 (ZA h a m r):=by
 simp only[ZA,er_shift,er_thread,er4_ite];rfl
theorem er_reg (s:Sea)(r:Reg):ZU h m.er t s.er r=er3 (ZU h m t s r):=by
 simp only[ZU,ZV,er_word,er_load,er_swap,er_answer,er3_ite];rfl
theorem er_flush (p:Psh):ZL a m.er p=er3 (ZL a m p):=by
 simp only[ZL,er_push,er3_ite];rfl
theorem er_unr (u:Unr):Zg h a m.er u=er4 (Zg h a m u):=by
 unfold Zg
 simp only[er_word,er_store,er4_ite]
 congr 1
 congr 1
 ·split
  ·rfl
  ·simp only[er_scan,er4_ite];rfl
 congr 1
 split
 ·rfl
 ·simp only[er_flush];rfl
theorem er_read (c:Cll)(s:Sea)(r:Rdg):ZT h m.er i t c s.er r=er2 (ZT h m i t c s r):=by
 simp only[ZT,Z8,er_word,er_load,er_store,er_point,er_now,er_answer,er2_ite];rfl
theorem er_took (c:Cll)(s:Sea)(p:Pst)(k:Tak):ZE m.er i t c s.er p k=er2 (ZE m i t c s p k):=by
 simp only[ZE,er_point,er_now,er_answer,er2_ite];rfl
theorem er_postReady (c:Cll)(s:Sea)(p:Pst):Zq a m.er i t c s.er p=er3 (Zq a m i t c s p):=by
 simp only[Zq,er_takeReady,er3_ite]
 simp only[er3,er_took];rfl
theorem er_post (c:Cll)(s:Sea)(p:Pst):Zj h a m.er i t c s.er p=er4 (Zj h a m i t c s p):=by
 unfold Zj
 split
 ·rfl
 ·simp only[er4_ite,er_take,er_word]
  congr 1
  ·simp only[er3,er_took];rfl
  congr 1
  congr 1
  congr 1
  ·congr 1
   simp only[er_swap,ZY,er_point,er_answer,er_now,er_shift,er_thread,er_retire,er4_ite];rfl
  ·split
   ·rfl
   ·split
    ·rfl
    ·rw[er_scan];rfl
theorem er_rdy (s:Haz×Are)(c:Cll)(se:Sea)(k:Zz):Qj s m.er i t c se.er k=er3 (Qj s m i t c se k):=by
 cases k<;>first|rfl|(simp only[Qj,er_postReady];rfl)
theorem er_stp (s:Haz×Are)(c:Cll)(se:Sea)(k:Zz):Zn s m.er i t c se.er k=er3 (Zn s m i t c se k):=by
 cases k<;>first|rfl|(simp only[Zn,er_reg,er_unr,er_read,er_post,er_scan];rfl)
abbrev nT:Tasks (Haz×Are) Zz:=⟨fun _=>emp,fun _ _=>emp,Qj,Zn,fun _ _ _ _=>True,fun _ _ _ _=>True⟩
theorem er_stepReady {bh ba:Nat}{CX:Zd}(s:Haz×Are)(c:Cll)(se:Sea)(k:Zz)(now:Int):Zb nT s m.er i t c se.er k now=er3 (Zb (hzT bh ba CX) s m i t c se k now):=by
 unfold Zb
 rw[er3_ite]
 congr 1
 ·rw[er_prep];exact er_rdy _ i t s c { se with ready:=true } k
 ·rw[er_prep];rfl
theorem er_getC:getC m.er i=getC m i:=rfl
theorem er_getS:getS m.er t=(getS m t).er:=by
 simp only[getS,Mch.er,Yb,Ym]
 cases m.seats[t]? <;> rfl
theorem er_stepMore {bh ba:Nat}{CX:Zd}(r:Bool×(Haz×Are)×Mch×Zz):ZQ nT i t (er3 r)=er3 (ZQ (hzT bh ba CX) i t r):=by
 unfold ZQ
 rw[er3_ite]
 congr 1
 simp only[er3,er_getC,er_getS]
 exact er_stp _ i t _ _ _ _
theorem er_end (c:Cll)(s:Sea)(now:Int)(b:Bool):ZC m.er t i now c s.er b=(ZC m t i now c s b).er:=by
 unfold ZC
 split
 ·simp only[Mch.er,Yk];rfl
 ·rfl
def Wst.er (y:HW):HW:={ y with m:=y.m.er }
def moveE (y:HW)(mv:Mv):HW:=
 if mv.thread<0∨(y.tasks.length:Int)≤mv.thread then y.tick
 else match y.tasks.getD mv.thread.toNat none with
  | none=>
   if mv.op<20∨25<mv.op then y.tick
   else match ZW y.s mv.thread.toNat mv with
    | none=>y.tick
    | some k=>⟨y.s,ZD y.m mv.thread.toNat mv .nilIface .nilIface,y.tasks.set mv.thread.toNat (some k)⟩
  | some k=>
   if mv.op≠0 then y.tick
   else
    let se:=getS y.m mv.thread.toNat
    let r:=Qi nT y.s y.tick.m se.last.toNat mv.thread.toNat (getC y.m se.last.toNat) se k y.m.moves
    ⟨r.1,r.2.1,y.tasks.set mv.thread.toNat r.2.2⟩
def didE (y:HW)(mv:Mv):Bool:=
 if mv.thread<0∨(y.tasks.length:Int)≤mv.thread then false
 else match y.tasks.getD mv.thread.toNat none with
  | none=>if mv.op<20∨25<mv.op then false else (ZW y.s mv.thread.toNat mv).isSome
  | some _=>mv.op=0
theorem kitFn_none {x:Caps}{op:Int}:kitFn x op=none↔op<20∨25<op:=by
 unfold kitFn
 constructor
 ·intro h
  repeat(split at h;· cases h)
  omega
 ·intro h
  rw[if_neg (by omega),if_neg (by omega),if_neg (by omega),if_neg (by omega),if_neg (by omega),if_neg (by omega)]
theorem moveE_of {y y':HW}{mv:Mv}{b:Bool}{bh ba:Nat}{CX:Zd}{x:Caps}(h:Jn (hzT bh ba CX) (kitFn x) ZW y mv b y'):y'.er=moveE y.er mv∧b=didE y.er mv:=by
 cases h with
 | out h=>unfold moveE didE;rw[if_pos (by exact h),if_pos (by exact h)];exact⟨rfl,rfl⟩
 | idle t ht hop hk=>
  have hl:=(List.getElem?_eq_some_iff.1 hk).1
  have e:y.er.tasks.getD mv.thread.toNat none=none:=by rw[ht,Yo,Yb];show(y.tasks[t]?).getD none=none;rw[hk];rfl
  unfold moveE didE
  have hn:¬(mv.thread<0∨(y.er.tasks.length:Int)≤mv.thread):=by show ¬(mv.thread<0∨(y.tasks.length:Int)≤mv.thread);omega
  rw[if_neg hn,if_neg hn,e]
  simp only[]
  rw[if_pos (by omega),if_pos (by omega)]
  exact⟨rfl,rfl⟩
 | busy t k ht hop hk=>
  have hl:=(List.getElem?_eq_some_iff.1 hk).1
  have e:y.er.tasks.getD mv.thread.toNat none=some k:=by rw[ht,Yo,Yb];show(y.tasks[t]?).getD none=some k;rw[hk];rfl
  unfold moveE didE
  have hn:¬(mv.thread<0∨(y.er.tasks.length:Int)≤mv.thread):=by show ¬(mv.thread<0∨(y.tasks.length:Int)≤mv.thread);omega
  rw[if_neg hn,if_neg hn,e]
  simp only[]
  rw[if_pos hop]
  exact⟨rfl,by simp[hop]⟩
 | nokit t ht hop hk hK=>
  have hl:=(List.getElem?_eq_some_iff.1 hk).1
  have e:y.er.tasks.getD mv.thread.toNat none=none:=by rw[ht,Yo,Yb];show(y.tasks[t]?).getD none=none;rw[hk];rfl
  unfold moveE didE
  have hn:¬(mv.thread<0∨(y.er.tasks.length:Int)≤mv.thread):=by show ¬(mv.thread<0∨(y.tasks.length:Int)≤mv.thread);omega
  rw[if_neg hn,if_neg hn,e]
  simp only[]
  rw[if_pos (kitFn_none.1 hK),if_pos (kitFn_none.1 hK)]
  exact⟨rfl,rfl⟩
 | refused t ht hop hk hK hm=>
  have hl:=(List.getElem?_eq_some_iff.1 hk).1
  have e:y.er.tasks.getD mv.thread.toNat none=none:=by rw[ht,Yo,Yb];show(y.tasks[t]?).getD none=none;rw[hk];rfl
  unfold moveE didE
  have hn:¬(mv.thread<0∨(y.er.tasks.length:Int)≤mv.thread):=by show ¬(mv.thread<0∨(y.tasks.length:Int)≤mv.thread);omega
  have hm2:ZW y.er.s mv.thread.toNat mv=none:=by rw[ht,Yo];exact hm
  rw[if_neg hn,if_neg hn,e]
  simp only[]
  rw[if_neg (fun h=>hK (kitFn_none.2 h)),if_neg (fun h=>hK (kitFn_none.2 h)),hm2]
  exact⟨rfl,rfl⟩
 | begin_ t k v vc ht hop hk hK hm=>
  have hl:=(List.getElem?_eq_some_iff.1 hk).1
  have e:y.er.tasks.getD mv.thread.toNat none=none:=by rw[ht,Yo,Yb];show(y.tasks[t]?).getD none=none;rw[hk];rfl
  unfold moveE didE
  have hn:¬(mv.thread<0∨(y.er.tasks.length:Int)≤mv.thread):=by show ¬(mv.thread<0∨(y.tasks.length:Int)≤mv.thread);omega
  have hm2:ZW y.er.s mv.thread.toNat mv=some k:=by rw[ht,Yo];exact hm
  rw[if_neg hn,if_neg hn,e]
  simp only[]
  rw[if_neg (fun h=>hK (kitFn_none.2 h)),if_neg (fun h=>hK (kitFn_none.2 h)),hm2]
  refine⟨?_,rfl⟩
  rw[ht,Yo]
  simp only[Wst.er,ZD,Mch.er,Yk]
  rfl
 | step t i c se k ht hop hk hse hl hc=>
  have hlt:=(List.getElem?_eq_some_iff.1 hk).1
  have e:y.er.tasks.getD mv.thread.toNat none=some k:=by rw[ht,Yo,Yb];show(y.tasks[t]?).getD none=some k;rw[hk];rfl
  unfold moveE didE
  have hn:¬(mv.thread<0∨(y.er.tasks.length:Int)≤mv.thread):=by show ¬(mv.thread<0∨(y.tasks.length:Int)≤mv.thread);omega
  rw[if_neg hn,if_neg hn,e]
  simp only[]
  rw[if_neg (by simpa using hop)]
  refine⟨?_,by simp[hop]⟩
  have e1:getS y.er.m mv.thread.toNat=se.er:=by
   rw[ht,Yo]
   show getS y.m.er t=_
   rw[er_getS]
   simp[getS,Yb,hse]
  have e2:getC y.er.m se.er.last.toNat=c:=by
   show getC y.m.er se.last.toNat=c
   rw[hl,Yo,er_getC]
   simp[getC,Yb,hc]
  have e3:se.er.last.toNat=i:=by show se.last.toNat=i;omega
  rw[e1,e2,e3,ht,Yo]
  have e4:Qi nT y.er.s y.er.tick.m i t c se.er k y.er.m.moves=((Qi (hzT bh ba CX) y.s y.tick.m i t c se k y.m.moves).1,(Qi (hzT bh ba CX) y.s y.tick.m i t c se k y.m.moves).2.1.er,(Qi (hzT bh ba CX) y.s y.tick.m i t c se k y.m.moves).2.2):=by
   have h1:=er_stepReady (bh:=bh) (ba:=ba) (CX:=CX) y.tick.m i t y.s c se k y.m.moves
   have h2:=er_stepMore (bh:=bh) (ba:=ba) (CX:=CX) i t (Zb (hzT bh ba CX) y.s y.tick.m i t c se k y.m.moves)
   rw[←h1]at h2
   unfold Qi
   simp only[]
   have h3:ZQ nT i t (Zb nT y.er.s y.er.tick.m i t c se.er k y.er.m.moves)=er3 (ZQ (hzT bh ba CX) i t (Zb (hzT bh ba CX) y.s y.tick.m i t c se k y.m.moves)):=h2
   rw[h3]
   simp only[er3,er_getC,er_getS,er_end];rfl
  simp only[e4]
  rfl
end
end Go.Proofs.YtegafhhdegnigaaGreat
