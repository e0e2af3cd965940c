/-
  Any moves keep each slot in one place.
-/
import Derived.Test.YtegafhhdegnigaaGreatDOw5
set_option linter.all false
namespace Go.Proofs.YtegafhhdegnigaaGreat
open Go.RowKit Hp
set_option maxRecDepth 100000
set_option maxHeartbeats 1000000
attribute [local irreducible] Go.Calls
section
variable {c : Cfg} {Lg S N : Nat} {h : Haz} {a : Are} {m : Mch}
variable {n : Int} {Z Y : Int → Nat} {F : List Int} {pr : Int → Prop} {K L : List Int} {t : Nat} {W : Int → Prop}
theorem step_gd {k : HTask} {i : Nat} {cl : Cll} {se : Sea} (C : Core c Lg S N h a m) (hN : N < 1000000) (ht : (t : Int) < c.T) (hm : m.thread = (t : Int)) (I : TI c t true (h.held.getD t 0) (a.caches.getD t []) k) (hn : n < 4294967295)
  (G : Gd c n Z Y F (sx pr c h a m) (hS k) (hL k)) (D : TD c t (sx pr c h a m) k) : StP c n Z Y pr h a m t (htStep (h,a) m i t cl se k) := by
 cases k with
 | reg r => exact reg_gd C I.1 I.2.1 I.2.2 G D
 | unr u => exact unr_gd C hN ht hm I.1 I.2.1 I.2.2 hn G D
 | pst p => exact post_gd C hN ht hm I.1 I.2.1 (I.2.2.1 rfl) hn G D
 | rdg r => exact read_gd C I G D
 | clr ad => exact clr_gd C I.1 G D
 | scn s => exact scn_gd C (I.2.2 rfl) I.1 hm ht hn G D
theorem ready_gd {k : HTask} {i : Nat} {cl : Cll} {se : Sea} (C : Core c Lg S N h a m) (ht : (t : Int) < c.T) (hm : m.thread = (t : Int)) (I : TI c t false (h.held.getD t 0) (a.caches.getD t []) k)
  (hfr : hS k = [] ∧ hL k = []) (G : Gd c n Z Y F (sx pr c h a m) (hS k) (hL k)) (D : TD c t (sx pr c h a m) k) : StP c (n - 1) Z Y pr h a m t (htReady (h,a) m i t cl se k) := by
 have id_ : StP c (n - 1) Z Y pr h a m t (false,(h,a),m,k) := ⟨pr,F,by simp only [Bool.false_eq_true,if_false];exact G.mono (by omega),Rl.refl ..,fun _ => D⟩
 cases k with
 | reg r => exact id_
 | unr u => exact id_
 | rdg r => exact id_
 | clr ad => exact id_
 | scn s =>
  obtain ⟨_,i2,_⟩ := I
  obtain ⟨r0,r1,hp⟩ := i2 rfl
  have hlt : t < h.held.length := by rw [C.held];omega
  obtain ⟨n1,n2,n3,n4⟩ := next_sd (h := h) (s := { s with at_ := -1 }) (t := t) (sx pr c h a m) (D.scan s rfl).rcd
  rw [hfr.1,hfr.2] at G
  have n2' : hS (.scn (scanReady h s).2) = [] := n2
  have n3' : hL (.scn (scanReady h s).2) = [] := n3
  refine ⟨pr,F,?_,Rl.refl ..,fun _ => td_scn n1⟩
  simp only [htReady,n2',n3',ite_self]
  exact G.mono (by omega)
 | pst p =>
  obtain ⟨i1,i2,_,i4⟩ := I
  obtain ⟨n1,n2,n3⟩ := i4 rfl
  obtain ⟨z1,z2⟩ := hS_pst0 n2
  rw [z1,z2] at G
  simp only [htReady]
  unfold postReady
  simp only []
  have hR := takeReady_gd (t := t) (W := fun _ => False) (k := ⟨p.thread,1,0,0,0,false⟩) C i1 ht hm G
  have hTk := takeReady_core (k := ⟨p.thread,1,0,0,0,false⟩) C (by simp only [];omega) (by simp only [];omega)
  generalize takeReady a m ⟨p.thread,1,0,0,0,false⟩ = r at hR hTk ⊢
  rcases hR with e|⟨e1,e2,e3,e4⟩
  ·cases e
   simp only [Bool.false_eq_true,if_false]
   obtain ⟨y1,y2⟩ := hS_pst0 (p := { p with take := some ⟨p.thread,1,0,0,0,false⟩ }) n2
   refine ⟨pr,F,?_,Rl.refl ..,fun _ => td_pst (fun hf => by simp only [n2] at hf;omega) (fun _ k' hk' => ?_) (fun hf => by simp only [n2] at hf;omega) (fun hf => by simp only [n2] at hf;omega)⟩
   ·simp only [Bool.false_eq_true,if_false,y1,y2];exact G.mono (by omega)
   ·simp only [Option.some.injEq] at hk'
    subst hk'
    exact ⟨fun hf => absurd rfl hf,fun hf => by simp at hf⟩
  ·rw [if_pos e1]
   rcases hTk with e|⟨_,_,q,_⟩
   ·rw [e] at e1;cases e1
   ·have e2 : Gd c (n - 1 + 1) Z Y F (sx pr c h r.2.1 r.2.2.1) [tookSlot r.2.2.2] [] := e2.mono (by omega)
    have Q := took_gd (n := n - 1 + 1) (i := i) (cl := cl) (se := se) (h := h) (a := a) (m := m) (p := { p with take := some r.2.2.2 }) (.inr q.1) (by rw [if_pos q.1];exact e2) e3 (fun _ => e4)
    obtain ⟨pr',F2,q1,q2,q3⟩ := Q
    refine ⟨pr',F2,?_,q2,q3⟩
    have tg : (mv c (postTook r.2.2.1 i t cl se { p with take := some r.2.2.2 } r.2.2.2).2.1).hd / 4294967296 ≤ n - 1 + 1 := by
     have := e2.tag
     have ew : (postTook r.2.2.1 i t cl se { p with take := some r.2.2.2 } r.2.2.2).2.1.mem.words = r.2.2.1.mem.words := by unfold postTook;split <;> rfl
     rw [mv_same ew];exact this
    exact ⟨q1.tot,q1.stF,q1.stC,q1.stX,q1.stL,q1.stZ,q1.chain,q1.hd0,tg,q1.rcd,q1.act1,q1.pr1,q1.pr2⟩
structure StQ (c : Cfg) (n : Int) (Z Y : Int → Nat) (pr : Int → Prop) (h : Haz) (a : Are) (m : Mch) (t : Nat) (r : Bool × (Haz × Are) × Mch × HTask) : Prop where
 ex : ∃ (pr' : Int → Prop) (F' : List Int),Gd c (n + 1) Z Y F' (sx pr' c r.2.1.1 r.2.1.2 r.2.2.1) (if r.1 = true then [] else hS r.2.2.2) (if r.1 = true then [] else hL r.2.2.2) ∧ Rl Z t (Own c t (sx pr c h a m)) (sx pr c h a m) (sx pr' c r.2.1.1 r.2.1.2 r.2.2.1) ∧ (r.1 = false → TD c t (sx pr' c r.2.1.1 r.2.1.2 r.2.2.1) r.2.2.2)
theorem StP.toQ {r : Bool × (Haz × Are) × Mch × HTask} (X : StP c n Z Y pr h a m t r) : StQ c n Z Y pr h a m t r := by
 obtain ⟨pr',F',x1,x2,x3⟩ := X
 exact ⟨pr',F',x1,x2.weaken fun _ hj => hj.1,x3⟩
structure DI (c : Cfg) (pr : Int → Prop) (F : List Int) (n : Int) (y : HW) : Prop where
 gd : Gd c n (cnt2 (y.tasks.map tS)) (cnt2 (y.tasks.map tL)) F (sx pr c y.s.1 y.s.2 y.m) [] []
 td : ∀ (t : Nat) (k : HTask),y.tasks[t]? = some (some k) → TD c t (sx pr c y.s.1 y.s.2 y.m) k
 fresh : ∀ (t : Nat) (k : HTask) (se : Sea),y.tasks[t]? = some (some k) → y.m.seats[t]? = some se → se.ready = false → hS k = [] ∧ hL k = []
theorem count_focus {tasks : List (Option HTask)} (f : Option HTask → List Int) (f0 : f none = []) {t : Nat} {o : Option HTask} (h : tasks[t]? = some o) (s : Int) :
  cnt2 (tasks.map f) s = cnt2 ((tasks.set t none).map f) s + (f o).count s := by
 have h1 : (tasks.map f)[t]? = some (f o) := by rw [List.getElem?_map,h];rfl
 have := cnt2_set [] s h1
 rw [List.map_set,f0]
 simp only [List.count_nil] at this
 omega
theorem Gd.focus {x : Sx} {tasks : List (Option HTask)} {t : Nat} {o : Option HTask} (G : Gd c n (cnt2 (tasks.map tS)) (cnt2 (tasks.map tL)) F x [] []) (h : tasks[t]? = some o) :
  Gd c n (cnt2 ((tasks.set t none).map tS)) (cnt2 ((tasks.set t none).map tL)) F x (tS o) (tL o) := by
 refine ⟨fun s => ?_,G.stF,G.stC,G.stX,G.stL,fun s hs => G.stZ s ?_,G.chain,G.hd0,G.tag,fun r r0 r1 => ?_,G.act1,G.pr1,G.pr2⟩
 ·have := G.tot s
  rw [count_focus tS rfl h s] at this
  simp only [List.count_nil] at this
  omega
 ·rw [count_focus tS rfl h s];omega
 ·have := G.rcd r r0 r1
  rw [count_focus tL rfl h r] at this
  simp only [List.count_nil] at this
  omega
theorem Gd.unfocus {x : Sx} {tasks : List (Option HTask)} {t : Nat} {o : Option HTask} (h : t < tasks.length) (G : Gd c n (cnt2 ((tasks.set t none).map tS)) (cnt2 ((tasks.set t none).map tL)) F x (tS o) (tL o))
  (hst : ∀ s ∈ tS o,(x.sl s).state = 2 ∨ (x.sl s).state = 5) : Gd c n (cnt2 ((tasks.set t o).map tS)) (cnt2 ((tasks.set t o).map tL)) F x [] [] := by
 have ht : (tasks.set t o)[t]? = some o := List.getElem?_set_self h
 have e1 := count_focus tS rfl ht
 have e2 := count_focus tL rfl ht
 rw [List.set_set] at e1 e2
 refine ⟨fun s => ?_,G.stF,G.stC,G.stX,G.stL,fun s hs => ?_,G.chain,G.hd0,G.tag,fun r r0 r1 => ?_,G.act1,G.pr1,G.pr2⟩
 ·have := G.tot s
  rw [e1 s]
  simp only [List.count_nil]
  omega
 ·rw [e1 s] at hs
  by_cases h0 : 0 < cnt2 ((tasks.set t none).map tS) s
  ·exact G.stZ s h0
  ·exact hst s (List.count_pos_iff.1 (by omega))
 ·have := G.rcd r r0 r1
  rw [e2 r]
  simp only [List.count_nil]
  omega
theorem TD.st {x : Sx} {k : HTask} (D : TD c t x k) (s : Int) (hs : s ∈ hS k) : (x.sl s).state = 2 ∨ (x.sl s).state = 5 := by
 unfold hS at hs
 rcases List.mem_append.1 hs with hs|hs
 ·rw [D.own s hs];exact .inl rfl
 ·unfold hP at hs
  cases e : scOf k with
  | none => rw [e] at hs;simp at hs
  | some z => rw [e] at hs;exact .inr ((D.scan z e).st s hs)
theorem made_td {mv : Mv} {k : HTask} (C : Core c Lg S N h a m) (ht : (t : Int) < c.T) (hk : kitTask (h,a) t mv = some k) : hS k = [] ∧ hL k = [] ∧ TD c t (sx pr c h a m) k := by
 have hc := C.hc
 have hok := C.ok
 obtain ⟨r1,r0⟩ := C.hget ht
 have hlt : t < h.held.length := by rw [C.held];omega
 have hh : h.held[t]? = some (h.held.getD t 0) := by rw [List.getD_eq_getElem?_getD,List.getElem?_eq_getElem hlt];rfl
 unfold kitTask at hk
 simp only [hc] at hk
 generalize h.held.getD t 0 = hd at hk r0 r1 hh
 split at hk
 ·split at hk
  ·rename_i hneg;cases hk;exact ⟨rfl,rfl,td_reg hh hneg⟩
  ·cases hk
 ·split at hk
  ·cases hk
  ·rename_i hnn
   split at hk
   ·cases hk
    obtain ⟨z1,z2⟩ := hS_unr (u := ⟨t,0,0,none,none⟩) (by simp)
    exact ⟨z1,z2,td_unr (fun hf => by simp at hf) (fun hf => by simp at hf)⟩
   ·split at hk
    ·cases hk
     obtain ⟨z1,z2⟩ := hS_pst0 (p := ⟨t,mv.arg,0,none,0,0,none⟩) rfl
     exact ⟨z1,z2,td_pst (fun hf => by simp at hf) (fun _ k' hk' => (by cases hk')) (fun hf => by simp at hf) (fun hf => by simp at hf)⟩
    ·split at hk
     ·split at hk
      ·rename_i hb
       cases hk
       exact ⟨rfl,rfl,td_rdg ⟨hd,hh,by omega,r1,by simp only [];omega,by simp only [];omega⟩ (fun hf => by simp at hf) (fun hf => by simp at hf)⟩
      ·cases hk
     ·split at hk
      ·split at hk
       ·rename_i hb
        obtain ⟨a1,a2⟩ := hz_adr hok (by omega) r1 hb.1 hb.2
        have := (base_le hok 9).1
        cases hk
        refine ⟨rfl,rfl,td_clr ⟨hd,hh,by omega,r1,?_,?_⟩⟩ <;> omega
       ·cases hk
      ·cases hk
       exact ⟨rfl,rfl,td_scn ⟨hh,fun hf => by simp at hf,fun hf => by simp at hf,fun s0 h0 => by simp [scnP] at h0,fun s0 h0 => by simp [scnP] at h0⟩⟩
theorem TkS.of {k : HTask} {rdy : Bool} {hd : Int} {ca : List Int} (I : TI c t rdy hd ca k) (hf : rdy = false → hS k = [] ∧ hL k = []) : (∀ s,scOf k = some s → 0 ≤ s.record) ∧ TkS k := by
 have key : ∀ s,scOf k = some s → 0 ≤ s.record := by
  intro s hs
  cases k with
  | reg r => cases hs
  | rdg r => cases hs
  | clr r => cases hs
  | scn z =>
   simp only [scOf,Option.some.injEq] at hs;subst hs
   cases rdy with
   | false => exact (I.2.1 rfl).1
   | true => exact (I.2.2 rfl).rec0
  | unr u =>
   obtain ⟨_,_,J⟩ := I
   simp only [scOf] at hs
   split at hs
   ·rename_i h1
    obtain ⟨z,e1,e2,_⟩ := J.scan h1
    rw [e1] at hs;cases hs;exact e2.rec0
   ·cases hs
  | pst p =>
   obtain ⟨_,_,J1,J2⟩ := I
   simp only [scOf] at hs
   split at hs
   ·rename_i h1
    cases rdy with
    | false => have := (J2 rfl).2.1;omega
    | true =>
     obtain ⟨r,z,e1,e2,e3,_⟩ := (J1 rfl).ret h1
     rw [e1] at hs;simp only [e2] at hs;cases hs;exact e3.rec0
   ·cases hs
 refine ⟨key,key,?_⟩
 rintro p rfl h0 k' hk h3
 obtain ⟨_,_,J1,J2⟩ := I
 cases rdy with
 | false => rw [(J2 rfl).1] at hk;cases hk
 | true =>
  obtain ⟨⟨k2,e1,e2,_⟩,_⟩ := J1 rfl
  rw [hk] at e1;cases e1
  exact ((e2 h0).head (by omega)).2.1
theorem DI.move {pr : Int → Prop} {F : List Int} {n : Nat} {y y' : HW} {bh ba : Nat} {CX : SProp} {K : Int → Option Value} {mv : Mv} {b : Bool} (P : PI c n y) (D : DI c pr F n y) (hn : n < 65536) (hM : MoveTo (hzT bh ba CX) K kitTask y mv b y') :
  ∃ pr' F' Z t,DI c pr' F' (n + 1) y' ∧ Rl Z t (Own c t (sx pr c y.s.1 y.s.2 y.m)) (sx pr c y.s.1 y.s.2 y.m) (sx pr' c y'.s.1 y'.s.2 y'.m) := by
 have tick : ∃ pr' F' Z t,DI c pr' F' (n + 1) y.tick ∧ Rl Z t (Own c t (sx pr c y.s.1 y.s.2 y.m)) (sx pr c y.s.1 y.s.2 y.m) (sx pr' c y.tick.s.1 y.tick.s.2 y.tick.m) :=
  ⟨pr,F,fun _ => 0,0,⟨D.gd.mono (by omega),D.td,D.fresh⟩,Rl.refl ..⟩
 cases hM with
 | out => exact tick
 | idle => exact tick
 | busy => exact tick
 | nokit => exact tick
 | refused => exact tick
 | begin_ t k v vc ht hop hk hKn hmk =>
  have hlt := (List.getElem?_eq_some_iff.1 hk).1
  have htT : (t : Int) < c.T := by have := P.core.ok.T1;have := P.tasks;omega
  obtain ⟨m1,m2,m3⟩ := made_td (pr := pr) P.core htT hmk
  refine ⟨pr,F,fun _ => 0,0,⟨?_,?_,?_⟩,Rl.refl ..⟩
  ·refine Gd.mono (n := n) ?_ (by omega)
   refine Gd.unfocus (o := some k) hlt ?_ (fun s hs => by rw [show tS (some k) = hS k from rfl,m1] at hs;simp at hs)
   have := D.gd.focus hk
   rw [show tS (some k) = hS k from rfl,show tL (some k) = hL k from rfl,m1,m2]
   exact this
  ·intro j kj hkj
   simp only [] at hkj
   by_cases hj : j = t
   ·subst hj
    rw [List.getElem?_set_self hlt] at hkj
    cases hkj;exact m3
   ·rw [set_ne hj] at hkj
    exact D.td j kj hkj
  ·intro j kj se hkj hse hf
   simp only [machBegin] at hkj hse
   by_cases hj : j = t
   ·subst hj
    rw [List.getElem?_set_self hlt] at hkj
    cases hkj;exact ⟨m1,m2⟩
   ·rw [set_ne hj] at hkj hse
    exact D.fresh j kj se hkj hse hf
 | step t i cl se k ht hop hk hse hl hc =>
  obtain ⟨p1,p2,p3,p4,p5,p6,p7⟩ := P
  have hok := p3.ok
  have hlt := (List.getElem?_eq_some_iff.1 hse).1
  have hltk := (List.getElem?_eq_some_iff.1 hk).1
  have htT : (t : Int) < c.T := by omega
  obtain ⟨_,I⟩ := p7 t k se hk hse
  have C1 : Core c n (100 * n) n y.s.1 y.s.2 y.tick.m := p3.of rfl rfl rfl rfl
  have C0 : Core c n (100 * n) n y.s.1 y.s.2 (y.tick.m.prep t i y.m.moves se) := p3.of rfl rfl rfl rfl
  have hci : CurIn (y.tick.m.prep t i y.m.moves se) i t cl { se with ready := true } := ⟨rfl,hc,by simp [Mch.prep,Wst.tick,hlt]⟩
  obtain ⟨⟨⟨r1,r2,r3⟩,r4⟩,r5⟩ := rdy_more (bh := bh) (ba := ba) (CX := CX) (now := y.m.moves) C1 (by omega) htT hc hlt I
  obtain ⟨⟨e1,e2,e3⟩,e4⟩ := more_core (bh := bh) (ba := ba) (CX := CX) (now := y.m.moves) C1 (by omega) htT hc hlt I
  have hx0 : sx pr c y.s.1 y.s.2 (y.tick.m.prep t i y.m.moves se) = sx pr c y.s.1 y.s.2 y.m := sx_words rfl
  have G0 := D.gd.focus hk
  have D0 := D.td t k hk
  rw [← hx0] at G0 D0
  generalize hZ : cnt2 ((y.tasks.set t none).map tS) = Z at G0
  generalize hY : cnt2 ((y.tasks.set t none).map tL) = Y at G0
  have hsd : y.s = (y.s.1,y.s.2) := rfl
  have E1 : StQ c (n - 1) Z Y pr y.s.1 y.s.2 (y.tick.m.prep t i y.m.moves se) t (stepReady (hzT bh ba CX) (y.s.1,y.s.2) y.tick.m i t cl se k y.m.moves) := by
   unfold stepReady
   split
   ·rename_i hf
    rw [hf] at I
    exact (ready_gd C0 htT rfl I (D.fresh t k se hk hse hf) G0 D0).toQ
   ·exact ⟨pr,F,by simp only [Bool.false_eq_true,if_false];exact G0.mono (by omega),Rl.refl ..,fun _ => D0⟩
  have E2 : StQ c n Z Y pr y.s.1 y.s.2 (y.tick.m.prep t i y.m.moves se) t (stepMore (hzT bh ba CX) i t (stepReady (hzT bh ba CX) (y.s.1,y.s.2) y.tick.m i t cl se k y.m.moves)) := by
   obtain ⟨z,kk,vv,hcc⟩ := r4.curIn hci
   have hth : (stepReady (hzT bh ba CX) (y.s.1,y.s.2) y.tick.m i t cl se k y.m.moves).2.2.1.thread = (t : Int) := r4.thread
   have hhe : (stepReady (hzT bh ba CX) (y.s.1,y.s.2) y.tick.m i t cl se k y.m.moves).2.1.1 = y.s.1 := by
    unfold stepReady
    split
    ·cases k <;> rfl
    ·rfl
   generalize stepReady (hzT bh ba CX) (y.s.1,y.s.2) y.tick.m i t cl se k y.m.moves = r at r1 r2 r3 r4 r5 E1 hcc hth hhe ⊢
   obtain ⟨pr',F',q1,q2,q3⟩ := E1
   unfold stepMore
   split
   ·rename_i hf
    rw [if_neg (by simp [hf]),if_neg (by simp [hf])] at q1
    have X := step_gd (i := i) (cl := getC r.2.2.1 i) (se := getS r.2.2.1 t) r1 (by omega) htT hth (r3 hf) (by omega) (q1.mono (n' := n) (by omega)) (q3 hf)
    obtain ⟨pr2,F2,x1,x2,x3⟩ := X.toQ
    exact ⟨pr2,F2,x1,q2.trans (x2.weaken fun j hj => hj.he (by show y.s.1.held[t]? = r.2.1.1.held[t]?;rw [hhe])),x3⟩
   ·exact ⟨pr',F',q1.mono (by omega),q2,q3⟩
  obtain ⟨pr',F',q1,q2,q3⟩ := E2
  unfold machStep
  rw [hsd]
  simp only []
  generalize stepMore (hzT bh ba CX) i t (stepReady (hzT bh ba CX) (y.s.1,y.s.2) y.tick.m i t cl se k y.m.moves) = r at e1 e2 e3 e4 q1 q2 q3 ⊢
  obtain ⟨k1,v1,hk1⟩ := e4.seats
  have hsS : ∀ j,j ≠ t → r.2.2.1.seats[j]? = y.m.seats[j]? := by
   intro j hj
   rw [hk1,set_ne hj]
   simp only [Mch.prep,Wst.tick]
   rw [set_ne hj]
  have hwd : ∀ cl2 se2 now b2,(stepEnd r.2.2.1 t i now cl2 se2 b2).mem.words = r.2.2.1.mem.words := by
   intro cl2 se2 now b2;unfold stepEnd;split <;> rfl
  have hx1 : ∀ cl2 se2 now b2,sx pr' c r.2.1.1 r.2.1.2 (stepEnd r.2.2.1 t i now cl2 se2 b2) = sx pr' c r.2.1.1 r.2.1.2 r.2.2.1 := fun cl2 se2 now b2 => sx_words (hwd cl2 se2 now b2)
  rw [← hx0]
  refine ⟨pr',F',Z,t,⟨?_,?_,?_⟩,by simp only [hx1];exact q2⟩
  ·simp only [hx1]
   refine Gd.unfocus hltk ?_ ?_
   ·rw [hZ,hY]
    have := q1
    by_cases hb : r.1 = true
    ·rw [if_pos hb,if_pos hb] at q1
     rw [if_pos hb];exact q1
    ·rw [if_neg hb,if_neg hb] at q1
     rw [if_neg hb];exact q1
   ·intro s hs
    by_cases hb : r.1 = true
    ·rw [if_pos hb] at hs;simp [tS] at hs
    ·rw [if_neg hb] at hs
     exact (q3 (by simpa using hb)).st s hs
  ·intro j kj hkj
   simp only [] at hkj
   simp only [hx1]
   by_cases hj : j = t
   ·subst hj
    rw [List.getElem?_set_self hltk] at hkj
    by_cases hb : r.1 = true
    ·rw [if_pos hb] at hkj;cases hkj
    ·rw [if_neg hb] at hkj
     cases hkj
     exact q3 (by simpa using hb)
   ·rw [set_ne hj] at hkj
    have hjT : j < y.m.seats.length := by have := (List.getElem?_eq_some_iff.1 hkj).1;omega
    obtain ⟨_,I2⟩ := p7 j kj _ hkj (List.getElem?_eq_getElem hjT)
    have T2 := (TkS.of I2 (fun hf => D.fresh j kj _ hkj (List.getElem?_eq_getElem hjT) hf)).2
    have Dj := D.td j kj hkj
    rw [← hx0] at Dj
    refine Dj.rely q2 hj T2 (fun s hs => ?_) (fun w h1 h2 => hj (own_two G0 hok h1 h2))
    rw [← hZ]
    refine cnt2_at (i := j) (l := hS kj) ?_ hs
    rw [List.getElem?_map,set_ne hj,hkj];rfl
  ·intro j kj sj hkj hsj hf
   simp only [] at hkj hsj
   by_cases hj : j = t
   ·subst hj
    rw [List.getElem?_set_self hltk] at hkj
    by_cases hb : r.1 = true
    ·rw [if_pos hb] at hkj;cases hkj
    ·exfalso
     have hsj2 : r.2.2.1.seats[j]? = some sj := by
      unfold stepEnd at hsj
      rw [if_neg hb] at hsj
      exact hsj
     rw [hk1,List.getElem?_set_self (by simp [Mch.prep,Wst.tick];exact hlt)] at hsj2
     cases hsj2
     cases hf
   ·rw [set_ne hj] at hkj
    have hsj2 : y.m.seats[j]? = some sj := by
     rw [← hsS j hj]
     unfold stepEnd at hsj
     split at hsj
     ·simp only [] at hsj;rw [set_ne hj] at hsj;exact hsj
     ·exact hsj
    exact D.fresh j kj sj hkj hsj2 hf
end
end Go.Proofs.YtegafhhdegnigaaGreat
