/-
  HazardLists, the plain law: each step keeps the lists as long as they may be.
-/
import Derived.Test.YtegafhhdegnigaaGreatLLst
import Derived.Test.YtegafhhdegnigaaGreatLEvp
import Derived.Test.YtegafhhdegnigaaGreatLRec
set_option linter.all false
namespace Go.Proofs.YtegafhhdegnigaaGreat
open Go.RowKit Hp
set_option maxRecDepth 100000
set_option maxHeartbeats 1000000
attribute [local irreducible] Go.Calls
def Unh (h : Haz) (q : Int) : Prop := ∀ t : Nat,h.held[t]? ≠ some q
def zr (c : Cfg) (m : Mch) (q k : Int) : Prop := (mv c m).hz (q * c.Hz + k) = 0
def LenT (c : Cfg) (b : Bool) (l : Int) (Zr : Int → Prop) : HTask → Prop
 | .scn s => if b = true then LsS c s l else l < Bt c
 | .unr u => (u.stage = 0 → l < Bt c ∧ ∀ k,0 ≤ k → k < u.k → Zr k) ∧ (u.stage = 1 → (∀ s,u.scan = some s → LsS c s l) ∧ ∀ k,0 ≤ k → k < c.Hz → Zr k) ∧ (u.stage = 2 ∨ u.stage = 3 → l ≤ Am c ∧ ∀ k,0 ≤ k → k < c.Hz → Zr k)
 | .pst p => (p.stage ≠ 4 → l < Bt c) ∧ (p.stage = 4 → ∀ r s,p.retire = some r → r.scan = some s → LsS c s l)
 | _ => l < Bt c
def LqS (c : Cfg) (h : Haz) (m : Mch) : Prop := ∀ q,0 ≤ q → q < c.R → Unh h q → ll h q ≤ Am c ∧ ∀ k,0 ≤ k → k < c.Hz → zr c m q k
section
variable {c : Cfg} {L S N : Nat} {h h' : Haz} {a : Are} {m m' : Mch} {t i : Nat} {cl : Cll} {se : Sea}
variable {n : Int} {Z Y : Int → Nat} {F : List Int} {pr : Int → Prop} {K K2 : List Int}
theorem evp_hz {Q : Nat → Prop} {P B : Int → Prop} {w : Prop} {x y : St3} (hok : c.Ok) (E : EvP c Q P B w t x y) (hw : ¬ w) {j : Int} (j0 : 0 ≤ j) (j1 : j < c.R * c.Hz) : (mv c y.2.2).hz j = (mv c x.2.2).hz j := by
 have hb := adr_i hok 9 j0
 have hz : Hzj c (adr c 9 j) := by
  have b10 : base c 10 = base c 9 + c.R * c.Hz := rfl
  unfold Hzj;omega
 induction E with
 | refl x => rfl
 | trans _ _ ih1 ih2 => exact ih2.trans ih1
 | load k hq => exact congrArg (fun v => MV.hz v _) (mv_same rfl)
 | @store h a m k z hq hk =>
  rw [hz_at j0 j1,hz_at j0 j1]
  unfold Mch.word Mch.store
  simp only []
  rw [List.getD_eq_getElem?_getD,List.getElem?_set_ne (fun e => hw (hk (by rw [e];exact hz))),← List.getD_eq_getElem?_getD]
 | @swap h a m k o z hq hk =>
  rw [hz_at j0 j1,hz_at j0 j1]
  unfold Mch.word Mch.swap
  simp only []
  split
  ·rw [List.getD_eq_getElem?_getD,List.getElem?_set_ne (fun e => hk (by rw [e];exact hz)),← List.getD_eq_getElem?_getD]
  ·rfl
 | shift s to h0 ht hm hp hw hb => exact congrArg (fun v => MV.hz v _) (mv_same rfl)
 | quiet h1 h2 h3 h4 => exact congrArg (fun v => MV.hz v _) (mv_same (by rw [h1]))
 | haz h' => rfl
 | cache cs => rfl
theorem idx_rng (hok : c.Ok) {q k : Int} (q0 : 0 ≤ q) (q1 : q < c.R) (k0 : 0 ≤ k) (k1 : k < c.Hz) : 0 ≤ q * c.Hz + k ∧ q * c.Hz + k < c.R * c.Hz := by
 have hH := hok.H1
 have h3 : 0 ≤ q * c.Hz := Int.mul_nonneg q0 (by omega)
 have h4 : (q + 1) * c.Hz ≤ c.R * c.Hz := Int.mul_le_mul_of_nonneg_right (by omega) (by omega)
 rw [Int.add_mul,Int.one_mul] at h4
 omega
theorem own_q (hok : c.Ok) {x : Sx} {q k : Int} (k0 : 0 ≤ k) (k1 : k < c.Hz) (h : Own c t x (q * c.Hz + k)) : x.held[t]? = some q := by
 obtain ⟨r,e,r0,r1,h1,h2⟩ := h
 have hH := hok.H1
 have : r = q := by
  rcases Int.lt_trichotomy r q with h|h|h
  ·have : (r + 1) * c.Hz ≤ q * c.Hz := Int.mul_le_mul_of_nonneg_right (by omega) (by omega)
   rw [Int.add_mul,Int.one_mul] at this;omega
  ·exact h
  ·have : (q + 1) * c.Hz ≤ r * c.Hz := Int.mul_le_mul_of_nonneg_right (by omega) (by omega)
   rw [Int.add_mul,Int.one_mul] at this;omega
 rw [← this];exact e
theorem act0_unh (G : Gd c n Z Y F (sx pr c h a m) K K2) {q : Int} (q0 : 0 ≤ q) (q1 : q < c.R) (ha : (mv c m).act q = 0) : Unh h q := by
 have h1 := G.rcd q q0 q1
 have h2 : (sx pr c h a m).V.act q = 0 := ha
 have h3 : (sx pr c h a m).held = h.held := rfl
 rw [h2,h3] at h1
 intro t e
 have := List.count_pos_iff.2 (List.mem_of_getElem? e)
 omega
theorem lq_keep (Lq : LqS c h m) (hh : h'.held = h.held) (hl : ∀ q,0 ≤ q → Unh h q → h'.lists.getD q.toNat [] = h.lists.getD q.toNat [] ∨ h'.lists.getD q.toNat [] = [])
  (hz : ∀ q k,0 ≤ q → q < c.R → Unh h q → 0 ≤ k → k < c.Hz → (mv c m').hz (q * c.Hz + k) = (mv c m).hz (q * c.Hz + k)) (hok : c.Ok) : LqS c h' m' := by
 intro q q0 q1 hq
 have hq : Unh h q := fun t e => hq t (by rw [hh];exact e)
 obtain ⟨h1,h2⟩ := Lq q q0 q1 hq
 refine ⟨?_,fun k k0 k1 => ?_⟩
 ·unfold ll at h1 ⊢
  rcases hl q q0 hq with e|e
  ·rw [e];exact h1
  ·rw [e];have := am_nn hok;simpa using this
 ·unfold zr
  rw [hz q k q0 q1 hq k0 k1]
  exact h2 k k0 k1
structure LtP (c : Cfg) (t : Nat) (k : HTask) (r : RT) : Prop where
 un : LqS c r.2.1.1 r.2.2.1
 go : ∀ rc,r.2.1.1.held[t]? = some rc → 0 ≤ rc → r.1 = false → LenT c true (ll r.2.1.1 rc) (zr c r.2.2.1 rc) r.2.2.2
 fin : ∀ rc,r.2.1.1.held[t]? = some rc → 0 ≤ rc → r.1 = true → ll r.2.1.1 rc < Bt c ∧ (kd k = 25 → ll r.2.1.1 rc ≤ Am c)
theorem lst_stp {k : HTask} (C : Core c L S N h a m) (ht : (t : Int) < c.T) (I : TI c t true (h.held.getD t 0) (a.caches.getD t []) k)
  (G : Gd c n Z Y F (sx pr c h a m) (hS k) (hL k)) (D : TD c t (sx pr c h a m) k) (Lq : LqS c h m) (Lt : ∀ rc,h.held[t]? = some rc → 0 ≤ rc → LenT c true (ll h rc) (zr c m rc) k)
  (z1 : ∀ j,¬ Own c t (sx pr c h a m) j → (mv c (htStep (h,a) m i t cl se k).2.2.1).hz j = (mv c m).hz j)
  (z2 : ¬ WrH k → ∀ j,0 ≤ j → j < c.R * c.Hz → (mv c (htStep (h,a) m i t cl se k).2.2.1).hz j = (mv c m).hz j) : LtP c t k (htStep (h,a) m i t cl se k) := by
 have hok := C.ok
 obtain rfl := C.hc
 have hBt := bt_le h.c
 have hlt : t < h.held.length := by rw [C.held];omega
 have hh : h.held[t]? = some (h.held.getD t 0) := by rw [List.getD_eq_getElem?_getD,List.getElem?_eq_getElem hlt];rfl
 obtain ⟨hr1,hr0⟩ := C.hget ht
 have zu : ∀ m',(∀ j,¬ Own h.c t (sx pr h.c h a m) j → (mv h.c m').hz j = (mv h.c m).hz j) → ∀ q k,0 ≤ q → q < h.c.R → Unh h q → 0 ≤ k → k < h.c.Hz → (mv h.c m').hz (q * h.c.Hz + k) = (mv h.c m).hz (q * h.c.Hz + k) := by
  intro m' hz q k q0 q1 hq k0 k1
  exact hz _ fun ho => hq t (own_q hok k0 k1 ho)
 have U : ∀ q,0 ≤ q → q < h.c.R → (mv h.c m).act q = 0 → ll h q ≤ Am h.c := fun q q0 q1 ha => (Lq q q0 q1 (act0_unh G q0 q1 ha)).1
 cases k with
 | reg r =>
  obtain ⟨i1,i2,i3⟩ := I
  obtain ⟨u,hu1,hu2⟩ := D.reg r rfl
  have hu1 : h.held[t]? = some u := hu1
  have z2 := z2 (fun h => h)
  by_cases hcs : r.seen = true ∧ m.word (adr h.c 8 r.i) = 0
  ·obtain ⟨c1,c2⟩ := hcs
   have e : htStep (h,a) m i t cl se (.reg r) = (true,({ h with held := h.held.set r.thread.toNat r.i },a),(m.swap (adr h.c 8 r.i) (m.word (adr h.c 8 r.i)) 0 1).answer t se 2 r.i,.reg r) := by
    simp only [htStep,regStep]
    rw [if_neg (by simp [c1]),if_pos c2]
   rw [e] at z2 ⊢
   have hun : Unh h r.i := act0_unh G i2 i3 (by rw [act_at i2 i3];exact c2)
   have ht' : r.thread.toNat = t := by omega
   refine ⟨?_,fun rc hrc h0 hf => (by cases hf),fun rc hrc h0 _ => ?_⟩
   ·intro q q0 q1 hq
    have hq1 : q ≠ r.i := fun e => hq t (by simp only [];rw [ht',List.getElem?_set_self hlt,e])
    have hq2 : Unh h q := by
     intro t' e'
     by_cases et : t' = t
     ·subst et;rw [hu1] at e';cases e';omega
     ·exact hq t' (by simp only [];rw [ht',set_ne et];exact e')
    obtain ⟨q2,q3⟩ := Lq q q0 q1 hq2
    refine ⟨q2,fun k k0 k1 => ?_⟩
    obtain ⟨j0,j1⟩ := idx_rng hok q0 q1 k0 k1
    unfold zr
    rw [z2 _ j0 j1]
    exact q3 k k0 k1
   ·simp only [] at hrc
    rw [ht',List.getElem?_set_self hlt] at hrc
    cases hrc
    have := (Lq r.i i2 i3 hun).1
    exact ⟨by show ll h r.i < _;omega,fun hk => by simp only [kd] at hk;omega⟩
  ·have e : (htStep (h,a) m i t cl se (.reg r)).2.1.1 = h := by
    simp only [htStep,regStep]
    split
    ·split
     ·unfold regNext;split <;> rfl
     ·rfl
    ·rename_i hs
     rw [if_neg (fun hw => hcs ⟨by simpa using hs,hw⟩)]
     unfold regNext;split <;> rfl
   refine ⟨lq_keep Lq (by rw [e]) (fun q _ _ => .inl (by rw [e])) (zu _ z1) hok,fun rc hrc h0 _ => ?_,fun rc hrc h0 _ => ?_⟩
   ·rw [e,hu1] at hrc;cases hrc;omega
   ·rw [e,hu1] at hrc;cases hrc;omega
 | clr ad =>
  refine ⟨lq_keep Lq rfl (fun q _ _ => .inl rfl) (zu _ z1) hok,fun rc hrc h0 hf => (by cases hf),fun rc hrc h0 _ => ⟨Lt rc hrc h0,fun hk => by simp only [kd] at hk;omega⟩⟩
 | rdg r =>
  refine ⟨lq_keep Lq rfl (fun q _ _ => .inl rfl) (zu _ z1) hok,fun rc hrc h0 _ => Lt rc hrc h0,fun rc hrc h0 _ => ⟨Lt rc hrc h0,fun hk => by simp only [kd] at hk;omega⟩⟩
 | scn s =>
  have D1 := D.scan s rfl
  have hrc0 : h.held[t]? = some s.record := D1.rcd
  have I2 := I.2.2 rfl
  have H := Lt s.record hrc0 I2.rec0
  have H : LsS h.c s (ll h s.record) := H
  have P := scan_ls C I2 G D1 H U
  simp only [htStep] at z1 z2 ⊢
  generalize scanStep h a m s = r at P z1 z2 ⊢
  refine ⟨lq_keep Lq P.held (fun q q0 hq => P.oth q q0 fun e => hq t (by rw [e];exact hrc0)) (zu _ z1) hok,fun rc hrc h0 hf => ?_,fun rc hrc h0 hf => ?_⟩
  ·have hrc : r.2.1.held[t]? = some rc := hrc
   rw [P.held,hrc0] at hrc
   cases hrc;exact P.ls
  ·have hrc : r.2.1.held[t]? = some rc := hrc
   rw [P.held,hrc0] at hrc
   cases hrc
   have h3 := P.fin hf
   exact ⟨by show ll r.2.1 s.record < _;omega,fun _ => h3⟩
 | unr u =>
  obtain ⟨i1,i2,i3⟩ := I
  have e : u.thread.toNat = t := by omega
  have LT := Lt _ hh i2
  obtain ⟨l0,l1,l2⟩ := LT
  obtain ⟨j1,j2,j3,j4⟩ := i3
  have empt : ∀ (a' : Are) (u' : Unr) (l : Int) (Zr : Int → Prop),l ≤ Am h.c → (∀ k,0 ≤ k → k < h.c.Hz → Zr k) → LenT h.c true l Zr (.unr (unregEmpty a' u')) := by
   intro a' u' l Zr h1 h2
   unfold unregEmpty
   refine ⟨fun hf => ?_,fun hf => ?_,fun _ => ⟨h1,h2⟩⟩
   ·simp only [] at hf;split at hf <;> omega
   ·simp only [] at hf;split at hf <;> omega
  by_cases s0 : u.stage = 0
  ·obtain ⟨k0,k1⟩ := j2 s0
   obtain ⟨b1,b2⟩ := l0 s0
   have hj := idx_rng hok i2 hr1 k0 k1
   have hb9 := (base_le hok 9).1
   have hbs := bases hok
   have eA : (base h.c 9 + h.held.getD t 0 * h.c.Hz + u.k).toNat = adr h.c 9 (h.held.getD t 0 * h.c.Hz + u.k) := by unfold adr;congr 1;omega
   have hA : adr h.c 9 (h.held.getD t 0 * h.c.Hz + u.k) < m.mem.words.length := C.lt (by have := adr_i hok 9 hj.1;have := hbs.b10;have := hbs.b11;have := hbs.b12;have := hbs.b13;have := hbs.b14;have := hok.S1;omega)
   have hmv : mv h.c (m.store (adr h.c 9 (h.held.getD t 0 * h.c.Hz + u.k)) (m.word (adr h.c 9 (h.held.getD t 0 * h.c.Hz + u.k))) 0) = { mv h.c m with hz := upd (mv h.c m).hz (h.held.getD t 0 * h.c.Hz + u.k) 0 } := mv_hz hok hj.1 hj.2 rfl hA
   have hzero : ∀ k,0 ≤ k → k < u.k + 1 → zr h.c (m.store (adr h.c 9 (h.held.getD t 0 * h.c.Hz + u.k)) (m.word (adr h.c 9 (h.held.getD t 0 * h.c.Hz + u.k))) 0) (h.held.getD t 0) k := by
    intro k k0' k1'
    unfold zr
    rw [hmv]
    simp only [upd]
    split
    ·rfl
    ·rename_i hne
     exact b2 k k0' (by omega)
   have R1 := ready_ls (h := h) hok rfl (s := ⟨u.thread,h.held.getD t 0,6,0,false,fun _ => 0,[],none⟩) i2 hr1 (by simp only [];omega)
   have hst : htStep (h,a) m i t cl se (.unr u) = (if u.k + 1 < h.c.Hz then (false,(h,a),m.store (adr h.c 9 (h.held.getD t 0 * h.c.Hz + u.k)) (m.word (adr h.c 9 (h.held.getD t 0 * h.c.Hz + u.k))) 0,.unr { u with k := u.k + 1 })
     else if (scanReady h ⟨u.thread,h.held.getD t 0,6,0,false,fun _ => 0,[],none⟩).1 = true then (false,(h,a),m.store (adr h.c 9 (h.held.getD t 0 * h.c.Hz + u.k)) (m.word (adr h.c 9 (h.held.getD t 0 * h.c.Hz + u.k))) 0,.unr (unregEmpty a { u with k := u.k + 1,scan := some (scanReady h ⟨u.thread,h.held.getD t 0,6,0,false,fun _ => 0,[],none⟩).2,stage := 1 }))
     else (false,(h,a),m.store (adr h.c 9 (h.held.getD t 0 * h.c.Hz + u.k)) (m.word (adr h.c 9 (h.held.getD t 0 * h.c.Hz + u.k))) 0,.unr { u with k := u.k + 1,scan := some (scanReady h ⟨u.thread,h.held.getD t 0,6,0,false,fun _ => 0,[],none⟩).2,stage := 1 })) := by
    simp only [htStep]
    unfold unregStep
    simp only [e,eA]
    rw [if_pos s0]
    split
    ·rfl
    ·split <;> rfl
   have hm' : (htStep (h,a) m i t cl se (.unr u)).2.2.1 = m.store (adr h.c 9 (h.held.getD t 0 * h.c.Hz + u.k)) (m.word (adr h.c 9 (h.held.getD t 0 * h.c.Hz + u.k))) 0 := by
    rw [hst]
    split
    ·rfl
    ·split <;> rfl
   rw [hm'] at z1
   have hq := lq_keep Lq (h' := h) rfl (fun q _ _ => .inl rfl) (zu _ z1) hok
   rw [hst]
   split
   ·refine ⟨hq,fun rc hrc h0 _ => ?_,fun rc hrc h0 hf => (by cases hf)⟩
    have hrc : h.held[t]? = some rc := hrc
    rw [hh] at hrc
    cases hrc
    exact ⟨fun _ => ⟨b1,hzero⟩,fun hf => by simp only [s0] at hf;omega,fun hf => by simp only [s0] at hf;omega⟩
   ·rename_i hk
    have hall : ∀ k,0 ≤ k → k < h.c.Hz → zr h.c (m.store (adr h.c 9 (h.held.getD t 0 * h.c.Hz + u.k)) (m.word (adr h.c 9 (h.held.getD t 0 * h.c.Hz + u.k))) 0) (h.held.getD t 0) k := fun k k0' k1' => hzero k k0' (by omega)
    split
    ·rename_i hb
     refine ⟨hq,fun rc hrc h0 _ => ?_,fun rc hrc h0 hf => (by cases hf)⟩
     have hrc : h.held[t]? = some rc := hrc
     rw [hh] at hrc
     cases hrc
     exact empt _ _ _ _ (R1.2 hb) hall
    ·refine ⟨hq,fun rc hrc h0 _ => ?_,fun rc hrc h0 hf => (by cases hf)⟩
     have hrc : h.held[t]? = some rc := hrc
     rw [hh] at hrc
     cases hrc
     refine ⟨fun hf => by simp at hf,fun _ => ⟨fun s hs => ?_,hall⟩,fun hf => by simp at hf⟩
     simp only [Option.some.injEq] at hs
     subst hs
     exact R1.1
  ·have z2 := z2 (fun h => s0 h)
   have zk : ∀ m',(∀ j,0 ≤ j → j < h.c.R * h.c.Hz → (mv h.c m').hz j = (mv h.c m).hz j) → (∀ k,0 ≤ k → k < h.c.Hz → zr h.c m (h.held.getD t 0) k) → ∀ k,0 ≤ k → k < h.c.Hz → zr h.c m' (h.held.getD t 0) k := by
    intro m' hz hzr k k0 k1
    obtain ⟨q0,q1⟩ := idx_rng hok i2 hr1 k0 k1
    unfold zr
    rw [hz _ q0 q1]
    exact hzr k k0 k1
   by_cases s1 : u.stage = 1
   ·obtain ⟨s,e1,e2,e3⟩ := j3 s1
    obtain ⟨b1,b2⟩ := l1 s1
    have D1 := D.scan s (by simp only [scOf];rw [if_pos s1,e1])
    have hrc0 : h.held[t]? = some s.record := D1.rcd
    have hrr : h.held.getD t 0 = s.record := by rw [hh] at hrc0;injection hrc0
    have P := scan_ls C e2 G D1 (by rw [← hrr];exact b1 s e1) U
    have hst : htStep (h,a) m i t cl se (.unr u) = (false,((scanStep h a m s).2.1,(scanStep h a m s).2.2.1),(scanStep h a m s).2.2.2.1,.unr (if (scanStep h a m s).1 = true then unregEmpty (scanStep h a m s).2.2.1 { u with scan := some (scanStep h a m s).2.2.2.2 } else { u with scan := some (scanStep h a m s).2.2.2.2 })) := by
     simp only [htStep]
     unfold unregStep
     rw [if_neg s0,if_pos s1,e1]
     simp only []
     split <;> rfl
    rw [hst] at z1 z2 ⊢
    generalize scanStep h a m s = r at P z1 z2 ⊢
    refine ⟨lq_keep Lq P.held (fun q q0 hq => P.oth q q0 fun e => hq t (by rw [e];exact hrc0)) (zu _ z1) hok,fun rc hrc h0 hf => ?_,fun rc hrc h0 hf => (by cases hf)⟩
    have hrc : r.2.1.held[t]? = some rc := hrc
    rw [P.held,hrc0] at hrc
    cases hrc
    have hall := zk _ z2 b2
    rw [hrr] at hall
    by_cases hb : r.1 = true
    ·simp only [hb,if_true]
     exact empt _ _ _ _ (P.fin hb) hall
    ·simp only [hb,if_false,Bool.false_eq_true]
     refine ⟨fun hf => by simp only [s1] at hf;omega,fun _ => ⟨fun s' hs' => ?_,hall⟩,fun hf => by simp only [s1] at hf;omega⟩
     simp only [Option.some.injEq] at hs'
     subst hs'
     exact P.ls
   ·obtain ⟨b1,b2⟩ := l2 (by rcases j1 with h|h|h|h;exact absurd h s0;exact absurd h s1;exact .inl h;exact .inr h)
    have hall := zk _ z2 b2
    by_cases s2 : u.stage = 2
    ·obtain ⟨p,e1,_⟩ := j4 s2
     have hst : (htStep (h,a) m i t cl se (.unr u)).1 = false ∧ (htStep (h,a) m i t cl se (.unr u)).2.1.1 = h ∧ ∃ u',(htStep (h,a) m i t cl se (.unr u)).2.2.2 = .unr u' ∧ (u'.stage = 2 ∨ u'.stage = 3) := by
      simp only [htStep]
      unfold unregStep
      rw [if_neg s0,if_neg s1,if_pos s2,e1]
      simp only []
      refine ⟨trivial,trivial,_,rfl,?_⟩
      simp only []
      split
      ·exact .inr rfl
      ·exact .inl rfl
     obtain ⟨k1,k2,u',k3,k4⟩ := hst
     refine ⟨lq_keep Lq (by rw [k2]) (fun q _ _ => .inl (by rw [k2])) (zu _ z1) hok,fun rc hrc h0 hf => ?_,fun rc hrc h0 hf => by rw [k1] at hf;cases hf⟩
     rw [k2,hh] at hrc
     cases hrc
     rw [k3,k2]
     exact ⟨fun hf => by omega,fun hf => by omega,fun _ => ⟨b1,hall⟩⟩
    ·have hst : htStep (h,a) m i t cl se (.unr u) = (true,({ h with held := h.held.set t (-1) },a),m.store (adr h.c 8 (h.held.getD t 0)) (m.word (adr h.c 8 (h.held.getD t 0))) 0,.unr u) := by
      simp only [htStep]
      unfold unregStep
      rw [if_neg s0,if_neg s1,if_neg s2]
      simp only [e]
     rw [hst] at z1 z2 hall ⊢
     refine ⟨?_,fun rc hrc h0 hf => (by cases hf),fun rc hrc h0 hf => ?_⟩
     ·intro q q0 q1 hq
      by_cases hqr : q = h.held.getD t 0
      ·rw [hqr]
       exact ⟨b1,hall⟩
      ·have hq2 : Unh h q := by
        intro t' e'
        by_cases et : t' = t
        ·subst et;rw [hh] at e';cases e';exact hqr rfl
        ·exact hq t' (by simp only [];rw [set_ne et];exact e')
       obtain ⟨q2,q3⟩ := Lq q q0 q1 hq2
       refine ⟨q2,fun k k0 k1 => ?_⟩
       obtain ⟨j0,j1⟩ := idx_rng hok q0 q1 k0 k1
       unfold zr
       rw [z2 _ j0 j1]
       exact q3 k k0 k1
     ·simp only [] at hrc
      rw [List.getElem?_set_self hlt] at hrc
      cases hrc;omega
 | pst p =>
  obtain ⟨i1,i2,i3,_⟩ := I
  obtain ⟨⟨kk,hkk,k0,k1⟩,j2,j3,j4⟩ := i3 rfl
  have LT := Lt _ hh i2
  obtain ⟨l0,l1⟩ := LT
  have plain : ∀ (h1 : (htStep (h,a) m i t cl se (.pst p)).2.1.1 = h) (h2 : ∃ p',(htStep (h,a) m i t cl se (.pst p)).2.2.2 = .pst p' ∧ p'.stage ≠ 4) (h3 : ll h (h.held.getD t 0) < Bt h.c),LtP h.c t (.pst p) (htStep (h,a) m i t cl se (.pst p)) := by
   intro h1 h2 h3
   obtain ⟨p',e1,e2⟩ := h2
   refine ⟨lq_keep Lq (by rw [h1]) (fun q _ _ => .inl (by rw [h1])) (zu _ z1) hok,fun rc hrc h0 hf => ?_,fun rc hrc h0 hf => ?_⟩
   ·rw [h1,hh] at hrc
    cases hrc
    rw [e1,h1]
    exact ⟨fun _ => h3,fun hf => absurd hf e2⟩
   ·rw [h1,hh] at hrc
    cases hrc
    rw [h1]
    exact ⟨h3,fun hk => by simp only [kd] at hk;omega⟩
  by_cases s0 : p.stage = 0
  ·have h3 := l0 (by omega)
   have hst : (htStep (h,a) m i t cl se (.pst p)).2.1.1 = h ∧ ∃ p',(htStep (h,a) m i t cl se (.pst p)).2.2.2 = .pst p' ∧ p'.stage ≠ 4 := by
    simp only [htStep]
    unfold postStep
    rw [hkk]
    simp only []
    rw [if_pos s0]
    split
    ·refine ⟨rfl,_,rfl,?_⟩
     unfold postTook
     split
     ·simp only [s0];omega
     ·simp
    ·refine ⟨rfl,_,rfl,?_⟩
     simp only [s0];omega
   exact plain hst.1 hst.2 h3
  by_cases s1 : p.stage = 1
  ·have h3 := l0 (by omega)
   refine plain ?_ ?_ h3
   ·simp only [htStep];unfold postStep;rw [hkk];simp only [];rw [if_neg s0,if_pos s1]
   ·simp only [htStep];unfold postStep;rw [hkk];simp only [];rw [if_neg s0,if_pos s1]
    exact ⟨_,rfl,by simp⟩
  by_cases s2 : p.stage = 2
  ·have h3 := l0 (by omega)
   refine plain ?_ ?_ h3
   ·simp only [htStep];unfold postStep;rw [hkk];simp only [];rw [if_neg s0,if_neg s1,if_pos s2]
   ·simp only [htStep];unfold postStep;rw [hkk];simp only [];rw [if_neg s0,if_neg s1,if_pos s2]
    exact ⟨_,rfl,by simp⟩
  by_cases s3 : p.stage = 3
  ·have h3 := l0 (by omega)
   have s4' : p.stage ≠ 4 := by omega
   by_cases hw : m.word (adr h.c 2 0) = p.saw ∧ ¬ p.saw - 1 < 0
   ·obtain ⟨hw1,hw2⟩ := hw
    have hpt : p.thread.toNat = t := by omega
    obtain ⟨h1,hh1⟩ : ∃ h1,h1 = ({ h with lists := h.lists.set (h.held.getD t 0).toNat (h.lists.getD (h.held.getD t 0).toNat [] ++ [p.saw - 1]) } : Haz) := ⟨_,rfl⟩
    have hl1 : (h.held.getD t 0).toNat < h.lists.length := by rw [C.lists];omega
    have hc1 : h1.c = h.c := by rw [hh1]
    have hll : ll h1 (h.held.getD t 0) = ll h (h.held.getD t 0) + 1 := by
     unfold ll
     rw [hh1]
     simp only []
     rw [getD_set i2 i2,if_pos ⟨rfl,hl1⟩,List.length_append]
     simp
    have R1 := ready_ls (h := h1) hok hc1 (s := ⟨p.thread,h.held.getD t 0,6,0,false,fun _ => 0,[],none⟩) i2 hr1 (by simp only [];omega)
    have hst : (htStep (h,a) m i t cl se (.pst p)).2.1.1 = h1 ∧
      (((ll h (h.held.getD t 0)) + 1 < h.c.Rt ∧ (htStep (h,a) m i t cl se (.pst p)).1 = true) ∨ ((htStep (h,a) m i t cl se (.pst p)).1 = (scanReady h1 ⟨p.thread,h.held.getD t 0,6,0,false,fun _ => 0,[],none⟩).1 ∧ ∃ p',(htStep (h,a) m i t cl se (.pst p)).2.2.2 = .pst p' ∧ p'.stage = 4 ∧ p'.retire = some ⟨p.thread,p.saw - 1,some (scanReady h1 ⟨p.thread,h.held.getD t 0,6,0,false,fun _ => 0,[],none⟩).2⟩)) := by
     simp only [htStep]
     unfold postStep
     rw [hkk]
     simp only []
     rw [if_neg s0,if_neg s1,if_neg s2,if_pos s3,if_pos hw1]
     unfold postDone
     simp only []
     rw [if_neg hw2]
     unfold retireReady
     simp only [hpt]
     by_cases hr : ((h.lists.getD (h.held.getD t 0).toNat []).length : Int) + 1 < h.c.Rt
     ·rw [if_pos hr]
      exact ⟨hh1.symm,.inl ⟨hr,rfl⟩⟩
     ·rw [if_neg hr,← hh1]
      exact ⟨rfl,.inr ⟨rfl,_,rfl,rfl,rfl⟩⟩
    obtain ⟨k1,k2⟩ := hst
    refine ⟨lq_keep Lq (by rw [k1,hh1]) (fun q q0 hq => .inl ?_) (zu _ z1) hok,fun rc hrc h0 hf => ?_,fun rc hrc h0 hf => ?_⟩
    ·rw [k1,hh1]
     simp only []
     rw [getD_set q0 i2,if_neg (fun h => hq t (by rw [h.1];exact hh))]
    ·rw [k1] at hrc ⊢
     rw [hh1] at hrc
     have hrc : h.held[t]? = some rc := hrc
     rw [hh] at hrc
     cases hrc
     rcases k2 with ⟨_,k3⟩|⟨_,p',k3,k4,k5⟩
     ·rw [k3] at hf;cases hf
     ·rw [k3]
      refine ⟨fun hf => absurd k4 hf,fun _ r s hr hs => ?_⟩
      rw [k5] at hr
      cases hr
      simp only [Option.some.injEq] at hs
      subst hs
      exact R1.1
    ·rw [k1] at hrc ⊢
     rw [hh1] at hrc
     have hrc : h.held[t]? = some rc := hrc
     rw [hh] at hrc
     cases hrc
     refine ⟨?_,fun hk => by simp only [kd] at hk;omega⟩
     rcases k2 with ⟨k3,_⟩|⟨k3,_⟩
     ·rw [hll];omega
     ·rw [k3] at hf
      have := R1.2 hf
      simp only [] at this
      omega
   ·refine plain ?_ ?_ h3
    ·simp only [htStep];unfold postStep;rw [hkk];simp only [];rw [if_neg s0,if_neg s1,if_neg s2,if_pos s3]
     split
     ·rename_i hw1
      unfold postDone
      simp only []
      rw [if_pos (by omega)]
     ·rfl
    ·simp only [htStep];unfold postStep;rw [hkk];simp only [];rw [if_neg s0,if_neg s1,if_neg s2,if_pos s3]
     split
     ·rename_i hw1
      unfold postDone
      simp only []
      rw [if_pos (by omega)]
      exact ⟨_,rfl,fun hf => s4' hf⟩
     ·exact ⟨_,rfl,by simp⟩
  have s4 : p.stage = 4 := by rcases j2 with h|h|h|h|h <;> first|exact absurd h s0|exact absurd h s1|exact absurd h s2|exact absurd h s3|exact h
  obtain ⟨r,sc,e1,e2,e3,e4⟩ := j4 s4
  have D1 := D.scan sc (by simp only [scOf];rw [if_pos s4,e1];exact e2)
  have hrc0 : h.held[t]? = some sc.record := D1.rcd
  have hrr : h.held.getD t 0 = sc.record := by rw [hh] at hrc0;injection hrc0
  have P := scan_ls C e3 G D1 (by rw [← hrr];exact l1 s4 r sc e1 e2) U
  have hst : htStep (h,a) m i t cl se (.pst p) = ((scanStep h a m sc).1,((scanStep h a m sc).2.1,(scanStep h a m sc).2.2.1),(scanStep h a m sc).2.2.2.1,.pst { p with take := some kk,retire := some { r with scan := some (scanStep h a m sc).2.2.2.2 } }) := by
   simp only [htStep]
   unfold postStep
   rw [hkk]
   simp only []
   rw [if_neg s0,if_neg s1,if_neg s2,if_neg s3,e1]
   simp only [e2]
  rw [hst] at z1 z2 ⊢
  generalize scanStep h a m sc = q at P z1 z2 ⊢
  refine ⟨lq_keep Lq P.held (fun q' q0 hq => P.oth q' q0 fun e => hq t (by rw [e];exact hrc0)) (zu _ z1) hok,fun rc hrc h0 hf => ?_,fun rc hrc h0 hf => ?_⟩
  ·have hrc : q.2.1.held[t]? = some rc := hrc
   rw [P.held,hrc0] at hrc
   cases hrc
   refine ⟨fun hf => absurd s4 hf,fun _ r' s' hr' hs' => ?_⟩
   simp only [Option.some.injEq] at hr'
   subst hr'
   simp only [Option.some.injEq] at hs'
   subst hs'
   exact P.ls
  ·have hrc : q.2.1.held[t]? = some rc := hrc
   rw [P.held,hrc0] at hrc
   cases hrc
   have h3 := P.fin hf
   exact ⟨by show ll q.2.1 sc.record < _;omega,fun _ => h3⟩
end
end Go.Proofs.YtegafhhdegnigaaGreat
