/-
  What a run records goes together: one access a step; shifts that follow the slots' states.
-/
import Derived.Test.YtegafhhdegnigaaGreatLInv4
set_option linter.all false
section
namespace Go.Proofs.YtegafhhdegnigaaGreat
open Go.RowKit Hp
set_option maxRecDepth 100000
set_option maxHeartbeats 1000000
attribute [local irreducible] Go.Calls
abbrev St3 := Haz × Are × Mch
inductive Evo (i t : Nat) : St3 → St3 → Prop where
 | refl (x : St3) : Evo i t x x
 | trans {x y z : St3} : Evo i t x y → Evo i t y z → Evo i t x z
 | load {h : Haz} {a : Are} {m : Mch} (j : Nat) : m.used = false → j < m.mem.words.length → Evo i t (h,a,m) (h,a,m.load j (m.word j))
 | store {h : Haz} {a : Are} {m : Mch} (j : Nat) (z : Int) : m.used = false → j < m.mem.words.length → Evo i t (h,a,m) (h,a,m.store j (m.word j) z)
 | swap {h : Haz} {a : Are} {m : Mch} (j : Nat) (o z : Int) : m.used = false → j < m.mem.words.length → Evo i t (h,a,m) (h,a,m.swap j (m.word j) o z)
 | shift {h : Haz} {a : Are} {m : Mch} (s to : Int) : 0 ≤ s → s < a.c.Sl → 0 ≤ to → to ≤ 5 → Evo i t (h,a,m) (h,a.shift s.toNat m.thread to,m.shift s (a.slots.getD s.toNat ⟨0,0⟩).state to)
 | point {h : Haz} {a : Are} {m : Mch} (cl : Cll) (z : Int) : m.calls[i]? = some cl → cl.begin_ < z → z ≤ m.now → Evo i t (h,a,m) (h,a,m.point i cl z)
 | answer {h : Haz} {a : Are} {m : Mch} (se : Sea) (k v : Int) : m.seats[t]? = some se → 1 ≤ k → k ≤ 6 → (k ≠ 2 → v = 0) → Evo i t (h,a,m) (h,a,m.answer t se k v)
 | haz {h : Haz} (h' : Haz) {a : Are} {m : Mch} : Evo i t (h,a,m) (h',a,m)
 | cache {h : Haz} {a : Are} {m : Mch} (cs : List (List Int)) : Evo i t (h,a,m) (h,{ a with caches := cs },m)
section
variable {i t : Nat} {c : Cfg} {L S N : Nat} {h : Haz} {a : Are} {m : Mch}
theorem Core.lt (k : Core c L S N h a m) {j : Nat} (hj : (j : Int) < base c 14) : j < m.mem.words.length := by rw [k.words];omega
theorem adr_lt' {c : Cfg} (hc : c.Ok) {r : Nat} {z n : Int} (h1 : r = 8 ∧ n = c.R ∨ (r = 10 ∨ r = 11) ∧ n = c.Sl) (h0 : 0 ≤ z) (hz : z < n) : ((adr c r z : Nat) : Int) < base c 14 := by
 have e := adr_i hc r h0
 obtain ⟨b1,b2,b8,b9,b10,b11,b12,b13,b14,rh,rh2⟩ := bases hc
 have := hc.S1
 rcases h1 with ⟨rfl,rfl⟩|⟨rfl|rfl,rfl⟩ <;> omega
theorem evo_push {p : Psh} (k : Core c L S N h a m) (P : PInv c p) (hu : m.used = false) : Evo i t (h,a,m) (h,(pushStep a m p).2.1,(pushStep a m p).2.2.1) := by
 obtain ⟨p1,p2,p3,p4⟩ := P
 have hac := k.ac
 have h1 := k.lt (adr_lt14 k.ok).1
 have h2 := k.lt (adr_lt' k.ok (.inr ⟨.inl rfl,rfl⟩) p1 p2)
 unfold pushStep
 rw [hac]
 split
 ·exact .load _ hu h1
 ·split
  ·exact .store _ _ hu h2
  ·simp only []
   split
   ·exact (Evo.swap _ _ _ hu h1).trans (Evo.shift (m := m.swap _ _ _ _) _ _ p1 (by rw [hac];exact p2) (by omega) (by omega))
   ·exact .swap _ _ _ hu h1
theorem evo_give {p : Psh} (hac : a.c = c) (s0 : 0 ≤ p.slot) (s1 : p.slot < c.Sl) : Evo i t (h,a,m) (h,(giveReady a m p).2.1,(giveReady a m p).2.2.1) := by
 unfold giveReady
 split
 ·exact .refl _
 ·exact (Evo.cache _).trans (Evo.shift (a := { a with caches := _ }) _ _ s0 (by rw [← hac] at s1;exact s1) (by omega) (by omega))
theorem give_c (a : Are) (m : Mch) (p : Psh) : (giveReady a m p).2.1.c = a.c := by
 unfold giveReady;split <;> rfl
theorem evo_free (th : Int) : ∀ (pend : List Int) (g : Option Psh) (a : Are) (m : Mch),a.c = c → (∀ z ∈ pend,0 ≤ z ∧ z < c.Sl) → Evo i t (h,a,m) (h,(freeLoop th pend g a m).2.2.2.1,(freeLoop th pend g a m).2.2.2.2)
 | [],g,a,m,_,_ => .refl _
 | s :: r,g,a,m,hac,hin => by
  have hs := hin s (List.mem_cons_self ..)
  have hg := evo_give (i := i) (t := t) (h := h) (m := m) (p := ⟨s,1,0,th⟩) hac hs.1 hs.2
  unfold freeLoop
  split
  ·exact hg.trans (evo_free th r _ _ _ (by rw [give_c];exact hac) (fun z hz => hin z (List.mem_cons_of_mem _ hz)))
  ·exact hg
theorem evo_scan {s : Scn} (k : Core c L S N h a m) (I : ScI c s) (hu : m.used = false) : Evo i t (h,a,m) ((scanStep h a m s).2.1,(scanStep h a m s).2.2.1,(scanStep h a m s).2.2.2.1) := by
 have hok := k.ok
 have hac := k.ac
 have hb := bases hok
 obtain rfl := k.hc
 obtain ⟨i1,i2,i3,i4,i5,i6,i7,i8,i9⟩ := I
 unfold scanStep
 by_cases s0 : s.stage = 0
 ·rw [if_pos s0]
  obtain ⟨a0,a1,a2⟩ := i6 (by omega)
  have h1 := k.lt (adr_lt' hok (.inl ⟨rfl,rfl⟩) a0 a1)
  unfold scanTry
  simp only []
  split <;> exact .load _ hu h1
 rw [if_neg s0]
 by_cases s1 : s.stage = 1
 ·rw [if_pos s1]
  obtain ⟨a0,a1,a2⟩ := i6 (by omega)
  have h1 := k.lt (adr_lt' hok (.inl ⟨rfl,rfl⟩) a0 a1)
  unfold scanTake
  simp only []
  split
  ·exact (Evo.swap _ _ _ hu h1).trans (.haz _)
  ·exact .swap _ _ _ hu h1
 rw [if_neg s1]
 by_cases s2 : s.stage = 2
 ·rw [if_pos s2]
  obtain ⟨a0,a1,a2⟩ := i6 (by omega)
  have h1 := k.lt (adr_lt' hok (.inl ⟨rfl,rfl⟩) a0 a1)
  exact .store _ _ hu h1
 rw [if_neg s2]
 by_cases s3 : s.stage = 3
 ·rw [if_pos s3]
  obtain ⟨⟨a0,a1⟩,a2,a3⟩ := i8 s3
  have hp := i7 (by omega)
  have hb9 := (base_le hok 9).1
  have h1 : (base h.c 9 + s.at_).toNat < m.mem.words.length := k.lt (by have := hb.b10;have := hb.b11;have := hb.b12;have := hb.b13;have := hb.b14;have := hok.S1;omega)
  obtain ⟨e1,e2,e3⟩ := k.lget i1 i2
  unfold scanLook
  dsimp only
  split
  ·exact .load _ hu h1
  ·simp only [scanLook1,scanSplit,hp,List.nil_append]
   refine (Evo.load _ hu h1).trans ((Evo.haz { h with lists := h.lists.set s.record.toNat ((h.lists.getD s.record.toNat []).filter (isNamed (addName s.named (m.word (base h.c 9 + s.at_).toNat - 1)))) }).trans ?_)
   exact evo_free (c := h.c) _ _ _ _ _ hac (fun z hz => e3 z (List.mem_filter.1 hz).1)
 rw [if_neg s3]
 obtain ⟨p,p1,p2,p3,p4⟩ := i9 (by omega)
 rw [p1]
 simp only []
 have hq := evo_push (i := i) (t := t) k p2 hu
 have hc := (push_core k p2).1.ac
 unfold scanGive
 simp only []
 split
 ·exact hq.trans (evo_free (c := h.c) _ _ _ _ _ hc p3)
 ·exact hq
theorem evo_retire {r : Ret} (k : Core c L S N h a m) (s0 : 0 ≤ r.slot) (s1 : r.slot < c.Sl) : Evo i t (h,a,m) ((retireReady h a m r).2.1,(retireReady h a m r).2.2.1,(retireReady h a m r).2.2.2.1) := by
 have hac := k.ac
 unfold retireReady
 simp only []
 split <;> exact (Evo.shift _ _ s0 (by rw [hac];exact s1) (by omega) (by omega)).trans (.haz _)
theorem evo_takeReady {k : Tak} (C : Core c L S N h a m) (t0 : 0 ≤ k.thread) (t1 : k.thread < c.T) : Evo i t (h,a,m) (h,(takeReady a m k).2.1,(takeReady a m k).2.2.1) := by
 obtain rfl := C.ac
 obtain ⟨g1,g2,g3⟩ := C.cget t0 t1
 unfold takeReady
 simp only []
 split
 ·exact .refl _
 ·rename_i h0
  generalize a.caches.getD k.thread.toNat [] = x at g1 g2 g3 h0 ⊢
  have hlt : x.length - 1 < x.length := by omega
  have hm : x.getD (x.length - 1) 0 ∈ x := by
   rw [List.getD_eq_getElem?_getD,List.getElem?_eq_getElem hlt];simp
  obtain ⟨q1,q2⟩ := g3 _ hm
  exact (Evo.cache _).trans (Evo.shift (a := { a with caches := _ }) _ _ q1 q2 (by omega) (by omega))
theorem evo_take {k : Tak} (C : Core c L S N h a m) (T : TkI c k) (hu : m.used = false) : Evo i t (h,a,m) (h,(takeStep a m k).2.1,(takeStep a m k).2.2.1) := by
 have hok := C.ok
 have hac := C.ac
 obtain ⟨t1,t2,t3,t4⟩ := T
 have h1 := C.lt (adr_lt14 hok).1
 unfold takeStep
 rw [hac]
 split
 ·exact .load _ hu h1
 ·rename_i hn
  obtain ⟨h3,h4,h5⟩ := t3 hn
  have h2 := C.lt (adr_lt' hok (r := 10) (z := k.head % 4294967296 - 1) (.inr ⟨.inl rfl,rfl⟩) (by omega) (by omega))
  split
  ·exact .load _ hu h2
  ·simp only []
   split
   ·exact (Evo.swap _ _ _ hu h1).trans (Evo.shift (m := m.swap _ _ _ _) _ _ (by omega) (by rw [hac];omega) (by omega) (by omega))
   ·exact .swap _ _ _ hu h1
theorem evo_reg {se : Sea} {r : Reg} (C : Core c L S N h a m) (hse : m.seats[t]? = some se) (i0 : 0 ≤ r.i) (i1 : r.i < c.R) (hu : m.used = false) : Evo i t (h,a,m) ((regStep h m t se r).2.1,a,(regStep h m t se r).2.2.1) := by
 have hok := C.ok
 obtain rfl := C.hc
 have h1 := C.lt (adr_lt' hok (.inl ⟨rfl,rfl⟩) i0 i1)
 have hN : ∀ m',m'.seats[t]? = some se → Evo i t (h,a,m') ((regNext h m' t se r).2.1,a,(regNext h m' t se r).2.2.1) := by
  intro m' hs
  unfold regNext
  split
  ·exact .refl _
  ·exact .answer _ _ _ hs (by omega) (by omega) (fun _ => rfl)
 unfold regStep
 simp only []
 split
 ·split
  ·exact (Evo.load _ hu h1).trans (hN _ hse)
  ·exact .load _ hu h1
 ·split
  ·exact (Evo.swap _ _ _ hu h1).trans ((Evo.answer (m := m.swap _ _ _ _) se 2 r.i hse (by omega) (by omega) (fun hf => absurd rfl hf)).trans (.haz _))
  ·exact (Evo.swap _ _ _ hu h1).trans (hN _ hse)
theorem evo_flush {p : Psh} (k : Core c L S N h a m) (P : PInv c p) (hu : m.used = false) : Evo i t (h,a,m) (h,(flushStep a m p).2.1,(flushStep a m p).2.2.1) := by
 have hq := evo_push (i := i) (t := t) k P hu
 unfold flushStep
 split
 ·exact hq
 ·simp only []
  split <;> exact hq.trans (.cache _)
theorem evo_unr {u : Unr} (C : Core c L S N h a m) (ht : (t : Int) < c.T) (hu' : u.thread = (t : Int)) (hd : 0 ≤ h.held.getD t 0) (I : UnI c (a.caches.getD t []) u) (hu : m.used = false) :
  Evo i t (h,a,m) ((unregStep h a m u).2.1,(unregStep h a m u).2.2.1,(unregStep h a m u).2.2.2.1) := by
 have hok := C.ok
 obtain rfl := C.hc
 obtain ⟨r1,_⟩ := C.hget ht
 obtain ⟨i1,i2,i3,i4⟩ := I
 unfold unregStep
 have e : u.thread.toNat = t := by omega
 simp only [e]
 by_cases s0 : u.stage = 0
 ·rw [if_pos s0]
  obtain ⟨k0,k1⟩ := i2 s0
  have hz := hz_adr hok hd r1 k0 k1
  have hb := (base_le hok 9).1
  have h1 : (base h.c 9 + h.held.getD t 0 * h.c.Hz + u.k).toNat < m.mem.words.length := C.lt (by have hb := bases hok;have := hb.b11;have := hb.b12;have := hb.b13;have := hb.b14;have := hok.S1;omega)
  split
  ·exact .store _ _ hu h1
  ·split <;> exact .store _ _ hu h1
 rw [if_neg s0]
 by_cases s1 : u.stage = 1
 ·rw [if_pos s1]
  obtain ⟨s,e1,e2,e3⟩ := i3 s1
  rw [e1]
  simp only []
  have F := evo_scan (i := i) (t := t) C e2 hu
  split <;> exact F
 rw [if_neg s1]
 by_cases s2 : u.stage = 2
 ·rw [if_pos s2]
  obtain ⟨p,e1,e2,e3,e4⟩ := i4 s2
  rw [e1]
  exact evo_flush C e2 hu
 rw [if_neg s2]
 exact (Evo.store _ _ hu (C.lt (adr_lt' hok (.inl ⟨rfl,rfl⟩) hd r1))).trans (.haz _)
theorem evo_read {cl : Cll} {se : Sea} {r : Rdg} (C : Core c L S N h a m) (I : RdI c r) (hcl : m.calls[i]? = some cl) (hse : m.seats[t]? = some se) (hb : cl.begin_ < m.now) (hp : r.stage = 3 → cl.begin_ < r.point ∧ r.point ≤ m.now) (hu : m.used = false) :
  Evo i t (h,a,m) (h,a,(readStep h m i t cl se r).2.1) := by
 have hok := C.ok
 have hc := C.hc
 obtain ⟨i1,i2,i3,i4⟩ := I
 have hb9 := (base_le hok 9).1
 have hbs := bases hok
 have h1 := C.lt (adr_lt14 hok).2
 have h2 : r.addr.toNat < m.mem.words.length := C.lt (by have := hbs.b11;have := hbs.b12;have := hbs.b13;have := hbs.b14;have := hok.S1;omega)
 have hS : ∀ m' u,m'.calls = m.calls → m'.seats = m.seats → m'.now = m.now → Evo i t (h,a,m') (h,a,(readSaw m' i t cl se r u).2.1) := by
  intro m' u e1 e2 e3
  unfold readSaw
  split
  ·exact (Evo.point cl _ (by rw [e1];exact hcl) (by rw [e3];exact hb) (Int.le_refl _)).trans (Evo.answer (m := m'.point _ _ _) se 3 0 (by rw [← e2] at hse;exact hse) (by omega) (by omega) (fun _ => rfl))
  ·exact .refl _
 unfold readStep
 rw [hc]
 simp only []
 split
 ·exact (Evo.load _ hu h1).trans (hS _ _ rfl rfl rfl)
 ·rename_i s0
  have hw2 := i4 s0
  split
  ·exact .store _ _ hu h2
  ·rename_i s1
   split
   ·split
    ·exact .load _ hu h1
    ·exact (Evo.load _ hu h1).trans (hS _ _ rfl rfl rfl)
   ·rename_i s2
    obtain ⟨q1,q2⟩ := hp (by omega)
    have h3 := C.lt (adr_lt' hok (r := 11) (z := r.w - 1) (.inr ⟨.inr rfl,rfl⟩) (by omega) (by omega))
    exact (Evo.load _ hu h3).trans ((Evo.point (m := m.load _ _) cl r.point hcl q1 q2).trans (Evo.answer (m := (m.load _ _).point _ _ _) se 2 _ hse (by omega) (by omega) (fun hf => absurd rfl hf)))
theorem evo_took {cl : Cll} {se : Sea} {p : Pst} {k : Tak} {m' : Mch} (hcl : m'.calls[i]? = some cl) (hse : m'.seats[t]? = some se) (hb : cl.begin_ < m'.now) : Evo i t (h,a,m') (h,a,(postTook m' i t cl se p k).2.1) := by
 unfold postTook
 split
 ·exact (Evo.point cl _ hcl hb (Int.le_refl _)).trans (Evo.answer (m := m'.point _ _ _) se 4 0 hse (by omega) (by omega) (fun _ => rfl))
 ·exact .refl _
theorem evo_done {cl : Cll} {se : Sea} {p : Pst} {k : Tak} {sl0 : Int} (C : Core c L S N h a m) (hs : p.saw ≤ c.Sl) (q0 : 0 ≤ sl0) (q1 : sl0 < c.Sl) (hcl : m.calls[i]? = some cl) (hse : m.seats[t]? = some se) (hb : cl.begin_ < m.now) :
  Evo i t (h,a,m) ((postDone h a m i t cl se p sl0).2.1,(postDone h a m i t cl se p sl0).2.2.1,(postDone h a m i t cl se p sl0).2.2.2.1) := by
 have hac := C.ac
 unfold postDone
 simp only []
 have E1 : Evo i t (h,a,m) (h,a.shift sl0.toNat m.thread 3,((m.point i cl m.now).answer t se 1 0).shift sl0 (a.slots.getD sl0.toNat ⟨0,0⟩).state 3) :=
  (Evo.point cl _ hcl hb (Int.le_refl _)).trans ((Evo.answer (m := m.point _ _ _) se 1 0 hse (by omega) (by omega) (fun _ => rfl)).trans (Evo.shift (m := (m.point _ _ _).answer _ _ _ _) sl0 3 q0 (by rw [hac];exact q1) (by omega) (by omega)))
 have C1 := (((C.point i cl m.now).answer t se 1 0).ashift sl0.toNat m.thread 3).mshift sl0 (a.slots.getD sl0.toNat ⟨0,0⟩).state 3
 split
 ·exact E1
 ·rename_i hn
  have E2 : Evo i t (h,a.shift sl0.toNat m.thread 3,((m.point i cl m.now).answer t se 1 0).shift sl0 (a.slots.getD sl0.toNat ⟨0,0⟩).state 3) _ := Evo.shift (p.saw - 1) 4 (by omega) (by show p.saw - 1 < a.c.Sl;rw [hac];omega) (by omega) (by omega)
  have C2 := (C1.ashift (p.saw - 1).toNat m.thread 4).mshift (p.saw - 1) ((a.shift sl0.toNat m.thread 3).slots.getD (p.saw - 1).toNat ⟨0,0⟩).state 4
  have R := evo_retire (i := i) (t := t) (r := ⟨p.thread,p.saw - 1,none⟩) C2 (by simp only [];omega) (by simp only [];omega)
  exact E1.trans (E2.trans R)
theorem evo_post {cl : Cll} {se : Sea} {p : Pst} (C : Core c L S N h a m) (I : PoI c p) (hcl : m.calls[i]? = some cl) (hse : m.seats[t]? = some se) (hb : cl.begin_ < m.now) (hu : m.used = false) :
  Evo i t (h,a,m) ((postStep h a m i t cl se p).2.1,(postStep h a m i t cl se p).2.2.1,(postStep h a m i t cl se p).2.2.2.1) := by
 have hok := C.ok
 have hc := C.hc
 obtain ⟨⟨k,hk,k0,k1⟩,i2,i3,i4⟩ := I
 have h1 := C.lt (adr_lt14 hok).2
 unfold postStep
 rw [hk,hc]
 simp only []
 by_cases s0 : p.stage = 0
 ·rw [if_pos s0]
  have E := evo_take (i := i) (t := t) C (k0 s0) hu
  have Sm := same_take a m k
  split
  ·exact E.trans (evo_took (by rw [Sm.calls];exact hcl) (by rw [Sm.seats];exact hse) (by rw [Sm.now];exact hb))
  ·exact E
 rw [if_neg s0]
 by_cases s1 : p.stage = 1
 ·rw [if_pos s1]
  obtain ⟨g1,g2,g3⟩ := k1 (.inl s1)
  exact .store _ _ hu (C.lt (adr_lt' hok (r := 11) (.inr ⟨.inr rfl,rfl⟩) g1 g2))
 rw [if_neg s1]
 by_cases s2 : p.stage = 2
 ·rw [if_pos s2]
  exact .load _ hu h1
 rw [if_neg s2]
 by_cases s3 : p.stage = 3
 ·rw [if_pos s3]
  obtain ⟨g1,g2,g3⟩ := k1 (.inr (.inr s3))
  have hz : WOk c (adr c 2 0) p.link := wok_cell hok (by omega)
  have hsw := i3 s3
  split
  ·exact (Evo.swap _ _ _ hu h1).trans (evo_done (k := k) (C.swap (adr c 2 0) (m.word (adr c 2 0)) p.saw p.link hz) hsw.2 g1 g2 hcl hse hb)
  ·exact .swap _ _ _ hu h1
 rw [if_neg s3]
 have s4 : p.stage = 4 := by rcases i2 with h|h|h|h|h <;> first|exact absurd h s0|exact absurd h s1|exact absurd h s2|exact absurd h s3|exact h
 obtain ⟨r,sc,e1,e2,e3,e4⟩ := i4 s4
 rw [e1]
 simp only [e2]
 exact evo_scan C e3 hu
theorem evo_postReady {cl : Cll} {se : Sea} {p : Pst} (C : Core c L S N h a m) (t0 : 0 ≤ p.thread) (t1 : p.thread < c.T) (hcl : m.calls[i]? = some cl) (hse : m.seats[t]? = some se) (hb : cl.begin_ < m.now) :
  Evo i t (h,a,m) (h,(postReady a m i t cl se p).2.1,(postReady a m i t cl se p).2.2.1) := by
 have E := evo_takeReady (i := i) (t := t) (k := ⟨p.thread,1,0,0,0,false⟩) C t0 t1
 have Sm := same_takeReady a m ⟨p.thread,1,0,0,0,false⟩
 unfold postReady
 simp only []
 split
 ·exact E.trans (evo_took (by rw [Sm.calls];exact hcl) (by rw [Sm.seats];exact hse) (by rw [Sm.now];exact hb))
 ·exact E
theorem evo_rdy {cl : Cll} {se : Sea} {k : HTask} (C : Core c L S N h a m) (ht : (t : Int) < c.T) (I : TI c t false (h.held.getD t 0) (a.caches.getD t []) k) (hcl : m.calls[i]? = some cl) (hse : m.seats[t]? = some se) (hb : cl.begin_ < m.now) :
  Evo i t (h,a,m) ((htReady (h,a) m i t cl se k).2.1.1,(htReady (h,a) m i t cl se k).2.1.2,(htReady (h,a) m i t cl se k).2.2.1) := by
 cases k with
 | pst p => exact evo_postReady C (by rw [I.1];omega) (by rw [I.1];exact ht) hcl hse hb
 | scn s => exact .refl _
 | reg r => exact .refl _
 | unr u => exact .refl _
 | rdg r => exact .refl _
 | clr ad => exact .refl _
def RdP (b now : Int) : HTask → Prop
 | .rdg r => r.stage = 3 → b < r.point ∧ r.point ≤ now
 | _ => True
theorem evo_stp {cl : Cll} {se : Sea} {k : HTask} (C : Core c L S N h a m) (ht : (t : Int) < c.T) (I : TI c t true (h.held.getD t 0) (a.caches.getD t []) k) (hcl : m.calls[i]? = some cl) (hse : m.seats[t]? = some se) (hb : cl.begin_ < m.now) (hp : RdP cl.begin_ m.now k) (hu : m.used = false) :
  Evo i t (h,a,m) ((htStep (h,a) m i t cl se k).2.1.1,(htStep (h,a) m i t cl se k).2.1.2,(htStep (h,a) m i t cl se k).2.2.1) := by
 have hok := C.ok
 cases k with
 | reg r =>
  obtain ⟨i1,i2,i3⟩ := I
  exact evo_reg C hse i2 i3 hu
 | unr u =>
  obtain ⟨i1,i2,i3⟩ := I
  exact evo_unr C ht i1 i2 i3 hu
 | rdg r => exact evo_read C I hcl hse hb hp hu
 | clr ad =>
  obtain ⟨i1,i2⟩ := I
  exact .store _ _ hu (C.lt (by have hb := bases hok;have := hb.b11;have := hb.b12;have := hb.b13;have := hb.b14;have := hok.S1;omega))
 | scn s => exact evo_scan C (I.2.2 rfl) hu
 | pst p => exact evo_post C (I.2.2.1 rfl) hcl hse hb hu
theorem rdp_stp {cl cl' : Cll} {se : Sea} {k : HTask} (hb : cl.begin_ < m.now) (hp : RdP cl.begin_ m.now k) : RdP cl.begin_ m.now (htStep (h,a) m i t cl' se k).2.2.2 := by
 cases k with
 | rdg r =>
  simp only [htStep,RdP,readStep] at hp ⊢
  split
  ·unfold readSaw;split <;> simp
  ·split
   ·simp
   ·split
    ·split
     ·simp only [];exact fun _ => ⟨hb,Int.le_refl _⟩
     ·unfold readSaw;split <;> simp
    ·exact hp
 | _ => exact trivial
theorem rdp_rdy {cl cl' : Cll} {se : Sea} {k : HTask} {b now : Int} (hp : RdP b now k) : RdP b now (htReady (h,a) m i t cl' se k).2.2.2 := by
 cases k with
 | rdg r => exact hp
 | _ => exact trivial
end
end Go.Proofs.YtegafhhdegnigaaGreat
end
/-
  Small effects keep what is recorded in order.
-/
section
namespace Go.Proofs.YtegafhhdegnigaaGreat
open Go.RowKit Hp
set_option maxRecDepth 100000
set_option maxHeartbeats 1000000
attribute [local irreducible] Go.Calls
def rep1 (ws : List Int) (e : Acc) : Option (List Int) :=
 if 0 ≤ e.addr ∧ e.addr < ws.length then
  if e.kind = 1 then (if e.old = 0 ∧ e.new = 0 ∧ e.saw = ws.getD e.addr.toNat 0 then some ws else none)
  else if e.kind = 2 then (if e.old = 0 ∧ e.saw = 0 then some (ws.set e.addr.toNat e.new) else none)
  else if e.kind = 3 then (if e.saw = ws.getD e.addr.toNat 0 then some (if e.saw = e.old then ws.set e.addr.toNat e.new else ws) else none)
  else none
 else none
def rep (ws : List Int) : List Acc → Option (List Int)
 | [] => some ws
 | e :: r => (rep1 ws e).bind fun ws' => rep ws' r
theorem rep_append (ws : List Int) (l r : List Acc) : rep ws (l ++ r) = (rep ws l).bind fun ws' => rep ws' r := by
 induction l generalizing ws with
 | nil => rfl
 | cons e l ih =>
  simp only [List.cons_append,rep]
  cases rep1 ws e with
  | none => rfl
  | some ws' => exact ih ws'
theorem rep_snoc (ws : List Int) (l : List Acc) (e : Acc) {ws1 ws2 : List Int} (h : rep ws l = some ws1) (h2 : rep1 ws1 e = some ws2) : rep ws (l ++ [e]) = some ws2 := by
 rw [rep_append,h]
 simp only [Option.bind_some,rep,h2]
def shf1 (sl : List Slt) (x : Shf) : Option (List Slt) :=
 if (0 ≤ x.slot ∧ x.slot < sl.length) ∧ (0 ≤ x.to ∧ x.to ≤ 5) ∧ x.fr = (sl.getD x.slot.toNat ⟨0,0⟩).state then some (sl.set x.slot.toNat ⟨x.to,if x.to = 0 ∨ x.to = 3 then -1 else x.thread⟩) else none
def shfs (sl : List Slt) : List Shf → Option (List Slt)
 | [] => some sl
 | e :: r => (shf1 sl e).bind fun sl' => shfs sl' r
theorem shfs_append (sl : List Slt) (l r : List Shf) : shfs sl (l ++ r) = (shfs sl l).bind fun sl' => shfs sl' r := by
 induction l generalizing sl with
 | nil => rfl
 | cons e l ih =>
  simp only [List.cons_append,shfs]
  cases shf1 sl e with
  | none => rfl
  | some sl' => exact ih sl'
theorem shfs_snoc (sl : List Slt) (l : List Shf) (e : Shf) {s1 s2 : List Slt} (h : shfs sl l = some s1) (h2 : shf1 s1 e = some s2) : shfs sl (l ++ [e]) = some s2 := by
 rw [shfs_append,h]
 simp only [Option.bind_some,shfs,h2]
structure Hist (c : Cfg) (a : Are) (m : Mch) : Prop where
 mv : m.mem.move = m.now
 ac : a.c = c
 slots : (a.slots.length : Int) = c.Sl
 lsort : m.mem.log.Pairwise (fun x y => x.move < y.move)
 lle : ∀ e ∈ m.mem.log,e.move ≤ m.now
 llt : m.used = false → ∀ e ∈ m.mem.log,e.move < m.now
 lth : ∀ e ∈ m.mem.log,e.move = m.now → e.thread = m.thread
 lrep : rep (firstW c 0) m.mem.log = some m.mem.words
 ssort : m.shifts.Pairwise (fun x y => x.move ≤ y.move ∧ (x.move = y.move → x.thread = y.thread))
 sle : ∀ e ∈ m.shifts,e.move ≤ m.now
 sth : ∀ e ∈ m.shifts,e.move = m.now → e.thread = m.thread
 cross : ∀ e ∈ m.shifts,∀ x ∈ m.mem.log,x.move = e.move → x.thread = e.thread
 srep : shfs (are0 c).slots m.shifts = some a.slots
theorem pw_snoc {α : Type} {R : α → α → Prop} {l : List α} {x : α} (h : l.Pairwise R) (hx : ∀ y ∈ l,R y x) : (l ++ [x]).Pairwise R := by
 rw [List.pairwise_append]
 exact ⟨h,by simp,fun a ha b hb => by simp at hb;subst hb;exact hx a ha⟩
section
variable {i t : Nat} {c : Cfg} {h : Haz} {a : Are} {m m' : Mch}
theorem Hist.acc (H : Hist c a m) (hu : m.used = false) {e : Acc} {ws : List Int} {ah : List Int} (hm : e.move = m.mem.move) (ht : e.thread = m.thread) (hr : rep1 m.mem.words e = some ws) :
  Hist c a { m with used := true,mem := { m.mem with words := ws,log := m.mem.log ++ [e],ahead := ah } } := by
 obtain ⟨q1,q2,q3,q4,q5,q6,q7,q8,q9,q10,q11,q12,q13⟩ := H
 have hl := q6 hu
 refine ⟨q1,q2,q3,pw_snoc q4 (fun y hy => by rw [hm,q1];exact hl y hy),?_,fun hf => (by cases hf),?_,rep_snoc _ _ _ q8 hr,q9,q10,q11,?_,q13⟩
 ·intro x hx
  rcases List.mem_append.1 hx with hx|hx
  ·exact q5 x hx
  ·simp at hx;subst hx;show x.move ≤ m.now;omega
 ·intro x hx hxe
  rcases List.mem_append.1 hx with hx|hx
  ·exact q7 x hx hxe
  ·simp at hx;subst hx;exact ht
 ·intro s hs x hx hxe
  rcases List.mem_append.1 hx with hx|hx
  ·exact q12 s hs x hx hxe
  ·simp at hx;subst hx
   rw [ht,q11 s hs (by omega)]
theorem word_getD (m : Mch) (j : Nat) : m.mem.words.getD j 0 = m.word j := rfl
theorem Hist.load (H : Hist c a m) {j : Nat} (hu : m.used = false) (hj : j < m.mem.words.length) : Hist c a (m.load j (m.word j)) := by
 refine H.acc hu rfl rfl ?_
 simp only [rep1]
 rw [if_pos ⟨by omega,by omega⟩,if_pos True.intro,Int.toNat_natCast,if_pos ⟨True.intro,True.intro,rfl⟩]
theorem Hist.store (H : Hist c a m) {j : Nat} {z : Int} (hu : m.used = false) (hj : j < m.mem.words.length) : Hist c a (m.store j (m.word j) z) := by
 refine H.acc hu rfl rfl ?_
 simp only [rep1]
 rw [if_pos ⟨by omega,by omega⟩,if_neg (by omega),if_pos True.intro,Int.toNat_natCast,if_pos ⟨True.intro,True.intro⟩]
theorem Hist.swap (H : Hist c a m) {j : Nat} {o z : Int} (hu : m.used = false) (hj : j < m.mem.words.length) : Hist c a (m.swap j (m.word j) o z) := by
 refine H.acc hu rfl rfl ?_
 simp only [rep1]
 rw [if_pos ⟨by omega,by omega⟩,if_neg (by omega),if_neg (by omega),if_pos True.intro,Int.toNat_natCast,if_pos (word_getD m j).symm]
theorem Hist.shift (H : Hist c a m) {s to : Int} (s0 : 0 ≤ s) (s1 : s < a.c.Sl) (t0 : 0 ≤ to) (t5 : to ≤ 5) :
  Hist c (a.shift s.toNat m.thread to) (m.shift s (a.slots.getD s.toNat ⟨0,0⟩).state to) := by
 obtain ⟨q1,q2,q3,q4,q5,q6,q7,q8,q9,q10,q11,q12,q13⟩ := H
 refine ⟨q1,q2,by simp only [Are.shift,List.length_set];exact q3,q4,q5,q6,q7,q8,pw_snoc q9 (fun y hy => ⟨q10 y hy,q11 y hy⟩),?_,?_,?_,shfs_snoc _ _ _ q13 ?_⟩
 ·intro x hx
  rcases List.mem_append.1 hx with hx|hx
  ·exact q10 x hx
  ·simp at hx;subst hx;exact Int.le_refl _
 ·intro x hx hxe
  rcases List.mem_append.1 hx with hx|hx
  ·exact q11 x hx hxe
  ·simp at hx;subst hx;rfl
 ·intro x hx y hy hye
  rcases List.mem_append.1 hx with hx|hx
  ·exact q12 x hx y hy hye
  ·simp at hx;subst hx;exact q7 y hy hye
 ·simp only [shf1]
  rw [if_pos ⟨⟨s0,by rw [q3,← q2];exact s1⟩,⟨t0,t5⟩,True.intro⟩]
  rfl
theorem Hist.of (H : Hist c a m) (h1 : m'.mem = m.mem) (h2 : m'.now = m.now) (h3 : m'.thread = m.thread) (h4 : m'.shifts = m.shifts) (h5 : m'.used = m.used) : Hist c a m' := by
 obtain ⟨q1,q2,q3,q4,q5,q6,q7,q8,q9,q10,q11,q12,q13⟩ := H
 refine ⟨by rw [h1,h2];exact q1,q2,q3,by rw [h1];exact q4,by rw [h1,h2];exact q5,by rw [h1,h2,h5];exact q6,by rw [h1,h2,h3];exact q7,by rw [h1];exact q8,by rw [h4];exact q9,by rw [h4,h2];exact q10,by rw [h4,h2,h3];exact q11,by rw [h4,h1];exact q12,by rw [h4];exact q13⟩
theorem Hist.evo {x y : St3} (E : Evo i t x y) : Hist c x.2.1 x.2.2 → Hist c y.2.1 y.2.2 := by
 induction E with
 | refl => exact id
 | trans _ _ ih1 ih2 => exact fun H => ih2 (ih1 H)
 | load j hu hj => exact fun H => H.load hu hj
 | store j z hu hj => exact fun H => H.store hu hj
 | swap j o z hu hj => exact fun H => H.swap hu hj
 | shift s to s0 s1 t0 t5 => exact fun H => H.shift s0 s1 t0 t5
 | point cl z _ _ _ => exact fun H => H.of rfl rfl rfl rfl rfl
 | answer se k v _ _ _ _ => exact fun H => H.of rfl rfl rfl rfl rfl
 | haz => exact id
 | cache cs => exact fun H => ⟨H.mv,H.ac,H.slots,H.lsort,H.lle,H.llt,H.lth,H.lrep,H.ssort,H.sle,H.sth,H.cross,H.srep⟩
structure Told (i t : Nat) (cl : Cll) (m : Mch) : Prop where
 call : ∃ z,m.calls[i]? = some { cl with point := z } ∧ (z = cl.point ∨ cl.begin_ < z ∧ z ≤ m.now)
 seat : ∃ se,m.seats[t]? = some se ∧ 1 ≤ se.kind ∧ se.kind ≤ 6 ∧ (se.kind ≠ 2 → se.value = 0)
theorem Told.evo {cl : Cll} {x y : St3} (E : Evo i t x y) : Told i t cl x.2.2 → Told i t cl y.2.2 ∧ y.2.2.now = x.2.2.now := by
 induction E with
 | refl => exact fun H => ⟨H,rfl⟩
 | trans _ _ ih1 ih2 => intro H;obtain ⟨a1,a2⟩ := ih1 H;obtain ⟨b1,b2⟩ := ih2 a1;exact ⟨b1,b2.trans a2⟩
 | load j hu hj => exact fun H => ⟨⟨H.call,H.seat⟩,rfl⟩
 | store j z hu hj => exact fun H => ⟨⟨H.call,H.seat⟩,rfl⟩
 | swap j o z hu hj => exact fun H => ⟨⟨H.call,H.seat⟩,rfl⟩
 | shift s to s0 s1 t0 t5 => exact fun H => ⟨⟨H.call,H.seat⟩,rfl⟩
 | @point h a m cl' z' hc hz hn =>
  intro H
  obtain ⟨⟨z,hz1,hz2⟩,hse⟩ := H
  simp only [] at hz1 hz2 hse
  rw [hz1] at hc
  cases hc
  have hlt := (List.getElem?_eq_some_iff.1 hz1).1
  refine ⟨⟨⟨z',?_,.inr ⟨hz,hn⟩⟩,hse⟩,rfl⟩
  simp only [Mch.point,List.getElem?_set_self hlt]
 | @answer h a m se k v hs k1 k6 hv =>
  intro H
  have hlt := (List.getElem?_eq_some_iff.1 hs).1
  refine ⟨⟨H.call,⟨{ se with kind := k,value := v },?_,k1,k6,hv⟩⟩,rfl⟩
  simp only [Mch.answer,List.getElem?_set_self hlt]
 | haz => exact fun H => ⟨H,rfl⟩
 | cache cs => exact fun H => ⟨H,rfl⟩
theorem evo_move {x y : St3} (E : Evo i t x y) : y.2.2.mem.move = x.2.2.mem.move ∧ y.2.2.now = x.2.2.now := by
 induction E with
 | trans _ _ ih1 ih2 => exact ⟨ih2.1.trans ih1.1,ih2.2.trans ih1.2⟩
 | _ => exact ⟨rfl,rfl⟩
theorem evo_log {x y : St3} (E : Evo i t x y) : ∃ l,y.2.2.mem.log = x.2.2.mem.log ++ l ∧ ∀ e ∈ l,e.move = x.2.2.mem.move := by
 induction E with
 | refl x => exact ⟨[],by simp,by simp⟩
 | trans E1 _ ih1 ih2 =>
  obtain ⟨l1,a1,a2⟩ := ih1
  obtain ⟨l2,b1,b2⟩ := ih2
  refine ⟨l1 ++ l2,by rw [b1,a1,List.append_assoc],fun e he => ?_⟩
  rcases List.mem_append.1 he with he|he
  ·exact a2 e he
  ·rw [b2 e he,(evo_move E1).1]
 | load j _ _ => exact ⟨_,rfl,fun e he => by simp at he;subst he;rfl⟩
 | store j z _ _ => exact ⟨_,rfl,fun e he => by simp at he;subst he;rfl⟩
 | swap j o z _ _ => exact ⟨_,rfl,fun e he => by simp at he;subst he;rfl⟩
 | _ => exact ⟨[],(List.append_nil _).symm,by simp⟩
theorem evo_shifts {x y : St3} (E : Evo i t x y) : ∃ l,y.2.2.shifts = x.2.2.shifts ++ l ∧ ∀ e ∈ l,e.move = x.2.2.now := by
 induction E with
 | refl x => exact ⟨[],by simp,by simp⟩
 | trans E1 _ ih1 ih2 =>
  obtain ⟨l1,a1,a2⟩ := ih1
  obtain ⟨l2,b1,b2⟩ := ih2
  refine ⟨l1 ++ l2,by rw [b1,a1,List.append_assoc],fun e he => ?_⟩
  rcases List.mem_append.1 he with he|he
  ·exact a2 e he
  ·rw [b2 e he,(evo_move E1).2]
 | shift s to _ _ _ _ => exact ⟨_,rfl,fun e he => by simp at he;subst he;rfl⟩
 | _ => exact ⟨[],(List.append_nil _).symm,by simp⟩
end
end Go.Proofs.YtegafhhdegnigaaGreat
end
