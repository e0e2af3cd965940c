/-
  HazardCell: which steps write neither the cell nor a value.
-/
import Derived.Test.YtegafhhdegnigaaGreatDRec
set_option linter.all false
section
namespace Go.Proofs.YtegafhhdegnigaaGreat
open Go.RowKit Hp
set_option maxRecDepth 100000
set_option maxHeartbeats 1000000
attribute [local irreducible] Go.Calls
def Qt (c : Cfg) (m m' : Mch) : Prop := ∀ j : Nat,(j = adr c 2 0 ∨ base c 11 ≤ (j : Int)) → m'.word j = m.word j
section
variable {t : Nat} {c : Cfg} {L S N : Nat} {h : Haz} {a : Are} {m m' m'' : Mch}
theorem Qt.refl (m : Mch) : Qt c m m := fun _ _ => rfl
theorem Qt.trans (h1 : Qt c m m') (h2 : Qt c m' m'') : Qt c m m'' := fun j hj => (h2 j hj).trans (h1 j hj)
theorem Qt.of (h : m'.mem.words = m.mem.words) : Qt c m m' := fun j _ => by unfold Mch.word;rw [h]
theorem Qt.set {A : Nat} {z : Int} (h : m'.mem.words = m.mem.words.set A z) (h1 : A ≠ adr c 2 0) (h2 : (A : Int) < base c 11) : Qt c m m' := fun j hj => by
 unfold Mch.word
 rw [h]
 simp only [List.getD_eq_getElem?_getD]
 rw [List.getElem?_set_ne (by rcases hj with e|e <;> omega)]
theorem Qt.load (j : Nat) : Qt c m (m.load j (m.word j)) := .of rfl
theorem Qt.store {A : Nat} (z : Int) (h1 : A ≠ adr c 2 0) (h2 : (A : Int) < base c 11) : Qt c m (m.store A (m.word A) z) := .set rfl h1 h2
theorem Qt.swap {A : Nat} (o z : Int) (h1 : A ≠ adr c 2 0) (h2 : (A : Int) < base c 11) : Qt c m (m.swap A (m.word A) o z) := by
 by_cases e : m.word A = o
 ·exact .set (z := z) (by simp only [Mch.swap];rw [if_pos e]) h1 h2
 ·exact .of (by simp only [Mch.swap];rw [if_neg e])
theorem low (hc : c.Ok) {r : Nat} {z : Int} (h1 : r = 1 ∧ z = 0 ∨ r = 8 ∧ z < c.R ∨ r = 9 ∧ z < c.R * c.Hz ∨ r = 10 ∧ z < c.Sl) (h0 : 0 ≤ z) : adr c r z ≠ adr c 2 0 ∧ ((adr c r z : Nat) : Int) < base c 11 := by
 have e := adr_i hc r h0
 have e2 := adr_i hc 2 (Int.le_refl 0)
 obtain ⟨b1,b2,b8,b9,b10,b11,b12,b13,b14,rh,rh2⟩ := bases hc
 have := hc.S1
 have := hc.R1
 rcases h1 with ⟨rfl,_⟩|⟨rfl,_⟩|⟨rfl,_⟩|⟨rfl,_⟩ <;> omega
theorem low9 (hc : c.Ok) {A : Nat} (h0 : base c 9 ≤ (A : Int)) (h1 : (A : Int) < base c 10) : A ≠ adr c 2 0 ∧ (A : Int) < base c 11 := by
 have e2 := adr_i hc 2 (Int.le_refl 0)
 obtain ⟨b1,b2,b8,b9,b10,b11,b12,b13,b14,rh,rh2⟩ := bases hc
 have := hc.S1
 have := hc.R1
 omega
theorem qt_push {p : Psh} (k : Core c L S N h a m) (I : PInv c p) : Qt c m (pushStep a m p).2.2.1 := by
 obtain ⟨p1,p2,p3,p4⟩ := I
 have hac := k.ac
 have h1 := low k.ok (r := 1) (z := 0) (.inl ⟨rfl,rfl⟩) (by omega)
 have h2 := low k.ok (r := 10) (.inr (.inr (.inr ⟨rfl,p2⟩))) p1
 unfold pushStep
 rw [hac]
 split
 ·exact .load _
 ·split
  ·exact .store _ h2.1 h2.2
  ·simp only []
   split
   ·exact (Qt.swap _ _ h1.1 h1.2).trans (.of rfl)
   ·exact .swap _ _ h1.1 h1.2
theorem qt_free (th : Int) : ∀ (pend : List Int) (g : Option Psh) (a : Are) (m : Mch),Qt c m (freeLoop th pend g a m).2.2.2.2
 | [],g,a,m => .refl _
 | s :: r,g,a,m => by
  unfold freeLoop
  unfold giveReady
  simp only []
  split
  ·simp only [Bool.false_eq_true,if_false]
   exact .refl _
  ·simp only [if_true]
   exact (Qt.of rfl).trans (qt_free th r _ _ _)
theorem qt_scan {s : Scn} (C : Core c L S N h a m) (I : ScI c s) : Qt c m (scanStep h a m s).2.2.2.1 := by
 have hok := C.ok
 have hac := C.ac
 have hb := bases hok
 obtain rfl := C.hc
 obtain ⟨i1,i2,i3,i4,i5,i6,i7,i8,i9⟩ := I
 unfold scanStep
 by_cases s0 : s.stage = 0
 ·rw [if_pos s0]
  unfold scanTry
  simp only []
  split <;> exact .load _
 rw [if_neg s0]
 by_cases s1 : s.stage = 1
 ·rw [if_pos s1]
  obtain ⟨a0,a1,a2⟩ := i6 (by omega)
  have h1 := low hok (r := 8) (.inr (.inl ⟨rfl,a1⟩)) a0
  unfold scanTake
  simp only []
  split
  ·exact (Qt.swap _ _ h1.1 h1.2).trans (.of rfl)
  ·exact .swap _ _ h1.1 h1.2
 rw [if_neg s1]
 by_cases s2 : s.stage = 2
 ·rw [if_pos s2]
  obtain ⟨a0,a1,a2⟩ := i6 (by omega)
  have h1 := low hok (r := 8) (.inr (.inl ⟨rfl,a1⟩)) a0
  exact .store _ h1.1 h1.2
 rw [if_neg s2]
 by_cases s3 : s.stage = 3
 ·rw [if_pos s3]
  unfold scanLook
  dsimp only
  split
  ·exact .load _
  ·simp only [scanLook1,scanSplit]
   exact (Qt.load _).trans (qt_free _ _ _ _ _)
 rw [if_neg s3]
 obtain ⟨p,p1,p2,p3,p4⟩ := i9 (by omega)
 rw [p1]
 simp only []
 have hq := qt_push C p2
 unfold scanGive
 simp only []
 split
 ·exact hq.trans (qt_free _ _ _ _ _)
 ·exact hq
theorem qt_takeReady {k : Tak} : Qt c m (takeReady a m k).2.2.1 := by
 unfold takeReady
 simp only []
 split
 ·exact .refl _
 ·exact .of rfl
theorem qt_take {k : Tak} (C : Core c L S N h a m) (T : TkI c k) : Qt c m (takeStep a m k).2.2.1 := by
 have hok := C.ok
 have hac := C.ac
 have h1 := low hok (r := 1) (z := 0) (.inl ⟨rfl,rfl⟩) (by omega)
 unfold takeStep
 rw [hac]
 split
 ·exact .load _
 ·split
  ·exact .load _
  ·simp only []
   split
   ·exact (Qt.swap _ _ h1.1 h1.2).trans (.of rfl)
   ·exact .swap _ _ h1.1 h1.2
theorem qt_reg {se : Sea} {r : Reg} (C : Core c L S N h a m) (i0 : 0 ≤ r.i) (i1 : r.i < c.R) : Qt c m (regStep h m t se r).2.2.1 := by
 have hok := C.ok
 obtain rfl := C.hc
 have h1 := low hok (r := 8) (.inr (.inl ⟨rfl,i1⟩)) i0
 have hN : ∀ m',Qt h.c m' (regNext h m' t se r).2.2.1 := by
  intro m'
  unfold regNext
  split
  ·exact .refl _
  ·exact .of rfl
 unfold regStep
 simp only []
 split
 ·split
  ·exact (Qt.load _).trans (hN _)
  ·exact .load _
 ·split
  ·exact (Qt.swap _ _ h1.1 h1.2).trans (.of rfl)
  ·exact (Qt.swap _ _ h1.1 h1.2).trans (hN _)
theorem qt_flush {p : Psh} (C : Core c L S N h a m) (I : PInv c p) : Qt c m (flushStep a m p).2.2.1 := by
 have hq := qt_push C I
 unfold flushStep
 split
 ·exact hq
 ·simp only []
  split <;> exact hq
theorem qt_unr {u : Unr} (C : Core c L S N h a m) (ht : (t : Int) < c.T) (hu' : u.thread = (t : Int)) (hd : 0 ≤ h.held.getD t 0) (I : UnI c (a.caches.getD t []) u) : Qt c m (unregStep h a m u).2.2.2.1 := by
 have hok := C.ok
 obtain rfl := C.hc
 obtain ⟨r1,_⟩ := C.hget ht
 obtain ⟨i1,i2,i3,i4⟩ := I
 unfold unregStep
 have e : u.thread.toNat = t := by omega
 simp only [e]
 by_cases s0 : u.stage = 0
 ·rw [if_pos s0]
  obtain ⟨k0,k1⟩ := i2 s0
  have hz := hz_adr hok hd r1 k0 k1
  have hb9 := (base_le hok 9).1
  have h1 := low9 hok (A := (base h.c 9 + h.held.getD t 0 * h.c.Hz + u.k).toNat) (by omega) (by omega)
  split
  ·exact .store _ h1.1 h1.2
  ·split <;> exact .store _ h1.1 h1.2
 rw [if_neg s0]
 by_cases s1 : u.stage = 1
 ·rw [if_pos s1]
  obtain ⟨s,e1,e2,e3⟩ := i3 s1
  rw [e1]
  simp only []
  have F := qt_scan C e2
  split <;> exact F
 rw [if_neg s1]
 by_cases s2 : u.stage = 2
 ·rw [if_pos s2]
  obtain ⟨p,e1,e2,e3,e4⟩ := i4 s2
  rw [e1]
  exact qt_flush C e2
 rw [if_neg s2]
 have h1 := low hok (r := 8) (.inr (.inl ⟨rfl,r1⟩)) hd
 exact (Qt.store _ h1.1 h1.2).trans (.of rfl)
theorem qt_read {i : Nat} {cl : Cll} {se : Sea} {r : Rdg} (C : Core c L S N h a m) (I : RdI c r) : Qt c m (readStep h m i t cl se r).2.1 := by
 have hok := C.ok
 have hc := C.hc
 obtain ⟨i1,i2,i3,i4⟩ := I
 have hb9 := (base_le hok 9).1
 have h1 := low9 hok (A := r.addr.toNat) (by omega) (by omega)
 have hS : ∀ m' u,Qt c m' (readSaw m' i t cl se r u).2.1 := by
  intro m' u
  unfold readSaw
  split
  ·exact .of rfl
  ·exact .refl _
 unfold readStep
 rw [hc]
 simp only []
 split
 ·exact (Qt.load _).trans (hS _ _)
 ·split
  ·exact .store _ h1.1 h1.2
  ·split
   ·split
    ·exact .load _
    ·exact (Qt.load _).trans (hS _ _)
   ·exact (Qt.load _).trans (.of rfl)
theorem qt_stp {i : Nat} {cl : Cll} {se : Sea} {k : HTask} (C : Core c L S N h a m) (ht : (t : Int) < c.T) (I : TI c t true (h.held.getD t 0) (a.caches.getD t []) k) (hk : kd k ≠ 22) : Qt c m (htStep (h,a) m i t cl se k).2.2.1 := by
 have hok := C.ok
 cases k with
 | reg r =>
  obtain ⟨i1,i2,i3⟩ := I
  exact qt_reg C i2 i3
 | unr u =>
  obtain ⟨i1,i2,i3⟩ := I
  exact qt_unr C ht i1 i2 i3
 | rdg r => exact qt_read C I
 | clr ad =>
  obtain ⟨i1,i2⟩ := I
  have h1 := low9 hok i1 i2
  exact .store _ h1.1 h1.2
 | scn s => exact qt_scan C (I.2.2 rfl)
 | pst p => exact absurd rfl hk
theorem qt_took {i : Nat} {cl : Cll} {se : Sea} {p : Pst} {k : Tak} : Qt c m (postTook m i t cl se p k).2.1 := by
 unfold postTook
 split
 ·exact .of rfl
 ·exact .refl _
theorem qt_rdy {i : Nat} {cl : Cll} {se : Sea} {k : HTask} : Qt c m (htReady (h,a) m i t cl se k).2.2.1 := by
 cases k with
 | pst p =>
  show Qt c m (postReady a m i t cl se p).2.2.1
  unfold postReady
  simp only []
  split
  ·exact qt_takeReady.trans qt_took
  ·exact qt_takeReady
 | _ => exact .refl _
theorem Qt.mv (hc : c.Ok) (q : Qt c m m') : (mv c m').cell = (mv c m).cell ∧ ∀ s,(Go.Proofs.YtegafhhdegnigaaGreat.mv c m').val s = (Go.Proofs.YtegafhhdegnigaaGreat.mv c m).val s := by
 refine ⟨q _ (.inl rfl),fun s => ?_⟩
 simp only [Go.Proofs.YtegafhhdegnigaaGreat.mv]
 split
 ·rename_i hs
  have e := adr_i hc 11 hs.1
  exact q _ (.inr (by omega))
 ·rfl
end
end Go.Proofs.YtegafhhdegnigaaGreat
end
/-
  HazardCell: what a reading's and a posting's step do to calls, answers, the cell and the values.
-/
section
namespace Go.Proofs.YtegafhhdegnigaaGreat
open Go.RowKit Hp
set_option maxRecDepth 100000
set_option maxHeartbeats 1000000
attribute [local irreducible] Go.Calls
inductive RdO (c : Cfg) (m : Mch) (i t : Nat) (cl : Cll) (se : Sea) (r : Rdg) (q : Bool × Mch × Rdg) : Prop where
 | on (h1 : q.1 = false) (h2 : q.2.1.calls = m.calls) (h3 : q.2.1.seats = m.seats) (h4 : q.2.2.stage ≠ 3)
 | saw (h1 : q.1 = false) (h2 : q.2.1.calls = m.calls) (h3 : q.2.1.seats = m.seats) (h4 : q.2.2.stage = 3) (h5 : q.2.2.point = m.now) (h6 : q.2.2.w = (mv c m).cell) (h7 : 1 ≤ q.2.2.w)
 | empty (h1 : q.1 = true) (h2 : q.2.1.calls = m.calls.set i { cl with point := m.now }) (h3 : q.2.1.seats = m.seats.set t { se with kind := 3,value := 0 }) (h4 : (mv c m).cell = 0)
 | got (h0 : r.stage = 3) (h1 : q.1 = true) (h2 : q.2.1.calls = m.calls.set i { cl with point := r.point }) (h3 : q.2.1.seats = m.seats.set t { se with kind := 2,value := wrap64 ((mv c m).val (r.w - 1)) })
inductive PsO (c : Cfg) (m : Mch) (i t : Nat) (cl : Cll) (se : Sea) (p : Pst) (b : Bool) (m' : Mch) (p' : Pst) : Prop where
 | on (h1 : (mv c m').cell = (mv c m).cell) (h2 : ∀ s,(mv c m').val s = (mv c m).val s ∨ p.stage = 1 ∧ s = p.link - 1) (h3 : m'.calls = m.calls) (h4 : m'.seats = m.seats) (h5 : p'.value = p.value) (h6 : b = false → (p'.stage = 4 ↔ p.stage = 4)) (h7 : b = true → p.stage = 4)
 | full (h0 : p.stage = 0) (h1 : b = true) (h2 : (mv c m').cell = (mv c m).cell) (h3 : ∀ s,(mv c m').val s = (mv c m).val s) (h4 : m'.calls = m.calls.set i { cl with point := m.now }) (h5 : m'.seats = m.seats.set t { se with kind := 4,value := 0 })
 | post (h0 : p.stage = 3) (h2 : (mv c m').cell = p.link) (h3 : ∀ s,(mv c m').val s = (mv c m).val s) (h4 : m'.calls = m.calls.set i { cl with point := m.now }) (h5 : m'.seats = m.seats.set t { se with kind := 1,value := 0 }) (h6 : p'.value = p.value) (h7 : b = false → p'.stage = 4)
section
variable {t i : Nat} {c : Cfg} {L S N : Nat} {h : Haz} {a : Are} {m m' m'' : Mch} {cl : Cll} {se : Sea}
theorem rdo_saw {r : Rdg} {u : Int} {m0 : Mch} (h1 : m'.calls = m.calls) (h2 : m'.seats = m.seats) (h3 : m'.now = m.now) (hu : u = (mv c m).cell) : RdO c m i t cl se r (readSaw m' i t cl se r u) := by
 unfold readSaw
 split
 ·rename_i e
  exact .empty rfl (by simp only [Mch.point,Mch.answer,h1,h3]) (by simp only [Mch.point,Mch.answer,h2]) (by rw [← hu];exact e)
 ·exact .on rfl h1 h2 (by show (1 : Int) ≠ 3;omega)
theorem rdo_read {r : Rdg} (C : Core c L S N h a m) (I : RdI c r) : RdO c m i t cl se r (readStep h m i t cl se r) := by
 have hc := C.hc
 obtain ⟨i1,i2,i3,i4⟩ := I
 unfold readStep
 rw [hc]
 simp only []
 split
 ·exact rdo_saw (m0 := m) rfl rfl rfl rfl
 ·split
  ·exact .on rfl rfl rfl (by show (2 : Int) ≠ 3;omega)
  ·split
   ·split
    ·rename_i h0 h1 h2 h3
     exact .saw rfl rfl rfl rfl rfl (by show r.w = m.word _;rw [h3]) (i4 h0).1
    ·exact rdo_saw (m0 := m) rfl rfl rfl rfl
   ·rename_i h0 h1 h2
    have hw := i4 h0
    refine .got (by omega) rfl rfl ?_
    have e : (mv c m).val (r.w - 1) = m.word (adr c 11 (r.w - 1)) := by
     simp only [mv];rw [if_pos (by omega)]
    simp only [Mch.answer,Mch.point,e]
    rfl
theorem pso_took {p p0 : Pst} {k : Tak} (hm : Same m m') (hq : Qt c m m') (hok : c.Ok) (hp : p0.stage = 0) (h0 : p.stage = 0) (hv : p.value = p0.value) :
  PsO c m i t cl se p0 (postTook m' i t cl se p k).1 (postTook m' i t cl se p k).2.1 (postTook m' i t cl se p k).2.2 := by
 obtain ⟨q1,q2⟩ := hq.mv hok
 unfold postTook
 split
 ·refine .full hp rfl (by rw [← q1];rfl) (fun s => by rw [← q2];rfl) ?_ ?_
  ·simp only [Mch.point,Mch.answer,hm.calls,hm.now]
  ·simp only [Mch.point,Mch.answer,hm.seats]
 ·exact .on q1 (fun s => .inl (q2 s)) hm.calls hm.seats hv (fun _ => by rw [hp];simp) (fun h => by cases h)
theorem pso_ready {p : Pst} (hok : c.Ok) (hp : p.stage = 0) : PsO c m i t cl se p (postReady a m i t cl se p).1 (postReady a m i t cl se p).2.2.1 (postReady a m i t cl se p).2.2.2 := by
 unfold postReady
 simp only []
 have hs := same_takeReady a m ⟨p.thread,1,0,0,0,false⟩
 have hq : Qt c m _ := qt_takeReady (a := a) (k := ⟨p.thread,1,0,0,0,false⟩)
 obtain ⟨q1,q2⟩ := hq.mv hok
 split
 ·exact pso_took hs hq hok hp hp rfl
 ·exact .on q1 (fun s => .inl (q2 s)) hs.calls hs.seats rfl (fun _ => Iff.rfl) (fun h => by cases h)
theorem pso_done {p : Pst} {sl0 : Int} (hok : c.Ok) (hlt : adr c 2 0 < m.mem.words.length) (h0 : p.stage = 3) (hw : m.word (adr c 2 0) = p.saw) :
  PsO c m i t cl se p (postDone h a (m.swap (adr c 2 0) (m.word (adr c 2 0)) p.saw p.link) i t cl se p sl0).1 (postDone h a (m.swap (adr c 2 0) (m.word (adr c 2 0)) p.saw p.link) i t cl se p sl0).2.2.2.1 (postDone h a (m.swap (adr c 2 0) (m.word (adr c 2 0)) p.saw p.link) i t cl se p sl0).2.2.2.2 := by
 have hwd : (m.swap (adr c 2 0) (m.word (adr c 2 0)) p.saw p.link).mem.words = m.mem.words.set (adr c 2 0) p.link := by simp only [Mch.swap];rw [if_pos hw]
 have hmv := mv_cell (m := m) (m' := m.swap (adr c 2 0) (m.word (adr c 2 0)) p.saw p.link) hok hwd hlt
 have key : ∀ m',Same ((m.swap (adr c 2 0) (m.word (adr c 2 0)) p.saw p.link).point i cl (m.swap (adr c 2 0) (m.word (adr c 2 0)) p.saw p.link).now |>.answer t se 1 0) m' → m'.mem.words = (m.swap (adr c 2 0) (m.word (adr c 2 0)) p.saw p.link).mem.words → ∀ (b : Bool) (p' : Pst),p'.value = p.value → (b = false → p'.stage = 4) → PsO c m i t cl se p b m' p' := by
  intro m' hs he b p' hv hb
  have e : mv c m' = { mv c m with cell := p.link } := by rw [← hmv];exact mv_same he
  exact .post h0 (by rw [e]) (fun s => by rw [e]) (by rw [hs.calls];rfl) (by rw [hs.seats];rfl) hv hb
 unfold postDone
 simp only []
 split
 ·exact key _ (same_shift ..) rfl _ _ rfl (fun h => by cases h)
 ·refine key _ (((same_shift ..).trans (same_shift ..)).trans (same_retire ..)) ?_ _ _ rfl (fun _ => rfl)
  unfold retireReady
  simp only []
  split <;> rfl
theorem pso_post {p : Pst} (C : Core c L S N h a m) (I : PoI c p) : PsO c m i t cl se p (postStep h a m i t cl se p).1 (postStep h a m i t cl se p).2.2.2.1 (postStep h a m i t cl se p).2.2.2.2 := by
 have hok := C.ok
 have hc := C.hc
 obtain ⟨⟨k,hk,k0,k1⟩,i2,i3,i4⟩ := I
 have e2 := adr_i hok 2 (Int.le_refl 0)
 have hlt : adr c 2 0 < m.mem.words.length := C.lt (by
  obtain ⟨b1,b2,b8,b9,b10,b11,b12,b13,b14,rh,rh2⟩ := bases hok
  have := hok.S1
  have := hok.R1
  omega)
 unfold postStep
 rw [hk,hc]
 simp only []
 by_cases s0 : p.stage = 0
 ·rw [if_pos s0]
  have hq := qt_take C (k0 s0)
  have hs := same_take a m k
  obtain ⟨q1,q2⟩ := hq.mv hok
  split
  ·exact pso_took hs hq hok s0 s0 rfl
  ·exact .on q1 (fun s => .inl (q2 s)) hs.calls hs.seats rfl (fun _ => Iff.rfl) (fun h => by cases h)
 rw [if_neg s0]
 by_cases s1 : p.stage = 1
 ·rw [if_pos s1]
  obtain ⟨g1,g2,g3⟩ := k1 (.inl s1)
  have e : tookSlot k = p.link - 1 := by omega
  have hA := adr_i hok 11 g1
  obtain ⟨b1,b2,b8,b9,b10,b11,b12,b13,b14,rh,rh2⟩ := bases hok
  have := hok.S1
  have := hok.R1
  have hw := fun j => word_set (m := m) (m' := m.store (adr c 11 (tookSlot k)) (m.word (adr c 11 (tookSlot k))) (p.value % 18446744073709551616)) (A := adr c 11 (tookSlot k)) (z := p.value % 18446744073709551616) rfl (C.lt (by omega)) j
  refine .on ?_ (fun s => ?_) rfl rfl rfl (fun _ => by rw [s1];simp) (fun h => by cases h)
  ·show Mch.word _ _ = Mch.word _ _
   rw [hw,if_neg (by omega)]
  ·by_cases es : s = p.link - 1
   ·exact .inr ⟨s1,es⟩
   ·left
    simp only [mv]
    split
    ·rename_i hs
     have := adr_i hok 11 hs.1
     rw [hw,if_neg (by omega)]
    ·rfl
 rw [if_neg s1]
 by_cases s2 : p.stage = 2
 ·rw [if_pos s2]
  exact .on rfl (fun s => .inl rfl) rfl rfl rfl (fun _ => by rw [s2];simp) (fun h => by cases h)
 rw [if_neg s2]
 by_cases s3 : p.stage = 3
 ·rw [if_pos s3]
  split
  ·rename_i hw
   exact pso_done hok hlt s3 hw
  ·rename_i hw
   have e : mv c (m.swap (adr c 2 0) (m.word (adr c 2 0)) p.saw p.link) = mv c m := mv_same (by simp only [Mch.swap];rw [if_neg hw])
   exact .on (by rw [e]) (fun s => .inl (by rw [e])) rfl rfl rfl (fun _ => by rw [s3];simp) (fun h => by cases h)
 rw [if_neg s3]
 have s4 : p.stage = 4 := by rcases i2 with h|h|h|h|h <;> first|exact absurd h s0|exact absurd h s1|exact absurd h s2|exact absurd h s3|exact h
 obtain ⟨r,sc,e1,e2,e3,e4⟩ := i4 s4
 rw [e1]
 simp only [e2]
 obtain ⟨q1,q2⟩ := (qt_scan C e3).mv hok
 have hs := same_scan h a m sc
 exact .on q1 (fun s => .inl (q2 s)) hs.calls hs.seats rfl (fun _ => Iff.rfl) (fun _ => s4)
end
end Go.Proofs.YtegafhhdegnigaaGreat
end
