/-
  Who holds which record, counted from the calls that began and ended.
-/
import Derived.Test.YtegafhhdegnigaaGreatCOpen
import Derived.Test.YtegafhhdegnigaaGreatCEvp
import Derived.Test.YtegafhhdegnigaaGreatCOw7
set_option linter.all false
section
namespace Go.Proofs.YtegafhhdegnigaaGreat
open Go.RowKit Hp
set_option maxRecDepth 100000
set_option maxHeartbeats 1000000
attribute [local irreducible] Go.Calls
abbrev RS := List Int × List Int
def rcNext (mv : Int) (s : RS) (x : Cll) : RS :=
 if x.end_ = mv then
  if x.op = 20 then (if x.kind = 4 then s else (s.1.set x.value.toNat x.thread,s.2.set x.thread.toNat x.value))
  else if x.op = 21 then (s.1.set (s.2.getD x.thread.toNat 0).toNat (-1),s.2.set x.thread.toNat (-1))
  else s
 else s
structure RcOk (c : Cfg) (mv : Int) (s : RS) (x : Cll) : Prop where
 beg : x.begin_ = mv → (x.op = 20 ↔ s.2.getD x.thread.toNat 0 < 0)
 reg : x.end_ = mv → x.op = 20 → x.kind ≠ 4 → x.kind = 2 ∧ (0 ≤ x.value ∧ x.value < c.R) ∧ s.1.getD x.value.toNat 0 < 0
 unr : x.end_ = mv → x.op = 21 → 0 ≤ s.2.getD x.thread.toNat 0 ∧ s.2.getD x.thread.toNat 0 < c.R
def rcFold (mv : Int) (cs : List Cll) (s : RS) : RS := cs.foldl (rcNext mv) s
def rcS (c : Cfg) (cs : List Cll) : Nat → RS
 | 0 => (List.replicate c.R.toNat (-1),List.replicate c.T.toNat (-1))
 | n + 1 => rcFold n cs (rcS c cs n)
theorem rcNext_ne {mv : Int} {s : RS} {x : Cll} (h : x.end_ ≠ mv) : rcNext mv s x = s := by unfold rcNext;rw [if_neg h]
theorem rcFold_none {mv : Int} : ∀ {cs : List Cll} {s : RS},(∀ x ∈ cs,x.end_ ≠ mv) → rcFold mv cs s = s
 | [],_,_ => rfl
 | x :: r,s,h => by
  show rcFold mv r (rcNext mv s x) = s
  rw [rcNext_ne (h x (List.mem_cons_self ..))]
  exact rcFold_none fun z hz => h z (List.mem_cons_of_mem _ hz)
theorem scan_held (h : Haz) (a : Are) (m : Mch) (s : Scn) : (scanStep h a m s).2.1.held = h.held := by
 unfold scanStep
 split
 ·rfl
 ·split
  ·unfold scanTake;simp only [];split <;> rfl
  ·split
   ·rfl
   ·split
    ·unfold scanLook;dsimp only;split <;> rfl
    ·split <;> rfl
structure HeldTo (c : Cfg) (t : Nat) (h h' : Haz) (m : Mch) (m' : Mch) (ended : Bool) (k : HTask) : Prop where
 oth : kd k ≠ 20 → kd k ≠ 21 → h'.held = h.held
 on : ended = false → h'.held = h.held
 unr : kd k = 21 → ended = true → h'.held = h.held.set t (-1)
 reg : kd k = 20 → ended = true → (h'.held = h.held ∧ (getS m' t).kind = 4) ∨ ∃ r : Int,(0 ≤ r ∧ r < c.R) ∧ m.word (adr c 8 r) = 0 ∧ h'.held = h.held.set t r ∧ (getS m' t).kind = 2 ∧ (getS m' t).value = r
structure RcJ (c : Cfg) (n : Nat) (y : HW) : Prop where
 ok : ∀ mv : Nat,mv < n → ∀ x ∈ y.m.calls,RcOk c mv (rcS c y.m.calls mv) x
 held : (rcS c y.m.calls n).2 = y.s.1.held
 hl : (rcS c y.m.calls n).1.length = c.R.toNat
 hold : ∀ (t : Nat) (r : Int),y.s.1.held[t]? = some r → 0 ≤ r → (rcS c y.m.calls n).1[r.toNat]? = some (t : Int)
 free : ∀ r : Int,0 ≤ r → r < c.R → (∀ t : Nat,y.s.1.held[t]? ≠ some r) → (rcS c y.m.calls n).1.getD r.toNat 0 = -1
 op : ∀ (t i : Nat) (k : HTask) (se : Sea) (cl : Cll),y.tasks[t]? = some (some k) → y.m.seats[t]? = some se → se.last = (i : Int) → y.m.calls[i]? = some cl → cl.op = kd k
section
variable {c : Cfg} {n : Nat} {y y' : HW}
theorem RcJ.next (J : RcJ c n y) (hS : ∀ mv : Nat,mv ≤ n → rcS c y'.m.calls mv = rcS c y.m.calls mv) (hok : ∀ mv : Nat,mv ≤ n → ∀ x ∈ y'.m.calls,RcOk c mv (rcS c y.m.calls mv) x)
  (hne : ∀ x ∈ y'.m.calls,x.end_ ≠ n) (hh : y'.s.1.held = y.s.1.held)
  (hop : ∀ (t i : Nat) (k : HTask) (se : Sea) (cl : Cll),y'.tasks[t]? = some (some k) → y'.m.seats[t]? = some se → se.last = (i : Int) → y'.m.calls[i]? = some cl → cl.op = kd k) : RcJ c (n + 1) y' := by
 have e : rcS c y'.m.calls (n + 1) = rcS c y.m.calls n := by
  simp only [rcS]
  rw [hS n (Nat.le_refl _)]
  exact rcFold_none hne
 refine ⟨fun mv hm x hx => ?_,?_,?_,?_,?_,hop⟩
 ·rw [hS mv (by omega)];exact hok mv (by omega) x hx
 ·rw [e,hh];exact J.held
 ·rw [e];exact J.hl
 ·rw [e,hh];exact J.hold
 ·rw [e,hh];exact J.free
end
end Go.Proofs.YtegafhhdegnigaaGreat
end
/-
  HazardLists, the plain law: each step keeps the lists as long as they may be.
-/
section
namespace Go.Proofs.YtegafhhdegnigaaGreat
open Go.RowKit Hp
set_option maxRecDepth 100000
set_option maxHeartbeats 1000000
attribute [local irreducible] Go.Calls
def Unh (h : Haz) (q : Int) : Prop := ∀ t : Nat,h.held[t]? ≠ some q
def zr (c : Cfg) (m : Mch) (q k : Int) : Prop := (mv c m).hz (q * c.Hz + k) = 0
def LenT (c : Cfg) (b : Bool) (l : Int) (Zr : Int → Prop) : HTask → Prop
 | .scn s => if b = true then LsS c s l else l < Bt c
 | .unr u => (u.stage = 0 → l < Bt c ∧ ∀ k,0 ≤ k → k < u.k → Zr k) ∧ (u.stage = 1 → (∀ s,u.scan = some s → LsS c s l) ∧ ∀ k,0 ≤ k → k < c.Hz → Zr k) ∧ (u.stage = 2 ∨ u.stage = 3 → l ≤ Am c ∧ ∀ k,0 ≤ k → k < c.Hz → Zr k)
 | .pst p => (p.stage ≠ 4 → l < Bt c) ∧ (p.stage = 4 → ∀ r s,p.retire = some r → r.scan = some s → LsS c s l)
 | _ => l < Bt c
def LqS (c : Cfg) (h : Haz) (m : Mch) : Prop := ∀ q,0 ≤ q → q < c.R → Unh h q → ll h q ≤ Am c ∧ ∀ k,0 ≤ k → k < c.Hz → zr c m q k
section
variable {c : Cfg} {L S N : Nat} {h h' : Haz} {a : Are} {m m' : Mch} {t i : Nat} {cl : Cll} {se : Sea}
variable {n : Int} {Z Y : Int → Nat} {F : List Int} {pr : Int → Prop} {K K2 : List Int}
theorem evp_hz {Q : Nat → Prop} {P B : Int → Prop} {w : Prop} {x y : St3} (hok : c.Ok) (E : EvP c Q P B w t x y) (hw : ¬ w) {j : Int} (j0 : 0 ≤ j) (j1 : j < c.R * c.Hz) : (mv c y.2.2).hz j = (mv c x.2.2).hz j := by
 have hb := adr_i hok 9 j0
 have hz : Hzj c (adr c 9 j) := by
  have b10 : base c 10 = base c 9 + c.R * c.Hz := rfl
  unfold Hzj;omega
 induction E with
 | refl x => rfl
 | trans _ _ ih1 ih2 => exact ih2.trans ih1
 | load k hq => exact congrArg (fun v => MV.hz v _) (mv_same rfl)
 | @store h a m k z hq hk =>
  rw [hz_at j0 j1,hz_at j0 j1]
  unfold Mch.word Mch.store
  simp only []
  rw [List.getD_eq_getElem?_getD,List.getElem?_set_ne (fun e => hw (hk (by rw [e];exact hz))),← List.getD_eq_getElem?_getD]
 | @swap h a m k o z hq hk =>
  rw [hz_at j0 j1,hz_at j0 j1]
  unfold Mch.word Mch.swap
  simp only []
  split
  ·rw [List.getD_eq_getElem?_getD,List.getElem?_set_ne (fun e => hk (by rw [e];exact hz)),← List.getD_eq_getElem?_getD]
  ·rfl
 | shift s to h0 ht hm hp hw hb => exact congrArg (fun v => MV.hz v _) (mv_same rfl)
 | quiet h1 h2 h3 h4 => exact congrArg (fun v => MV.hz v _) (mv_same (by rw [h1]))
 | haz h' => rfl
 | cache cs => rfl
structure LtP (c : Cfg) (t : Nat) (k : HTask) (r : RT) : Prop where
 un : LqS c r.2.1.1 r.2.2.1
 go : ∀ rc,r.2.1.1.held[t]? = some rc → 0 ≤ rc → r.1 = false → LenT c true (ll r.2.1.1 rc) (zr c r.2.2.1 rc) r.2.2.2
 fin : ∀ rc,r.2.1.1.held[t]? = some rc → 0 ≤ rc → r.1 = true → ll r.2.1.1 rc < Bt c ∧ (kd k = 25 → ll r.2.1.1 rc ≤ Am c)
end
end Go.Proofs.YtegafhhdegnigaaGreat
end
/-
  HazardScans, the plain law: a scan by itself leaves what some hazard names.
-/
section
namespace Go.Proofs.YtegafhhdegnigaaGreat
open Go.RowKit Hp
set_option maxRecDepth 100000
set_option maxHeartbeats 1000000
attribute [local irreducible] Go.Calls
def NamH (c : Cfg) (m : Mch) (s0 : Int) : Prop := ∃ j,0 ≤ j ∧ j < c.R * c.Hz ∧ (mv c m).hz j = s0 + 1
def NamL (c : Cfg) (h : Haz) (m : Mch) (r : Int) : Prop := ∀ z ∈ h.lists.getD r.toNat [],NamH c m z
structure ScA (c : Cfg) (h : Haz) (m : Mch) (s : Scn) : Prop where
 look : s.stage = 3 → ∀ z,0 ≤ z → 0 < s.named z → NamH c m z
 done : s.stage = 5 ∨ s.stage = 6 → NamL c h m s.record
section
variable {c : Cfg} {L S N : Nat} {h : Haz} {a : Are} {m m' : Mch} {t : Nat}
theorem NamH.to (hz : ∀ j,0 ≤ j → j < c.R * c.Hz → (mv c m').hz j = (mv c m).hz j) {z : Int} (H : NamH c m z) : NamH c m' z := by
 obtain ⟨j,j0,j1,e⟩ := H
 exact ⟨j,j0,j1,by rw [hz j j0 j1,e]⟩
theorem NamL.to (hz : ∀ j,0 ≤ j → j < c.R * c.Hz → (mv c m').hz j = (mv c m).hz j) {r : Int} (H : NamL c h m r) : NamL c h m' r := fun z h1 => (H z h1).to hz
theorem ScA.to (hz : ∀ j,0 ≤ j → j < c.R * c.Hz → (mv c m').hz j = (mv c m).hz j) {s : Scn} (H : ScA c h m s) : ScA c h m' s := ⟨fun e z z0 z1 => (H.look e z z0 z1).to hz,fun e => (H.done e).to hz⟩
theorem next_sa {s : Scn} : ScA c h m (scanNext h s).2 ∧ (scanNext h s).2.record = s.record ∧ ((scanNext h s).1 = true → NamL c h m s.record) := by
 unfold scanNext
 simp only []
 generalize (if s.at_ + 1 = s.record then s.at_ + 2 else s.at_ + 1) = k
 split
 ·exact ⟨⟨fun h => by simp at h,fun h => by simp at h⟩,rfl,fun h => by cases h⟩
 ·split
  ·rename_i hl
   have h0 : NamL c h m s.record := by
    intro z hz
    rw [List.eq_nil_of_length_eq_zero hl] at hz
    cases hz
   exact ⟨⟨fun h => by simp at h,fun _ => h0⟩,rfl,fun _ => h0⟩
  ·exact ⟨⟨fun _ z _ hz => by simp at hz,fun h => by simp at h⟩,rfl,fun h => by cases h⟩
theorem scan_sa {s : Scn} (C : Core c L S N h a m) (I : ScI c s) (H : ScA c h m s) :
  ScA c (scanStep h a m s).2.1 m (scanStep h a m s).2.2.2.2 ∧ (scanStep h a m s).2.2.2.2.record = s.record ∧ ((scanStep h a m s).1 = true → NamL c (scanStep h a m s).2.1 m s.record) := by
 have hok := C.ok
 obtain rfl := C.hc
 obtain ⟨i1,i2,i3,i4,i5,i6,i7,i8,i9⟩ := I
 obtain ⟨h3,h4⟩ := H
 obtain ⟨e1,e2,e3⟩ := C.lget i1 i2
 have fs : ∀ b,¬ freeStage b = 3 := fun b => by unfold freeStage;split <;> omega
 unfold scanStep
 by_cases s0 : s.stage = 0
 ·rw [if_pos s0]
  unfold scanTry
  simp only []
  split
  ·exact next_sa
  ·exact ⟨⟨fun h => by simp at h,fun h => by simp at h⟩,rfl,fun h => by cases h⟩
 rw [if_neg s0]
 by_cases s1 : s.stage = 1
 ·rw [if_pos s1]
  unfold scanTake
  simp only []
  split
  ·exact ⟨⟨fun h => by simp at h,fun h => by simp at h⟩,rfl,fun h => by cases h⟩
  ·exact next_sa
 rw [if_neg s1]
 by_cases s2 : s.stage = 2
 ·rw [if_pos s2]
  exact next_sa
 rw [if_neg s2]
 by_cases s3 : s.stage = 3
 ·rw [if_pos s3]
  obtain ⟨⟨a0,a1⟩,a2,a3⟩ := i8 s3
  have hw : ∀ z,0 ≤ z → 0 < addName s.named (m.word (base h.c 9 + s.at_).toNat - 1) z → NamH h.c m z := by
   intro z z0 hz
   unfold addName at hz
   by_cases e : z = m.word (base h.c 9 + s.at_).toNat - 1
   ·refine ⟨s.at_,a0,a1,?_⟩
    rw [hz_at a0 a1]
    have : m.word (adr h.c 9 s.at_) = m.word (base h.c 9 + s.at_).toNat := rfl
    omega
   ·rw [if_neg e] at hz
    exact h3 s3 z z0 hz
  by_cases hlast : s.at_ + 1 < h.c.R * h.c.Hz
  ·rw [show scanLook h a m s = _ from if_pos hlast]
   simp only [scanLook1]
   exact ⟨⟨fun _ => hw,fun h => by simp [s3] at h⟩,trivial,fun h => by cases h⟩
  ·rw [show scanLook h a m s = _ from if_neg hlast]
   simp only [scanLook1,scanSplit]
   generalize hnm : addName s.named (m.word (base h.c 9 + s.at_).toNat - 1) = nm at hw ⊢
   have hl1 : s.record.toNat < h.lists.length := by rw [C.lists];omega
   have hnew : NamL h.c { h with lists := h.lists.set s.record.toNat ((h.lists.getD s.record.toNat []).filter (isNamed nm)) } m s.record := by
    intro z hz
    simp only [] at hz
    rw [getD_set i1 i1,if_pos ⟨rfl,hl1⟩] at hz
    obtain ⟨z1,z2⟩ := List.mem_filter.1 hz
    have z0 := (e3 z z1).1
    have z2 : 0 < unNone nm z := by simpa [isNamed] using z2
    unfold unNone at z2
    rw [if_neg (by omega)] at z2
    exact hw z z0 z2
   exact ⟨⟨fun hf => absurd hf (fs _),fun _ => hnew⟩,trivial,fun _ => hnew⟩
 rw [if_neg s3]
 obtain ⟨p,p1,p2,p3,p4⟩ := i9 (by omega)
 have s5 : s.stage = 5 := by omega
 have hb := h4 (.inl s5)
 rw [p1]
 simp only []
 unfold scanGive
 simp only []
 split
 ·exact ⟨⟨fun hf => absurd hf (fs _),fun _ => hb⟩,rfl,fun _ => hb⟩
 ·exact ⟨⟨fun hf => by simp [s5] at hf,fun _ => hb⟩,rfl,fun h => by cases h⟩
end
end Go.Proofs.YtegafhhdegnigaaGreat
end
/-
  How many steps a call has left whose thread makes all steps.
-/
section
namespace Go.Proofs.YtegafhhdegnigaaGreat
open Go.RowKit Hp
set_option maxRecDepth 100000
set_option maxHeartbeats 1000000
attribute [local irreducible] Go.Calls
def psC (hd : Int) (p : Psh) : Int := if p.at_ = 1 then 3 else if p.at_ = 2 then (if hd = p.head then 2 else 5) else (if hd = p.head then 1 else 4)
def tkC (hd : Int) (k : Tak) : Int := if k.at_ = 1 then 3 else if k.at_ = 2 then (if hd = k.head then 2 else 5) else (if hd = k.head then 1 else 4)
def scA (c : Cfg) : Int := c.R * c.Hz + 3 * c.Sl + 1
def scB (c : Cfg) : Int := 3 * c.R + scA c
def giC (hd : Int) (s : Scn) : Int := match s.give with|some p => psC hd p + 3 * (s.pending.length : Int)|none => 1
def scC (c : Cfg) (hd : Int) (s : Scn) : Int :=
 if s.stage = 0 then 3 * (c.R - s.at_) + scA c
 else if s.stage = 1 then 3 * (c.R - s.at_) - 1 + scA c
 else if s.stage = 2 then 3 * (c.R - s.at_) - 2 + scA c
 else if s.stage = 3 then scA c - s.at_
 else giC hd s
def soC (c : Cfg) (hd : Int) (o : Option Scn) : Int := match o with|some s => scC c hd s|none => 1
def poC (hd : Int) (o : Option Psh) : Int := match o with|some p => psC hd p|none => 1
def toC (hd : Int) (o : Option Tak) : Int := match o with|some p => tkC hd p|none => 1
def roC (c : Cfg) (hd : Int) (o : Option Ret) : Int := match o with|some r => soC c hd r.scan|none => 1
def unC (c : Cfg) (hd ca : Int) (u : Unr) : Int :=
 if u.stage = 0 then (c.Hz - u.k) + scB c + 3 * c.Ca + 1
 else if u.stage = 1 then soC c hd u.scan + 3 * c.Ca + 1
 else if u.stage = 2 then poC hd u.flush + 3 * (ca - 1) + 1
 else 1
def ptC (c : Cfg) (hd cell : Int) (p : Pst) : Int :=
 if p.stage = 0 then toC hd p.take + 3 + scB c
 else if p.stage = 1 then 3 + scB c
 else if p.stage = 2 then 2 + scB c
 else if p.stage = 3 then (if cell = p.saw then 1 else 3) + scB c
 else roC c hd p.retire
def rdC (cell : Int) (r : Rdg) : Int :=
 if r.stage = 0 then 4 else if r.stage = 1 then (if cell = r.w then 3 else 5) else if r.stage = 2 then (if cell = r.w then 2 else 4) else 1
def rgC (c : Cfg) (r : Reg) : Int := 2 * (c.R - r.i) - (if r.seen = true then 1 else 0)
def coC (c : Cfg) (hd cell ca : Int) : HTask → Int
 | .reg r => rgC c r
 | .unr u => unC c hd ca u
 | .pst p => ptC c hd cell p
 | .rdg r => rdC cell r
 | .clr _ => 1
 | .scn s => scC c hd s
theorem psC_1 (hd : Int) (p : Psh) : 1 ≤ psC hd p ∧ psC hd p ≤ 5 := by
 unfold psC
 split
 ·omega
 ·split <;> split <;> omega
theorem tkC_1 (hd : Int) (p : Tak) : 1 ≤ tkC hd p ∧ tkC hd p ≤ 5 := by
 unfold tkC
 split
 ·omega
 ·split <;> split <;> omega
theorem swap_no {m : Mch} {A : Nat} {u o z : Int} (h : u ≠ o) (i : Nat) : (m.swap A u o z).word i = m.word i := by
 simp only [Mch.swap,Mch.word,if_neg h]
section
variable {c : Cfg} {Lg S N : Nat} {h : Haz} {a : Are} {m : Mch} {t : Nat}
theorem a1_ne (hok : c.Ok) {A : Nat} (h2 : 2 ≤ A) : adr c 1 0 ≠ A := by
 have := (adrs hok).a1;omega
theorem a2_ne (hok : c.Ok) {A : Nat} (h2 : 2 ≤ A) : adr c 2 0 ≠ A := by
 have := (adrs hok).a2;omega
theorem push_c {p : Psh} (C : Core c Lg S N h a m) (P : PInv c p) (hf : (pushStep a m p).1 = false) :
  psC ((pushStep a m p).2.2.1.word (adr c 1 0)) (pushStep a m p).2.2.2 ≤ psC (m.word (adr c 1 0)) p - 1 := by
 have hok := C.ok
 have hac := C.ac
 have hA10 : (adr c 10 p.slot : Nat) < m.mem.words.length := by
  have := (adrs hok).a10 p.slot P.s0
  have := P.s0
  have := P.s1
  have := hok.R1
  obtain ⟨b1,b2,b8,b9,b10,b11,b12,b13,b14,rh,rh2⟩ := bases hok
  have := C.words
  omega
 have hA2 : 2 ≤ adr c 10 p.slot := by
  have := (adrs hok).a10 p.slot P.s0
  have := P.s0
  obtain ⟨b1,b2,b8,b9,b10,b11,b12,b13,b14,rh,rh2⟩ := bases hok
  have := hok.R1
  omega
 unfold pushStep at hf ⊢
 rw [hac] at hf ⊢
 split
 ·rename_i h1
  have e : (m.load (adr c 1 0) (m.word (adr c 1 0))).word (adr c 1 0) = m.word (adr c 1 0) := rfl
  simp only [e,psC,h1]
  simp
 ·rename_i h1
  split
  ·rename_i h2
   have e : (m.store (adr c 10 p.slot) (m.word (adr c 10 p.slot)) (p.head % 4294967296)).word (adr c 1 0) = m.word (adr c 1 0) := by
    rw [word_set (m := m) (A := adr c 10 p.slot) rfl hA10,if_neg (a1_ne hok hA2)]
   simp only [e,psC,h2]
   simp
   split <;> omega
  ·rename_i h2
   rw [if_neg h1,if_neg h2] at hf
   simp only [] at hf ⊢
   split
   ·rename_i h3
    rw [if_pos h3] at hf
    cases hf
   ·rename_i h3
    simp only [swap_no h3,psC,if_neg h1,if_neg h2,if_neg h3]
    simp
theorem take_c {k : Tak} (C : Core c Lg S N h a m) (hf : (takeStep a m k).1 = false) :
  tkC ((takeStep a m k).2.2.1.word (adr c 1 0)) (takeStep a m k).2.2.2 ≤ tkC (m.word (adr c 1 0)) k - 1 := by
 have hac := C.ac
 unfold takeStep at hf ⊢
 rw [hac] at hf ⊢
 split
 ·rename_i h1
  rw [if_pos h1] at hf
  simp only [decide_eq_false_iff_not] at hf
  have e : (m.load (adr c 1 0) (m.word (adr c 1 0))).word (adr c 1 0) = m.word (adr c 1 0) := rfl
  simp only [e,tkC,h1,if_neg hf]
  simp
 ·rename_i h1
  split
  ·rename_i h2
   have e : (m.load (adr c 10 (k.head % 4294967296 - 1)) (m.word (adr c 10 (k.head % 4294967296 - 1)))).word (adr c 1 0) = m.word (adr c 1 0) := rfl
   simp only [e,tkC,h2]
   simp
   split <;> omega
  ·rename_i h2
   rw [if_neg h1,if_neg h2] at hf
   simp only [] at hf ⊢
   split
   ·rename_i h3
    rw [if_pos h3] at hf
    cases hf
   ·rename_i h3
    simp only [swap_no h3,tkC,if_neg h1,if_neg h2,if_neg h3]
    simp
theorem free_c (th : Int) : ∀ (l : List Int) (g : Option Psh) (a : Are) (m : Mch),(freeLoop th l g a m).1 = false →
  ∃ s,(freeLoop th l g a m).2.2.1 = some ⟨s,1,0,th⟩ ∧ (freeLoop th l g a m).2.1.length + 1 ≤ l.length
 | [],g,a,m => by intro h;simp [freeLoop] at h
 | s :: r,g,a,m => by
  unfold freeLoop
  split
  ·intro hf
   obtain ⟨z,e1,e2⟩ := free_c th r _ _ _ hf
   exact ⟨z,e1,by simp only [List.length_cons];omega⟩
  ·rename_i hg
   intro _
   refine ⟨s,?_,by simp⟩
   unfold giveReady at hg ⊢
   split
   ·rfl
   ·rename_i h2
    rw [if_neg h2] at hg
    exact absurd rfl hg
theorem next_c {s : Scn} (hc : h.c = c) (hlt : s.at_ < c.R) (hd : Int) (hf : (scanNext h s).1 = false) : scC c hd (scanNext h s).2 ≤ 3 * (c.R - s.at_ - 1) + scA c := by
 unfold scanNext at hf ⊢
 simp only [hc] at hf ⊢
 have hk : s.at_ + 1 ≤ (if s.at_ + 1 = s.record then s.at_ + 2 else s.at_ + 1) := by split <;> omega
 generalize (if s.at_ + 1 = s.record then s.at_ + 2 else s.at_ + 1) = k at hf hk ⊢
 by_cases h1 : k < c.R
 ·rw [if_pos h1]
  simp only [scC,if_true]
  omega
 ·rw [if_neg h1] at hf ⊢
  by_cases h2 : (h.lists.getD s.record.toNat []).length = 0
  ·rw [if_pos h2] at hf
   cases hf
  ·rw [if_neg h2]
   simp only [scC]
   simp only [show ¬ (3 : Int) = 0 by decide,show ¬ (3 : Int) = 1 by decide,show ¬ (3 : Int) = 2 by decide,if_false,if_true]
   omega
theorem ready_c {s : Scn} (hok : c.Ok) (hc : h.c = c) (hd : Int) (hf : (scanReady h s).1 = false) : scC c hd (scanReady h s).2 ≤ scB c := by
 have hR := hok.R1
 have := next_c (s := { s with at_ := -1 }) hc (by simp only [];omega) hd hf
 unfold scB
 have e : scanReady h s = scanNext h { s with at_ := -1 } := rfl
 rw [e]
 simp only [] at this
 omega
theorem gi_free {th : Int} {l : List Int} {g : Option Psh} {a : Are} {m : Mch} (hd : Int) (s : Scn) (h5 : s.stage = 5) (h : (freeLoop th l g a m).1 = false) (hp : s.pending = (freeLoop th l g a m).2.1) (hg : s.give = (freeLoop th l g a m).2.2.1) : scC c hd s ≤ 3 * (l.length : Int) := by
 obtain ⟨z,e1,e2⟩ := free_c _ _ _ _ _ h
 have : giC hd s = 3 + 3 * (s.pending.length : Int) := by
  unfold giC
  rw [hg,e1]
  rfl
 unfold scC
 rw [h5]
 simp only [show (5 : Int) ≠ 0 by decide,show (5 : Int) ≠ 1 by decide,show (5 : Int) ≠ 2 by decide,show (5 : Int) ≠ 3 by decide,if_false]
 rw [this,hp]
 omega
theorem look_c {s2 : Scn} {g : Option Psh} {a : Are} {m : Mch} (hd th : Int) (hf : (freeLoop th s2.pending g a m).1 = false) :
  scC c hd { s2 with stage := freeStage (freeLoop th s2.pending g a m).1,pending := (freeLoop th s2.pending g a m).2.1,give := (freeLoop th s2.pending g a m).2.2.1 } ≤ 3 * (s2.pending.length : Int) :=
 gi_free hd _ (by simp only [hf,freeStage];simp) hf rfl rfl
theorem scan_c {s : Scn} (C : Core c Lg S N h a m) (I : ScI c s) (hl : ((h.lists.getD s.record.toNat []).length : Int) ≤ c.Sl) (hf : (scanStep h a m s).1 = false) :
  scC c ((scanStep h a m s).2.2.2.1.word (adr c 1 0)) (scanStep h a m s).2.2.2.2 ≤ scC c (m.word (adr c 1 0)) s - 1 := by
 have hc := C.hc
 obtain ⟨i1,i2,i3,i4,i5,i6,i7,i8,i9⟩ := I
 unfold scanStep at hf ⊢
 split
 ·rename_i h0
  rw [if_pos h0] at hf
  obtain ⟨j1,j2,j3⟩ := i6 (by omega)
  have e0 : scC c (m.word (adr c 1 0)) s = 3 * (c.R - s.at_) + scA c := by simp only [scC,if_pos h0]
  rw [e0]
  unfold scanTry at hf ⊢
  simp only [] at hf ⊢
  split
  ·rename_i h1
   rw [if_pos h1] at hf
   have := next_c hc j2 ((m.load (adr h.c 8 s.at_) (m.word (adr h.c 8 s.at_))).word (adr c 1 0)) hf
   simp only []
   omega
  ·simp [scC]
   omega
 ·rename_i h0
  rw [if_neg h0] at hf
  split
  ·rename_i h1
   rw [if_pos h1] at hf
   obtain ⟨j1,j2,j3⟩ := i6 (by omega)
   have e0 : scC c (m.word (adr c 1 0)) s = 3 * (c.R - s.at_) - 1 + scA c := by simp only [scC,if_neg h0,if_pos h1]
   rw [e0]
   unfold scanTake at hf ⊢
   simp only [] at hf ⊢
   split
   ·simp [scC]
    omega
   ·rename_i h2
    rw [if_neg h2] at hf
    have := next_c hc j2 ((m.swap (adr h.c 8 s.at_) (m.word (adr h.c 8 s.at_)) 0 1).word (adr c 1 0)) hf
    simp only []
    omega
  ·rename_i h1
   rw [if_neg h1] at hf
   split
   ·rename_i h2
    rw [if_pos h2] at hf
    obtain ⟨j1,j2,j3⟩ := i6 (by omega)
    have e0 : scC c (m.word (adr c 1 0)) s = 3 * (c.R - s.at_) - 2 + scA c := by simp only [scC,if_neg h0,if_neg h1,if_pos h2]
    rw [e0]
    exact Int.le_trans (next_c hc j2 _ hf) (by omega)
   ·rename_i h2
    rw [if_neg h2] at hf
    split
    ·rename_i h3
     rw [if_pos h3] at hf
     obtain ⟨⟨l1,l2⟩,_,_⟩ := i8 h3
     have e0 : scC c (m.word (adr c 1 0)) s = scA c - s.at_ := by simp only [scC,if_neg h0,if_neg h1,if_neg h2,if_pos h3]
     rw [e0]
     unfold scanLook at hf ⊢
     simp only [] at hf ⊢
     split
     ·have e1 : (scanLook1 h m s).2.stage = 3 := h3
      have e2 : (scanLook1 h m s).2.at_ = s.at_ + 1 := rfl
      simp only [scC,e1,e2]
      simp
      omega
     ·rename_i h4
      rw [if_neg h4] at hf
      have hp0 : s.pending = [] := i7 (by omega)
      refine Int.le_trans (look_c (s2 := (scanSplit h (scanLook1 h m s).2).2) _ _ hf) ?_
      have e3 : (scanSplit h (scanLook1 h m s).2).2.pending = s.pending ++ (h.lists.getD s.record.toNat []).filter (notNamed (scanLook1 h m s).2.named) := rfl
      have e4 : ((scanSplit h (scanLook1 h m s).2).2.pending.length : Int) ≤ c.Sl := by
       rw [e3,hp0,List.nil_append]
       have := List.length_filter_le (notNamed (scanLook1 h m s).2.named) (h.lists.getD s.record.toNat [])
       omega
      unfold scA
      omega
    ·rename_i h3
     rw [if_neg h3] at hf
     obtain ⟨p,e1,e2,e3,e4⟩ := i9 (by omega)
     rw [e1] at hf ⊢
     simp only [] at hf ⊢
     have e0 : scC c (m.word (adr c 1 0)) s = psC (m.word (adr c 1 0)) p + 3 * (s.pending.length : Int) := by simp only [scC,if_neg h0,if_neg h1,if_neg h2,if_neg h3,giC,e1]
     rw [e0]
     have hq := push_c C e2
     have hp1 := (psC_1 (m.word (adr c 1 0)) p).1
     unfold scanGive at hf ⊢
     simp only [] at hf ⊢
     split
     ·rename_i h4
      rw [if_pos h4] at hf
      refine Int.le_trans (look_c (s2 := s) _ _ hf) (by omega)
     ·rename_i h4
      have := hq (by simpa using h4)
      simp only [scC,if_neg h0,if_neg h1,if_neg h2,if_neg h3,giC]
      omega
theorem scC_1 {s : Scn} (hok : c.Ok) (I : ScI c s) (hp : (s.pending.length : Int) ≤ c.Sl) (hd : Int) : 1 ≤ scC c hd s ∧ scC c hd s ≤ scB c + 5 := by
 obtain ⟨i1,i2,i3,i4,i5,i6,i7,i8,i9⟩ := I
 have hR := hok.R1
 have hS := hok.S1
 have hA : 0 ≤ c.R * c.Hz := Int.mul_nonneg (by omega) (by have := hok.H1;omega)
 unfold scC scB scA
 split
 ·have := i6 (by omega);omega
 ·split
  ·have := i6 (by omega);omega
  ·split
   ·have := i6 (by omega);omega
   ·split
    ·have := (i8 (by omega)).1;omega
    ·obtain ⟨p,e1,e2,e3,e4⟩ := i9 (by omega)
     have := psC_1 hd p
     simp only [giC,e1]
     omega
theorem empty_c {u : Unr} (C : Core c Lg S N h a m) (ht : (t : Int) < c.T) (hu : u.thread = (t : Int)) (hd : Int) : unC c hd ((a.caches.getD t []).length : Int) (unregEmpty a u) ≤ 3 * c.Ca + 1 := by
 have hC := C.ok.C1
 have e : u.thread.toNat = t := by omega
 have htc : t < a.caches.length := by rw [C.caches];omega
 have hy : a.caches[t]? = some (a.caches.getD t []) := by rw [List.getD_eq_getElem?_getD,List.getElem?_eq_getElem htc];rfl
 have hl := C.clens _ (List.mem_of_getElem? hy)
 unfold unregEmpty flushReady
 simp only [e]
 generalize a.caches.getD t [] = x at hl ⊢
 by_cases h0 : x.length = 0
 ·simp only [if_pos h0,if_true,unC]
  simp only [show ¬ (3 : Int) = 0 by decide,show ¬ (3 : Int) = 1 by decide,show ¬ (3 : Int) = 2 by decide,if_false]
  omega
 ·simp only [if_neg h0,unC,poC,psC]
  simp only [show ¬ (2 : Int) = 0 by decide,show ¬ (2 : Int) = 1 by decide,show ¬ false = true by decide,if_false,if_true]
  omega
theorem flush_c {p : Psh} (C : Core c Lg S N h a m) (P : PInv c p) (ht : (t : Int) < c.T) (hu : p.thread = (t : Int)) (hn : 0 < (a.caches.getD t []).length) (hf : (flushStep a m p).1 = false) :
  psC ((flushStep a m p).2.2.1.word (adr c 1 0)) (flushStep a m p).2.2.2 + 3 * (((flushStep a m p).2.1.caches.getD t []).length : Int) ≤ psC (m.word (adr c 1 0)) p + 3 * ((a.caches.getD t []).length : Int) - 1 := by
 have e : p.thread.toNat = t := by omega
 have htc : t < a.caches.length := by rw [C.caches];omega
 have hca := (push_core C P).2.2.1
 have hp1 := (psC_1 (m.word (adr c 1 0)) p).1
 unfold flushStep at hf ⊢
 by_cases h1 : (pushStep a m p).1 = false
 ·rw [if_pos h1]
  have := push_c C P h1
  rw [hca]
  omega
 ·rw [if_neg h1] at hf ⊢
  simp only [e] at hf ⊢
  by_cases h2 : (a.caches.getD t []).length = 1
  ·rw [if_pos h2] at hf
   cases hf
  ·rw [if_neg h2]
   have e2 : (a.caches.set t (List.take ((a.caches.getD t []).length - 1) (a.caches.getD t []))).getD t [] = List.take ((a.caches.getD t []).length - 1) (a.caches.getD t []) := by
    rw [List.getD_eq_getElem?_getD,List.getElem?_set_self htc];rfl
   have e3 : ∀ (hd s : Int) (q : Psh),psC hd { q with slot := s,at_ := 1 } = 3 := fun hd s q => by simp [psC]
   rw [e3,e2,List.length_take]
   omega
end
end Go.Proofs.YtegafhhdegnigaaGreat
end
