/-
  What the tasks leave of the machine as it was.
-/
import Derived.Test.YtegafhhdegnigaaGreatDTask5
set_option linter.all false
section
namespace Go.Proofs.YtegafhhdegnigaaGreat
open Go.RowKit Hp
structure Same (m m' : Mch) : Prop where
 cur : m'.cur = m.cur
 vs : m'.vs = m.vs
 vc : m'.vc = m.vc
 kit : m'.kit = m.kit
 moves : m'.moves = m.moves
 now : m'.now = m.now
 thread : m'.thread = m.thread
 calls : m'.calls = m.calls
 seats : m'.seats = m.seats
theorem Same.refl (m : Mch) : Same m m := ⟨rfl,rfl,rfl,rfl,rfl,rfl,rfl,rfl,rfl⟩
theorem Same.trans {m m' m'' : Mch} (h : Same m m') (k : Same m' m'') : Same m m'' :=
 ⟨k.cur.trans h.cur,k.vs.trans h.vs,k.vc.trans h.vc,k.kit.trans h.kit,k.moves.trans h.moves,k.now.trans h.now,k.thread.trans h.thread,k.calls.trans h.calls,k.seats.trans h.seats⟩
theorem same_load (m : Mch) (i : Nat) (u : Int) : Same m (m.load i u) := ⟨rfl,rfl,rfl,rfl,rfl,rfl,rfl,rfl,rfl⟩
theorem same_store (m : Mch) (i : Nat) (u z : Int) : Same m (m.store i u z) := ⟨rfl,rfl,rfl,rfl,rfl,rfl,rfl,rfl,rfl⟩
theorem same_swap (m : Mch) (i : Nat) (u o z : Int) : Same m (m.swap i u o z) := ⟨rfl,rfl,rfl,rfl,rfl,rfl,rfl,rfl,rfl⟩
theorem same_shift (m : Mch) (s f t : Int) : Same m (m.shift s f t) := ⟨rfl,rfl,rfl,rfl,rfl,rfl,rfl,rfl,rfl⟩
theorem same_push (a : Are) (m : Mch) (p : Psh) : Same m (pushStep a m p).2.2.1 := by
 unfold pushStep
 split
 ·exact same_load ..
 ·split
  ·exact same_store ..
  ·simp only []
   split
   ·exact (same_swap ..).trans (same_shift ..)
   ·exact same_swap ..
theorem same_give (a : Are) (m : Mch) (p : Psh) : Same m (giveReady a m p).2.2.1 := by
 unfold giveReady
 split
 ·exact .refl m
 ·exact same_shift ..
theorem same_flush (a : Are) (m : Mch) (p : Psh) : Same m (flushStep a m p).2.2.1 := by
 unfold flushStep
 split
 ·exact same_push ..
 ·simp only []
  split <;> exact same_push ..
theorem same_takeReady (a : Are) (m : Mch) (t : Tak) : Same m (takeReady a m t).2.2.1 := by
 unfold takeReady
 simp only []
 split
 ·exact .refl m
 ·exact same_shift ..
theorem same_take (a : Are) (m : Mch) (t : Tak) : Same m (takeStep a m t).2.2.1 := by
 unfold takeStep
 split
 ·exact same_load ..
 ·split
  ·exact same_load ..
  ·simp only []
   split
   ·exact (same_swap ..).trans (same_shift ..)
   ·exact same_swap ..
theorem same_free (th : Int) : ∀ (l : List Int) (g : Option Psh) (a : Are) (m : Mch),Same m (freeLoop th l g a m).2.2.2.2
 | [],g,a,m => .refl m
 | s :: r,g,a,m => by
  unfold freeLoop
  split
  ·exact (same_give ..).trans (same_free th r _ _ _)
  ·exact same_give ..
theorem same_scan (h : Haz) (a : Are) (m : Mch) (s : Scn) : Same m (scanStep h a m s).2.2.2.1 := by
 unfold scanStep
 split
 ·simp only [scanTry]
  split <;> exact same_load ..
 ·split
  ·simp only [scanTake]
   split <;> exact same_swap ..
  ·split
   ·simp only [scanLeave];exact same_store ..
   ·split
    ·simp only [scanLook]
     split
     ·exact same_load ..
     ·exact (same_load m _ _).trans (same_free ..)
    ·split
     ·simp only [scanGive]
      split
      ·exact (same_push ..).trans (same_free ..)
      ·exact same_push ..
     ·exact .refl m
theorem same_retire (h : Haz) (a : Are) (m : Mch) (r : Ret) : Same m (retireReady h a m r).2.2.2.1 := by
 unfold retireReady
 simp only []
 split <;> exact same_shift ..
variable {i t : Nat} {c : Cll} {s : Sea} {m m' m'' : Mch}
theorem Same.curIn (k : Same m m') (h : CurIn m i t c s) : CurIn m' i t c s := ⟨k.cur ▸ h.cur,k.calls ▸ h.call,k.seats ▸ h.seat⟩
theorem Same.frame (k : Same m m') (h : CurIn m i t c s) : FrameM i t c s m m' :=
 ⟨k.cur,k.vs,k.vc,k.kit,k.moves,k.now,k.thread,⟨c.point,by rw [k.calls];exact (List.set_getElem?_self' h.call).symm⟩,⟨s.kind,s.value,by rw [k.seats];exact (List.set_getElem?_self' h.seat).symm⟩⟩
theorem frame_answer (h : CurIn m i t c s) (k v : Int) : FrameM i t c s m (m.answer t s k v) :=
 ⟨rfl,rfl,rfl,rfl,rfl,rfl,rfl,⟨c.point,(List.set_getElem?_self' h.call).symm⟩,⟨k,v,rfl⟩⟩
theorem frame_both (z k v : Int) : FrameM i t c s m ((m.point i c z).answer t s k v) :=
 ⟨rfl,rfl,rfl,rfl,rfl,rfl,rfl,⟨z,rfl⟩,⟨k,v,rfl⟩⟩
theorem Same.then (k : Same m m') (f : FrameM i t c s m' m'') : FrameM i t c s m m'' := by
 obtain ⟨z,hz⟩ := f.calls
 obtain ⟨x,y,hxy⟩ := f.seats
 exact ⟨f.cur.trans k.cur,f.vs.trans k.vs,f.vc.trans k.vc,f.kit.trans k.kit,f.moves.trans k.moves,f.now.trans k.now,f.thread.trans k.thread,⟨z,by rw [hz,k.calls]⟩,⟨x,y,by rw [hxy,k.seats]⟩⟩
theorem FrameM.same (f : FrameM i t c s m m') (k : Same m' m'') : FrameM i t c s m m'' := by
 obtain ⟨z,hz⟩ := f.calls
 obtain ⟨x,y,hxy⟩ := f.seats
 exact ⟨k.cur.trans f.cur,k.vs.trans f.vs,k.vc.trans f.vc,k.kit.trans f.kit,k.moves.trans f.moves,k.now.trans f.now,k.thread.trans f.thread,⟨z,by rw [k.calls,hz]⟩,⟨x,y,by rw [k.seats,hxy]⟩⟩
theorem frame_reg (h : Haz) (r : Reg) (hc : CurIn m i t c s) : FrameM i t c s m (regStep h m t s r).2.2.1 := by
 have hn : ∀ {m'} (k : Same m m'),FrameM i t c s m (regNext h m' t s r).2.2.1 := fun {m'} k => by
  unfold regNext
  split
  ·exact k.frame hc
  ·exact k.then (frame_answer (k.curIn hc) _ _)
 unfold regStep
 simp only []
 split
 ·split
  ·exact hn (same_load ..)
  ·exact (same_load ..).frame hc
 ·split
  ·exact (same_swap m _ _ _ _).then (frame_answer ((same_swap m _ _ _ _).curIn hc) _ _)
  ·exact hn (same_swap ..)
theorem frame_saw (r : Rdg) (u : Int) (hc : CurIn m i t c s) : FrameM i t c s m (readSaw m i t c s r u).2.1 := by
 unfold readSaw
 split
 ·exact frame_both ..
 ·exact (Same.refl m).frame hc
theorem frame_read (h : Haz) (r : Rdg) (hc : CurIn m i t c s) : FrameM i t c s m (readStep h m i t c s r).2.1 := by
 unfold readStep
 simp only []
 split
 ·exact (same_load m _ _).then (frame_saw _ _ ((same_load m _ _).curIn hc))
 ·split
  ·exact (same_store ..).frame hc
  ·split
   ·split
    ·exact (same_load ..).frame hc
    ·exact (same_load m _ _).then (frame_saw _ _ ((same_load m _ _).curIn hc))
   ·exact (same_load m _ _).then (frame_both ..)
theorem frame_unr (h : Haz) (a : Are) (u : Unr) (hc : CurIn m i t c s) : FrameM i t c s m (unregStep h a m u).2.2.2.1 := by
 unfold unregStep
 simp only []
 split
 ·split
  ·exact (same_store ..).frame hc
  ·split <;> exact (same_store ..).frame hc
 ·split
  ·split
   ·exact (Same.refl m).frame hc
   ·split <;> exact (same_scan ..).frame hc
  ·split
   ·split
    ·exact (Same.refl m).frame hc
    ·exact (same_flush ..).frame hc
   ·exact (same_store ..).frame hc
theorem frame_took (p : Pst) (k : Tak) (hc : CurIn m i t c s) : FrameM i t c s m (postTook m i t c s p k).2.1 := by
 unfold postTook
 split
 ·exact frame_both ..
 ·exact (Same.refl m).frame hc
theorem frame_postReady (a : Are) (p : Pst) (hc : CurIn m i t c s) : FrameM i t c s m (postReady a m i t c s p).2.2.1 := by
 unfold postReady
 simp only []
 split
 ·exact (same_takeReady a m _).then (frame_took _ _ ((same_takeReady a m _).curIn hc))
 ·exact (same_takeReady ..).frame hc
theorem frame_done (h : Haz) (a : Are) (p : Pst) (z : Int) : FrameM i t c s m (postDone h a m i t c s p z).2.2.2.1 := by
 unfold postDone
 simp only []
 split
 ·exact (frame_both ..).same (same_shift ..)
 ·exact ((frame_both ..).same (same_shift ..)).same ((same_shift ..).trans (same_retire ..))
theorem frame_post (h : Haz) (a : Are) (p : Pst) (hc : CurIn m i t c s) : FrameM i t c s m (postStep h a m i t c s p).2.2.2.1 := by
 unfold postStep
 split
 ·exact (Same.refl m).frame hc
 ·simp only []
  split
  ·split
   ·exact (same_take a m _).then (frame_took _ _ ((same_take a m _).curIn hc))
   ·exact (same_take ..).frame hc
  ·split
   ·exact (same_store ..).frame hc
   ·split
    ·exact (same_load ..).frame hc
    ·split
     ·split
      ·exact (same_swap m _ _ _ _).then (frame_done ..)
      ·exact (same_swap ..).frame hc
     ·split
      ·exact (Same.refl m).frame hc
      ·split
       ·exact (Same.refl m).frame hc
       ·exact (same_scan ..).frame hc
end Go.Proofs.YtegafhhdegnigaaGreat
end
/-
  The hazards' calls, as the machine's tasks.
-/
section
namespace Go.Proofs.YtegafhhdegnigaaGreat
open Go.RowKit Hp
set_option maxRecDepth 100000
set_option maxHeartbeats 1000000
attribute [local irreducible] Go.Calls
inductive HTask where
 | reg (r : Reg)
 | unr (u : Unr)
 | pst (p : Pst)
 | rdg (r : Rdg)
 | clr (ad : Nat)
 | scn (s : Scn)
def ifR (ty : TypeId) (G : Nat → SProp) (v : Value) : SProp := ex fun g => pu (v = .iface ty (.pointer (some ⟨g,0,none⟩))) * G g
theorem ifR_iff {ty : TypeId} {G : Nat → SProp} {v : Value} {O w : World} {F : SProp} : Sat O w (ifR ty G v * F) ↔ ∃ g,v = .iface ty (.pointer (some ⟨g,0,none⟩)) ∧ Sat O w (G g * F) := by
 unfold ifR
 simp only [sat_ex,mul_assoc',sat_pu]
def htR (bh ba : Nat) : HTask → Value → SProp
 | .reg r => ifR 180 fun g => RegR g bh r
 | .unr u => ifR 183 fun g => UnrR g bh ba u
 | .pst p => ifR 187 fun g => PstR g bh ba p
 | .rdg r => ifR 191 fun g => RdgR g bh r
 | .clr ad => ifR 194 fun g => ClrR g ad
 | .scn s => ifR 97 fun g => ScnR g bh ba s
def htReady (s : Haz × Are) (m : Mch) (i t : Nat) (c : Cll) (se : Sea) : HTask → Bool × (Haz × Are) × Mch × HTask
 | .pst p => ((postReady s.2 m i t c se p).1,(s.1,(postReady s.2 m i t c se p).2.1),(postReady s.2 m i t c se p).2.2.1,.pst (postReady s.2 m i t c se p).2.2.2)
 | .scn x => ((scanReady s.1 x).1,s,m,.scn (scanReady s.1 x).2)
 | k => (false,s,m,k)
def htStep (s : Haz × Are) (m : Mch) (i t : Nat) (c : Cll) (se : Sea) : HTask → Bool × (Haz × Are) × Mch × HTask
 | .reg r => ((regStep s.1 m t se r).1,((regStep s.1 m t se r).2.1,s.2),(regStep s.1 m t se r).2.2.1,.reg (regStep s.1 m t se r).2.2.2)
 | .unr u => ((unregStep s.1 s.2 m u).1,((unregStep s.1 s.2 m u).2.1,(unregStep s.1 s.2 m u).2.2.1),(unregStep s.1 s.2 m u).2.2.2.1,.unr (unregStep s.1 s.2 m u).2.2.2.2)
 | .pst p => ((postStep s.1 s.2 m i t c se p).1,((postStep s.1 s.2 m i t c se p).2.1,(postStep s.1 s.2 m i t c se p).2.2.1),(postStep s.1 s.2 m i t c se p).2.2.2.1,.pst (postStep s.1 s.2 m i t c se p).2.2.2.2)
 | .rdg r => ((readStep s.1 m i t c se r).1,s,(readStep s.1 m i t c se r).2.1,.rdg (readStep s.1 m i t c se r).2.2)
 | .clr ad => (true,s,m.store ad (m.word ad) 0,.clr ad)
 | .scn x => ((scanStep s.1 s.2 m x).1,((scanStep s.1 s.2 m x).2.1,(scanStep s.1 s.2 m x).2.2.1),(scanStep s.1 s.2 m x).2.2.2.1,.scn (scanStep s.1 s.2 m x).2.2.2.2)
def htOkr (s : Haz × Are) (m : Mch) (_t : Nat) : HTask → Prop
 | .pst p => HazOk s.1 s.2 m ∧ 0 ≤ p.thread ∧ p.thread < s.1.c.T
 | .scn x => HazOk s.1 s.2 m ∧ 0 ≤ x.record ∧ x.record < s.1.c.R
 | _ => True
def htOks (s : Haz × Are) (m : Mch) (_t : Nat) : HTask → Prop
 | .reg r => HazOk s.1 s.2 m ∧ 0 ≤ r.thread ∧ r.thread < s.1.c.T ∧ 0 ≤ r.i ∧ r.i < s.1.c.R
 | .unr u => UnrOk s.1 s.2 m u
 | .pst p => ∃ k,PstOk s.1 s.2 m p k
 | .rdg r => ReadOk s.1 s.2 m r
 | .clr ad => m.May ad
 | .scn x => ScanOk s.1 s.2 m x
def hzT (bh ba : Nat) (CX : SProp) : Tasks (Haz × Are) HTask where
 X s := HazR bh ba s.1 * (AreR ba s.2 * CX)
 R := htR bh ba
 rdy := htReady
 stp := htStep
 okr := htOkr
 oks := htOks
theorem dyn_if {f : FuncId} {ty : TypeId} {name : String} {d : Value} {G G' : Nat → SProp} {Y Y' Z XD XD' : SProp} {b : Bool} {v : Value}
  (h : ∀ g,Gives Tryz.prog f #[.pointer (some ⟨g,0,none⟩),d] (G g * Y) (.bool b) (G' g * Y'))
  (hr : ∀ g w,(callMethod (.iface ty (.pointer (some ⟨g,0,none⟩))) name #[d]).run Tryz.prog w = .ok (.enter f #[.pointer (some ⟨g,0,none⟩),d]) w)
  (hA : XD = Y * Z) (hB : XD' = Y' * Z) :
  Dyn Tryz.prog (callMethod v name #[d]) (ifR ty G v * XD) (fun u => pu (u = .bool b) * (ifR ty G' v * XD')) := by
 intro O w F hs
 subst hA hB
 rw [mul_assoc'] at hs
 obtain ⟨g,rfl,hs1⟩ := ifR_iff.1 hs
 refine ⟨f,_,hr g w,((h g) O w (Z * F) (hs1.cast (by ac_rfl))).mono ?_⟩
 rintro e w' ⟨rfl,hs'⟩
 refine ⟨_,rfl,?_⟩
 simp only [mul_assoc',sat_pu]
 exact ⟨trivial,ifR_iff.2 ⟨g,rfl,hs'.cast (by ac_rfl)⟩⟩
theorem reg_ready (g d : Nat) : Gives Tryz.prog 209 #[.pointer (some ⟨g,0,none⟩),.pointer (some ⟨d,0,none⟩)] emp (.bool false) emp := by
 intro O w F hs
 go_enter Tryz.func209,Tryz.ntmps209
 go_wp2_with (fail)
 (go_ret)
 exact ⟨rfl,hs⟩
theorem unr_ready (g d : Nat) : Gives Tryz.prog 212 #[.pointer (some ⟨g,0,none⟩),.pointer (some ⟨d,0,none⟩)] emp (.bool false) emp := by
 intro O w F hs
 go_enter Tryz.func212,Tryz.ntmps212
 go_wp2_with (fail)
 (go_ret)
 exact ⟨rfl,hs⟩
theorem rdg_ready (g d : Nat) : Gives Tryz.prog 230 #[.pointer (some ⟨g,0,none⟩),.pointer (some ⟨d,0,none⟩)] emp (.bool false) emp := by
 intro O w F hs
 go_enter Tryz.func230,Tryz.ntmps230
 go_wp2_with (fail)
 (go_ret)
 exact ⟨rfl,hs⟩
theorem clr_ready (g d : Nat) : Gives Tryz.prog 234 #[.pointer (some ⟨g,0,none⟩),.pointer (some ⟨d,0,none⟩)] emp (.bool false) emp := by
 intro O w F hs
 go_enter Tryz.func234,Tryz.ntmps234
 go_wp2_with (fail)
 (go_ret)
 exact ⟨rfl,hs⟩
theorem gives_emp {f : FuncId} {args : Array Value} {v : Value} (h : Gives Tryz.prog f args emp v emp) (R : SProp) : Gives Tryz.prog f args R v R := by
 have := h.frame R
 rwa [emp_mul] at this
theorem pst_ready_ok {s : Haz × Are} {m : Mch} {p : Pst} (h : HazOk s.1 s.2 m ∧ 0 ≤ p.thread ∧ p.thread < s.1.c.T) (g bh ba d bx bm : Nat) {i t : Nat} {c : Cll} {se : Sea} (hc : CurIn m i t c se) :
  Gives Tryz.prog 219 #[.pointer (some ⟨g,0,none⟩),.pointer (some ⟨d,0,none⟩)] (PstR g bh ba p * (HazR bh ba s.1 * (AreR ba s.2 * DkR d bx bm m))) (.bool (postReady s.2 m i t c se p).1)
   (PstR g bh ba (postReady s.2 m i t c se p).2.2.2 * (HazR bh ba s.1 * (AreR ba (postReady s.2 m i t c se p).2.1 * DkR d bx bm (postReady s.2 m i t c se p).2.2.1))) := by
 obtain ⟨hz,h0,h1⟩ := h
 obtain ⟨x,hx,hxl,hin⟩ := hz.cache h0 h1
 have hok := hz.ok
 have hS := hz.sh
 have hsl : s.2.slots.length = s.2.c.Sl.toNat := by have := hok.slots;omega
 have hS1 := hok.c.S1
 have hS2 := hok.c.S2
 have hk : -1 ≤ tookSlot (takeReady s.2 m ⟨p.thread,1,0,0,0,false⟩).2.2.2 ∧ tookSlot (takeReady s.2 m ⟨p.thread,1,0,0,0,false⟩).2.2.2 ≤ 2147483646 := by
  unfold takeReady
  have hd : s.2.caches.getD p.thread.toNat [] = x := by rw [List.getD_eq_getElem?_getD,hx];rfl
  simp only [hd]
  split
  ·simp [tookSlot]
  ·rename_i hne
   simp only [takeGot,tookSlot,if_true]
   have hlt : x.length - 1 < x.length := by omega
   have hm : x.getD (x.length - 1) 0 ∈ x := by
    rw [List.getD_eq_getElem?_getD,List.getElem?_eq_getElem hlt];simp
   have := hin _ hm
   omega
 exact post_ready g bh ba d bx bm s.1 s.2 m i t c se p p.thread.toNat x (by omega) hx hin (by omega) (by omega) (by omega) ((same_takeReady ..).curIn hc) hk.2 hk.1
theorem hzT_good (bh ba : Nat) (CX : SProp) : (hzT bh ba CX).Good where
 iface := by
  intro O w k v F hs
  cases k <;> (obtain ⟨g,rfl,_⟩ := ifR_iff.1 hs;exact ⟨_,_,rfl⟩)
 cr := by
  intro d bx bm s m i t c se k v hok hc
  cases k with
  | reg r => exact dyn_if (fun g => gives_emp (reg_ready g d) _) (fun g w => by kernel_rfl) (Y := emp) (Y' := emp) (emp_mul _).symm (emp_mul _).symm
  | unr u => exact dyn_if (fun g => gives_emp (unr_ready g d) _) (fun g w => by kernel_rfl) (Y := emp) (Y' := emp) (emp_mul _).symm (emp_mul _).symm
  | rdg r => exact dyn_if (fun g => gives_emp (rdg_ready g d) _) (fun g w => by kernel_rfl) (Y := emp) (Y' := emp) (emp_mul _).symm (emp_mul _).symm
  | clr ad => exact dyn_if (fun g => gives_emp (clr_ready g d) _) (fun g w => by kernel_rfl) (Y := emp) (Y' := emp) (emp_mul _).symm (emp_mul _).symm
  | pst p => exact dyn_if (Z := CX) (fun g => pst_ready_ok hok g bh ba d bx bm hc) (fun g w => by kernel_rfl) (by simp only [hzT];ac_rfl) (by simp only [hzT,htReady];ac_rfl)
  | scn x =>
   obtain ⟨hz,h0,h1⟩ := hok
   obtain ⟨y,hy,_⟩ := hz.list h0 h1
   exact dyn_if (Z := AreR ba s.2 * (CX * DkR d bx bm m)) (fun g => scan_ready g bh ba (.pointer (some ⟨d,0,none⟩)) s.1 x x.record.toNat y (by omega) hy (by have := hz.ok.c.R2;rw [hz.c];omega)) (fun g w => by kernel_rfl) (by simp only [hzT];ac_rfl) (by simp only [hzT,htReady];ac_rfl)
 cs := by
  intro d bx bm s m i t c se k v hok hc
  cases k with
  | reg r => exact dyn_if (Z := AreR ba s.2 * CX) (fun g => reg_step g bh ba d bx bm s.1 s.2 m r i t c se hok.1 hc hok.2.1 hok.2.2.1 hok.2.2.2.1 hok.2.2.2.2) (fun g w => by kernel_rfl) (by simp only [hzT];ac_rfl) (by simp only [hzT,htStep];ac_rfl)
  | unr u => exact dyn_if (Z := CX) (fun g => unreg_step g bh ba d bx bm s.1 s.2 m u hok) (fun g w => by kernel_rfl) (by simp only [hzT];ac_rfl) (by simp only [hzT,htStep];ac_rfl)
  | rdg r => exact dyn_if (Z := AreR ba s.2 * CX) (fun g => read_step g bh ba d bx bm s.1 s.2 m i t c se r hok hc) (fun g w => by kernel_rfl) (by simp only [hzT];ac_rfl) (by simp only [hzT,htStep];ac_rfl)
  | clr ad => exact dyn_if (Z := HazR bh ba s.1 * (AreR ba s.2 * CX)) (fun g => clr_step g d bx bm m ad hok) (fun g w => by kernel_rfl) (by simp only [hzT];ac_rfl) (by simp only [hzT,htStep];ac_rfl)
  | pst p =>
   obtain ⟨k,hok⟩ := hok
   exact dyn_if (Z := CX) (fun g => post_step g bh ba d bx bm s.1 s.2 m i t c se p k hok hc) (fun g w => by kernel_rfl) (by simp only [hzT];ac_rfl) (by simp only [hzT,htStep];ac_rfl)
  | scn x => exact dyn_if (Z := CX) (fun g => scan_step g bh ba d bx bm s.1 s.2 m x hok) (fun g w => by kernel_rfl) (by simp only [hzT];ac_rfl) (by simp only [hzT,htStep];ac_rfl)
 fr := by
  intro s m i t c se k hc
  cases k with
  | pst p => exact frame_postReady _ _ hc
  | scn x => exact (Same.refl m).frame hc
  | _ => exact (Same.refl m).frame hc
 fs := by
  intro s m i t c se k hc
  cases k with
  | reg r => exact frame_reg _ _ hc
  | unr u => exact frame_unr _ _ _ hc
  | pst p => exact frame_post _ _ _ hc
  | rdg r => exact frame_read _ _ hc
  | clr ad => exact (same_store ..).frame hc
  | scn x => exact (same_scan ..).frame hc
end Go.Proofs.YtegafhhdegnigaaGreat
end
