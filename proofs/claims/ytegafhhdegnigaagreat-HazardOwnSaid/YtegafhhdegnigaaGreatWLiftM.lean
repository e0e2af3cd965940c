/-
  Every move leads somewhere; what holds of a script's run.
-/
import Derived.Test.YtegafhhdegnigaaGreatWFit
import Derived.Test.YtegafhhdegnigaaGreatWHist3
import Derived.Test.YtegafhhdegnigaaGreatWNew2
import Derived.Test.YtegafhhdegnigaaGreatWPlay
import Derived.Test.YtegafhhdegnigaaGreatRows
import Derived.Test.YtegafhhdegnigaaGreatWLaws
import Derived.ProofKit
import Derived.OpenShut
import Derived.Carry
import Derived.Deep.Fields
import Derived.Test.YtegafhhdegnigaaGreatWMach2
import Derived.Deep.SlicePairs
set_option linter.all false
section
namespace Go.Proofs.YtegafhhdegnigaaGreat
open Go.RowKit Hp
set_option maxRecDepth 100000
set_option maxHeartbeats 1000000
attribute [local irreducible] Go.Calls
theorem move_total {c : Cfg} {n : Nat} {y : HW} (P : PI c n y) (bh ba : Nat) (CX : SProp) (x : Caps) (mv : Mv) : ∃ b y',MoveTo (hzT bh ba CX) (kitFn x) kitTask y mv b y' := by
  by_cases hth : mv.thread < 0 ∨ (y.tasks.length : Int) ≤ mv.thread
  · exact ⟨_,_,.out hth⟩
  have hlt : mv.thread.toNat < y.tasks.length := by omega
  have ht : mv.thread = (mv.thread.toNat : Int) := by omega
  generalize mv.thread.toNat = t at hlt ht
  obtain ⟨o,ho⟩ : ∃ o,y.tasks[t]? = some o := ⟨_,List.getElem?_eq_getElem hlt⟩
  have hlt2 : t < y.m.seats.length := by rw [P.seats,← P.tasks];exact hlt
  obtain ⟨se,hse⟩ : ∃ se,y.m.seats[t]? = some se := ⟨_,List.getElem?_eq_getElem hlt2⟩
  cases o with
  | none =>
    by_cases hop : mv.op = 0
    · exact ⟨_,_,.idle t ht hop ho⟩
    · cases hK : kitFn x mv.op with
      | none => exact ⟨_,_,.nokit t ht hop ho hK⟩
      | some u =>
        have hKn : kitFn x mv.op ≠ none := by rw [hK];simp
        cases hmk : kitTask y.s t mv with
        | none => exact ⟨_,_,.refused t ht hop ho hKn hmk⟩
        | some k => exact ⟨_,_,.begin_ t k .nilIface .nilIface ht hop ho hKn hmk⟩
  | some k =>
    by_cases hop : mv.op = 0
    · obtain ⟨⟨i,e1,e2⟩,_⟩ := P.task t k se ho hse
      exact ⟨_,_,.step t i _ se k ht hop ho hse e1 (List.getElem?_eq_getElem e2)⟩
    · exact ⟨_,_,.busy t k ht hop ho⟩
theorem RunOk.start {c : Cfg} (hok : c.Ok) (km : Nat) (vs : Value) : RunOk c 0 (wst0 c km vs) := by
  have hS := hok.S1
  refine ⟨by simp [wst0,mch0],Pw.nil,Pw.nil,Pw.nil,by simp [wst0,mch0],rfl,by simp [wst0,are0];omega,by simp [wst0,mch0],by simp [wst0,mch0],rfl,by simp [wst0,mch0],by simp [wst0,mch0],by simp [wst0,mch0],rfl,by simp [wst0,mch0],by simp [wst0,mch0],?_,by simp [wst0,mch0]⟩
  intro t k se hk _
  simp only [wst0] at hk
  have := (List.mem_replicate.1 (List.mem_of_getElem? hk)).2
  cases this
structure Beh (c : Cfg) (mvs : List Mv) (y : HW) : Prop where
  pi : PI c mvs.length y
  ok : RunOk c mvs.length y
  er : y.er = runE c mvs
theorem beh_ex {c : Cfg} (hok : c.Ok) (mvs : List Mv) (hl : mvs.length ≤ 65536) : ∃ y,Beh c mvs y := by
  have : ∀ k,k ≤ mvs.length → ∃ y,Beh c (mvs.take k) y := by
    intro k
    induction k with
    | zero =>
      intro _
      exact ⟨wst0 c 0 .nilIface,by simpa using PI.start hok 0 .nilIface,by simpa using RunOk.start hok 0 .nilIface,by simp only [List.take_zero];show _ = e0 c;simp only [e0,Wst.er,wst0,Mch.er,mch0]⟩
    | succ k ih =>
      intro hk
      obtain ⟨y,P,R,e⟩ := ih (by omega)
      have hlk : (mvs.take k).length = k := by simp;omega
      have hlk1 : (mvs.take (k + 1)).length = k + 1 := by simp;omega
      rw [hlk] at P R
      obtain ⟨mv,hmv⟩ : ∃ mv,mvs[k]? = some mv := ⟨_,List.getElem?_eq_getElem (by omega)⟩
      obtain ⟨b,y',hm⟩ := move_total P 0 0 emp ⟨0,0,0,0,0,0⟩ mv
      exact ⟨y',by rw [hlk1];exact P.move (by omega) hm,by rw [hlk1];exact R.move P (by omega) hm,by rw [runE_take hmv,← e];exact (moveE_of hm).1⟩
  obtain ⟨y,h⟩ := this mvs.length (Nat.le_refl _)
  rw [List.take_length] at h
  exact ⟨y,h⟩
theorem Beh.calls {c : Cfg} {mvs : List Mv} {y : HW} (h : Beh c mvs y) : y.m.calls = (runE c mvs).m.calls := by rw [← h.er];rfl
theorem Beh.log {c : Cfg} {mvs : List Mv} {y : HW} (h : Beh c mvs y) : y.m.mem.log = (runE c mvs).m.mem.log := by rw [← h.er];rfl
theorem Beh.shifts {c : Cfg} {mvs : List Mv} {y : HW} (h : Beh c mvs y) : y.m.shifts = (runE c mvs).m.shifts := by rw [← h.er];rfl
theorem Beh.words {c : Cfg} {mvs : List Mv} {y : HW} (h : Beh c mvs y) : y.m.mem.words = (runE c mvs).m.mem.words := by rw [← h.er];rfl
end Go.Proofs.YtegafhhdegnigaaGreat
end
/-
  The references of layer 1.
-/
section
namespace Go.Proofs.YtegafhhdegnigaaGreat
open Go.RowKit Hp
set_option maxRecDepth 100000
set_option maxHeartbeats 1000000
attribute [local irreducible] Go.Calls
theorem ref_many (c : Cfg) (h : c.Ok) (r : Nat) (h1 : 1 ≤ r) (h2 : r ≤ 13) : Gives Tryz.prog 73 #[c.v,.int .i64 (r : Int)] emp (.int .i64 (many c r)) emp := by
  intro O w F hs
  obtain ⟨g1,g2⟩ := h.rh
  have hw : wrap64 (c.R * c.Hz) = c.R * c.Hz := by unfold wrap64;omega
  have hr : r = 1 ∨ r = 2 ∨ r = 3 ∨ r = 4 ∨ r = 5 ∨ r = 6 ∨ r = 7 ∨ r = 8 ∨ r = 9 ∨ r = 10 ∨ r = 11 ∨ r = 12 ∨ r = 13 := by omega
  rcases hr with rfl | rfl | rfl | rfl | rfl | rfl | rfl | rfl | rfl | rfl | rfl | rfl | rfl
  all_goals
    go_enter Tryz.func73,Tryz.ntmps73
    go_wp2_with (first | ((with_reducible apply wl_ld hs);infer_instance;rfl;(with_reducible exact Qh);rfl;rfl;(simp only [Uc,Uz])) | ((with_reducible apply wl_box hs);rfl;rfl;rfl;clear hs;intro w b hs;(simp only [Uc,Uz])))
    (go_ret)
    exact ⟨by simp [many,hw],by ((with_reducible apply Sat.fin hs);(focus with_reducible (repeat first | exact Ql | exact Qn | apply Qb | apply Qk);done))⟩
theorem ref_base (c : Cfg) (h : c.Ok) (r : Nat) (h1 : 1 ≤ r) (h2 : r ≤ 13) : Gives Tryz.prog 23 #[c.v,.int .i64 (r : Int)] emp (.int .i64 (base c r)) emp := by
  intro O w F hs
  have hM := Lib.hid (ref_many c h)
  go_enter Tryz.func23,Tryz.ntmps23
  go_wp2_with ((with_reducible apply wl_box hs);rfl;rfl;rfl;clear hs;intro w b hs;(simp only [Uc,Uz]))
  (obtain ⟨A,hA,hsn⟩ : ∃ A,Hid (A = _) ∧ Sat O w A := ⟨_,Lib.hid rfl,hs⟩;clear hs;have hs := hsn;clear hsn)
  go_loopw [5,6] (fun a q wr => ∃ k : Nat,1 ≤ k ∧ k ≤ r ∧ q = .int .i64 (k : Int) ∧ a = .int .i64 (base c k) ∧ Sat O wr A) (fun _ q _ => 15 - (intOf q).toNat)
  case atStart => exact ⟨1,by omega,by omega,rfl,rfl,hs⟩
  case round =>
    obtain ⟨k,k1,k2,rfl,rfl,hs⟩ := hrel
    have hb := base_le h k
    have hmk := many_le h k
    have e1 := base_succ c _ k1
    rw [hA.out] at hs
    by_cases hkr : k = r
    · subst hkr
      have hlt : decide ((k : Int) < (k : Int)) = false := by simp
      have hlt2 : decide (k < k) = false := by simp
      go_wp2_with (fail)
      (go_ret)
      exact ⟨rfl,by ((with_reducible apply Sat.fin hs);(focus with_reducible (repeat first | exact Ql | exact Qn | apply Qb | apply Qk);done))⟩
    · have hlt : decide ((k : Int) < (r : Int)) = true := by simp;omega
      have hlt2 : decide (k < r) = true := by simp;omega
      have hM1 := Lib.hid (hM.out k k1 (by omega))
      go_wp2_with (first | ((with_reducible apply wl_ldF hs);infer_instance;rfl;(with_reducible exact Qh);rfl;rfl;(simp only [Uc,Uz])) | (go_at_call 73;((refine (hM1.out).at hs (by (focus ((repeat (with_reducible exact Qn));done))) ?_);clear hs;intro w hs;(try simp only [emp_mul,mul_assoc'] at hs))))
      go_roundw
      case rel => exact ⟨k + 1,by omega,by omega,by simp,by rw [e1],by rw [hA.out];((with_reducible apply Sat.fin hs);(focus with_reducible (repeat first | exact Ql | exact Qh | exact Qn | apply Qb);done))⟩
      case measure => simp [intOf];omega
theorem ref_size (c : Cfg) (h : c.Ok) : Gives Tryz.prog 22 #[c.v] emp (.int .i64 (base c 14)) emp := by
  intro O w F hs
  have hB := Lib.hid (ref_base c h 13 (by omega) (by omega))
  have hb := base_le h 13
  have h2 := h.S1;have h3 := h.S2
  have e : base c 14 = base c 13 + c.Sl := rfl
  have hw : wrap64 (base c 13 + c.Sl) = base c 14 := by unfold wrap64;omega
  go_enter Tryz.func22,Tryz.ntmps22
  go_wp2_with (first | (first | (first | (with_reducible refine NQ.mk ?_) | ((with_reducible apply pl_neu);rfl;rfl) | ((with_reducible apply pl_eff);rfl) | (with_reducible refine EQ.mk ?_ ?_) | (first | (with_reducible exact chk_nil) | ((with_reducible refine chk_cons ?_ ?_);(focus ((with_reducible apply pl_chk);rfl;rfl)))) | (with_reducible refine pl_end ?_) | (show SameA _ _ _;rfl)) | ((with_reducible apply wl_ld hs);infer_instance;rfl;(with_reducible exact Qh);rfl;rfl;(simp only [Uc,Uz])) | ((with_reducible apply wl_ldF hs);infer_instance;rfl;(with_reducible exact Qh);rfl;rfl;(simp only [Uc,Uz])) | ((with_reducible apply wl_box hs);rfl;rfl;rfl;clear hs;intro w b hs;(simp only [Uc,Uz]))) | (go_at_call 23;((refine (hB.out).at hs (by (focus ((repeat (with_reducible exact Qn));done))) ?_);clear hs;intro w hs;(try simp only [emp_mul,mul_assoc'] at hs))) | ((with_reducible refine wp_plan_sat (id := 1) [.neu 0,.neu 2,.neu 3,.eff 1 [2,3],.neu 4,.neu 5] hs rfl ?_ ?_);kernel_rfl;clear hs;intro w hs))
  (go_ret)
  exact ⟨by simp [e],by ((with_reducible apply Sat.fin hs);(focus with_reducible (repeat first | exact Ql | exact Qn | apply Qb | apply Qk);done))⟩
theorem ref_packLink (s : Int) (h0 : -1 ≤ s) (h1 : s ≤ 2147483646) : Gives Tryz.prog 54 #[.int .i64 s,.bool false] emp (.int .u64 (s + 1)) emp := by
  intro O w F hs
  go_enter Tryz.func54,Tryz.ntmps54
  go_wp2_with (fail)
  (go_ret)
  exact ⟨rfl,by ((with_reducible apply Sat.fin hs);(with_reducible exact Ql))⟩
theorem ref_packHead (t s : Int) (t0 : 0 ≤ t) (h0 : -1 ≤ s) (h1 : s ≤ 2147483646) : Gives Tryz.prog 92 #[.int .u64 t,.int .i64 s] emp (.int .u64 (t % 4294967296 * 4294967296 + (s + 1))) emp := by
  intro O w F hs
  go_enter Tryz.func92,Tryz.ntmps92
  go_wp2_with (fail)
  (go_ret)
  exact ⟨rfl,by ((with_reducible apply Sat.fin hs);(with_reducible exact Ql))⟩
theorem ref_first0 (c : Cfg) (h : c.Ok) : Does Tryz.prog 39 #[c.v,.int .i64 0] emp (fun v => sl 57 1 ((firstW c 0).map eU) v) := by
  intro O w F hs
  have hS := Lib.hid (ref_size c h)
  have hb10 := base_le h 10
  have hA := Lib.hid (ref_base c h 10 (by omega) (by omega))
  have hPH := ref_packHead 0 0 (by omega) (by omega) (by omega)
  rw [show (0 % 4294967296 * 4294967296 + (0 + 1) : Int) = 1 from rfl] at hPH
  have hPH := Lib.hid hPH
  obtain ⟨hc1,hc2⟩ := base_cells h
  have hb14 := base_le h 14
  have hs1 := h.S1
  have hs2 := h.S2
  have n2 : decide (0 < c.Sl) = true := by simp;omega
  obtain ⟨W0,hW0⟩ : ∃ W0 : List Int,W0 = List.replicate (base c 14).toNat 0 := ⟨_,rfl⟩
  have hrep : List.replicate (base c 14).toNat (Value.int .u64 0).cells.toList = W0.map eU := by rw [hW0,List.map_replicate];rfl
  have hlen : W0.length = (base c 14).toNat := by rw [hW0];simp
  have hl0 : 0 < W0.length := by omega
  have hg0 : W0[0]? = some 0 := by rw [hW0];simp [List.getElem?_replicate];omega
  have hfin : firstW c 0 = fillW (W0.set 0 1) (base c 10) 0 (c.Sl.toNat - 1) := by
    simp only [firstW]
    rw [if_neg (by omega),if_pos (by show (0 : Int) < c.Sl;omega),← hW0]
    rfl
  have hfin := Lib.hid hfin
  have hW0 := Lib.hid hW0
  go_enter Tryz.func39,Tryz.ntmps39
  go_wp2_with (first | (first | ((with_reducible apply wl_ld hs);infer_instance;rfl;(focus with_reducible (repeat first | exact Qh | apply Qk);done);rfl;rfl;(simp only [Uc,Uz])) | ((with_reducible apply wl_ldF hs);infer_instance;rfl;(with_reducible exact Qh);rfl;rfl;(simp only [Uc,Uz])) | ((with_reducible apply wl_box hs);rfl;rfl;rfl;clear hs;intro w b hs;(simp only [Uc,Uz])) | ((with_reducible apply wl_stS0 hs);infer_instance;rfl;rfl;assumption;(with_reducible exact Qh);rfl;(exact map_get (by assumption));(exact Vb rfl);(rfl);rfl;clear hs;intro w hs) | ((with_reducible apply wl_ia hs);infer_instance;infer_instance;rfl;rfl;(with_reducible exact Qh);(rfl);(simp only [Wm,Ws,Wa,Wc,Wn,Wr] at *;omega);rfl;intro b off hat;(simp only [Uc,Uz]))) | (((with_reducible apply wl_mk hs);infer_instance;infer_instance;rfl;rfl;rfl;rfl;(exact (Int.toNat_of_nonneg (by omega)).symm);omega;(exact Vb rfl);rfl;clear hs;intro w v hs;(simp only [Uc,Uz]));rw [hrep] at hs) | (go_at_call 22;((refine (hS.out).at hs (by (focus ((repeat (with_reducible exact Qn));done))) ?_);clear hs;intro w hs;(try simp only [emp_mul,mul_assoc'] at hs))) | (go_at_call 92;((refine (hPH.out).at hs (by (focus ((repeat (with_reducible exact Qn));done))) ?_);clear hs;intro w hs;(try simp only [emp_mul,mul_assoc'] at hs))))
  have e0 : (List.map eU W0).set 0 ((eU 0).set 0 (Value.int IntKind.u64 1)) = (fillW (W0.set 0 1) (base c 10) 0 0).map eU := by simp [fillW,List.map_set]
  rw [e0] at hs
  have hlW : ∀ n,(fillW (W0.set 0 1) (base c 10) 0 n).length = (base c 14).toNat := fun n => by rw [fillW_len,List.length_set,hlen]
  obtain ⟨T,hT,hs⟩ : ∃ T,Hid (T = _) ∧ Sat O w (sl 57 1 ((fillW (W0.set 0 1) (base c 10) 0 0).map eU) v * T) := ⟨_,Lib.hid rfl,hs.pull (by (with_reducible exact Qh))⟩
  clear hg0 hl0 e0 n2
  simp only [Nat.zero_mul,Nat.add_zero]
  go_loopw [6] (fun q wr => ∃ n : Nat,(n : Int) + 1 ≤ c.Sl ∧ q = .int .i64 (n : Int) ∧ Sat O wr (sl 57 1 ((fillW (W0.set 0 1) (base c 10) 0 n).map eU) v * T)) (fun q _ => 1025 - (intOf q).toNat)
  case atStart => exact ⟨0,by omega,rfl,hs⟩
  case round =>
    obtain ⟨n,k1,rfl,hs⟩ := hrel
    rw [hT.out] at hs
    have hl := hlW n
    by_cases hkr : (n : Int) + 1 = c.Sl
    · have hlt : decide ((n : Int) + 1 < c.Sl) = false := by simp;omega
      go_wp2_with ((with_reducible apply wl_ld hs);infer_instance;rfl;(focus with_reducible (repeat first | exact Qh | apply Qk);done);rfl;rfl;(simp only [Uc,Uz]))
      (go_ret)
      refine ⟨_,rfl,?_⟩
      rw [hfin.out,show c.Sl.toNat - 1 = n by omega]
      ((with_reducible apply Sat.fin hs);(focus ((repeat (first | with_reducible exact Ql | with_reducible apply Qb | exact Qh | with_reducible apply Qk));done)))
    · have hlt : decide ((n : Int) + 1 < c.Sl) = true := by simp;omega
      have hPL := Lib.hid (ref_packLink ((n : Int) + 1) (by omega) (by omega))
      have hix : base c 10 + (n : Int) < ((fillW (W0.set 0 1) (base c 10) 0 n).length : Int) := by rw [hl];omega
      have hi2 : (base c 10 + (n : Int)).toNat < (fillW (W0.set 0 1) (base c 10) 0 n).length := by omega
      obtain ⟨x,hx⟩ : ∃ x,(fillW (W0.set 0 1) (base c 10) 0 n)[(base c 10 + (n : Int)).toNat]? = some x := ⟨_,List.getElem?_eq_getElem hi2⟩
      have hw1 : wrap64 (base c 10 + (n : Int)) = base c 10 + (n : Int) := by unfold wrap64;omega
      have hw2 : wrap64 ((n : Int) + 1) = (n : Int) + 1 := by unfold wrap64;omega
      go_wp2_with (first | (first | ((with_reducible apply wl_ld hs);infer_instance;rfl;(focus with_reducible (repeat first | exact Qh | apply Qk);done);rfl;rfl;(simp only [Uc,Uz])) | ((with_reducible apply wl_ldF hs);infer_instance;rfl;(focus with_reducible (repeat first | exact Qh | apply Qk);done);rfl;rfl;(simp only [Uc,Uz])) | ((with_reducible apply wl_stS0 hs);infer_instance;rfl;rfl;assumption;(with_reducible exact Qh);rfl;(exact map_get (by assumption));(exact Vb rfl);(rfl);rfl;clear hs;intro w hs) | ((with_reducible apply wl_ia2 hs);infer_instance;infer_instance;rfl;assumption;rfl;(with_reducible exact Qh);(exact (Int.toNat_of_nonneg (by omega)).symm);(simp only [Wm,Ws,Wa,Wc,Wn,Wr] at *;omega);rfl;(simp only [Uc,Uz]))) | (go_at_call 23;((refine (hA.out).at hs (by (focus ((repeat (with_reducible exact Qn));done))) ?_);clear hs;intro w hs;(try simp only [emp_mul,mul_assoc'] at hs))) | (go_at_call 54;((refine (hPL.out).at hs (by (focus ((repeat (with_reducible exact Qn));done))) ?_);clear hs;intro w hs;(try simp only [emp_mul,mul_assoc'] at hs))))
      have e1 : (List.map eU (fillW (W0.set 0 1) (base c 10) 0 n)).set (base c 10 + (n : Int)).toNat ((eU x).set 0 (Value.int IntKind.u64 ((n : Int) + 1 + 1))) = (fillW (W0.set 0 1) (base c 10) 0 (n + 1)).map eU := by simp [fillW,List.map_set];rfl
      rw [e1] at hs
      go_roundw
      case rel => exact ⟨n + 1,by omega,by simp,by rw [hT.out];((with_reducible apply Sat.fin hs);(with_reducible exact Ql))⟩
      case measure => simp [intOf];omega
end Go.Proofs.YtegafhhdegnigaaGreat
end
/-
  From a walk to the row: whatever a law reads, it reads as before, where the walk leaves old memory alone.
-/
section
namespace Go.Proofs.YtegafhhdegnigaaGreat
open Go.ChangeShapes Go.WideShapes Go.ChangeAt Go.RowKit Hp
namespace Hp
def full (W : World) : SProp := ⟨fun h => h = fun k => W.heap[k]?⟩
theorem sat_full (W : World) : Sat W W (full W) := ⟨rfl,rfl,rfl,Nat.le_refl _,_,rfl,fun _ _ h => h⟩
theorem below_full {W w' : World} (h : Sat W w' (full W)) : Below W.heap.size W w' := by
  refine ⟨h.os,h.tape,h.output,h.size,fun k hk => ?_⟩
  obtain ⟨x,hx,hh⟩ := h.has
  have hx' : x = fun k => W.heap[k]? := hx
  have := hh k W.heap[k] (by rw [hx'];simp [hk])
  rw [this];simp [hk]
end Hp
section
variable {H : Type} {enc : TypeId × Value → H} {P : Program}
theorem all_trod (hl : laidOutB P = true) {W W' : World} (hb : Below W.heap.size W W') : ∀ (ts : List TypeId) (vs : List Value) (ds : List (DataW H)) (ps : List MemPlace),(∀ t ∈ ts,P.readableRec t = true ∧ t < P.types.size) →
    DataW.TrodAll enc P W 0 (fun _ => true) true ts vs ds ps → (∀ x ∈ ps,x.block < W.heap.size) → DataW.TrodAll enc P W' 0 (fun b => decide (b < W.heap.size)) true ts vs ds ps
  | [],vs,ds,ps,_,h,_ => by
    obtain ⟨rfl,rfl,rfl⟩ := trodAll_nil h
    exact trodAll_mk0
  | t :: ts,vs,ds,ps,hr,h,hlt => by
    obtain ⟨v,vs',d,ds',p,q,rfl,rfl,rfl,h0,h1⟩ := trodAll_cons h
    exact trodAll_cons_mk (Below.trod hl (hr t (by simp)).1 (hr t (by simp)).2 h0 hb (fun x hx => hlt x (by simp [hx]))) (all_trod hl hb ts vs' ds' q (fun t' ht => hr t' (by simp [ht])) h1 (fun x hx => hlt x (by simp [hx])))
theorem post_true {f : Func} {s : ChangeSpec} {W W' : World} {args : Array Value} {ds : List (DataW H)} {before : List MemPlace} {t : TypeId} (hl : laidOutB P = true) (hv : s.vars = [])
    (hW : DataW.Whole enc P f.params.toList s.vars false W args.toList ds [] before) (hr : ∀ t ∈ f.params.toList,P.readableRec t = true ∧ t < P.types.size)
    (hb : Below W.heap.size W W') (ht : f.resultTypes = #[t]) (hu : P.underlying t = some .bool)
    (e1 : (s.fn H (ds ++ [])).results = [.lit (.bool true)]) (e2 : (s.fn H (ds ++ [])).args = ds) (e3 : (s.fn H (ds ++ [])).vars = []) :
    s.post enc P f false true false false W args (.bool true) W' := by
  have hlt := fun p hp => hW.lt (p := p) hp
  have hW0 := hW
  obtain ⟨p,q,hA,hV,hpq,_,_⟩ := hW
  rw [hv] at hV
  obtain ⟨_,rfl⟩ := trodVars_none hV
  refine ⟨ds,[],before,[],p,[],hW0,?_,?_,?_,hb.frame _,fun h => by cases h⟩
  · rw [e1,ht]
    exact trodAll_mk1 (shut_bool hu true)
  · rw [e2]
    exact all_trod hl hb _ _ _ _ hr hA (fun x hx => by have := hlt x (by rw [hpq];simp [hx]);simpa using this)
  · rw [e3,hv];rfl
end
namespace Hp
section
variable {H : Type} {enc : TypeId × Value → H} {P : Program} {w : World} {base : Nat} {spare : Nat → Bool} {held : Bool}
theorem open_int7 {r : Reach} {b0 : Nat} {t e : TypeId} {f0 f1 f2 f3 f4 f5 f6 : Field} {v : Value} {d : DataW H} {p : List MemPlace} (hs : P.underlying t = some (.struct #[f0,f1,f2,f3,f4,f5,f6])) (hone : Deep.oneCellFields P #[f0,f1,f2,f3,f4,f5,f6] = true) (hC : P.cellsOf t = 7)
    (hu : P.underlying e = some (.int .i64)) (e0 : f0.type = e) (e1 : f1.type = e) (e2 : f2.type = e) (e3 : f3.type = e) (e4 : f4.type = e) (e5 : f5.type = e) (e6 : f6.type = e)
    (hv : Value.okWide P w r b0 t v) (h : DataW.Trod enc P w base spare held t v d p) :
    ∃ z0 z1 z2 z3 z4 z5 z6 : Int,v = .agg #[.int .i64 z0,.int .i64 z1,.int .i64 z2,.int .i64 z3,.int .i64 z4,.int .i64 z5,.int .i64 z6] ∧ p = [] ∧ (Lit.int .i64 z0).wf = true ∧ (Lit.int .i64 z1).wf = true ∧ (Lit.int .i64 z2).wf = true ∧ (Lit.int .i64 z3).wf = true ∧ (Lit.int .i64 z4).wf = true ∧ (Lit.int .i64 z5).wf = true ∧ (Lit.int .i64 z6).wf = true := by
  obtain ⟨cs,rfl,hsz⟩ := okWide_struct hs hv
  obtain ⟨l⟩ := cs
  match l,hsz.trans hC with
  | [c0,c1,c2,c3,c4,c5,c6],_ =>
    obtain ⟨fuel,hf⟩ := h
    obtain ⟨xs,n,_,hx,_,hlen,hg⟩ := DataW.trod_struct hs hf
    obtain ⟨o0,k0⟩ := Deep.hone_of hone 0 f0 rfl
    obtain ⟨o1,k1⟩ := Deep.hone_of hone 1 f1 rfl
    obtain ⟨o2,k2⟩ := Deep.hone_of hone 2 f2 rfl
    obtain ⟨o3,k3⟩ := Deep.hone_of hone 3 f3 rfl
    obtain ⟨o4,k4⟩ := Deep.hone_of hone 4 f4 rfl
    obtain ⟨o5,k5⟩ := Deep.hone_of hone 5 f5 rfl
    obtain ⟨o6,k6⟩ := Deep.hone_of hone 6 f6 rfl
    match xs,hlen with
    | [y0,y1,y2,y3,y4,y5,y6],_ =>
      have h0 : DataW.trod enc P w base spare held n f0.type [c0] = some y0 := by simpa [Value.cells,o0,k0] using hg 0 f0 rfl
      rw [e0] at h0
      obtain ⟨z0,g0,q0,w0⟩ := DataW.trod_int hu h0
      have h1 : DataW.trod enc P w base spare held n f1.type [c1] = some y1 := by simpa [Value.cells,o1,k1] using hg 1 f1 rfl
      rw [e1] at h1
      obtain ⟨z1,g1,q1,w1⟩ := DataW.trod_int hu h1
      have h2 : DataW.trod enc P w base spare held n f2.type [c2] = some y2 := by simpa [Value.cells,o2,k2] using hg 2 f2 rfl
      rw [e2] at h2
      obtain ⟨z2,g2,q2,w2⟩ := DataW.trod_int hu h2
      have h3 : DataW.trod enc P w base spare held n f3.type [c3] = some y3 := by simpa [Value.cells,o3,k3] using hg 3 f3 rfl
      rw [e3] at h3
      obtain ⟨z3,g3,q3,w3⟩ := DataW.trod_int hu h3
      have h4 : DataW.trod enc P w base spare held n f4.type [c4] = some y4 := by simpa [Value.cells,o4,k4] using hg 4 f4 rfl
      rw [e4] at h4
      obtain ⟨z4,g4,q4,w4⟩ := DataW.trod_int hu h4
      have h5 : DataW.trod enc P w base spare held n f5.type [c5] = some y5 := by simpa [Value.cells,o5,k5] using hg 5 f5 rfl
      rw [e5] at h5
      obtain ⟨z5,g5,q5,w5⟩ := DataW.trod_int hu h5
      have h6 : DataW.trod enc P w base spare held n f6.type [c6] = some y6 := by simpa [Value.cells,o6,k6] using hg 6 f6 rfl
      rw [e6] at h6
      obtain ⟨z6,g6,q6,w6⟩ := DataW.trod_int hu h6
      simp only [List.cons.injEq,and_true] at g0 g1 g2 g3 g4 g5 g6
      subst g0 g1 g2 g3 g4 g5 g6
      simp only [Prod.mk.injEq] at hx
      refine ⟨z0,z1,z2,z3,z4,z5,z6,rfl,?_,w0,w1,w2,w3,w4,w5,w6⟩
      rw [hx.2]
      simp [q0,q1,q2,q3,q4,q5,q6]
end
end Hp
end Go.Proofs.YtegafhhdegnigaaGreat
end
/-
  From a walk to the row, where a list of moves is handed in.
-/
section
namespace Go.Proofs.YtegafhhdegnigaaGreat
open Go.ChangeShapes Go.WideShapes Go.ChangeAt Go.RowKit Hp
namespace Hp
theorem full_cell {O w W : World} {F : SProp} (hs : Sat O w (full W * F)) {a : Addr} {x : Value} (h : W.cell? a = some x) : w.cell? a = some x := by
  have hs2 : Sat O w (full W) := hs.fin (Pull.here _ _)
  obtain ⟨y,hy,hh⟩ := hs2.has
  have hy' : y = fun k => W.heap[k]? := hy
  unfold World.cell? at h ⊢
  cases hb : W.heap[a.block]? with
  | none => rw [hb] at h;simp at h
  | some o =>
    have := hh a.block o (by rw [hy'];exact hb)
    rw [this]
    rw [hb] at h
    exact h
theorem rd_full {W : World} {sz : Nat} {css : List (List Value)} {v : Value} (h1 : (css = [] ∧ v = .slice none 0 0) ∨ ∃ a cap,css.length ≤ cap ∧ v = .slice (some a) css.length cap) (h2 : ∀ c ∈ css,c.length = sz)
    (h3 : ∀ a n cap,v = .slice (some a) n cap → ∀ i c,css[i]? = some c → ∀ j x,c[j]? = some x → W.cell? ((a.add (i * sz)).add j) = some x) : Rd (full W) sz css v :=
  ⟨h1,h2,fun _ _ _ hs a n cap e i c hi j x hj => full_cell hs (h3 a n cap e i c hi j x hj)⟩
theorem Gives.belowA {P : Program} {f : FuncId} {args : Array Value} {v : Value} {W : World} (h : Gives P f args (full W) v (full W)) :
    Calls P f args W fun e W' => e = .returned v ∧ Below W.heap.size W W' :=
  (h W W emp ((sat_full W).cast (mul_emp _).symm)).mono fun _ _ ⟨he,hs⟩ => ⟨he,below_full (hs.cast (mul_emp _))⟩
end Hp
section
variable {H : Type} {enc : TypeId × Value → H} {P : Program} {w : World} {base : Nat} {spare : Nat → Bool} {held : Bool}
theorem open_mv {t : TypeId} {f0 f1 f2 f3 : Field} {fuel : Nat} {cs : List Value} {x : DataW H × List MemPlace} (hs : P.underlying t = some (.struct #[f0,f1,f2,f3])) (hone : Deep.oneCellFields P #[f0,f1,f2,f3] = true) (hlen : cs.length = 4)
    (u0 : P.underlying f0.type = some (.int .i64)) (u1 : P.underlying f1.type = some (.int .i64)) (u2 : P.underlying f2.type = some (.int .i64)) (u3 : P.underlying f3.type = some (.int .i64))
    (h : DataW.trod enc P w base spare held fuel t cs = some x) : ∃ m : Mv,cs = Mv.e m := by
  match cs,hlen with
  | [c0,c1,c2,c3],_ =>
    obtain ⟨xs,n,_,hx,_,hl,hg⟩ := DataW.trod_struct hs h
    obtain ⟨o0,k0⟩ := Deep.hone_of hone 0 f0 rfl
    obtain ⟨o1,k1⟩ := Deep.hone_of hone 1 f1 rfl
    obtain ⟨o2,k2⟩ := Deep.hone_of hone 2 f2 rfl
    obtain ⟨o3,k3⟩ := Deep.hone_of hone 3 f3 rfl
    match xs,hl with
    | [y0,y1,y2,y3],_ =>
      have h0 : DataW.trod enc P w base spare held n f0.type [c0] = some y0 := by simpa [o0,k0] using hg 0 f0 rfl
      obtain ⟨z0,g0,q0,w0⟩ := DataW.trod_int u0 h0
      have h1 : DataW.trod enc P w base spare held n f1.type [c1] = some y1 := by simpa [o1,k1] using hg 1 f1 rfl
      obtain ⟨z1,g1,q1,w1⟩ := DataW.trod_int u1 h1
      have h2 : DataW.trod enc P w base spare held n f2.type [c2] = some y2 := by simpa [o2,k2] using hg 2 f2 rfl
      obtain ⟨z2,g2,q2,w2⟩ := DataW.trod_int u2 h2
      have h3 : DataW.trod enc P w base spare held n f3.type [c3] = some y3 := by simpa [o3,k3] using hg 3 f3 rfl
      obtain ⟨z3,g3,q3,w3⟩ := DataW.trod_int u3 h3
      simp only [List.cons.injEq,and_true] at g0 g1 g2 g3
      subst g0 g1 g2 g3
      exact ⟨⟨z0,z1,z2,z3⟩,rfl⟩
instance : Inhabited Mv := ⟨⟨0,0,0,0⟩⟩
theorem open_moves {ts t : TypeId} {f0 f1 f2 f3 : Field} {W : World} {v : Value} {d : DataW H} {p : List MemPlace} (hts : P.underlying ts = some (.slice t)) (hs : P.underlying t = some (.struct #[f0,f1,f2,f3])) (hone : Deep.oneCellFields P #[f0,f1,f2,f3] = true) (hC : P.cellsOf t = 4)
    (u0 : P.underlying f0.type = some (.int .i64)) (u1 : P.underlying f1.type = some (.int .i64)) (u2 : P.underlying f2.type = some (.int .i64)) (u3 : P.underlying f3.type = some (.int .i64))
    (hv : ∃ a len cap,v = .slice a len cap) (h : DataW.Trod enc P W base spare held ts v d p) : ∃ mvs : List Mv,Rd (full W) 4 (mvs.map Mv.e) v := by
  obtain ⟨fuel,hf⟩ := h
  obtain ⟨a0,len0,cap0,rfl⟩ := hv
  rcases Deep.open_slice hts hf with ⟨h1,_⟩ | ⟨a,len,cap,m,n,D,Pl,h1,_,hl,hcm,hm,_,hx⟩
  · refine ⟨[],rd_full (.inl ⟨rfl,?_⟩) (by simp) (by simp)⟩
    simpa [Value.cells] using h1
  · have hlm : len ≤ m := by rw [hm];split <;> omega
    rw [hC] at hx
    obtain ⟨M,hM⟩ := Deep.choose_lt (α := Mv) (n := len) (p := fun i mv => ∀ j x,(Mv.e mv)[j]? = some x → W.cell? ((a.add (i * 4)).add j) = some x) (fun i hi => by
      obtain ⟨cs,g1,g2⟩ := hx i (by omega)
      obtain ⟨_,hlen,hcell⟩ := World.cells?_some g1
      obtain ⟨mv,rfl⟩ := open_mv hs hone hlen u0 u1 u2 u3 g2
      refine ⟨mv,fun j x hj => ?_⟩
      have hjl := (List.getElem?_eq_some_iff.1 hj).1
      rw [hlen] at hjl
      rw [← hj]
      have := hcell j hjl
      rw [this])
    refine ⟨(List.range len).map M,rd_full (.inr ⟨a,cap,by simpa using hl,?_⟩) ?_ ?_⟩
    · simpa [Value.cells] using h1
    · intro c hc
      obtain ⟨mv,_,rfl⟩ := List.mem_map.1 hc
      rfl
    · intro a' n' cap' e i c hi j x hj
      have e2 : a0 = some a ∧ len0 = len ∧ cap0 = cap := by simpa [Value.cells] using h1
      obtain ⟨rfl,rfl,rfl⟩ := e2
      injection e with e _ _
      injection e with e
      subst e
      rw [List.map_map,List.getElem?_map] at hi
      cases hr : (List.range len0)[i]? with
      | none => rw [hr] at hi;simp at hi
      | some q =>
        rw [hr] at hi
        simp at hi
        obtain ⟨hq,hqe⟩ := List.getElem?_eq_some_iff.1 hr
        simp at hq hqe
        subst hqe
        subst hi
        exact hM i hq j x hj
end
end Go.Proofs.YtegafhhdegnigaaGreat
end
