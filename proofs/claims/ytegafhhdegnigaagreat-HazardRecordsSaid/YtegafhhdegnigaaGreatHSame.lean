/-
  Comparisons of integers whose outcome is known: by laws, not by the walk's own means.
-/
import Derived.Test.YtegafhhdegnigaaGreatHCen2
import Derived.Lib.Hide
import Derived.Test.YtegafhhdegnigaaGreatHNew2
import Derived.Test.YtegafhhdegnigaaGreatHInv5
set_option linter.all false
section
namespace Go.Proofs.YtegafhhdegnigaaGreat
open Go.RowKit
namespace Hp
section
variable {P : Program} {ops : Array Oper} {Q : Exit → Act → World → Prop} {w : World} {rest : List Oper} {l : List Value} {ds : List Deferred} {T T' ty : TypeId} {pos : String} {after : Array Edge} {gd : Option (Nat × Bool)} {d : Nat} {x y : Operand} {K : IntKind} {a b : Int} {r : Bool}
theorem wl_neqC (hx : ev l x = some (.int K a)) (hy : ev l y = some (.int K b)) (hr : (a != b) = r)
    (hg : Region.wanted { dst := some d,op := .binOp .neq T x y T',type := ty,pos,after,guard := gd } (yielded ops l.toArray) = true)
    (kk : wpList P ops Q rest ⟨(l.set d (.bool r)).toArray,ds⟩ w) :
    wpList P ops Q ({ dst := some d,op := .binOp .neq T x y T',type := ty,pos,after,guard := gd } :: rest) ⟨l.toArray,ds⟩ w := by
  refine wl_val (v := .bool r) (w' := w) hg ?_ (put_set ▸ kk)
  have h1 := ev_eval (ds := ds) hx
  have h2 := ev_eval (ds := ds) hy
  subst hr
  simp [execOp,h1,h2,binOp,Op.intCmp,eqGuard]
theorem wl_eqlC (hx : ev l x = some (.int K a)) (hy : ev l y = some (.int K b)) (hr : (a == b) = r)
    (hg : Region.wanted { dst := some d,op := .binOp .eql T x y T',type := ty,pos,after,guard := gd } (yielded ops l.toArray) = true)
    (kk : wpList P ops Q rest ⟨(l.set d (.bool r)).toArray,ds⟩ w) :
    wpList P ops Q ({ dst := some d,op := .binOp .eql T x y T',type := ty,pos,after,guard := gd } :: rest) ⟨l.toArray,ds⟩ w := by
  refine wl_val (v := .bool r) (w' := w) hg ?_ (put_set ▸ kk)
  have h1 := ev_eval (ds := ds) hx
  have h2 := ev_eval (ds := ds) hy
  subst hr
  simp [execOp,h1,h2,binOp,Op.intCmp,eqGuard]
theorem wl_lssC (hx : ev l x = some (.int K a)) (hy : ev l y = some (.int K b)) (hr : decide (a < b) = r)
    (hg : Region.wanted { dst := some d,op := .binOp .lss T x y T',type := ty,pos,after,guard := gd } (yielded ops l.toArray) = true)
    (kk : wpList P ops Q rest ⟨(l.set d (.bool r)).toArray,ds⟩ w) :
    wpList P ops Q ({ dst := some d,op := .binOp .lss T x y T',type := ty,pos,after,guard := gd } :: rest) ⟨l.toArray,ds⟩ w := by
  refine wl_val (v := .bool r) (w' := w) hg ?_ (put_set ▸ kk)
  have h1 := ev_eval (ds := ds) hx
  have h2 := ev_eval (ds := ds) hy
  subst hr
  simp [execOp,h1,h2,binOp,Op.intCmp,eqGuard]
theorem wl_leqC (hx : ev l x = some (.int K a)) (hy : ev l y = some (.int K b)) (hr : decide (a ≤ b) = r)
    (hg : Region.wanted { dst := some d,op := .binOp .leq T x y T',type := ty,pos,after,guard := gd } (yielded ops l.toArray) = true)
    (kk : wpList P ops Q rest ⟨(l.set d (.bool r)).toArray,ds⟩ w) :
    wpList P ops Q ({ dst := some d,op := .binOp .leq T x y T',type := ty,pos,after,guard := gd } :: rest) ⟨l.toArray,ds⟩ w := by
  refine wl_val (v := .bool r) (w' := w) hg ?_ (put_set ▸ kk)
  have h1 := ev_eval (ds := ds) hx
  have h2 := ev_eval (ds := ds) hy
  subst hr
  simp [execOp,h1,h2,binOp,Op.intCmp,eqGuard]
theorem wl_gtrC (hx : ev l x = some (.int K a)) (hy : ev l y = some (.int K b)) (hr : decide (a > b) = r)
    (hg : Region.wanted { dst := some d,op := .binOp .gtr T x y T',type := ty,pos,after,guard := gd } (yielded ops l.toArray) = true)
    (kk : wpList P ops Q rest ⟨(l.set d (.bool r)).toArray,ds⟩ w) :
    wpList P ops Q ({ dst := some d,op := .binOp .gtr T x y T',type := ty,pos,after,guard := gd } :: rest) ⟨l.toArray,ds⟩ w := by
  refine wl_val (v := .bool r) (w' := w) hg ?_ (put_set ▸ kk)
  have h1 := ev_eval (ds := ds) hx
  have h2 := ev_eval (ds := ds) hy
  subst hr
  simp [execOp,h1,h2,binOp,Op.intCmp,eqGuard]
theorem wl_geqC (hx : ev l x = some (.int K a)) (hy : ev l y = some (.int K b)) (hr : decide (a ≥ b) = r)
    (hg : Region.wanted { dst := some d,op := .binOp .geq T x y T',type := ty,pos,after,guard := gd } (yielded ops l.toArray) = true)
    (kk : wpList P ops Q rest ⟨(l.set d (.bool r)).toArray,ds⟩ w) :
    wpList P ops Q ({ dst := some d,op := .binOp .geq T x y T',type := ty,pos,after,guard := gd } :: rest) ⟨l.toArray,ds⟩ w := by
  refine wl_val (v := .bool r) (w' := w) hg ?_ (put_set ▸ kk)
  have h1 := ev_eval (ds := ds) hx
  have h2 := ev_eval (ds := ds) hy
  subst hr
  simp [execOp,h1,h2,binOp,Op.intCmp,eqGuard]
theorem wl_mvB {z : Value} (hx : ev l x = some z)
    (hg : Region.wanted { dst := some d,op := .move x,type := ty,pos,after,guard := gd } (yielded ops l.toArray) = true)
    (kk : wpList P ops Q rest ⟨(l.set d z).toArray,ds⟩ w) :
    wpList P ops Q ({ dst := some d,op := .move x,type := ty,pos,after,guard := gd } :: rest) ⟨l.toArray,ds⟩ w := by
  refine wl_val (v := z) (w' := w) hg ?_ (put_set ▸ kk)
  have h1 := ev_eval (ds := ds) hx
  simp [execOp,h1]
end
end Hp
end Go.Proofs.YtegafhhdegnigaaGreat
end
/-
  The references of layer 1.
-/
section
namespace Go.Proofs.YtegafhhdegnigaaGreat
open Go.RowKit Hp
set_option maxRecDepth 100000
set_option maxHeartbeats 1000000
attribute [local irreducible] Go.Calls
theorem ref_many (c : Cfg) (h : c.Ok) (r : Nat) (h1 : 1 ≤ r) (h2 : r ≤ 13) : Gives Tryz.prog 73 #[c.v,.int .i64 (r : Int)] emp (.int .i64 (many c r)) emp := by
  intro O w F hs
  obtain ⟨g1,g2⟩ := h.rh
  have hw : wrap64 (c.R * c.Hz) = c.R * c.Hz := by unfold wrap64;omega
  have hr : r = 1 ∨ r = 2 ∨ r = 3 ∨ r = 4 ∨ r = 5 ∨ r = 6 ∨ r = 7 ∨ r = 8 ∨ r = 9 ∨ r = 10 ∨ r = 11 ∨ r = 12 ∨ r = 13 := by omega
  rcases hr with rfl | rfl | rfl | rfl | rfl | rfl | rfl | rfl | rfl | rfl | rfl | rfl | rfl
  all_goals
    go_enter Tryz.func73,Tryz.ntmps73
    go_wp2_with (first | ((with_reducible apply wl_ld hs);infer_instance;rfl;(with_reducible exact Qh);rfl;rfl;(simp only [Uc,Uz])) | ((with_reducible apply wl_box hs);rfl;rfl;rfl;clear hs;intro w b hs;(simp only [Uc,Uz])))
    (go_ret)
    exact ⟨by simp [many,hw],by ((with_reducible apply Sat.fin hs);(focus with_reducible (repeat first | exact Ql | exact Qn | apply Qb | apply Qk);done))⟩
theorem ref_base (c : Cfg) (h : c.Ok) (r : Nat) (h1 : 1 ≤ r) (h2 : r ≤ 13) : Gives Tryz.prog 23 #[c.v,.int .i64 (r : Int)] emp (.int .i64 (base c r)) emp := by
  intro O w F hs
  have hM := Lib.hid (ref_many c h)
  go_enter Tryz.func23,Tryz.ntmps23
  go_wp2_with ((with_reducible apply wl_box hs);rfl;rfl;rfl;clear hs;intro w b hs;(simp only [Uc,Uz]))
  (obtain ⟨A,hA,hsn⟩ : ∃ A,Hid (A = _) ∧ Sat O w A := ⟨_,Lib.hid rfl,hs⟩;clear hs;have hs := hsn;clear hsn)
  go_loopw [5,6] (fun a q wr => ∃ k : Nat,1 ≤ k ∧ k ≤ r ∧ q = .int .i64 (k : Int) ∧ a = .int .i64 (base c k) ∧ Sat O wr A) (fun _ q _ => 15 - (intOf q).toNat)
  case atStart => exact ⟨1,by omega,by omega,rfl,rfl,hs⟩
  case round =>
    obtain ⟨k,k1,k2,rfl,rfl,hs⟩ := hrel
    have hb := base_le h k
    have hmk := many_le h k
    have e1 := base_succ c _ k1
    rw [hA.out] at hs
    by_cases hkr : k = r
    · subst hkr
      have hlt : decide ((k : Int) < (k : Int)) = false := by simp
      have hlt2 : decide (k < k) = false := by simp
      go_wp2_with (fail)
      (go_ret)
      exact ⟨rfl,by ((with_reducible apply Sat.fin hs);(focus with_reducible (repeat first | exact Ql | exact Qn | apply Qb | apply Qk);done))⟩
    · have hlt : decide ((k : Int) < (r : Int)) = true := by simp;omega
      have hlt2 : decide (k < r) = true := by simp;omega
      have hM1 := Lib.hid (hM.out k k1 (by omega))
      go_wp2_with (first | ((with_reducible apply wl_ldF hs);infer_instance;rfl;(with_reducible exact Qh);rfl;rfl;(simp only [Uc,Uz])) | (go_at_call 73;((refine (hM1.out).at hs (by (focus ((repeat (with_reducible exact Qn));done))) ?_);clear hs;intro w hs;(try simp only [emp_mul,mul_assoc'] at hs))))
      go_roundw
      case rel => exact ⟨k + 1,by omega,by omega,by simp,by rw [e1],by rw [hA.out];((with_reducible apply Sat.fin hs);(focus with_reducible (repeat first | exact Ql | exact Qh | exact Qn | apply Qb);done))⟩
      case measure => simp [intOf];omega
theorem ref_size (c : Cfg) (h : c.Ok) : Gives Tryz.prog 22 #[c.v] emp (.int .i64 (base c 14)) emp := by
  intro O w F hs
  have hB := Lib.hid (ref_base c h 13 (by omega) (by omega))
  have hb := base_le h 13
  have h2 := h.S1;have h3 := h.S2
  have e : base c 14 = base c 13 + c.Sl := rfl
  have hw : wrap64 (base c 13 + c.Sl) = base c 14 := by unfold wrap64;omega
  go_enter Tryz.func22,Tryz.ntmps22
  go_wp2_with (first | (first | (first | (with_reducible refine NQ.mk ?_) | ((with_reducible apply pl_neu);rfl;rfl) | ((with_reducible apply pl_eff);rfl) | (with_reducible refine EQ.mk ?_ ?_) | (first | (with_reducible exact chk_nil) | ((with_reducible refine chk_cons ?_ ?_);(focus ((with_reducible apply pl_chk);rfl;rfl)))) | (with_reducible refine pl_end ?_) | (show SameA _ _ _;rfl)) | ((with_reducible apply wl_ld hs);infer_instance;rfl;(with_reducible exact Qh);rfl;rfl;(simp only [Uc,Uz])) | ((with_reducible apply wl_ldF hs);infer_instance;rfl;(with_reducible exact Qh);rfl;rfl;(simp only [Uc,Uz])) | ((with_reducible apply wl_box hs);rfl;rfl;rfl;clear hs;intro w b hs;(simp only [Uc,Uz]))) | (go_at_call 23;((refine (hB.out).at hs (by (focus ((repeat (with_reducible exact Qn));done))) ?_);clear hs;intro w hs;(try simp only [emp_mul,mul_assoc'] at hs))) | ((with_reducible refine wp_plan_sat (id := 1) [.neu 0,.neu 2,.neu 3,.eff 1 [2,3],.neu 4,.neu 5] hs rfl ?_ ?_);kernel_rfl;clear hs;intro w hs))
  (go_ret)
  exact ⟨by simp [e],by ((with_reducible apply Sat.fin hs);(focus with_reducible (repeat first | exact Ql | exact Qn | apply Qb | apply Qk);done))⟩
theorem ref_packLink (s : Int) (h0 : -1 ≤ s) (h1 : s ≤ 2147483646) : Gives Tryz.prog 54 #[.int .i64 s,.bool false] emp (.int .u64 (s + 1)) emp := by
  intro O w F hs
  go_enter Tryz.func54,Tryz.ntmps54
  go_wp2_with (fail)
  (go_ret)
  exact ⟨rfl,by ((with_reducible apply Sat.fin hs);(with_reducible exact Ql))⟩
theorem ref_packHead (t s : Int) (t0 : 0 ≤ t) (h0 : -1 ≤ s) (h1 : s ≤ 2147483646) : Gives Tryz.prog 92 #[.int .u64 t,.int .i64 s] emp (.int .u64 (t % 4294967296 * 4294967296 + (s + 1))) emp := by
  intro O w F hs
  go_enter Tryz.func92,Tryz.ntmps92
  go_wp2_with (fail)
  (go_ret)
  exact ⟨rfl,by ((with_reducible apply Sat.fin hs);(with_reducible exact Ql))⟩
theorem ref_first0 (c : Cfg) (h : c.Ok) : Does Tryz.prog 39 #[c.v,.int .i64 0] emp (fun v => sl 57 1 ((firstW c 0).map eU) v) := by
  intro O w F hs
  have hS := Lib.hid (ref_size c h)
  have hb10 := base_le h 10
  have hA := Lib.hid (ref_base c h 10 (by omega) (by omega))
  have hPH := ref_packHead 0 0 (by omega) (by omega) (by omega)
  rw [show (0 % 4294967296 * 4294967296 + (0 + 1) : Int) = 1 from rfl] at hPH
  have hPH := Lib.hid hPH
  obtain ⟨hc1,hc2⟩ := base_cells h
  have hb14 := base_le h 14
  have hs1 := h.S1
  have hs2 := h.S2
  have n2 : decide (0 < c.Sl) = true := by simp;omega
  obtain ⟨W0,hW0⟩ : ∃ W0 : List Int,W0 = List.replicate (base c 14).toNat 0 := ⟨_,rfl⟩
  have hrep : List.replicate (base c 14).toNat (Value.int .u64 0).cells.toList = W0.map eU := by rw [hW0,List.map_replicate];rfl
  have hlen : W0.length = (base c 14).toNat := by rw [hW0];simp
  have hl0 : 0 < W0.length := by omega
  have hg0 : W0[0]? = some 0 := by rw [hW0];simp [List.getElem?_replicate];omega
  have hfin : firstW c 0 = fillW (W0.set 0 1) (base c 10) 0 (c.Sl.toNat - 1) := by
    simp only [firstW]
    rw [if_neg (by omega),if_pos (by show (0 : Int) < c.Sl;omega),← hW0]
    rfl
  have hfin := Lib.hid hfin
  have hW0 := Lib.hid hW0
  go_enter Tryz.func39,Tryz.ntmps39
  go_wp2_with (first | (first | ((with_reducible apply wl_ld hs);infer_instance;rfl;(focus with_reducible (repeat first | exact Qh | apply Qk);done);rfl;rfl;(simp only [Uc,Uz])) | ((with_reducible apply wl_ldF hs);infer_instance;rfl;(with_reducible exact Qh);rfl;rfl;(simp only [Uc,Uz])) | ((with_reducible apply wl_box hs);rfl;rfl;rfl;clear hs;intro w b hs;(simp only [Uc,Uz])) | ((with_reducible apply wl_stS0 hs);infer_instance;rfl;rfl;assumption;(with_reducible exact Qh);rfl;(exact map_get (by assumption));(exact Vb rfl);(rfl);rfl;clear hs;intro w hs) | ((with_reducible apply wl_ia hs);infer_instance;infer_instance;rfl;rfl;(with_reducible exact Qh);(rfl);(simp only [Wm,Ws,Wa,Wc,Wn,Wr] at *;omega);rfl;intro b off hat;(simp only [Uc,Uz]))) | (((with_reducible apply wl_mk hs);infer_instance;infer_instance;rfl;rfl;rfl;rfl;(exact (Int.toNat_of_nonneg (by omega)).symm);omega;(exact Vb rfl);rfl;clear hs;intro w v hs;(simp only [Uc,Uz]));rw [hrep] at hs) | (go_at_call 22;((refine (hS.out).at hs (by (focus ((repeat (with_reducible exact Qn));done))) ?_);clear hs;intro w hs;(try simp only [emp_mul,mul_assoc'] at hs))) | (go_at_call 92;((refine (hPH.out).at hs (by (focus ((repeat (with_reducible exact Qn));done))) ?_);clear hs;intro w hs;(try simp only [emp_mul,mul_assoc'] at hs))))
  have e0 : (List.map eU W0).set 0 ((eU 0).set 0 (Value.int IntKind.u64 1)) = (fillW (W0.set 0 1) (base c 10) 0 0).map eU := by simp [fillW,List.map_set]
  rw [e0] at hs
  have hlW : ∀ n,(fillW (W0.set 0 1) (base c 10) 0 n).length = (base c 14).toNat := fun n => by rw [fillW_len,List.length_set,hlen]
  obtain ⟨T,hT,hs⟩ : ∃ T,Hid (T = _) ∧ Sat O w (sl 57 1 ((fillW (W0.set 0 1) (base c 10) 0 0).map eU) v * T) := ⟨_,Lib.hid rfl,hs.pull (by (with_reducible exact Qh))⟩
  clear hg0 hl0 e0 n2
  simp only [Nat.zero_mul,Nat.add_zero]
  go_loopw [6] (fun q wr => ∃ n : Nat,(n : Int) + 1 ≤ c.Sl ∧ q = .int .i64 (n : Int) ∧ Sat O wr (sl 57 1 ((fillW (W0.set 0 1) (base c 10) 0 n).map eU) v * T)) (fun q _ => 1025 - (intOf q).toNat)
  case atStart => exact ⟨0,by omega,rfl,hs⟩
  case round =>
    obtain ⟨n,k1,rfl,hs⟩ := hrel
    rw [hT.out] at hs
    have hl := hlW n
    by_cases hkr : (n : Int) + 1 = c.Sl
    · have hlt : decide ((n : Int) + 1 < c.Sl) = false := by simp;omega
      go_wp2_with ((with_reducible apply wl_ld hs);infer_instance;rfl;(focus with_reducible (repeat first | exact Qh | apply Qk);done);rfl;rfl;(simp only [Uc,Uz]))
      (go_ret)
      refine ⟨_,rfl,?_⟩
      rw [hfin.out,show c.Sl.toNat - 1 = n by omega]
      ((with_reducible apply Sat.fin hs);(focus ((repeat (first | with_reducible exact Ql | with_reducible apply Qb | exact Qh | with_reducible apply Qk));done)))
    · have hlt : decide ((n : Int) + 1 < c.Sl) = true := by simp;omega
      have hPL := Lib.hid (ref_packLink ((n : Int) + 1) (by omega) (by omega))
      have hix : base c 10 + (n : Int) < ((fillW (W0.set 0 1) (base c 10) 0 n).length : Int) := by rw [hl];omega
      have hi2 : (base c 10 + (n : Int)).toNat < (fillW (W0.set 0 1) (base c 10) 0 n).length := by omega
      obtain ⟨x,hx⟩ : ∃ x,(fillW (W0.set 0 1) (base c 10) 0 n)[(base c 10 + (n : Int)).toNat]? = some x := ⟨_,List.getElem?_eq_getElem hi2⟩
      have hw1 : wrap64 (base c 10 + (n : Int)) = base c 10 + (n : Int) := by unfold wrap64;omega
      have hw2 : wrap64 ((n : Int) + 1) = (n : Int) + 1 := by unfold wrap64;omega
      go_wp2_with (first | (first | ((with_reducible apply wl_ld hs);infer_instance;rfl;(focus with_reducible (repeat first | exact Qh | apply Qk);done);rfl;rfl;(simp only [Uc,Uz])) | ((with_reducible apply wl_ldF hs);infer_instance;rfl;(focus with_reducible (repeat first | exact Qh | apply Qk);done);rfl;rfl;(simp only [Uc,Uz])) | ((with_reducible apply wl_stS0 hs);infer_instance;rfl;rfl;assumption;(with_reducible exact Qh);rfl;(exact map_get (by assumption));(exact Vb rfl);(rfl);rfl;clear hs;intro w hs) | ((with_reducible apply wl_ia2 hs);infer_instance;infer_instance;rfl;assumption;rfl;(with_reducible exact Qh);(exact (Int.toNat_of_nonneg (by omega)).symm);(simp only [Wm,Ws,Wa,Wc,Wn,Wr] at *;omega);rfl;(simp only [Uc,Uz]))) | (go_at_call 23;((refine (hA.out).at hs (by (focus ((repeat (with_reducible exact Qn));done))) ?_);clear hs;intro w hs;(try simp only [emp_mul,mul_assoc'] at hs))) | (go_at_call 54;((refine (hPL.out).at hs (by (focus ((repeat (with_reducible exact Qn));done))) ?_);clear hs;intro w hs;(try simp only [emp_mul,mul_assoc'] at hs))))
      have e1 : (List.map eU (fillW (W0.set 0 1) (base c 10) 0 n)).set (base c 10 + (n : Int)).toNat ((eU x).set 0 (Value.int IntKind.u64 ((n : Int) + 1 + 1))) = (fillW (W0.set 0 1) (base c 10) 0 (n + 1)).map eU := by simp [fillW,List.map_set];rfl
      rw [e1] at hs
      go_roundw
      case rel => exact ⟨n + 1,by omega,by simp,by rw [hT.out];((with_reducible apply Sat.fin hs);(with_reducible exact Ql))⟩
      case measure => simp [intOf];omega
end Go.Proofs.YtegafhhdegnigaaGreat
end
/-
  The reference's comparisons, where the lists are the same (written by gensame.py).
-/
section
namespace Go.Proofs.YtegafhhdegnigaaGreat
open Go.RowKit Hp
set_option maxRecDepth 100000
set_option maxHeartbeats 1000000
attribute [local irreducible] Go.Calls
structure RunLen (cs : List Cll) (lg : List Acc) (sh : List Shf) (ws : List Int) : Prop where
  l1 : cs.length < 100000000
  l2 : lg.length < 100000000
  l3 : sh.length < 100000000
  l4 : ws.length < 100000000
theorem runR_mk {O w : World} {F : SProp} {cs : List Cll} {lg : List Acc} {sh : List Shf} {ws : List Int} {vc vt vs vw : Value}
    (hs : Sat O w (sl 50 9 (cs.map Cll.e) vc * (sl 138 7 (lg.map Acc.e) vt * (sl 127 5 (sh.map Shf.e) vs * (sl 57 1 (ws.map eU) vw * F))))) : Sat O w (RunR cs lg sh ws (.agg #[vc,vt,vs,vw]) * F) := by
  unfold RunR
  simp only [sat_ex,mul_assoc',sat_pu]
  exact ⟨_,_,_,_,rfl,hs⟩
theorem runR_get {O w : World} {F : SProp} {cs : List Cll} {lg : List Acc} {sh : List Shf} {ws : List Int} {v : Value} (hs : Sat O w (RunR cs lg sh ws v * F)) :
    ∃ a1 k1 a2 k2 a3 k3 a4 k4,v = .agg #[.slice a1 cs.length k1,.slice a2 lg.length k2,.slice a3 sh.length k3,.slice a4 ws.length k4] ∧
      Sat O w (sl 50 9 (cs.map Cll.e) (.slice a1 cs.length k1) * (sl 138 7 (lg.map Acc.e) (.slice a2 lg.length k2) * (sl 127 5 (sh.map Shf.e) (.slice a3 sh.length k3) * (sl 57 1 (ws.map eU) (.slice a4 ws.length k4) * F)))) := by
  unfold RunR at hs
  simp only [sat_ex,mul_assoc',sat_pu] at hs
  obtain ⟨vc,vt,vs,vw,rfl,hs⟩ := hs
  obtain ⟨_,_,rfl⟩ := sl_len (hs.pull (A := sl 50 9 _ vc) (by (with_reducible exact Qh)))
  obtain ⟨_,_,rfl⟩ := sl_len (hs.pull (A := sl 138 7 _ vt) (by (focus with_reducible (repeat first | exact Qh | apply Qk);done)))
  obtain ⟨_,_,rfl⟩ := sl_len (hs.pull (A := sl 127 5 _ vs) (by (focus with_reducible (repeat first | exact Qh | apply Qk);done)))
  obtain ⟨_,_,rfl⟩ := sl_len (hs.pull (A := sl 57 1 _ vw) (by (focus with_reducible (repeat first | exact Qh | apply Qk);done)))
  simp only [List.length_map] at hs ⊢
  exact ⟨_,_,_,_,_,_,_,_,rfl,hs⟩
end Go.Proofs.YtegafhhdegnigaaGreat
end
