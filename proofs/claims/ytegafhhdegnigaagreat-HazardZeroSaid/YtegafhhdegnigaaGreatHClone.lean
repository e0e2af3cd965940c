/-
  slices.Clone; a range over a function: the fenced laws by contract.
-/
import Derived.Test.YtegafhhdegnigaaGreatHMach3
import Derived.RangeFuncWrites
set_option linter.all false
namespace Go.Proofs.YtegafhhdegnigaaGreat
open Go.RowKit Hp
set_option maxRecDepth 100000
set_option maxHeartbeats 1000000
attribute [local irreducible] Go.Calls

section
variable {P : Program} {ops : Array Oper} {Q : Exit → Act → World → Prop} {w : World} {rest : List Oper} {O : World} {S R : SProp}
variable {l : List Value} {ds : List Deferred} {T ty E : TypeId} {pos : String} {after : Array Edge} {gd : Option (Nat × Bool)} {d : Nat} {x y : Operand} {sz : Nat}
theorem wl_bs0 {by_ : Nat} (hs : Sat O w S) (h : SlcC P T E) (hE : ElC P E sz by_)
    (hg : Region.wanted { dst := some d, op := .buildSlice T 0 #[], type := ty, pos, after, guard := gd } (yielded ops l.toArray) = true)
    (kk : ∀ w' v', Sat O w' (sl E sz [] v' * S) → wpList P ops Q rest ⟨(l.set d v').toArray, ds⟩ w') :
    wpList P ops Q ({ dst := some d, op := .buildSlice T 0 #[], type := ty, pos, after, guard := gd } :: rest) ⟨l.toArray, ds⟩ w := by
  have hinfo := hE.info
  have hzero := hE.zero
  have hpos := hE.pos
  cases hq : P.info? E with
  | none => simp [hq] at hinfo
  | some inf =>
    cases hzz : inf.zero with
    | none => simp [hq, hzz] at hzero
    | some zv =>
      simp [hq, hzz] at hinfo hzero
      refine wl_val (v := .slice (some ⟨w.heap.size, 0, none⟩) 0 0) (w' := w.alloc (.cells #[] E)) hg ?_ (put_set ▸ kk _ _ ?_)
      · have hne : ¬ sz = 0 := by omega
        simp [execOp, Instr.buildSlice, run_underlying h.is, sizeOf, typeInfo, hq, hinfo.1, hne, zeroValue, hzz, Instr.fill, newRow]
        first | rfl | (congr 2; apply Array.ext'; simp)
      · refine sat_sl.2 ⟨⟨by simp, hpos⟩, .inr ⟨w.heap.size, 0, 0, [], [], rfl, rfl, by simp, by simp, ?_⟩⟩
        exact (hs.alloc (.cells #[] E)).cast (by simp)
end
section

end

theorem clone_words (v : Value) (ws : List Int) (hl : ws.length < 4294967296) :
    Does Tryz.prog 128 #[v] (sl 57 1 (ws.map eU) v) (fun u => sl 57 1 (ws.map eU) u * sl 57 1 (ws.map eU) v) := by
  intro O w F hs
  have hcase : (v = .slice none 0 0 ∧ ws = []) ∨ ∃ b off n cap, v = .slice (some ⟨b, off, none⟩) n cap := by
    obtain ⟨_, ⟨hv, hc, _⟩ | ⟨b, off, cap, _, _, hv, _⟩⟩ := sat_sl.1 hs
    · exact .inl ⟨hv, by simpa using hc⟩
    · exact .inr ⟨_, _, _, _, hv⟩
  rcases hcase with ⟨rfl, rfl⟩ | ⟨b0, o0, n0, c0, rfl⟩
  · have hb : ∀ w, (binOp .eql 30 (.slice none 0 0) (.slice none 0 0)).run Tryz.prog w = .ok (.bool true) w := fun w => by kernel_rfl
    go_enter Tryz.func128, Tryz.ntmps128
    go_wp2_with (fail)
    (go_ret)
    refine ⟨_, rfl, ?_⟩
    have hs := sl_nil (E := 57) (sz := 1) hs (by omega)
    simp only [List.map_nil, mul_assoc']
    ((with_reducible apply Sat.fin hs); (focus ((repeat (first | with_reducible exact Pull.last _ | with_reducible apply Pull.both | exact Pull.here _ _)); done)))
  · have hb : ∀ w, (binOp .eql 30 (.slice (some ⟨b0, o0, none⟩) n0 c0) (.slice none 0 0)).run Tryz.prog w = .ok (.bool false) w := fun w => by kernel_rfl
    go_enter Tryz.func128, Tryz.ntmps128
    go_wp2_with (first | ((with_reducible apply wl_app hs); infer_instance; infer_instance; rfl; rfl; (with_reducible exact Pull.here _ _); (with_reducible exact Pull.here _ _); (simp only [List.length_map, List.length_set, List.length_append, List.length_cons, List.length_nil, List.length_replicate] at *; omega); (exact Nat.le_of_ble_eq_true rfl); rfl; clear hs; intro w v hs; (simp only [List.set_cons_succ, List.set_cons_zero])) | ((with_reducible apply wl_bs0 hs); infer_instance; infer_instance; rfl; clear hs; intro w v hs; (simp only [List.set_cons_succ, List.set_cons_zero])))
    (go_ret)
    refine ⟨_, rfl, ?_⟩
    simp only [List.nil_append, mul_assoc'] at hs ⊢
    ((with_reducible apply Sat.fin hs); (focus ((repeat (first | with_reducible exact Pull.last _ | with_reducible apply Pull.both | exact Pull.here _ _)); done)))
theorem clone_ints (v : Value) (ws : List Int) (hl : ws.length < 4294967296) :
    Does Tryz.prog 102 #[v] (sl 3 1 (ws.map eI) v) (fun u => sl 3 1 (ws.map eI) u * sl 3 1 (ws.map eI) v) := by
  intro O w F hs
  have hcase : (v = .slice none 0 0 ∧ ws = []) ∨ ∃ b off n cap, v = .slice (some ⟨b, off, none⟩) n cap := by
    obtain ⟨_, ⟨hv, hc, _⟩ | ⟨b, off, cap, _, _, hv, _⟩⟩ := sat_sl.1 hs
    · exact .inl ⟨hv, by simpa using hc⟩
    · exact .inr ⟨_, _, _, _, hv⟩
  rcases hcase with ⟨rfl, rfl⟩ | ⟨b0, o0, n0, c0, rfl⟩
  · have hb : ∀ w, (binOp .eql 44 (.slice none 0 0) (.slice none 0 0)).run Tryz.prog w = .ok (.bool true) w := fun w => by kernel_rfl
    go_enter Tryz.func102, Tryz.ntmps102
    go_wp2_with (fail)
    (go_ret)
    refine ⟨_, rfl, ?_⟩
    have hs := sl_nil (E := 3) (sz := 1) hs (by omega)
    simp only [List.map_nil, mul_assoc']
    ((with_reducible apply Sat.fin hs); (focus ((repeat (first | with_reducible exact Pull.last _ | with_reducible apply Pull.both | exact Pull.here _ _)); done)))
  · have hb : ∀ w, (binOp .eql 44 (.slice (some ⟨b0, o0, none⟩) n0 c0) (.slice none 0 0)).run Tryz.prog w = .ok (.bool false) w := fun w => by kernel_rfl
    go_enter Tryz.func102, Tryz.ntmps102
    go_wp2_with (first | ((with_reducible apply wl_app hs); infer_instance; infer_instance; rfl; rfl; (with_reducible exact Pull.here _ _); (with_reducible exact Pull.here _ _); (simp only [List.length_map, List.length_set, List.length_append, List.length_cons, List.length_nil, List.length_replicate] at *; omega); (exact Nat.le_of_ble_eq_true rfl); rfl; clear hs; intro w v hs; (simp only [List.set_cons_succ, List.set_cons_zero])) | ((with_reducible apply wl_bs0 hs); infer_instance; infer_instance; rfl; clear hs; intro w v hs; (simp only [List.set_cons_succ, List.set_cons_zero])))
    (go_ret)
    refine ⟨_, rfl, ?_⟩
    simp only [List.nil_append, mul_assoc'] at hs ⊢
    ((with_reducible apply Sat.fin hs); (focus ((repeat (first | with_reducible exact Pull.last _ | with_reducible apply Pull.both | exact Pull.here _ _)); done)))
theorem clone_calls (v : Value) (ws : List Cll) (hl : ws.length < 4294967296) :
    Does Tryz.prog 103 #[v] (sl 50 9 (ws.map Cll.e) v) (fun u => sl 50 9 (ws.map Cll.e) u * sl 50 9 (ws.map Cll.e) v) := by
  intro O w F hs
  have hcase : (v = .slice none 0 0 ∧ ws = []) ∨ ∃ b off n cap, v = .slice (some ⟨b, off, none⟩) n cap := by
    obtain ⟨_, ⟨hv, hc, _⟩ | ⟨b, off, cap, _, _, hv, _⟩⟩ := sat_sl.1 hs
    · exact .inl ⟨hv, by simpa using hc⟩
    · exact .inr ⟨_, _, _, _, hv⟩
  rcases hcase with ⟨rfl, rfl⟩ | ⟨b0, o0, n0, c0, rfl⟩
  · have hb : ∀ w, (binOp .eql 27 (.slice none 0 0) (.slice none 0 0)).run Tryz.prog w = .ok (.bool true) w := fun w => by kernel_rfl
    go_enter Tryz.func103, Tryz.ntmps103
    go_wp2_with (fail)
    (go_ret)
    refine ⟨_, rfl, ?_⟩
    have hs := sl_nil (E := 50) (sz := 9) hs (by omega)
    simp only [List.map_nil, mul_assoc']
    ((with_reducible apply Sat.fin hs); (focus ((repeat (first | with_reducible exact Pull.last _ | with_reducible apply Pull.both | exact Pull.here _ _)); done)))
  · have hb : ∀ w, (binOp .eql 27 (.slice (some ⟨b0, o0, none⟩) n0 c0) (.slice none 0 0)).run Tryz.prog w = .ok (.bool false) w := fun w => by kernel_rfl
    go_enter Tryz.func103, Tryz.ntmps103
    go_wp2_with (first | ((with_reducible apply wl_app hs); infer_instance; infer_instance; rfl; rfl; (with_reducible exact Pull.here _ _); (with_reducible exact Pull.here _ _); (simp only [List.length_map, List.length_set, List.length_append, List.length_cons, List.length_nil, List.length_replicate] at *; omega); (exact Nat.le_of_ble_eq_true rfl); rfl; clear hs; intro w v hs; (simp only [List.set_cons_succ, List.set_cons_zero])) | ((with_reducible apply wl_bs0 hs); infer_instance; infer_instance; rfl; clear hs; intro w v hs; (simp only [List.set_cons_succ, List.set_cons_zero])))
    (go_ret)
    refine ⟨_, rfl, ?_⟩
    simp only [List.nil_append, mul_assoc'] at hs ⊢
    ((with_reducible apply Sat.fin hs); (focus ((repeat (first | with_reducible exact Pull.last _ | with_reducible apply Pull.both | exact Pull.here _ _)); done)))
theorem clone_shifts (v : Value) (ws : List Shf) (hl : ws.length < 4294967296) :
    Does Tryz.prog 104 #[v] (sl 127 5 (ws.map Shf.e) v) (fun u => sl 127 5 (ws.map Shf.e) u * sl 127 5 (ws.map Shf.e) v) := by
  intro O w F hs
  have hcase : (v = .slice none 0 0 ∧ ws = []) ∨ ∃ b off n cap, v = .slice (some ⟨b, off, none⟩) n cap := by
    obtain ⟨_, ⟨hv, hc, _⟩ | ⟨b, off, cap, _, _, hv, _⟩⟩ := sat_sl.1 hs
    · exact .inl ⟨hv, by simpa using hc⟩
    · exact .inr ⟨_, _, _, _, hv⟩
  rcases hcase with ⟨rfl, rfl⟩ | ⟨b0, o0, n0, c0, rfl⟩
  · have hb : ∀ w, (binOp .eql 29 (.slice none 0 0) (.slice none 0 0)).run Tryz.prog w = .ok (.bool true) w := fun w => by kernel_rfl
    go_enter Tryz.func104, Tryz.ntmps104
    go_wp2_with (fail)
    (go_ret)
    refine ⟨_, rfl, ?_⟩
    have hs := sl_nil (E := 127) (sz := 5) hs (by omega)
    simp only [List.map_nil, mul_assoc']
    ((with_reducible apply Sat.fin hs); (focus ((repeat (first | with_reducible exact Pull.last _ | with_reducible apply Pull.both | exact Pull.here _ _)); done)))
  · have hb : ∀ w, (binOp .eql 29 (.slice (some ⟨b0, o0, none⟩) n0 c0) (.slice none 0 0)).run Tryz.prog w = .ok (.bool false) w := fun w => by kernel_rfl
    go_enter Tryz.func104, Tryz.ntmps104
    go_wp2_with (first | ((with_reducible apply wl_app hs); infer_instance; infer_instance; rfl; rfl; (with_reducible exact Pull.here _ _); (with_reducible exact Pull.here _ _); (simp only [List.length_map, List.length_set, List.length_append, List.length_cons, List.length_nil, List.length_replicate] at *; omega); (exact Nat.le_of_ble_eq_true rfl); rfl; clear hs; intro w v hs; (simp only [List.set_cons_succ, List.set_cons_zero])) | ((with_reducible apply wl_bs0 hs); infer_instance; infer_instance; rfl; clear hs; intro w v hs; (simp only [List.set_cons_succ, List.set_cons_zero])))
    (go_ret)
    refine ⟨_, rfl, ?_⟩
    simp only [List.nil_append, mul_assoc'] at hs ⊢
    ((with_reducible apply Sat.fin hs); (focus ((repeat (first | with_reducible exact Pull.last _ | with_reducible apply Pull.both | exact Pull.here _ _)); done)))
theorem clone_log (v : Value) (ws : List Acc) (hl : ws.length < 4294967296) :
    Does Tryz.prog 131 #[v] (sl 138 7 (ws.map Acc.e) v) (fun u => sl 138 7 (ws.map Acc.e) u * sl 138 7 (ws.map Acc.e) v) := by
  intro O w F hs
  have hcase : (v = .slice none 0 0 ∧ ws = []) ∨ ∃ b off n cap, v = .slice (some ⟨b, off, none⟩) n cap := by
    obtain ⟨_, ⟨hv, hc, _⟩ | ⟨b, off, cap, _, _, hv, _⟩⟩ := sat_sl.1 hs
    · exact .inl ⟨hv, by simpa using hc⟩
    · exact .inr ⟨_, _, _, _, hv⟩
  rcases hcase with ⟨rfl, rfl⟩ | ⟨b0, o0, n0, c0, rfl⟩
  · have hb : ∀ w, (binOp .eql 28 (.slice none 0 0) (.slice none 0 0)).run Tryz.prog w = .ok (.bool true) w := fun w => by kernel_rfl
    go_enter Tryz.func131, Tryz.ntmps131
    go_wp2_with (fail)
    (go_ret)
    refine ⟨_, rfl, ?_⟩
    have hs := sl_nil (E := 138) (sz := 7) hs (by omega)
    simp only [List.map_nil, mul_assoc']
    ((with_reducible apply Sat.fin hs); (focus ((repeat (first | with_reducible exact Pull.last _ | with_reducible apply Pull.both | exact Pull.here _ _)); done)))
  · have hb : ∀ w, (binOp .eql 28 (.slice (some ⟨b0, o0, none⟩) n0 c0) (.slice none 0 0)).run Tryz.prog w = .ok (.bool false) w := fun w => by kernel_rfl
    go_enter Tryz.func131, Tryz.ntmps131
    go_wp2_with (first | ((with_reducible apply wl_app hs); infer_instance; infer_instance; rfl; rfl; (with_reducible exact Pull.here _ _); (with_reducible exact Pull.here _ _); (simp only [List.length_map, List.length_set, List.length_append, List.length_cons, List.length_nil, List.length_replicate] at *; omega); (exact Nat.le_of_ble_eq_true rfl); rfl; clear hs; intro w v hs; (simp only [List.set_cons_succ, List.set_cons_zero])) | ((with_reducible apply wl_bs0 hs); infer_instance; infer_instance; rfl; clear hs; intro w v hs; (simp only [List.set_cons_succ, List.set_cons_zero])))
    (go_ret)
    refine ⟨_, rfl, ?_⟩
    simp only [List.nil_append, mul_assoc'] at hs ⊢
    ((with_reducible apply Sat.fin hs); (focus ((repeat (first | with_reducible exact Pull.last _ | with_reducible apply Pull.both | exact Pull.here _ _)); done)))
end Go.Proofs.YtegafhhdegnigaaGreat
