/-
  append(nil, l...), where l is only read.
-/
import Derived.Test.YtegafhhdegnigaaGreatHRd
import Derived.Test.YtegafhhdegnigaaGreatHNew2
import Derived.Test.YtegafhhdegnigaaGreatHWord0
import Derived.Test.YtegafhhdegnigaaGreatHAddr2
import Derived.BigQuiet
import Derived.Test.YtegafhhdegnigaaGreatHOw7
set_option linter.all false
section
namespace Go.Proofs.YtegafhhdegnigaaGreat
open Go.RowKit
namespace Hp

theorem flat_get {sz : Nat} : ∀ {css : List (List Value)} {f : Nat} {x : Value}, (∀ c ∈ css, c.length = sz) → css.flatten[f]? = some x → ∃ (i j : Nat) (c : List Value), css[i]? = some c ∧ c[j]? = some x ∧ f = i * sz + j
  | [], f, x, _, h => by simp at h
  | c :: css, f, x, hw, h => by
    rw [List.flatten_cons] at h
    have hc := hw c (List.mem_cons_self ..)
    by_cases hf : f < c.length
    · rw [List.getElem?_append_left hf] at h
      exact ⟨0, f, c, rfl, h, by simp⟩
    · rw [List.getElem?_append_right (by omega)] at h
      obtain ⟨i, j, d, h1, h2, h3⟩ := flat_get (fun d hd => hw d (List.mem_cons_of_mem _ hd)) h
      exact ⟨i + 1, j, d, by simpa using h1, h2, by rw [Nat.add_mul]; omega⟩

section
variable {P : Program} {ops : Array Oper} {Q : Exit → Act → World → Prop} {w : World} {rest : List Oper} {O : World} {S R A : SProp}
variable {l : List Value} {ds : List Deferred} {T ty E : TypeId} {pos : String} {after : Array Edge} {gd : Option (Nat × Bool)} {d : Nat} {x y : Operand} {i sz n : Nat} {dss : List (List Value)} {c : List Value} {v u : Value} {a : Addr}

theorem flat_len {sz : Nat} : ∀ {css : List (List Value)}, (∀ c ∈ css, c.length = sz) → css.flatten.length = css.length * sz
  | [], _ => by simp
  | c :: css, hw => by
    have := flat_len (fun d hd => hw d (List.mem_cons_of_mem _ hd))
    rw [List.flatten_cons, List.length_append, this, hw c (List.mem_cons_self ..), List.length_cons, Nat.add_mul]; omega

theorem run_app0 {by_ : Nat} {t ty : TypeId} (h : SlcC P t E) (hE : ElC P E sz by_) (hpos : 0 < sz) (h1 : ∀ c ∈ dss, c.all Value.oneCell' = true) (hs : Sat O w (A * R)) (hr : Rd A sz dss u) (hn : dss.length ≤ 4294967296) (hb : by_ ≤ 32768) :
    ∃ v' w', (Builtin.append_ #[t, t] ty #[.slice none 0 0, u]).run P w = .ok v' w' ∧ Sat O w' (sl E sz dss v' * (A * R)) := by
  have hinfo := hE.info
  have hzero := hE.zero
  cases hq : P.info? E with
  | none => simp [hq] at hinfo
  | some inf =>
    cases hzz : inf.zero with
    | none => simp [hq, hzz] at hzero
    | some zv =>
      simp [hq, hzz] at hinfo hzero
      have hwd : SlOk sz dss := ⟨fun c hc => ⟨hr.wf c hc, h1 c hc⟩, hpos⟩
      rcases hr.at_ with ⟨hd, hv⟩ | ⟨a, cap, hcap, hv⟩
      · subst hd; subst hv
        refine ⟨.slice none 0 0, w, ?_, sl_nil hs hpos⟩
        simp [Builtin.append_, run_underlying h.is, sizeOf, typeInfo, hq, Builtin.lenOf, hinfo.1, run_firstCells_none]
      · subst hv
        by_cases hd0 : dss.length = 0
        · have hd : dss = [] := List.eq_nil_of_length_eq_zero hd0
          subst hd
          refine ⟨.slice none 0 0, w, ?_, sl_nil hs hpos⟩
          have hf := run_firstCells_some (P := P) (w := w) sz 0 a 0 cap [] (by simp) (by simp)
          simp [Builtin.append_, run_underlying h.is, sizeOf, typeInfo, hq, Builtin.lenOf, hinfo.1, hf]
        · have hfd : (Builtin.firstCells sz dss.length (.slice (some a) dss.length cap)).run P w.drew = .ok dss.flatten.toArray w.drew := by
            refine run_firstCells_some (P := P) (w := w.drew) sz dss.length a _ cap dss.flatten (flat_len hr.wf) (fun f x hx => ?_)
            obtain ⟨i, j, c, g1, g2, g3⟩ := flat_get hr.wf hx
            have := hr.get O w.drew R hs.drew a _ cap rfl i c g1 j x g2
            rw [Addr.add_add] at this
            rw [g3]; exact this
          have hbb : dss.length * inf.bytes ≤ 140737488355328 := by
            rw [hinfo.2]
            calc dss.length * by_ ≤ 4294967296 * 32768 := Nat.mul_le_mul hn hb
              _ ≤ _ := by decide
          have hge := grownCap_ge w dss.length 0 E
          have hnew : Sat O (w.drew.alloc (.cells (dss.flatten.toArray ++ Builtin.zeroCells zv.cells (grownCap w dss.length 0 E - dss.length)) E)) (sl E sz dss (.slice (some ⟨w.heap.size, 0, none⟩) dss.length (grownCap w dss.length 0 E)) * (A * R)) := by
            refine sat_sl.2 ⟨hwd, .inr ⟨w.heap.size, 0, grownCap w dss.length 0 E, [], (Builtin.zeroCells zv.cells (grownCap w dss.length 0 E - dss.length)).toList, by simp, rfl, by simpa using hge, ?_, ?_⟩⟩
            · simp only [Array.length_toList, zeroCells_size, hzero, ← Nat.add_mul]
              refine Nat.mul_le_mul_right _ ?_
              omega
            · have := hs.drew.alloc (.cells (dss.flatten.toArray ++ Builtin.zeroCells zv.cells (grownCap w dss.length 0 E - dss.length)) E)
              refine this.cast ?_
              congr 3
              apply Array.ext'
              simp
          refine ⟨_, _, ?_, hnew⟩
          have h48' : ¬ (281474976710656 < Builtin.nextslicecap dss.length 0 * inf.bytes) := by
            rw [nextslicecap_zero (by omega)]; omega
          have h63'' : ¬ (9223372036854775807 < (dss.length : Int)) := by omega
          simp [Builtin.append_, run_underlying h.is, sizeOf, typeInfo, zeroValue, hq, hzz, Builtin.lenOf, hd0, h63'', h48', Question.forced, hinfo.1, run_firstCells_none, hfd, newRow, grownCap]

theorem wl_app0 {by_ : Nat} (hs : Sat O w S) (hr : Rd A sz dss u) (h : SlcC P T E) (hE : ElC P E sz by_) (hpos : 0 < sz) (h1 : ∀ c ∈ dss, c.all Value.oneCell' = true) (hx : ev l x = some (.slice none 0 0)) (hy : ev l y = some u) (hp : Pull S A R) (hn : dss.length ≤ 4294967296) (hb : by_ ≤ 32768)
    (hg : Region.wanted { dst := some d, op := .call { callee := .builtin .append, args := #[x, y], argTypes := #[T, T] }, type := ty, pos, after, guard := gd } (yielded ops l.toArray) = true)
    (kk : ∀ w' v', Sat O w' (sl E sz dss v' * (A * R)) → wpList P ops Q rest ⟨(l.set d v').toArray, ds⟩ w') :
    wpList P ops Q ({ dst := some d, op := .call { callee := .builtin .append, args := #[x, y], argTypes := #[T, T] }, type := ty, pos, after, guard := gd } :: rest) ⟨l.toArray, ds⟩ w := by
  obtain ⟨v', w', hr', hk⟩ := run_app0 (P := P) (t := T) (ty := ty) h hE hpos h1 (hs.pull hp) hr hn hb
  refine wl_val (v := v') hg ?_ (put_set ▸ kk w' v' hk)
  have e1 := ev_eval (ds := ds) hx
  have e2 := ev_eval (ds := ds) hy
  simp [execOp, resolve, e1, e2, invoke, builtin, hr']
end
end Hp
end Go.Proofs.YtegafhhdegnigaaGreat
end
/-
  Operations that are not wanted are passed over, whatever their slots hold.
-/
section
namespace Go.Proofs.YtegafhhdegnigaaGreat
open Go.RowKit
namespace Hp
theorem wl_pass {P : Program} {ops : Array Oper} {Q : Exit → Act → World → Prop} {w : World} {rest : List Oper} {l : List Value} {ds : List Deferred} {d : Nat} {op : Op} {ty : TypeId} {pos : String} {after : Array Edge} {g : Nat × Bool}
    (hw : Region.wanted { dst := some d, op := op, type := ty, pos, after, guard := some g } (yielded ops l.toArray) = false) (kk : wpList P ops Q rest ⟨(l.set d undef).toArray, ds⟩ w) :
    wpList P ops Q ({ dst := some d, op := op, type := ty, pos, after, guard := some g } :: rest) ⟨l.toArray, ds⟩ w := by
  refine wpList_skip hw ?_
  have e : (Act.put ⟨l.toArray, ds⟩ (some d) undef : Act) = ⟨(l.set d undef).toArray, ds⟩ := put_set
  show wpList P ops Q rest (Act.put ⟨l.toArray, ds⟩ (some d) undef) w
  rw [e]; exact kk
theorem wl_pass2 {P : Program} {ops : Array Oper} {Q : Exit → Act → World → Prop} {w : World} {rest : List Oper} {l : List Value} {ds : List Deferred} {d : Nat} {op : Op} {ty : TypeId} {pos : String} {after : Array Edge} {i : Nat} {b z : Bool} {o : Oper} {e : Nat}
    (ho : ops[i]? = some o) (hd : o.dst = some e) (hv : l[e]? = some (.bool z)) (hb : (z == b) = false) (kk : wpList P ops Q rest ⟨(l.set d undef).toArray, ds⟩ w) :
    wpList P ops Q ({ dst := some d, op := op, type := ty, pos, after, guard := some (i, b) } :: rest) ⟨l.toArray, ds⟩ w := by
  refine wl_pass ?_ kk
  have hv' : l.toArray[e]? = some (.bool z) := by simpa using hv
  simp only [Region.wanted, yielded, ho, Option.bind_some, hd, hv']
  cases z <;> cases b <;> first | rfl | cases hb
theorem wl_pick {P : Program} {ops : Array Oper} {Q : Exit → Act → World → Prop} {w : World} {rest : List Oper} {l : List Value} {ds : List Deferred} {d : Nat} {c x y : Operand} {ty : TypeId} {pos : String} {after : Array Edge} {gd : Option (Nat × Bool)} {z : Bool} {v : Value}
    (hc : ev l c = some (.bool z)) (hv : ev l (cond z x y) = some v)
    (hg : Region.wanted { dst := some d, op := .pick c x y, type := ty, pos, after, guard := gd } (yielded ops l.toArray) = true)
    (kk : wpList P ops Q rest ⟨(l.set d v).toArray, ds⟩ w) :
    wpList P ops Q ({ dst := some d, op := .pick c x y, type := ty, pos, after, guard := gd } :: rest) ⟨l.toArray, ds⟩ w := by
  refine wl_val (v := v) (w' := w) hg ?_ (put_set ▸ kk)
  have h1 := ev_eval (ds := ds) hc
  have h2 := ev_eval (ds := ds) hv
  cases z <;> simp [execOp, h1, asBool] <;> simpa using h2




end Hp
end Go.Proofs.YtegafhhdegnigaaGreat
end
/-
  The reference's check of a configuration.
-/
section
namespace Go.Proofs.YtegafhhdegnigaaGreat
open Go.RowKit Hp

set_option maxHeartbeats 1000000 in
set_option maxRecDepth 100000 in
theorem config_yes (T R Hz Rt Ca Sl Bu : Int) (h : CfgOk T R Hz Rt Ca Sl Bu) :
    Gives Tryz.prog 87 #[.agg (cfgV T R Hz Rt Ca Sl Bu)] emp (.bool true) emp := by
  intro O w F hs
  obtain ⟨⟨a1, a2⟩, ⟨b1, b2⟩, ⟨c1, c2⟩, ⟨d1, d2⟩, ⟨e1, e2⟩, ⟨f1, f2⟩, ⟨g1, g2⟩⟩ := h
  go_enter Tryz.func87, Tryz.ntmps87
  simp only [List.append]
  go_wp2_with (first | ((with_reducible apply wl_ld hs); infer_instance; rfl; (repeat (exact Pull.here _ _)); rfl; rfl; simp only [List.set_cons_succ, List.set_cons_zero]) | ((with_reducible apply wl_box hs); rfl; rfl; rfl; clear hs; intro w b hs; simp only [List.set_cons_succ, List.set_cons_zero]))
  go_ret
  exact ⟨rfl, hs.right⟩

set_option maxHeartbeats 4000000 in
set_option maxRecDepth 100000 in
theorem config_no (T R Hz Rt Ca Sl Bu : Int) (h : ¬ CfgOk T R Hz Rt Ca Sl Bu) :
    Gives Tryz.prog 87 #[.agg (cfgV T R Hz Rt Ca Sl Bu)] emp (.bool false) emp := by
  intro O w F hs
  by_cases g0 : 1 ≤ T
  case neg =>
    clear h
    have hd : decide (1 ≤ T) = false := by simpa using g0
    clear g0
    go_enter Tryz.func87, Tryz.ntmps87
    simp only [List.append]
    go_wp2_with (first | ((with_reducible apply wl_ld hs); infer_instance; rfl; (repeat (exact Pull.here _ _)); rfl; rfl; simp only [List.set_cons_succ, List.set_cons_zero]) | ((with_reducible apply wl_box hs); rfl; rfl; rfl; clear hs; intro w b hs; simp only [List.set_cons_succ, List.set_cons_zero]))
    go_ret
    exact ⟨rfl, hs.right⟩
  by_cases g1 : T ≤ 16
  case neg =>
    clear h
    have hd : decide (T ≤ 16) = false := by simpa using g1
    clear g1
    go_enter Tryz.func87, Tryz.ntmps87
    simp only [List.append]
    go_wp2_with (first | ((with_reducible apply wl_ld hs); infer_instance; rfl; (repeat (exact Pull.here _ _)); rfl; rfl; simp only [List.set_cons_succ, List.set_cons_zero]) | ((with_reducible apply wl_box hs); rfl; rfl; rfl; clear hs; intro w b hs; simp only [List.set_cons_succ, List.set_cons_zero]))
    go_ret
    exact ⟨rfl, hs.right⟩
  by_cases g2 : 1 ≤ R
  case neg =>
    clear h
    have hd : decide (1 ≤ R) = false := by simpa using g2
    clear g2
    go_enter Tryz.func87, Tryz.ntmps87
    simp only [List.append]
    go_wp2_with (first | ((with_reducible apply wl_ld hs); infer_instance; rfl; (repeat (exact Pull.here _ _)); rfl; rfl; simp only [List.set_cons_succ, List.set_cons_zero]) | ((with_reducible apply wl_box hs); rfl; rfl; rfl; clear hs; intro w b hs; simp only [List.set_cons_succ, List.set_cons_zero]))
    go_ret
    exact ⟨rfl, hs.right⟩
  by_cases g3 : R ≤ 16
  case neg =>
    clear h
    have hd : decide (R ≤ 16) = false := by simpa using g3
    clear g3
    go_enter Tryz.func87, Tryz.ntmps87
    simp only [List.append]
    go_wp2_with (first | ((with_reducible apply wl_ld hs); infer_instance; rfl; (repeat (exact Pull.here _ _)); rfl; rfl; simp only [List.set_cons_succ, List.set_cons_zero]) | ((with_reducible apply wl_box hs); rfl; rfl; rfl; clear hs; intro w b hs; simp only [List.set_cons_succ, List.set_cons_zero]))
    go_ret
    exact ⟨rfl, hs.right⟩
  by_cases g4 : 3 ≤ Hz
  case neg =>
    clear h
    have hd : decide (3 ≤ Hz) = false := by simpa using g4
    clear g4
    go_enter Tryz.func87, Tryz.ntmps87
    simp only [List.append]
    go_wp2_with (first | ((with_reducible apply wl_ld hs); infer_instance; rfl; (repeat (exact Pull.here _ _)); rfl; rfl; simp only [List.set_cons_succ, List.set_cons_zero]) | ((with_reducible apply wl_box hs); rfl; rfl; rfl; clear hs; intro w b hs; simp only [List.set_cons_succ, List.set_cons_zero]))
    go_ret
    exact ⟨rfl, hs.right⟩
  by_cases g5 : Hz ≤ 8
  case neg =>
    clear h
    have hd : decide (Hz ≤ 8) = false := by simpa using g5
    clear g5
    go_enter Tryz.func87, Tryz.ntmps87
    simp only [List.append]
    go_wp2_with (first | ((with_reducible apply wl_ld hs); infer_instance; rfl; (repeat (exact Pull.here _ _)); rfl; rfl; simp only [List.set_cons_succ, List.set_cons_zero]) | ((with_reducible apply wl_box hs); rfl; rfl; rfl; clear hs; intro w b hs; simp only [List.set_cons_succ, List.set_cons_zero]))
    go_ret
    exact ⟨rfl, hs.right⟩
  by_cases g6 : 1 ≤ Rt
  case neg =>
    clear h
    have hd : decide (1 ≤ Rt) = false := by simpa using g6
    clear g6
    go_enter Tryz.func87, Tryz.ntmps87
    simp only [List.append]
    go_wp2_with (first | ((with_reducible apply wl_ld hs); infer_instance; rfl; (repeat (exact Pull.here _ _)); rfl; rfl; simp only [List.set_cons_succ, List.set_cons_zero]) | ((with_reducible apply wl_box hs); rfl; rfl; rfl; clear hs; intro w b hs; simp only [List.set_cons_succ, List.set_cons_zero]))
    go_ret
    exact ⟨rfl, hs.right⟩
  by_cases g7 : Rt ≤ 1024
  case neg =>
    clear h
    have hd : decide (Rt ≤ 1024) = false := by simpa using g7
    clear g7
    go_enter Tryz.func87, Tryz.ntmps87
    simp only [List.append]
    go_wp2_with (first | ((with_reducible apply wl_ld hs); infer_instance; rfl; (repeat (exact Pull.here _ _)); rfl; rfl; simp only [List.set_cons_succ, List.set_cons_zero]) | ((with_reducible apply wl_box hs); rfl; rfl; rfl; clear hs; intro w b hs; simp only [List.set_cons_succ, List.set_cons_zero]))
    go_ret
    exact ⟨rfl, hs.right⟩
  by_cases g8 : 0 ≤ Ca
  case neg =>
    clear h
    have hd : decide (0 ≤ Ca) = false := by simpa using g8
    clear g8
    go_enter Tryz.func87, Tryz.ntmps87
    simp only [List.append]
    go_wp2_with (first | ((with_reducible apply wl_ld hs); infer_instance; rfl; (repeat (exact Pull.here _ _)); rfl; rfl; simp only [List.set_cons_succ, List.set_cons_zero]) | ((with_reducible apply wl_box hs); rfl; rfl; rfl; clear hs; intro w b hs; simp only [List.set_cons_succ, List.set_cons_zero]))
    go_ret
    exact ⟨rfl, hs.right⟩
  by_cases g9 : Ca ≤ 64
  case neg =>
    clear h
    have hd : decide (Ca ≤ 64) = false := by simpa using g9
    clear g9
    go_enter Tryz.func87, Tryz.ntmps87
    simp only [List.append]
    go_wp2_with (first | ((with_reducible apply wl_ld hs); infer_instance; rfl; (repeat (exact Pull.here _ _)); rfl; rfl; simp only [List.set_cons_succ, List.set_cons_zero]) | ((with_reducible apply wl_box hs); rfl; rfl; rfl; clear hs; intro w b hs; simp only [List.set_cons_succ, List.set_cons_zero]))
    go_ret
    exact ⟨rfl, hs.right⟩
  by_cases g10 : 1 ≤ Sl
  case neg =>
    clear h
    have hd : decide (1 ≤ Sl) = false := by simpa using g10
    clear g10
    go_enter Tryz.func87, Tryz.ntmps87
    simp only [List.append]
    go_wp2_with (first | ((with_reducible apply wl_ld hs); infer_instance; rfl; (repeat (exact Pull.here _ _)); rfl; rfl; simp only [List.set_cons_succ, List.set_cons_zero]) | ((with_reducible apply wl_box hs); rfl; rfl; rfl; clear hs; intro w b hs; simp only [List.set_cons_succ, List.set_cons_zero]))
    go_ret
    exact ⟨rfl, hs.right⟩
  by_cases g11 : Sl ≤ 1024
  case neg =>
    clear h
    have hd : decide (Sl ≤ 1024) = false := by simpa using g11
    clear g11
    go_enter Tryz.func87, Tryz.ntmps87
    simp only [List.append]
    go_wp2_with (first | ((with_reducible apply wl_ld hs); infer_instance; rfl; (repeat (exact Pull.here _ _)); rfl; rfl; simp only [List.set_cons_succ, List.set_cons_zero]) | ((with_reducible apply wl_box hs); rfl; rfl; rfl; clear hs; intro w b hs; simp only [List.set_cons_succ, List.set_cons_zero]))
    go_ret
    exact ⟨rfl, hs.right⟩
  by_cases g12 : 1 ≤ Bu
  case neg =>
    clear h
    have hd : decide (1 ≤ Bu) = false := by simpa using g12
    clear g12
    go_enter Tryz.func87, Tryz.ntmps87
    simp only [List.append]
    go_wp2_with (first | ((with_reducible apply wl_ld hs); infer_instance; rfl; (repeat (exact Pull.here _ _)); rfl; rfl; simp only [List.set_cons_succ, List.set_cons_zero]) | ((with_reducible apply wl_box hs); rfl; rfl; rfl; clear hs; intro w b hs; simp only [List.set_cons_succ, List.set_cons_zero]))
    go_ret
    exact ⟨rfl, hs.right⟩
  by_cases g13 : Bu ≤ 64
  case neg =>
    clear h
    have hd : decide (Bu ≤ 64) = false := by simpa using g13
    clear g13
    go_enter Tryz.func87, Tryz.ntmps87
    simp only [List.append]
    go_wp2_with (first | ((with_reducible apply wl_ld hs); infer_instance; rfl; (repeat (exact Pull.here _ _)); rfl; rfl; simp only [List.set_cons_succ, List.set_cons_zero]) | ((with_reducible apply wl_box hs); rfl; rfl; rfl; clear hs; intro w b hs; simp only [List.set_cons_succ, List.set_cons_zero]))
    go_ret
    exact ⟨rfl, hs.right⟩
  exact absurd ⟨⟨g0, g1⟩, ⟨g2, g3⟩, ⟨g4, g5⟩, ⟨g6, g7⟩, ⟨g8, g9⟩, ⟨g10, g11⟩, ⟨g12, g13⟩⟩ h

theorem ref_conf (c : Cfg) (h : c.Ok) : Gives Tryz.prog 87 #[c.v] emp (.bool true) emp := config_yes c.T c.R c.Hz c.Rt c.Ca c.Sl c.Bu (c.ok_iff.1 h)
theorem ref_conf_no (c : Cfg) (h : ¬ c.Ok) : Gives Tryz.prog 87 #[c.v] emp (.bool false) emp := config_no c.T c.R c.Hz c.Rt c.Ca c.Sl c.Bu (fun k => h (c.ok_iff.2 k))
end Go.Proofs.YtegafhhdegnigaaGreat
end
/-
  The examples end as the document tells.
-/
section
namespace Go.Proofs.YtegafhhdegnigaaGreat
open Go.RowKit Hp
set_option maxRecDepth 100000
set_option maxHeartbeats 1000000
attribute [local irreducible] Go.Calls

theorem law_small : Gives Tryz.prog 68 #[] emp smallC.v emp := by
  intro O w F hs
  go_enter Tryz.func68, Tryz.ntmps68
  go_wp2_with (first | ((with_reducible apply wl_stF hs); infer_instance; rfl; rfl; (with_reducible exact Pull.here _ _); rfl; rfl; rfl; rfl; clear hs; intro w hs) | ((with_reducible apply wl_alloc hs); infer_instance; rfl; clear hs; intro w b hs; (simp only [List.set_cons_succ, List.set_cons_zero])))
  ((try simp only [Exit.inBlock, Exit.then]); (with_reducible apply bodyPost_ret); ((with_reducible apply results_c); rfl; rfl; (with_reducible apply loadF hs); infer_instance; (with_reducible exact Pull.here _ _); rfl; rfl))
  exact ⟨rfl, by ((with_reducible apply Sat.fin hs); (focus ((repeat (first | with_reducible exact Pull.last _ | with_reducible exact Pull.none _ | with_reducible apply Pull.both | with_reducible apply Pull.skip)); done)))⟩

theorem law_steps (v : Value) (ms : List Mv) (t : Int) (n : Nat) (hn : n ≤ 65536) (hl : ms.length ≤ 1000000) :
    Does Tryz.prog 32 #[v, .int .i64 t, .int .i64 (n : Int)] (sl 86 4 (ms.map Mv.e) v) (fun u => sl 86 4 ((ms ++ stepsM t n).map Mv.e) u) := by
  intro O w F hs
  go_enter Tryz.func32, Tryz.ntmps32
  go_wp2_with (fail)
  go_loopw [0, 7] (fun u q wr => ∃ k : Nat, k ≤ n ∧ q = .int .i64 (k : Int) ∧ Sat O wr (sl 86 4 ((ms ++ stepsM t k).map Mv.e) u * F)) (fun _ q _ => 65537 - (intOf q).toNat)
  case atStart => exact ⟨0, by omega, rfl, by simp only [stepsM, List.replicate_zero, List.append_nil]; exact hs⟩
  case round =>
    obtain ⟨k, k1, rfl, hs⟩ := hrel
    by_cases hkr : k = n
    · subst hkr
      have hlt : decide ((k : Int) < (k : Int)) = false := by simp
      go_wp2_with (fail)
      (go_ret)
      exact ⟨_, rfl, by ((with_reducible apply Sat.fin hs); (focus ((repeat (first | with_reducible exact Pull.last _ | with_reducible apply Pull.both | exact Pull.here _ _)); done)))⟩
    · have hlt : decide ((k : Int) < (n : Int)) = true := by simp; omega
      have hlt2 : decide (k < n) = true := by simp; omega
      go_wp2_with (first | ((with_reducible apply wl_bs hs); infer_instance; infer_instance; rfl; rfl; rfl; rfl; (exact Nat.le_of_ble_eq_true rfl); rfl; clear hs; intro w v hs; (simp only [List.set_cons_succ, List.set_cons_zero])) | ((with_reducible apply wl_app hs); infer_instance; infer_instance; rfl; rfl; (focus ((repeat (first | with_reducible exact Pull.here _ _ | with_reducible apply Pull.skip)); done)); (with_reducible exact Pull.here _ _); (simp only [List.length_map, List.length_set, List.length_append, List.length_cons, List.length_nil, List.length_replicate] at *; omega); (exact Nat.le_of_ble_eq_true rfl); rfl; clear hs; intro w v hs; (simp only [List.set_cons_succ, List.set_cons_zero])))
      have e : (ms ++ stepsM t (k + 1)).map Mv.e = (ms ++ stepsM t k).map Mv.e ++ [[.int .i64 t, .int .i64 0, .int .i64 0, .int .i64 0]] := by
        simp only [stepsM, List.replicate_succ', List.map_append, List.map_cons, List.map_nil, List.append_assoc]
      go_roundw
      case rel => exact ⟨k + 1, by omega, by simp, by rw [e]; ((with_reducible apply Sat.fin hs); (focus ((repeat (first | with_reducible exact Pull.last _ | with_reducible exact Pull.here _ _ | with_reducible apply Pull.both | with_reducible apply Pull.skip)); done)))⟩
      case measure => simp [intOf]; omega
end Go.Proofs.YtegafhhdegnigaaGreat
end
