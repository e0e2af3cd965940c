/-
  The machine: a move.
-/
import Derived.Test.YtegafhhdegnigaaGreatDMach
import Derived.RangeFuncWrites
set_option linter.all false
section
namespace Go.Proofs.YtegafhhdegnigaaGreat
open Go.RowKit Hp
set_option maxRecDepth 100000
set_option maxHeartbeats 1000000
attribute [local irreducible] Go.Calls
structure Mv where
 thread : Int
 op : Int
 arg : Int
 data : Int
abbrev Mv.v (m : Mv) : Value := .agg #[.int .i64 m.thread,.int .i64 m.op,.int .i64 m.arg,.int .i64 m.data]
abbrev Mv.e (m : Mv) : List Value := [.int .i64 m.thread,.int .i64 m.op,.int .i64 m.arg,.int .i64 m.data]
def madeR {σ τ : Type} (T : Tasks σ τ) (s : σ) (o : Option τ) (v : Value) : SProp := match o with
 | none => pu (v = .nilIface) * T.X s
 | some k => T.R k v * T.X s
theorem made_none {σ τ : Type} {T : Tasks σ τ} {s : σ} {v : Value} {O w : World} {F : SProp} : Sat O w (madeR T s none v * F) ↔ v = .nilIface ∧ Sat O w (T.X s * F) := by
 unfold madeR;simp only [mul_assoc',sat_pu]
theorem made_some {σ τ : Type} {T : Tasks σ τ} {s : σ} {v : Value} {k : τ} {O w : World} {F : SProp} : Sat O w (madeR T s (some k) v * F) ↔ Sat O w (T.R k v * (T.X s * F)) := by
 unfold madeR;simp only [mul_assoc']
structure KitOk {σ τ : Type} (T : Tasks σ τ) (K : Int → Option Value) (mkr : σ → Nat → Mv → Option τ) (ok : σ → Prop) (n : Nat) : Prop where
 func : ∀ op u,K op = some u → ∃ f a b,u = .func f a b
 make : ∀ op u s t mv,K op = some u → mv.op = op → t < n → mv.thread = (t : Int) → ok s → Dyn Tryz.prog (callValue u #[.int .i64 (t : Int),mv.v]) (T.X s) (fun v => madeR T s (mkr s t mv) v)
def machBegin (m : Mch) (t : Nat) (mv : Mv) (v vc' : Value) : Mch :=
 { m with moves := m.moves + 1,vc := vc',seats := m.seats.set t ⟨v,false,(m.calls.length : Int),1,0⟩,calls := m.calls ++ [⟨mv.thread,mv.op,mv.arg,mv.data,m.moves,-1,-1,0,0⟩] }
section
variable {σ τ : Type} (T : Tasks σ τ) (bx bm : Nat)
variable (m : Mch) (mv : Mv)
theorem move_thread (hl : m.moves < 65536) (hm0 : 0 ≤ m.moves) (h0 : 0 < m.seats.length) (ht : mv.thread < 0 ∨ (m.seats.length : Int) ≤ mv.thread) :
  Gives Tryz.prog 41 #[.pointer (some ⟨bx,0,none⟩),mv.v] (MchR bx bm m) (.bool false) (MchR bx bm { m with moves := m.moves + 1 }) := by
 obtain ⟨v1,v2,v3,v4⟩ := mv
 intro O w F hs
 (obtain ⟨vh,call,told,hcur,hs⟩ := mchR.1 hs)
 have h0' : ((m.seats.length : Int) == 0) = false := by simp;intro e;simp [e] at h0
 have h1 : decide (m.moves ≥ 65536) = false := by simpa using hl
 simp only [] at ht
 by_cases hn : v1 < 0
 ·have h2 : decide (v1 < 0) = true := by simpa using hn
  clear ht
  go_enter Tryz.func41,Tryz.ntmps41
  go_wp2_with (first|(first|(first|(with_reducible refine NQ.mk ?_)|((with_reducible apply pl_neu);rfl;rfl)|(with_reducible refine pl_end ?_))|((with_reducible apply wl_ld hs);infer_instance;rfl;(focus with_reducible (repeat first|exact Qh|apply Qk);done);rfl;rfl;(simp only [Uc,Uz]))|((with_reducible apply wl_st hs);infer_instance;rfl;rfl;(focus with_reducible (repeat first|exact Qh|apply Qk);done);(rfl);(exact Vb rfl);rfl;clear hs;intro w hs;simp only [List.setIfInBounds_toArray,Uc,Uz] at hs)|((with_reducible apply wl_box hs);rfl;rfl;rfl;clear hs;intro w b hs;(simp only [Uc,Uz]))|((with_reducible apply wl_len hs);infer_instance;rfl;(focus with_reducible (repeat first|exact Qh|apply Qk);done);rfl;(simp only [Uc,Uz])))|((with_reducible refine wp_plan_sat (id := 5) [.neu 0,.neu 1,.neu 2,.neu 3,.neu 4,.neu 5,.neu 6,.neu 7,.neu 8,.neu 9,.neu 10,.neu 11,.neu 12] hs rfl ?_ ?_);kernel_rfl;clear hs;intro w hs))
  (go_ret)
  refine ⟨rfl,?_⟩
  apply mchR_mk (m := { m with moves := m.moves + 1 }) hcur
  ((with_reducible apply Sat.fin hs);(focus with_reducible (repeat first|exact Ql|exact Qh|apply Qb|apply Qk);done))
 ·have h2 : decide (v1 < 0) = false := by simpa using hn
  have h3 : decide (v1 ≥ (m.seats.length : Int)) = true := by simp;omega
  clear ht
  go_enter Tryz.func41,Tryz.ntmps41
  go_wp2_with (first|(first|(first|(with_reducible refine NQ.mk ?_)|((with_reducible apply pl_neu);rfl;rfl)|(with_reducible refine pl_end ?_))|((with_reducible apply wl_ld hs);infer_instance;rfl;(focus with_reducible (repeat first|exact Qh|apply Qk);done);rfl;rfl;(simp only [Uc,Uz]))|((with_reducible apply wl_st hs);infer_instance;rfl;rfl;(focus with_reducible (repeat first|exact Qh|apply Qk);done);(rfl);(exact Vb rfl);rfl;clear hs;intro w hs;simp only [List.setIfInBounds_toArray,Uc,Uz] at hs)|((with_reducible apply wl_box hs);rfl;rfl;rfl;clear hs;intro w b hs;(simp only [Uc,Uz]))|((with_reducible apply wl_len hs);infer_instance;rfl;(focus with_reducible (repeat first|exact Qh|apply Qk);done);rfl;(simp only [Uc,Uz])))|((with_reducible refine wp_plan_sat (id := 5) [.neu 0,.neu 1,.neu 2,.neu 3,.neu 4,.neu 5,.neu 6,.neu 7,.neu 8,.neu 9,.neu 10,.neu 11,.neu 12] hs rfl ?_ ?_);kernel_rfl;clear hs;intro w hs))
  (go_ret)
  refine ⟨rfl,?_⟩
  apply mchR_mk (m := { m with moves := m.moves + 1 }) hcur
  ((with_reducible apply Sat.fin hs);(focus with_reducible (repeat first|exact Ql|exact Qh|apply Qb|apply Qk);done))
variable {m} {mv}
theorem move_no (hl : m.moves < 65536) (hm0 : 0 ≤ m.moves) {t : Nat} {se : Sea} (ht : mv.thread = (t : Int)) (hse : m.seats[t]? = some se) (h : (mv.op = 0 ∧ se.task = .nilIface) ∨ (mv.op ≠ 0 ∧ ∃ ty x,se.task = .iface ty x)) :
  Gives Tryz.prog 41 #[.pointer (some ⟨bx,0,none⟩),mv.v] (MchR bx bm m) (.bool false) (MchR bx bm { m with moves := m.moves + 1 }) := by
 obtain ⟨v1,v2,v3,v4⟩ := mv
 obtain ⟨s1,s2,s3,s4,s5⟩ := se
 simp only [] at ht h
 subst ht
 intro O w F hs
 (obtain ⟨vh,call,told,hcur,hs⟩ := mchR.1 hs)
 have lt := (List.getElem?_eq_some_iff.1 hse).1
 have h0' : ((m.seats.length : Int) == 0) = false := by simp;intro e;simp [e] at lt
 have h1 : decide (m.moves ≥ 65536) = false := by simpa using hl
 have h2 : decide ((t : Int) < 0) = false := by simp
 have h3 : decide ((t : Int) ≥ (m.seats.length : Int)) = false := by simp;omega
 rcases h with ⟨rfl,rfl⟩|⟨hne,ty,x,rfl⟩
 ·go_enter Tryz.func41,Tryz.ntmps41
  go_wp2_with (first|(first|(first|(with_reducible refine NQ.mk ?_)|((with_reducible apply pl_neu);rfl;rfl)|(with_reducible refine pl_end ?_))|((with_reducible apply wl_ld hs);infer_instance;rfl;(focus with_reducible (repeat first|exact Qh|apply Qk);done);rfl;rfl;(simp only [Uc,Uz]))|((with_reducible apply wl_st hs);infer_instance;rfl;rfl;(focus with_reducible (repeat first|exact Qh|apply Qk);done);(rfl);(exact Vb rfl);rfl;clear hs;intro w hs;simp only [List.setIfInBounds_toArray,Uc,Uz] at hs)|((with_reducible apply wl_box hs);rfl;rfl;rfl;clear hs;intro w b hs;(simp only [Uc,Uz]))|((with_reducible apply wl_ldS0 hs);infer_instance;rfl;assumption;(focus with_reducible (repeat first|exact Qh|apply Qk);done);rfl;(exact map_get (by assumption));rfl;rfl;(simp only [Uc,Uz]))|((with_reducible apply wl_ia hs);infer_instance;infer_instance;rfl;rfl;(focus with_reducible (repeat first|exact Qh|apply Qk);done);(rfl);(simp only [Wm,Ws,Wa,Wc,Wn,Wr] at *;omega);rfl;intro b off hat;(simp only [Uc,Uz]))|((with_reducible apply wl_len hs);infer_instance;rfl;(focus with_reducible (repeat first|exact Qh|apply Qk);done);rfl;(simp only [Uc,Uz])))|((with_reducible refine wp_plan_sat (id := 5) [.neu 0,.neu 1,.neu 2,.neu 3,.neu 4,.neu 5,.neu 6,.neu 7,.neu 8,.neu 9,.neu 10,.neu 11,.neu 12] hs rfl ?_ ?_);kernel_rfl;clear hs;intro w hs)|((with_reducible refine wp_plan_sat (id := 7) [.neu 0,.neu 1,.neu 2,.neu 3,.neu 4,.neu 5,.neu 6,.neu 7] hs rfl ?_ ?_);kernel_rfl;clear hs;intro w hs))
  (go_ret)
  refine ⟨rfl,?_⟩
  apply mchR_mk (m := { m with moves := m.moves + 1 }) hcur
  ((with_reducible apply Sat.fin hs);(focus with_reducible (repeat first|exact Ql|exact Qh|apply Qb|apply Qk);done))
 ·have h4 : (v2 == 0) = false := by simpa using hne
  have HN := Lib.hid hne;clear hne
  go_enter Tryz.func41,Tryz.ntmps41
  go_wp2_with (first|(first|(first|(with_reducible refine NQ.mk ?_)|((with_reducible apply pl_neu);rfl;rfl)|(with_reducible refine pl_end ?_))|((with_reducible apply wl_ld hs);infer_instance;rfl;(focus with_reducible (repeat first|exact Qh|apply Qk);done);rfl;rfl;(simp only [Uc,Uz]))|((with_reducible apply wl_st hs);infer_instance;rfl;rfl;(focus with_reducible (repeat first|exact Qh|apply Qk);done);(rfl);(exact Vb rfl);rfl;clear hs;intro w hs;simp only [List.setIfInBounds_toArray,Uc,Uz] at hs)|((with_reducible apply wl_box hs);rfl;rfl;rfl;clear hs;intro w b hs;(simp only [Uc,Uz]))|((with_reducible apply wl_ldS0 hs);infer_instance;rfl;assumption;(focus with_reducible (repeat first|exact Qh|apply Qk);done);rfl;(exact map_get (by assumption));rfl;rfl;(simp only [Uc,Uz]))|((with_reducible apply wl_ia hs);infer_instance;infer_instance;rfl;rfl;(focus with_reducible (repeat first|exact Qh|apply Qk);done);(rfl);(simp only [Wm,Ws,Wa,Wc,Wn,Wr] at *;omega);rfl;intro b off hat;(simp only [Uc,Uz]))|((with_reducible apply wl_len hs);infer_instance;rfl;(focus with_reducible (repeat first|exact Qh|apply Qk);done);rfl;(simp only [Uc,Uz])))|((with_reducible refine wp_plan_sat (id := 5) [.neu 0,.neu 1,.neu 2,.neu 3,.neu 4,.neu 5,.neu 6,.neu 7,.neu 8,.neu 9,.neu 10,.neu 11,.neu 12] hs rfl ?_ ?_);kernel_rfl;clear hs;intro w hs)|((with_reducible refine wp_plan_sat (id := 7) [.neu 0,.neu 1,.neu 2,.neu 3,.neu 4,.neu 5,.neu 6,.neu 7] hs rfl ?_ ?_);kernel_rfl;clear hs;intro w hs))
  (go_ret)
  refine ⟨rfl,?_⟩
  apply mchR_mk (m := { m with moves := m.moves + 1 }) hcur
  ((with_reducible apply Sat.fin hs);(focus with_reducible (repeat first|exact Ql|exact Qh|apply Qb|apply Qk);done))
end
end Go.Proofs.YtegafhhdegnigaaGreat
end
/-
  The machine: a move that does something.
-/
section
namespace Go.Proofs.YtegafhhdegnigaaGreat
open Go.RowKit Hp
set_option maxRecDepth 100000
set_option maxHeartbeats 1000000
attribute [local irreducible] Go.Calls
theorem fnil_run (x : Operand) (f : Fn) (a b : Array Value) (w : World) : (do pure (Next.value (← (do eqGuard .eql 178 x (.const .nilFunc) (.func f a b) .nilFunc;binOp .eql 178 (.func f a b) .nilFunc))) : Sem Next).run Tryz.prog w = .ok (.value (.bool false)) w := by
 kernel_rfl
theorem wl_fnil {ops : Array Oper} {Q : Exit → Act → World → Prop} {w : World} {rest : List Oper} {l : List Value} {ds : List Deferred} {ty y : TypeId} {pos : String} {after : Array Edge} {gd : Option (Nat × Bool)} {d : Nat} {x : Operand} {f : Fn} {a b : Array Value} (hx : ev l x = some (.func f a b))
  (hg : Region.wanted { dst := some d,op := .binOp .eql 178 x (.const .nilFunc) y,type := ty,pos,after,guard := gd } (yielded ops l.toArray) = true)
  (kk : wpList Tryz.prog ops Q rest ⟨(l.set d (.bool false)).toArray,ds⟩ w) :
  wpList Tryz.prog ops Q ({ dst := some d,op := .binOp .eql 178 x (.const .nilFunc) y,type := ty,pos,after,guard := gd } :: rest) ⟨l.toArray,ds⟩ w := by
 refine wl_val (v := .bool false) hg ?_ (put_set ▸ kk)
 have e : (Act.mk l.toArray ds).eval x = .func f a b := ev_eval hx
 simp only [execOp,e]
 exact fnil_run x f a b w
theorem fnil2_run (x : Operand) (w : World) : (do pure (Next.value (← (do eqGuard .eql 178 x (.const .nilFunc) .nilFunc .nilFunc;binOp .eql 178 .nilFunc .nilFunc))) : Sem Next).run Tryz.prog w = .ok (.value (.bool true)) w := by
 kernel_rfl
theorem wl_fnil2 {ops : Array Oper} {Q : Exit → Act → World → Prop} {w : World} {rest : List Oper} {l : List Value} {ds : List Deferred} {ty y : TypeId} {pos : String} {after : Array Edge} {gd : Option (Nat × Bool)} {d : Nat} {x : Operand} (hx : ev l x = some .nilFunc)
  (hg : Region.wanted { dst := some d,op := .binOp .eql 178 x (.const .nilFunc) y,type := ty,pos,after,guard := gd } (yielded ops l.toArray) = true)
  (kk : wpList Tryz.prog ops Q rest ⟨(l.set d (.bool true)).toArray,ds⟩ w) :
  wpList Tryz.prog ops Q ({ dst := some d,op := .binOp .eql 178 x (.const .nilFunc) y,type := ty,pos,after,guard := gd } :: rest) ⟨l.toArray,ds⟩ w := by
 refine wl_val (v := .bool true) hg ?_ (put_set ▸ kk)
 have e : (Act.mk l.toArray ds).eval x = .nilFunc := ev_eval hx
 simp only [execOp,e]
 exact fnil2_run x w
section
variable {σ τ : Type} (T : Tasks σ τ) (bx bm : Nat) {m : Mch} {mv : Mv}
theorem move_step (hT : T.Good) (s : σ) (tasks : List (Option τ)) (hcur0 : m.cur = none) (hl : m.moves < 65536) (hm0 : 0 ≤ m.moves) {t i : Nat} {c : Cll} {se : Sea} {k : τ} (ht : mv.thread = (t : Int)) (hop : mv.op = 0) (hse : m.seats[t]? = some se) (hk : tasks[t]? = some (some k)) (hlast : se.last = (i : Int)) (hc : m.calls[i]? = some c) (hlen : tasks.length = m.seats.length)
  (hr : se.ready = false → T.okr s ({ m with moves := m.moves + 1 }.prep t i m.moves se) t k)
  (hs2 : (stepReady T s { m with moves := m.moves + 1 } i t c se k m.moves).1 = false → T.oks (stepReady T s { m with moves := m.moves + 1 } i t c se k m.moves).2.1 (stepReady T s { m with moves := m.moves + 1 } i t c se k m.moves).2.2.1 t (stepReady T s { m with moves := m.moves + 1 } i t c se k m.moves).2.2.2) :
  Gives Tryz.prog 41 #[.pointer (some ⟨bx,0,none⟩),mv.v] (MchR bx bm m * (T.X s * tskR T.R tasks m.seats)) (.bool true)
   (MchR bx bm (machStep T s { m with moves := m.moves + 1 } i t c se k m.moves).2.1 * (T.X (machStep T s { m with moves := m.moves + 1 } i t c se k m.moves).1 * tskR T.R (tasks.set t (machStep T s { m with moves := m.moves + 1 } i t c se k m.moves).2.2) (machStep T s { m with moves := m.moves + 1 } i t c se k m.moves).2.1.seats)) := by
 obtain ⟨v1,v2,v3,v4⟩ := mv
 simp only [] at ht hop
 subst ht hop
 have hS := mach_step T hT bx bm s { m with moves := m.moves + 1 } tasks i t c se k m.moves hcur0 hse hk hlast hc hlen hr hs2
 clear hr hs2
 intro O w F hs
 simp only [mul_assoc'] at hs
 obtain ⟨ty,x,hx⟩ : ∃ ty x,se.task = .iface ty x := by
  have h := hs
  rw [tsk_at hk hse,tsk_one] at h
  simp only [mul_assoc'] at h
  have h2 := h.pull (A := T.R k se.task) (by (focus with_reducible (repeat first|exact Qh|apply Qk);done))
  exact hT.iface h2
 generalize machStep T s { m with moves := m.moves + 1 } i t c se k m.moves = r at hS ⊢
 obtain ⟨r1,r2,r3⟩ := r
 have HS := Lib.hid hS;clear hS
 obtain ⟨s1,s2,s3,s4,s5⟩ := se
 simp only [] at hx
 subst hx
 clear hk hlen hlast hc hcur0
 (obtain ⟨vh,call,told,hcur,hs⟩ := mchR.1 hs)
 have lt := (List.getElem?_eq_some_iff.1 hse).1
 have h0' : ((m.seats.length : Int) == 0) = false := by simp;intro e;simp [e] at lt
 have h1 : decide (m.moves ≥ 65536) = false := by simpa using hl
 have h2 : decide ((t : Int) < 0) = false := by simp
 have h3 : decide ((t : Int) ≥ (m.seats.length : Int)) = false := by simp;omega
 go_enter Tryz.func41,Tryz.ntmps41
 go_wp2_with (first|(first|(first|(with_reducible refine NQ.mk ?_)|((with_reducible apply pl_neu);rfl;rfl)|(with_reducible refine pl_end ?_))|((with_reducible apply wl_ld hs);infer_instance;rfl;(focus with_reducible (repeat first|exact Qh|apply Qk);done);rfl;rfl;(simp only [Uc,Uz]))|((with_reducible apply wl_st hs);infer_instance;rfl;rfl;(focus with_reducible (repeat first|exact Qh|apply Qk);done);(rfl);(exact Vb rfl);rfl;clear hs;intro w hs;simp only [List.setIfInBounds_toArray,Uc,Uz] at hs)|((with_reducible apply wl_box hs);rfl;rfl;rfl;clear hs;intro w b hs;(simp only [Uc,Uz]))|((with_reducible apply wl_ldS0 hs);infer_instance;rfl;assumption;(focus with_reducible (repeat first|exact Qh|apply Qk);done);rfl;(exact map_get (by assumption));rfl;rfl;(simp only [Uc,Uz]))|((with_reducible apply wl_ia hs);infer_instance;infer_instance;rfl;rfl;(focus with_reducible (repeat first|exact Qh|apply Qk);done);(rfl);(simp only [Wm,Ws,Wa,Wc,Wn,Wr] at *;omega);rfl;intro b off hat;(simp only [Uc,Uz]))|((with_reducible apply wl_len hs);infer_instance;rfl;(focus with_reducible (repeat first|exact Qh|apply Qk);done);rfl;(simp only [Uc,Uz])))|(go_at_call 101;(replace hs := mchR_mk (m := { m with moves := m.moves + 1 }) hcur (hs.fin (by (focus with_reducible (repeat first|exact Ql|exact Qh|apply Qb|apply Qk);done))));((refine (HS.out).at hs (by (focus with_reducible (repeat first|exact Qh|apply Qb|apply Qk);done)) ?_);clear hs;intro w hs;(try simp only [emp_mul,mul_assoc'] at hs)))|((with_reducible refine wp_plan_sat (id := 5) [.neu 0,.neu 1,.neu 2,.neu 3,.neu 4,.neu 5,.neu 6,.neu 7,.neu 8,.neu 9,.neu 10,.neu 11,.neu 12] hs rfl ?_ ?_);kernel_rfl;clear hs;intro w hs)|((with_reducible refine wp_plan_sat (id := 7) [.neu 0,.neu 1,.neu 2,.neu 3,.neu 4,.neu 5,.neu 6,.neu 7] hs rfl ?_ ?_);kernel_rfl;clear hs;intro w hs))
 (go_ret)
 refine ⟨rfl,?_⟩
 simp only [mul_assoc']
 ((with_reducible apply Sat.fin hs);(focus with_reducible (repeat first|exact Ql|exact Qh|apply Qb|apply Qk);done))
theorem move_nokit {kv : Value} {K : Int → Option Value} (hkv : m.kit = kv) (hl : m.moves < 65536) (hm0 : 0 ≤ m.moves) {t : Nat} {se : Sea} (ht : mv.thread = (t : Int)) (hop : mv.op ≠ 0) (hse : m.seats[t]? = some se) (hidle : se.task = .nilIface) (hK : K mv.op = none) :
  Gives Tryz.prog 41 #[.pointer (some ⟨bx,0,none⟩),mv.v] (MchR bx bm m * mp .i64 K kv) (.bool false) (MchR bx bm { m with moves := m.moves + 1 } * mp .i64 K kv) := by
 obtain ⟨v1,v2,v3,v4⟩ := mv
 obtain ⟨s1,s2,s3,s4,s5⟩ := se
 simp only [] at ht hidle hop hK
 subst ht hidle hkv
 intro O w F hs
 simp only [mul_assoc'] at hs
 (obtain ⟨vh,call,told,hcur,hs⟩ := mchR.1 hs)
 have lt := (List.getElem?_eq_some_iff.1 hse).1
 have h0' : ((m.seats.length : Int) == 0) = false := by simp;intro e;simp [e] at lt
 have h1 : decide (m.moves ≥ 65536) = false := by simpa using hl
 have h2 : decide ((t : Int) < 0) = false := by simp
 have h3 : decide ((t : Int) ≥ (m.seats.length : Int)) = false := by simp;omega
 have h4 : (v2 == 0) = false := by simpa using hop
 have h5 : (K v2).getD .nilFunc = .nilFunc := by rw [hK];rfl
 clear hK
 have HN := Lib.hid hop;clear hop
 go_enter Tryz.func41,Tryz.ntmps41
 go_wp2_with (first|(first|(first|(with_reducible refine NQ.mk ?_)|((with_reducible apply pl_neu);rfl;rfl)|(with_reducible refine pl_end ?_))|((with_reducible apply wl_ld hs);infer_instance;rfl;(focus with_reducible (repeat first|exact Qh|apply Qk);done);rfl;rfl;(simp only [Uc,Uz]))|((with_reducible apply wl_st hs);infer_instance;rfl;rfl;(focus with_reducible (repeat first|exact Qh|apply Qk);done);(rfl);(exact Vb rfl);rfl;clear hs;intro w hs;simp only [List.setIfInBounds_toArray,Uc,Uz] at hs)|((with_reducible apply wl_box hs);rfl;rfl;rfl;clear hs;intro w b hs;(simp only [Uc,Uz]))|((with_reducible apply wl_ldS0 hs);infer_instance;rfl;assumption;(focus with_reducible (repeat first|exact Qh|apply Qk);done);rfl;(exact map_get (by assumption));rfl;rfl;(simp only [Uc,Uz]))|((with_reducible apply wl_ia hs);infer_instance;infer_instance;rfl;rfl;(focus with_reducible (repeat first|exact Qh|apply Qk);done);(rfl);(simp only [Wm,Ws,Wa,Wc,Wn,Wr] at *;omega);rfl;intro b off hat;(simp only [Uc,Uz]))|((with_reducible apply wl_len hs);infer_instance;rfl;(focus with_reducible (repeat first|exact Qh|apply Qk);done);rfl;(simp only [Uc,Uz])))|((with_reducible apply wl_lk hs);infer_instance;rfl;rfl;(focus with_reducible (repeat first|exact Qh|apply Qk);done);(assumption);rfl;(simp only [Uc,Uz]))|((with_reducible apply wl_fnil2);rfl;rfl;(simp only [Uc,Uz]))|((with_reducible refine wp_plan_sat (id := 5) [.neu 0,.neu 1,.neu 2,.neu 3,.neu 4,.neu 5,.neu 6,.neu 7,.neu 8,.neu 9,.neu 10,.neu 11,.neu 12] hs rfl ?_ ?_);kernel_rfl;clear hs;intro w hs)|((with_reducible refine wp_plan_sat (id := 7) [.neu 0,.neu 1,.neu 2,.neu 3,.neu 4,.neu 5,.neu 6,.neu 7] hs rfl ?_ ?_);kernel_rfl;clear hs;intro w hs)|((with_reducible refine wp_plan_sat (id := 15) [.neu 0,.neu 1,.neu 2,.neu 3,.neu 4,.neu 5,.neu 6,.neu 7] hs rfl ?_ ?_);kernel_rfl;clear hs;intro w hs))
 (go_ret)
 refine ⟨rfl,?_⟩
 simp only [mul_assoc']
 apply mchR_mk (m := { m with moves := m.moves + 1 }) hcur
 ((with_reducible apply Sat.fin hs);(focus with_reducible (repeat first|exact Ql|exact Qh|apply Qb|apply Qk);done))
theorem move_refused {K : Int → Option Value} {mkr : σ → Nat → Mv → Option τ} {ok : σ → Prop} {n : Nat} (hKO : KitOk T K mkr ok n) (s : σ) (hok : ok s) {kv : Value} (hkv : m.kit = kv) (hl : m.moves < 65536) (hm0 : 0 ≤ m.moves) {t : Nat} {se : Sea} (ht : mv.thread = (t : Int)) (htn : t < n) (hop : mv.op ≠ 0) (hse : m.seats[t]? = some se) (hidle : se.task = .nilIface) {u : Value} (hK : K mv.op = some u) (hmk : mkr s t mv = none) :
  Gives Tryz.prog 41 #[.pointer (some ⟨bx,0,none⟩),mv.v] (MchR bx bm m * (mp .i64 K kv * T.X s)) (.bool false) (MchR bx bm { m with moves := m.moves + 1 } * (mp .i64 K kv * T.X s)) := by
 have hD := hKO.make mv.op u s t mv hK rfl htn ht hok
 rw [hmk] at hD
 have HD := Lib.hid hD;clear hD hmk
 obtain ⟨f,a,b,hu⟩ := hKO.func _ _ hK
 obtain ⟨v1,v2,v3,v4⟩ := mv
 obtain ⟨s1,s2,s3,s4,s5⟩ := se
 simp only [] at ht hidle hop hK
 subst ht hidle hkv hu
 intro O w F hs
 simp only [mul_assoc'] at hs
 (obtain ⟨vh,call,told,hcur,hs⟩ := mchR.1 hs)
 have lt := (List.getElem?_eq_some_iff.1 hse).1
 have h0' : ((m.seats.length : Int) == 0) = false := by simp;intro e;simp [e] at lt
 have h1 : decide (m.moves ≥ 65536) = false := by simpa using hl
 have h2 : decide ((t : Int) < 0) = false := by simp
 have h3 : decide ((t : Int) ≥ (m.seats.length : Int)) = false := by simp;omega
 have h4 : (v2 == 0) = false := by simpa using hop
 have h5 : (K v2).getD .nilFunc = .func f a b := by rw [hK];rfl
 clear hK
 have HN := Lib.hid hop;clear hop
 go_enter Tryz.func41,Tryz.ntmps41
 go_wp2_with (first|(first|(first|(with_reducible refine NQ.mk ?_)|((with_reducible apply pl_neu);rfl;rfl)|(with_reducible refine pl_end ?_))|((with_reducible apply wl_ld hs);infer_instance;rfl;(focus with_reducible (repeat first|exact Qh|apply Qk);done);rfl;rfl;(simp only [Uc,Uz]))|((with_reducible apply wl_ldF hs);infer_instance;rfl;(focus with_reducible (repeat first|exact Qh|apply Qk);done);rfl;rfl;(simp only [Uc,Uz]))|((with_reducible apply wl_st hs);infer_instance;rfl;rfl;(focus with_reducible (repeat first|exact Qh|apply Qk);done);(rfl);(exact Vb rfl);rfl;clear hs;intro w hs;simp only [List.setIfInBounds_toArray,Uc,Uz] at hs)|((with_reducible apply wl_box hs);rfl;rfl;rfl;clear hs;intro w b hs;(simp only [Uc,Uz]))|((with_reducible apply wl_ldS0 hs);infer_instance;rfl;assumption;(focus with_reducible (repeat first|exact Qh|apply Qk);done);rfl;(exact map_get (by assumption));rfl;rfl;(simp only [Uc,Uz]))|((with_reducible apply wl_ia hs);infer_instance;infer_instance;rfl;rfl;(focus with_reducible (repeat first|exact Qh|apply Qk);done);(rfl);(simp only [Wm,Ws,Wa,Wc,Wn,Wr] at *;omega);rfl;intro b off hat;(simp only [Uc,Uz]))|((with_reducible apply wl_len hs);infer_instance;rfl;(focus with_reducible (repeat first|exact Qh|apply Qk);done);rfl;(simp only [Uc,Uz])))|((with_reducible apply wl_lk hs);infer_instance;rfl;rfl;(focus with_reducible (repeat first|exact Qh|apply Qk);done);(assumption);rfl;(simp only [Uc,Uz]))|((with_reducible apply wl_fnil);rfl;rfl;(simp only [Uc,Uz]))|((with_reducible apply wl_val2 hs);rfl;rfl;rfl;exact HD.out;(focus with_reducible (repeat first|exact Qh|apply Qk);done);rfl;clear hs;intro v w hs;(replace hs := made_none.1 hs);(obtain ⟨rfl,hs⟩ := hs);(simp only [Uc,Uz]))|((with_reducible refine wp_plan_sat (id := 5) [.neu 0,.neu 1,.neu 2,.neu 3,.neu 4,.neu 5,.neu 6,.neu 7,.neu 8,.neu 9,.neu 10,.neu 11,.neu 12] hs rfl ?_ ?_);kernel_rfl;clear hs;intro w hs)|((with_reducible refine wp_plan_sat (id := 7) [.neu 0,.neu 1,.neu 2,.neu 3,.neu 4,.neu 5,.neu 6,.neu 7] hs rfl ?_ ?_);kernel_rfl;clear hs;intro w hs)|((with_reducible refine wp_plan_sat (id := 15) [.neu 0,.neu 1,.neu 2,.neu 3,.neu 4,.neu 5,.neu 6,.neu 7] hs rfl ?_ ?_);kernel_rfl;clear hs;intro w hs))
 (go_ret)
 refine ⟨rfl,?_⟩
 simp only [mul_assoc']
 apply mchR_mk (m := { m with moves := m.moves + 1 }) hcur
 ((with_reducible apply Sat.fin hs);(focus with_reducible (repeat first|exact Ql|exact Qh|apply Qb|apply Qk);done))
theorem move_begin (hT : T.Good) {K : Int → Option Value} {mkr : σ → Nat → Mv → Option τ} {ok : σ → Prop} {n : Nat} (hKO : KitOk T K mkr ok n) (s : σ) (hok : ok s) {kv : Value} (hkv : m.kit = kv) (hcur0 : m.cur = none) (hl : m.moves < 65536) (hm0 : 0 ≤ m.moves) {t : Nat} {se : Sea} (ht : mv.thread = (t : Int)) (htn : t < n) (hop : mv.op ≠ 0) (hse : m.seats[t]? = some se) (hidle : se.task = .nilIface) {u : Value} (hK : K mv.op = some u) {k : τ} (hmk : mkr s t mv = some k) (hcl : m.calls.length < 4294967296)
  {tasks : List (Option τ)} (htk : tasks[t]? = some none) (hlen : tasks.length = m.seats.length) :
  Gives Tryz.prog 41 #[.pointer (some ⟨bx,0,none⟩),mv.v] (MchR bx bm m * (mp .i64 K kv * (T.X s * tskR T.R tasks m.seats))) (.bool true)
   (ex fun v => ex fun vc' => MchR bx bm (machBegin m t mv v vc') * (mp .i64 K kv * (T.X s * tskR T.R (tasks.set t (some k)) (machBegin m t mv v vc').seats))) := by
 have hD := hKO.make mv.op u s t mv hK rfl htn ht hok
 rw [hmk] at hD
 have HD := Lib.hid hD;clear hD hmk
 obtain ⟨f,a,b,hu⟩ := hKO.func _ _ hK
 obtain ⟨v1,v2,v3,v4⟩ := mv
 obtain ⟨s1,s2,s3,s4,s5⟩ := se
 simp only [] at ht hidle hop hK
 subst ht hidle hkv hu
 intro O w F hs
 simp only [mul_assoc'] at hs
 rw [tsk_at htk hse,tsk_none rfl,emp_mul] at hs
 (obtain ⟨vh,call,told,hcur,hs⟩ := mchR.1 hs)
 have lt := (List.getElem?_eq_some_iff.1 hse).1
 have h0' : ((m.seats.length : Int) == 0) = false := by simp;intro e;simp [e] at lt
 have h1 : decide (m.moves ≥ 65536) = false := by simpa using hl
 have h2 : decide ((t : Int) < 0) = false := by simp
 have h3 : decide ((t : Int) ≥ (m.seats.length : Int)) = false := by simp;omega
 have h4 : (v2 == 0) = false := by simpa using hop
 have h5 : (K v2).getD .nilFunc = .func f a b := by rw [hK];rfl
 clear hK
 have HCur := Lib.hid hcur0;clear hcur0
 have HN := Lib.hid hop;clear hop
 have HH := Lib.hid hcur;clear hcur
 go_enter Tryz.func41,Tryz.ntmps41
 go_wp2_with (first|(first|(first|(with_reducible refine NQ.mk ?_)|((with_reducible apply pl_neu);rfl;rfl)|((with_reducible apply pl_eff);rfl)|(with_reducible refine EQ.mk ?_ ?_)|(first|(with_reducible exact chk_nil)|((with_reducible refine chk_cons ?_ ?_);(focus ((with_reducible apply pl_chk);rfl;rfl))))|(with_reducible refine pl_end ?_)|(show SameA _ _ _;rfl))|((with_reducible apply wl_ld hs);infer_instance;rfl;(focus with_reducible (repeat first|exact Qh|apply Qk);done);rfl;rfl;(simp only [Uc,Uz]))|((with_reducible apply wl_ldF hs);infer_instance;rfl;(focus with_reducible (repeat first|exact Qh|apply Qk);done);rfl;rfl;(simp only [Uc,Uz]))|((with_reducible apply wl_st hs);infer_instance;rfl;rfl;(focus with_reducible (repeat first|exact Qh|apply Qk);done);(first|rfl|(apply sl_one;apply hs.pull;(with_reducible exact Qh)));(exact Vb rfl);rfl;clear hs;intro w hs;simp only [List.setIfInBounds_toArray,Uc,Uz] at hs)|((with_reducible apply wl_box hs);rfl;rfl;rfl;clear hs;intro w b hs;(simp only [Uc,Uz]))|((with_reducible apply wl_ldS0 hs);infer_instance;rfl;assumption;(focus with_reducible (repeat first|exact Qh|apply Qk);done);rfl;(exact map_get (by assumption));rfl;rfl;(simp only [Uc,Uz]))|((with_reducible apply wl_stSN (k := 0) hs);infer_instance;rfl;rfl;assumption;(focus with_reducible (repeat first|exact Qh|apply Qk);done);(exact (Nat.add_zero _).symm);(exact map_get (by assumption));(exact Vb rfl);rfl;rfl;rfl;rfl;clear hs;intro w hs;simp only [List.take_succ_cons,List.take_zero,List.drop_succ_cons,List.drop_zero,List.cons_append,List.nil_append,List.append_nil] at hs)|((with_reducible apply wl_ia hs);infer_instance;infer_instance;rfl;rfl;(focus with_reducible (repeat first|exact Qh|apply Qk);done);(rfl);(simp only [Wm,Ws,Wa,Wc,Wn,Wr] at *;omega);rfl;intro b off hat;(simp only [Uc,Uz]))|((with_reducible apply wl_len hs);infer_instance;rfl;(focus with_reducible (repeat first|exact Qh|apply Qk);done);rfl;(simp only [Uc,Uz]))|((with_reducible apply wl_bs hs);infer_instance;infer_instance;rfl;rfl;rfl;rfl;(exact Vb rfl);rfl;clear hs;intro w v hs;(simp only [Uc,Uz]))|((with_reducible apply wl_app hs);infer_instance;infer_instance;rfl;rfl;(focus with_reducible (repeat first|exact Qh|apply Qk);done);(with_reducible exact Qh);(simp only [Wm,Ws,Wa,Wc,Wn,Wr] at *;omega);(exact Vb rfl);rfl;clear hs;intro w v hs;(simp only [Uc,Uz])))|((with_reducible apply wl_lk hs);infer_instance;rfl;rfl;(focus with_reducible (repeat first|exact Qh|apply Qk);done);(assumption);rfl;(simp only [Uc,Uz]))|((with_reducible apply wl_fnil);rfl;rfl;(simp only [Uc,Uz]))|((with_reducible apply wl_val2 hs);rfl;rfl;rfl;exact HD.out;(focus with_reducible (repeat first|exact Qh|apply Qk);done);rfl;clear hs;intro v w hs;(replace hs := made_some.1 hs);(obtain ⟨ty,x,rfl⟩ := hT.iface hs);(simp only [Uc,Uz]))|((with_reducible refine wp_plan_sat (id := 5) [.neu 0,.neu 1,.neu 2,.neu 3,.neu 4,.neu 5,.neu 6,.neu 7,.neu 8,.neu 9,.neu 10,.neu 11,.neu 12] hs rfl ?_ ?_);kernel_rfl;clear hs;intro w hs)|((with_reducible refine wp_plan_sat (id := 7) [.neu 0,.neu 1,.neu 2,.neu 3,.neu 4,.neu 5,.neu 6,.neu 7] hs rfl ?_ ?_);kernel_rfl;clear hs;intro w hs)|((with_reducible refine wp_plan_sat (id := 15) [.neu 0,.neu 1,.neu 2,.neu 3,.neu 4,.neu 5,.neu 6,.neu 7] hs rfl ?_ ?_);kernel_rfl;clear hs;intro w hs)|((with_reducible refine wp_plan_sat (id := 22) [.neu 0,.neu 1,.neu 2,.neu 3,.neu 4,.neu 5,.neu 6,.neu 7,.neu 8,.neu 9,.neu 10,.neu 11,.neu 12,.neu 13,.neu 14,.eff 15 [0,1,2,3,4],.eff 16 [0],.neu 17,.neu 18,.eff 19 []] hs rfl ?_ ?_);kernel_rfl;clear hs;intro w hs))
 (go_ret)
 refine ⟨rfl,?_⟩
 rw [sat_ex]
 refine ⟨.iface ty x,?_⟩
 rw [sat_ex]
 refine ⟨v,?_⟩
 simp only [machBegin,mul_assoc']
 rw [tsk_put (by omega) (by omega),tsk_one]
 simp only [mul_assoc']
 apply mchR_mk (vh := vh) (call := call) (told := told)
 ·exact ⟨fun h => HH.out.no h,fun i t h => by rw [HCur.out] at h;cases h⟩
 ·simp only [List.map_set,List.map_append,List.map_cons,List.map_nil]
  ((with_reducible apply Sat.fin hs);(focus with_reducible (repeat first|exact Ql|exact Qh|apply Qb|apply Qk);done))
end
end Go.Proofs.YtegafhhdegnigaaGreat
end
/-
  slices.Clone; a range over a function: the fenced laws by contract.
-/
section
namespace Go.Proofs.YtegafhhdegnigaaGreat
open Go.RowKit Hp
set_option maxRecDepth 100000
set_option maxHeartbeats 1000000
attribute [local irreducible] Go.Calls
section
variable {P : Program} {ops : Array Oper} {Q : Exit → Act → World → Prop} {w : World} {rest : List Oper} {O : World} {S R : SProp}
variable {l : List Value} {ds : List Deferred} {T ty E : TypeId} {pos : String} {after : Array Edge} {gd : Option (Nat × Bool)} {d : Nat} {x y : Operand} {sz : Nat}
theorem wl_bs0 {by_ : Nat} (hs : Sat O w S) (h : SlcC P T E) (hE : ElC P E sz by_)
  (hg : Region.wanted { dst := some d,op := .buildSlice T 0 #[],type := ty,pos,after,guard := gd } (yielded ops l.toArray) = true)
  (kk : ∀ w' v',Sat O w' (sl E sz [] v' * S) → wpList P ops Q rest ⟨(l.set d v').toArray,ds⟩ w') :
  wpList P ops Q ({ dst := some d,op := .buildSlice T 0 #[],type := ty,pos,after,guard := gd } :: rest) ⟨l.toArray,ds⟩ w := by
 have hinfo := hE.info
 have hzero := hE.zero
 have hpos := hE.pos
 cases hq : P.info? E with
 | none => simp [hq] at hinfo
 | some inf =>
  cases hzz : inf.zero with
  | none => simp [hq,hzz] at hzero
  | some zv =>
   simp [hq,hzz] at hinfo hzero
   refine wl_val (v := .slice (some ⟨w.heap.size,0,none⟩) 0 0) (w' := w.alloc (.cells #[] E)) hg ?_ (put_set ▸ kk _ _ ?_)
   ·have hne : ¬ sz = 0 := by omega
    simp [execOp,Instr.buildSlice,run_underlying h.is,sizeOf,typeInfo,hq,hinfo.1,hne,zeroValue,hzz,Instr.fill,newRow]
    first|rfl|(congr 2;apply Array.ext';simp)
   ·refine sat_sl.2 ⟨⟨by simp,hpos⟩,.inr ⟨w.heap.size,0,0,[],[],rfl,rfl,by simp,by simp,?_⟩⟩
    exact (hs.alloc (.cells #[] E)).cast (by simp)
end
section
end
theorem clone_words (v : Value) (ws : List Int) (hl : ws.length < 4294967296) :
  Does Tryz.prog 128 #[v] (sl 57 1 (ws.map eU) v) (fun u => sl 57 1 (ws.map eU) u * sl 57 1 (ws.map eU) v) := by
 intro O w F hs
 have hcase : (v = .slice none 0 0 ∧ ws = []) ∨ ∃ b off n cap,v = .slice (some ⟨b,off,none⟩) n cap := by
  obtain ⟨_,⟨hv,hc,_⟩|⟨b,off,cap,_,_,hv,_⟩⟩ := sat_sl.1 hs
  ·exact .inl ⟨hv,by simpa using hc⟩
  ·exact .inr ⟨_,_,_,_,hv⟩
 rcases hcase with ⟨rfl,rfl⟩|⟨b0,o0,n0,c0,rfl⟩
 ·have hb : ∀ w,(binOp .eql 30 (.slice none 0 0) (.slice none 0 0)).run Tryz.prog w = .ok (.bool true) w := fun w => by kernel_rfl
  go_enter Tryz.func128,Tryz.ntmps128
  go_wp2_with (fail)
  (go_ret)
  refine ⟨_,rfl,?_⟩
  have hs := sl_nil (E := 57) (sz := 1) hs (by omega)
  simp only [List.map_nil,mul_assoc']
  ((with_reducible apply Sat.fin hs);(focus ((repeat (first|with_reducible exact Ql|with_reducible apply Qb|exact Qh));done)))
 ·have hb : ∀ w,(binOp .eql 30 (.slice (some ⟨b0,o0,none⟩) n0 c0) (.slice none 0 0)).run Tryz.prog w = .ok (.bool false) w := fun w => by kernel_rfl
  go_enter Tryz.func128,Tryz.ntmps128
  go_wp2_with (first|((with_reducible apply wl_app hs);infer_instance;infer_instance;rfl;rfl;(with_reducible exact Qh);(with_reducible exact Qh);(simp only [Wm,Ws,Wa,Wc,Wn,Wr] at *;omega);(exact Vb rfl);rfl;clear hs;intro w v hs;(simp only [Uc,Uz]))|((with_reducible apply wl_bs0 hs);infer_instance;infer_instance;rfl;clear hs;intro w v hs;(simp only [Uc,Uz])))
  (go_ret)
  refine ⟨_,rfl,?_⟩
  simp only [List.nil_append,mul_assoc'] at hs ⊢
  ((with_reducible apply Sat.fin hs);(focus ((repeat (first|with_reducible exact Ql|with_reducible apply Qb|exact Qh));done)))
theorem clone_calls (v : Value) (ws : List Cll) (hl : ws.length < 4294967296) :
  Does Tryz.prog 103 #[v] (sl 50 9 (ws.map Cll.e) v) (fun u => sl 50 9 (ws.map Cll.e) u * sl 50 9 (ws.map Cll.e) v) := by
 intro O w F hs
 have hcase : (v = .slice none 0 0 ∧ ws = []) ∨ ∃ b off n cap,v = .slice (some ⟨b,off,none⟩) n cap := by
  obtain ⟨_,⟨hv,hc,_⟩|⟨b,off,cap,_,_,hv,_⟩⟩ := sat_sl.1 hs
  ·exact .inl ⟨hv,by simpa using hc⟩
  ·exact .inr ⟨_,_,_,_,hv⟩
 rcases hcase with ⟨rfl,rfl⟩|⟨b0,o0,n0,c0,rfl⟩
 ·have hb : ∀ w,(binOp .eql 27 (.slice none 0 0) (.slice none 0 0)).run Tryz.prog w = .ok (.bool true) w := fun w => by kernel_rfl
  go_enter Tryz.func103,Tryz.ntmps103
  go_wp2_with (fail)
  (go_ret)
  refine ⟨_,rfl,?_⟩
  have hs := sl_nil (E := 50) (sz := 9) hs (by omega)
  simp only [List.map_nil,mul_assoc']
  ((with_reducible apply Sat.fin hs);(focus ((repeat (first|with_reducible exact Ql|with_reducible apply Qb|exact Qh));done)))
 ·have hb : ∀ w,(binOp .eql 27 (.slice (some ⟨b0,o0,none⟩) n0 c0) (.slice none 0 0)).run Tryz.prog w = .ok (.bool false) w := fun w => by kernel_rfl
  go_enter Tryz.func103,Tryz.ntmps103
  go_wp2_with (first|((with_reducible apply wl_app hs);infer_instance;infer_instance;rfl;rfl;(with_reducible exact Qh);(with_reducible exact Qh);(simp only [Wm,Ws,Wa,Wc,Wn,Wr] at *;omega);(exact Vb rfl);rfl;clear hs;intro w v hs;(simp only [Uc,Uz]))|((with_reducible apply wl_bs0 hs);infer_instance;infer_instance;rfl;clear hs;intro w v hs;(simp only [Uc,Uz])))
  (go_ret)
  refine ⟨_,rfl,?_⟩
  simp only [List.nil_append,mul_assoc'] at hs ⊢
  ((with_reducible apply Sat.fin hs);(focus ((repeat (first|with_reducible exact Ql|with_reducible apply Qb|exact Qh));done)))
theorem clone_shifts (v : Value) (ws : List Shf) (hl : ws.length < 4294967296) :
  Does Tryz.prog 104 #[v] (sl 127 5 (ws.map Shf.e) v) (fun u => sl 127 5 (ws.map Shf.e) u * sl 127 5 (ws.map Shf.e) v) := by
 intro O w F hs
 have hcase : (v = .slice none 0 0 ∧ ws = []) ∨ ∃ b off n cap,v = .slice (some ⟨b,off,none⟩) n cap := by
  obtain ⟨_,⟨hv,hc,_⟩|⟨b,off,cap,_,_,hv,_⟩⟩ := sat_sl.1 hs
  ·exact .inl ⟨hv,by simpa using hc⟩
  ·exact .inr ⟨_,_,_,_,hv⟩
 rcases hcase with ⟨rfl,rfl⟩|⟨b0,o0,n0,c0,rfl⟩
 ·have hb : ∀ w,(binOp .eql 29 (.slice none 0 0) (.slice none 0 0)).run Tryz.prog w = .ok (.bool true) w := fun w => by kernel_rfl
  go_enter Tryz.func104,Tryz.ntmps104
  go_wp2_with (fail)
  (go_ret)
  refine ⟨_,rfl,?_⟩
  have hs := sl_nil (E := 127) (sz := 5) hs (by omega)
  simp only [List.map_nil,mul_assoc']
  ((with_reducible apply Sat.fin hs);(focus ((repeat (first|with_reducible exact Ql|with_reducible apply Qb|exact Qh));done)))
 ·have hb : ∀ w,(binOp .eql 29 (.slice (some ⟨b0,o0,none⟩) n0 c0) (.slice none 0 0)).run Tryz.prog w = .ok (.bool false) w := fun w => by kernel_rfl
  go_enter Tryz.func104,Tryz.ntmps104
  go_wp2_with (first|((with_reducible apply wl_app hs);infer_instance;infer_instance;rfl;rfl;(with_reducible exact Qh);(with_reducible exact Qh);(simp only [Wm,Ws,Wa,Wc,Wn,Wr] at *;omega);(exact Vb rfl);rfl;clear hs;intro w v hs;(simp only [Uc,Uz]))|((with_reducible apply wl_bs0 hs);infer_instance;infer_instance;rfl;clear hs;intro w v hs;(simp only [Uc,Uz])))
  (go_ret)
  refine ⟨_,rfl,?_⟩
  simp only [List.nil_append,mul_assoc'] at hs ⊢
  ((with_reducible apply Sat.fin hs);(focus ((repeat (first|with_reducible exact Ql|with_reducible apply Qb|exact Qh));done)))
theorem clone_log (v : Value) (ws : List Acc) (hl : ws.length < 4294967296) :
  Does Tryz.prog 131 #[v] (sl 138 7 (ws.map Acc.e) v) (fun u => sl 138 7 (ws.map Acc.e) u * sl 138 7 (ws.map Acc.e) v) := by
 intro O w F hs
 have hcase : (v = .slice none 0 0 ∧ ws = []) ∨ ∃ b off n cap,v = .slice (some ⟨b,off,none⟩) n cap := by
  obtain ⟨_,⟨hv,hc,_⟩|⟨b,off,cap,_,_,hv,_⟩⟩ := sat_sl.1 hs
  ·exact .inl ⟨hv,by simpa using hc⟩
  ·exact .inr ⟨_,_,_,_,hv⟩
 rcases hcase with ⟨rfl,rfl⟩|⟨b0,o0,n0,c0,rfl⟩
 ·have hb : ∀ w,(binOp .eql 28 (.slice none 0 0) (.slice none 0 0)).run Tryz.prog w = .ok (.bool true) w := fun w => by kernel_rfl
  go_enter Tryz.func131,Tryz.ntmps131
  go_wp2_with (fail)
  (go_ret)
  refine ⟨_,rfl,?_⟩
  have hs := sl_nil (E := 138) (sz := 7) hs (by omega)
  simp only [List.map_nil,mul_assoc']
  ((with_reducible apply Sat.fin hs);(focus ((repeat (first|with_reducible exact Ql|with_reducible apply Qb|exact Qh));done)))
 ·have hb : ∀ w,(binOp .eql 28 (.slice (some ⟨b0,o0,none⟩) n0 c0) (.slice none 0 0)).run Tryz.prog w = .ok (.bool false) w := fun w => by kernel_rfl
  go_enter Tryz.func131,Tryz.ntmps131
  go_wp2_with (first|((with_reducible apply wl_app hs);infer_instance;infer_instance;rfl;rfl;(with_reducible exact Qh);(with_reducible exact Qh);(simp only [Wm,Ws,Wa,Wc,Wn,Wr] at *;omega);(exact Vb rfl);rfl;clear hs;intro w v hs;(simp only [Uc,Uz]))|((with_reducible apply wl_bs0 hs);infer_instance;infer_instance;rfl;clear hs;intro w v hs;(simp only [Uc,Uz])))
  (go_ret)
  refine ⟨_,rfl,?_⟩
  simp only [List.nil_append,mul_assoc'] at hs ⊢
  ((with_reducible apply Sat.fin hs);(focus ((repeat (first|with_reducible exact Ql|with_reducible apply Qb|exact Qh));done)))
end Go.Proofs.YtegafhhdegnigaaGreat
end
