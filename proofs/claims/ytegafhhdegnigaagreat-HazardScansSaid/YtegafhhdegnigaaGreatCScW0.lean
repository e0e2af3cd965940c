/-
  What a machine and an arena tell: who is busy, a thread's last call, the moves, a slot's state, how many slots are in a state.
-/
import Derived.Test.YtegafhhdegnigaaGreatCMove
import Derived.Test.YtegafhhdegnigaaGreatCSkip
import Derived.Test.YtegafhhdegnigaaGreatCRef1
import Derived.Test.YtegafhhdegnigaaGreatCEvp
import Derived.Test.YtegafhhdegnigaaGreatCLog
import Derived.Test.YtegafhhdegnigaaGreatCHaz
import Derived.Test.YtegafhhdegnigaaGreatCVw
import Derived.Test.YtegafhhdegnigaaGreatCRun
import Derived.Test.YtegafhhdegnigaaGreatCNew3
import Derived.Test.YtegafhhdegnigaaGreatCAln
set_option linter.all false
section
namespace Go.Proofs.YtegafhhdegnigaaGreat
open Go.RowKit Hp
set_option maxRecDepth 100000
set_option maxHeartbeats 8000000
attribute [local irreducible] Go.Calls Go.wpList
section
variable (bx bm : Nat) (m : Mch)
theorem mach_busy (t : Nat) (se : Sea) (hse : m.seats[t]? = some se) (b : Bool) (hb : (b = false ∧ se.task = .nilIface) ∨ (b = true ∧ ∃ ty x,se.task = .iface ty x)) :
  Gives Tryz.prog 53 #[.pointer (some ⟨bx,0,none⟩),.int .i64 (t : Int)] (MchR bx bm m) (.bool b) (MchR bx bm m) := by
 obtain ⟨s1,s2,s3,s4,s5⟩ := se
 simp only [] at hb
 intro O w F hs
 (obtain ⟨vh,call,told,hcur,hs⟩ := mchR.1 hs)
 have lt := (List.getElem?_eq_some_iff.1 hse).1
 have h2 : decide ((t : Int) ≥ 0) = true := by simp
 have h3 : decide ((t : Int) < (m.seats.length : Int)) = true := by simp;omega
 have h4 : decide (t < m.seats.length) = true := by simpa using lt
 rcases hb with ⟨rfl,rfl⟩|⟨rfl,ty,x,rfl⟩
 all_goals
  go_enter Tryz.func53,Tryz.ntmps53
  (repeat' (first|((with_reducible apply wl_pick);((simp only [ev,Ue,Uf]);rfl);((simp only [cond_true,cond_false,ev,Ue,Uf]);rfl);(with_reducible exact want_none);(simp only [Uc,Uz]))|(go_big_may;(first|((with_reducible apply wl_ld hs);infer_instance;rfl;(focus with_reducible (repeat first|exact Qh|apply Qk);done);rfl;rfl;(simp only [Uc,Uz]))|((with_reducible apply wl_ldS0 hs);infer_instance;rfl;assumption;(focus with_reducible (repeat first|exact Qh|apply Qk);done);rfl;(exact map_get (by assumption));rfl;rfl;(simp only [Uc,Uz]))|((with_reducible apply wl_ia hs);infer_instance;infer_instance;rfl;rfl;(focus with_reducible (repeat first|exact Qh|apply Qk);done);(rfl);(simp only [Wm,Ws,Wa,Wc,Wn,Wr] at *;omega);rfl;intro b off hat;(simp only [Uc,Uz]))|((with_reducible apply wl_len hs);infer_instance;rfl;(focus with_reducible (repeat first|exact Qh|apply Qk);done);rfl;(simp only [Uc,Uz]))))|go_guarded|go_step))
  (go_ret)
  refine ⟨rfl,?_⟩
  apply mchR_mk hcur
  ((with_reducible apply Sat.fin hs);(with_reducible exact Ql))
theorem mach_moves : Gives Tryz.prog 52 #[.pointer (some ⟨bx,0,none⟩)] (MchR bx bm m) (.int .i64 m.moves) (MchR bx bm m) := by
 intro O w F hs
 (obtain ⟨vh,call,told,hcur,hs⟩ := mchR.1 hs)
 go_enter Tryz.func52,Tryz.ntmps52
 (repeat' (first|(go_big_may;((with_reducible apply wl_ld hs);infer_instance;rfl;(with_reducible exact Qh);rfl;rfl;(simp only [Uc,Uz])))|go_step))
 (go_ret)
 refine ⟨rfl,?_⟩
 apply mchR_mk hcur
 ((with_reducible apply Sat.fin hs);(with_reducible exact Ql))
end
def cntS (st : Int) (l : List Slt) : Nat := l.countP (fun x => x.state == st)
end Go.Proofs.YtegafhhdegnigaaGreat
end
/-
  Lists of numbers: a record's list, and the law's comparison.
-/
section
namespace Go.Proofs.YtegafhhdegnigaaGreat
open Go.RowKit Hp
set_option maxRecDepth 100000
set_option maxHeartbeats 1000000
attribute [local irreducible] Go.Calls
theorem haz_list (b ba : Nat) (h : Haz) (n : Nat) (x : List Int) (hx : h.lists[n]? = some x) (hl : x.length < 4294967296) :
  Does Tryz.prog 42 #[.pointer (some ⟨b,0,none⟩),.int .i64 (n : Int)] (HazR b ba h) (fun v => sl 3 1 (x.map eI) v * HazR b ba h) := by
 intro O w F hs
 have hlt := (List.getElem?_eq_some_iff.1 hx).1
 (replace hs := hs.pull (A := HazR b _ _) (by (with_reducible exact Qh));obtain ⟨vhh,vhl,hus_,hu_,husl,husg,hs⟩ := hazT hs hx)
 have hltu : n < hus_.length := by omega
 have h0 : decide ((n : Int) < 0) = false := by simp
 have h1 : decide ((n : Int) ≥ (hus_.length : Int)) = false := by simp;omega
 have h2 : decide (hus_.length ≤ n) = false := by simp;omega
 have hC := Lib.hid (fun v => clone_ints v x hl)
 go_enter Tryz.func42,Tryz.ntmps42
 go_wp2_with (first|(first|((with_reducible apply wl_ld hs);infer_instance;rfl;(focus with_reducible (repeat first|exact Qh|apply Qk);done);rfl;rfl;(simp only [Uc,Uz]))|((with_reducible apply wl_ldS0 hs);infer_instance;rfl;assumption;(focus with_reducible (repeat first|exact Qh|apply Qk);done);rfl;(exact map_get (by assumption));rfl;rfl;(simp only [Uc,Uz]))|((with_reducible apply wl_ia hs);infer_instance;infer_instance;rfl;rfl;(focus with_reducible (repeat first|exact Qh|apply Qk);done);(rfl);(simp only [Wm,Ws,Wa,Wc,Wn,Wr] at *;omega);rfl;intro b off hat;(simp only [Uc,Uz]))|((with_reducible apply wl_len hs);infer_instance;rfl;(focus with_reducible (repeat first|exact Qh|apply Qk);done);rfl;(simp only [Uc,Uz])))|(go_at_call 102;((refine ((hC.out _)).at hs (by (focus with_reducible (repeat first|exact Qh|apply Qk);done)) ?_);clear hs;intro v w hs;(try simp only [emp_mul,mul_assoc'] at hs))))
 (go_ret)
 refine ⟨_,rfl,?_⟩
 (replace hs := hazT_back husl husg hx (hs.fin (by (focus with_reducible (repeat first|exact Ql|exact Qh|apply Qb|apply Qk);done))))
 simp only [mul_assoc']
 ((with_reducible apply Sat.fin hs);(focus ((repeat (first|with_reducible exact Ql|with_reducible apply Qb|exact Qh|with_reducible apply Qk));done)))
end Go.Proofs.YtegafhhdegnigaaGreat
end
/-
  The census: where an access or a shift may stand.
-/
section
namespace Go.Proofs.YtegafhhdegnigaaGreat
open Go.RowKit Hp
set_option maxRecDepth 100000
set_option maxHeartbeats 1000000
attribute [local irreducible] Go.Calls
abbrev Cll.v (x : Cll) : Value := .agg (Cll.e x).toArray
end Go.Proofs.YtegafhhdegnigaaGreat
end
/-
  The census: the calls' ends.
-/
section
namespace Go.Proofs.YtegafhhdegnigaaGreat
open Go.RowKit Hp
set_option maxRecDepth 100000
set_option maxHeartbeats 2000000
attribute [local irreducible] Go.Calls
end Go.Proofs.YtegafhhdegnigaaGreat
end
/-
  The reference's comparisons, where the lists are the same (written by gensame.py).
-/
section
namespace Go.Proofs.YtegafhhdegnigaaGreat
open Go.RowKit Hp
set_option maxRecDepth 100000
set_option maxHeartbeats 1000000
attribute [local irreducible] Go.Calls
structure RunLen (cs : List Cll) (lg : List Acc) (sh : List Shf) (ws : List Int) : Prop where
 l1 : cs.length < 100000000
 l2 : lg.length < 100000000
 l3 : sh.length < 100000000
 l4 : ws.length < 100000000
theorem runR_mk {O w : World} {F : SProp} {cs : List Cll} {lg : List Acc} {sh : List Shf} {ws : List Int} {vc vt vs vw : Value}
  (hs : Sat O w (sl 50 9 (cs.map Cll.e) vc * (sl 138 7 (lg.map Acc.e) vt * (sl 127 5 (sh.map Shf.e) vs * (sl 57 1 (ws.map eU) vw * F))))) : Sat O w (RunR cs lg sh ws (.agg #[vc,vt,vs,vw]) * F) := by
 unfold RunR
 simp only [sat_ex,mul_assoc',sat_pu]
 exact ⟨_,_,_,_,rfl,hs⟩
theorem runR_get {O w : World} {F : SProp} {cs : List Cll} {lg : List Acc} {sh : List Shf} {ws : List Int} {v : Value} (hs : Sat O w (RunR cs lg sh ws v * F)) :
  ∃ a1 k1 a2 k2 a3 k3 a4 k4,v = .agg #[.slice a1 cs.length k1,.slice a2 lg.length k2,.slice a3 sh.length k3,.slice a4 ws.length k4] ∧
   Sat O w (sl 50 9 (cs.map Cll.e) (.slice a1 cs.length k1) * (sl 138 7 (lg.map Acc.e) (.slice a2 lg.length k2) * (sl 127 5 (sh.map Shf.e) (.slice a3 sh.length k3) * (sl 57 1 (ws.map eU) (.slice a4 ws.length k4) * F)))) := by
 unfold RunR at hs
 simp only [sat_ex,mul_assoc',sat_pu] at hs
 obtain ⟨vc,vt,vs,vw,rfl,hs⟩ := hs
 obtain ⟨_,_,rfl⟩ := sl_len (hs.pull (A := sl 50 9 _ vc) (by (with_reducible exact Qh)))
 obtain ⟨_,_,rfl⟩ := sl_len (hs.pull (A := sl 138 7 _ vt) (by (focus with_reducible (repeat first|exact Qh|apply Qk);done)))
 obtain ⟨_,_,rfl⟩ := sl_len (hs.pull (A := sl 127 5 _ vs) (by (focus with_reducible (repeat first|exact Qh|apply Qk);done)))
 obtain ⟨_,_,rfl⟩ := sl_len (hs.pull (A := sl 57 1 _ vw) (by (focus with_reducible (repeat first|exact Qh|apply Qk);done)))
 simp only [List.length_map] at hs ⊢
 exact ⟨_,_,_,_,_,_,_,_,rfl,hs⟩
end Go.Proofs.YtegafhhdegnigaaGreat
end
/-
  HazardLists: what is looked at at one time.
-/
section
namespace Go.Proofs.YtegafhhdegnigaaGreat
open Go.RowKit Hp
set_option maxRecDepth 100000
set_option maxHeartbeats 16000000
attribute [local irreducible] Go.Calls Go.wpList
structure LsQ (C : Cfg) (h : Haz) (a : Are) (m : Mch) (bz : List Bool) : Prop where
 bl : (bz.length : Int) = C.T
 sl : m.seats.length = bz.length
 bs : ∀ (t : Nat) se b,m.seats[t]? = some se → bz[t]? = some b → (b = false ∧ se.task = .nilIface) ∨ (b = true ∧ ∃ ty x,se.task = .iface ty x)
 hl : h.held.length = bz.length
 ln : (h.lists.length : Int) = C.R
 hd : ∀ r ∈ h.held,-1 ≤ r ∧ r < C.R
 inj : ∀ (t t' : Nat) r,h.held[t]? = some r → h.held[t']? = some r → 0 ≤ r → t = t'
 bt : ∀ (t r : Nat) l,h.held[t]? = some (r : Int) → bz[t]? = some false → h.lists[r]? = some l → (l.length : Int) < Bt C
 ls : ∀ l ∈ h.lists,(l.length : Int) ≤ Bt C + (C.R - 1) * Am C
 un : ∀ (r : Nat) l,h.lists[r]? = some l → (r : Int) ∉ h.held → (l.length : Int) ≤ Am C ∧ ∀ k : Nat,(k : Int) < C.Hz → m.mem.words[(base C 9 + (r : Int) * C.Hz + (k : Int)).toNat]? = some 0
 st : ∀ l ∈ h.lists,∀ s ∈ l,0 ≤ s ∧ s < C.Sl ∧ ∃ x,a.slots[s.toNat]? = some x ∧ x.state = 5
 nd : h.lists.flatten.Nodup
 al : h.lists.flatten.length ≤ cntS 5 a.slots
 ai : (∀ b ∈ bz,b = false) → h.lists.flatten.length = cntS 5 a.slots
 sz : (m.mem.words.length : Int) = base C 14
 sl1 : (a.slots.length : Int) = C.Sl
 l1 : m.calls.length < 100000000
 l2 : m.mem.log.length < 100000000
 l3 : m.shifts.length < 100000000
end Go.Proofs.YtegafhhdegnigaaGreat
end
/-
  HazardLists, the plain law: along every run the lists are as long as they may be.
-/
section
namespace Go.Proofs.YtegafhhdegnigaaGreat
open Go.RowKit Hp
set_option maxRecDepth 100000
set_option maxHeartbeats 1000000
attribute [local irreducible] Go.Calls
structure LenJ (c : Cfg) (n : Nat) (y : HW) : Prop where
 un : LqS c y.s.1 y.m
 th : ∀ (t : Nat) (r : Int),y.s.1.held[t]? = some r → 0 ≤ r → (y.tasks[t]? = some none → ll y.s.1 r < Bt c) ∧ ∀ k se,y.tasks[t]? = some (some k) → y.m.seats[t]? = some se → LenT c se.ready (ll y.s.1 r) (zr c y.m r) k
 sc : ∀ x ∈ y.m.calls,x.op = 25 → x.end_ + 1 = n → ∀ (t : Nat) (r : Int),x.thread = (t : Int) → y.s.1.held[t]? = some r → 0 ≤ r → ll y.s.1 r ≤ Am c
 se : ∀ (t : Nat) (s : Sea),y.m.seats[t]? = some s → s.last < 0 ∨ ∃ (i : Nat) (x : Cll),s.last = (i : Int) ∧ y.m.calls[i]? = some x ∧ x.thread = (t : Int)
section
variable {c : Cfg} {n : Nat} {y y' : HW}
theorem LenT.mono {b : Bool} {l : Int} {Z Z' : Int → Prop} {k : HTask} (h : LenT c b l Z k) (hz : ∀ q,0 ≤ q → q < c.Hz → Z q → Z' q) (hu : ∀ u,k = .unr u → u.stage = 0 → u.k ≤ c.Hz) : LenT c b l Z' k := by
 cases k with
 | unr u =>
  obtain ⟨h1,h2,h3⟩ := h
  refine ⟨fun hs => ⟨(h1 hs).1,fun q q0 q1 => hz q q0 (by have := hu u rfl hs;omega) ((h1 hs).2 q q0 q1)⟩,fun hs => ⟨(h2 hs).1,fun q q0 q1 => hz q q0 q1 ((h2 hs).2 q q0 q1)⟩,fun hs => ⟨(h3 hs).1,fun q q0 q1 => hz q q0 q1 ((h3 hs).2 q q0 q1)⟩⟩
 | reg r => exact h
 | pst p => exact h
 | rdg r => exact h
 | clr ad => exact h
 | scn s => exact h
end
end Go.Proofs.YtegafhhdegnigaaGreat
end
/-
  HazardLists: what the invariants say of the lists at one time.
-/
section
namespace Go.Proofs.YtegafhhdegnigaaGreat
open Go.RowKit Hp
set_option maxRecDepth 100000
set_option maxHeartbeats 1000000
attribute [local irreducible] Go.Calls
section
variable {c : Cfg} {n : Nat} {y : HW} {pr : Int → Prop} {F : List Int}
end
end Go.Proofs.YtegafhhdegnigaaGreat
end
/-
  HazardScans: contracts over the whole bench.
-/
section
namespace Go.Proofs.YtegafhhdegnigaaGreat
open Go.RowKit Hp
set_option maxRecDepth 100000
set_option maxHeartbeats 1000000
attribute [local irreducible] Go.Calls
def KB (c : Cfg) : Int := scB c + c.Hz + 3 * c.Ca + 12
theorem solo_kb {c : Cfg} (hok : c.Ok) : 12 ≤ KB c ∧ KB c + 1 ≤ soloC c (listedC c) := by
 have hT := hok.T1
 have hR := hok.R1
 have hS := hok.S1
 have hC := hok.C1
 have hH := hok.H1
 have hLs := (listed_b hok).1
 have hA : 0 ≤ c.R * c.Hz := Int.mul_nonneg (by omega) (by omega)
 have hX : 1 * (3 * c.R + c.R * c.Hz + 3 * listedC c + 3) ≤ (c.T + 2) * (3 * c.R + c.R * c.Hz + 3 * listedC c + 3) := Int.mul_le_mul_of_nonneg_right (by omega) (by omega)
 unfold KB soloC scB scA
 omega
theorem Gives.frm {P : Program} {f : FuncId} {args : Array Value} {A B : SProp} {v : Value} (h : Gives P f args A v B) (Z : SProp) : Gives P f args (A * Z) v (B * Z) := by
 intro O w F hs
 exact h.at hs (by simp only [mul_assoc'];exact Qh) fun w' h1 => ⟨rfl,by simpa only [mul_assoc'] using h1⟩
section
variable {g ba bx bm : Nat} {CX : SProp} {K : Int → Option Value} {y : HW} {t : Nat}
theorem wr_moves : Gives Tryz.prog 52 #[.pointer (some ⟨bx,0,none⟩)] (WR (hzT g ba CX) bx bm K y) (.int .i64 y.m.moves) (WR (hzT g ba CX) bx bm K y) := Gives.frm (mach_moves bx bm y.m) _
theorem wr_busy {se : Sea} (hse : y.m.seats[t]? = some se) (b : Bool) (hb : (b = false ∧ se.task = .nilIface) ∨ (b = true ∧ ∃ ty x,se.task = .iface ty x)) :
  Gives Tryz.prog 53 #[.pointer (some ⟨bx,0,none⟩),.int .i64 (t : Int)] (WR (hzT g ba CX) bx bm K y) (.bool b) (WR (hzT g ba CX) bx bm K y) := Gives.frm (mach_busy bx bm y.m t se hse b hb) _
theorem wr_rec {r : Int} (hr : y.s.1.held[t]? = some r) : Gives Tryz.prog 50 #[.pointer (some ⟨g,0,none⟩),.int .i64 (t : Int)] (WR (hzT g ba CX) bx bm K y) (.int .i64 r) (WR (hzT g ba CX) bx bm K y) := by
 have e : WR (hzT g ba CX) bx bm K y = HazR g ba y.s.1 * (MchR bx bm y.m * (mp .i64 K y.m.kit * (AreR ba y.s.2 * CX * tskR (htR g ba) y.tasks y.m.seats))) := by
  unfold WR;simp only [hzT];ac_rfl
 rw [e]
 exact Gives.frm (haz_record g ba y.s.1 t r hr) _
end
theorem wrp {O w : World} {g ba bx bm : Nat} {CX Z : SProp} {K : Int → Option Value} {y : HW} (hs : Sat O w (WR (hzT g ba CX) bx bm K y * Z)) :
  ∃ R,Hid (∀ w' Z',Sat O w' (MchR bx bm y.m * (HazR g ba y.s.1 * (AreR ba y.s.2 * (R * Z')))) → Sat O w' (WR (hzT g ba CX) bx bm K y * Z')) ∧ Sat O w (MchR bx bm y.m * (HazR g ba y.s.1 * (AreR ba y.s.2 * (R * Z)))) := by
 refine ⟨mp .i64 K y.m.kit * (CX * tskR (htR g ba) y.tasks y.m.seats),Lib.hid fun w' Z' h => ?_,?_⟩
 ·unfold WR;exact h.cast (by simp only [hzT];ac_rfl)
 ·unfold WR at hs;exact hs.cast (by simp only [hzT];ac_rfl)
theorem wrs {O w : World} {g ba bx bm : Nat} {CX Z : SProp} {K : Int → Option Value} {y : HW} (hT : (hzT g ba CX).Good) (hs : Sat O w (WR (hzT g ba CX) bx bm K y * Z)) :
  ∀ (t : Nat) se,y.m.seats[t]? = some se → (y.tasks[t]? = some none → se.task = .nilIface) ∧ (∀ k,y.tasks[t]? = some (some k) → ∃ ty x,se.task = .iface ty x) := by
 intro t se hse
 unfold WR at hs
 refine ⟨fun ho => ?_,fun k ho => ?_⟩
 ·rw [tsk_at ho hse] at hs
  have : Sat O w (pu (se.task = .nilIface) * (MchR bx bm y.m * (mp .i64 K y.m.kit * ((hzT g ba CX).X y.s * (tskR (hzT g ba CX).R (y.tasks.eraseIdx t) (y.m.seats.eraseIdx t) * Z))))) := hs.cast (by simp only [tskR,mul_emp];ac_rfl)
  exact (sat_pu.1 this).1
 ·rw [tsk_at ho hse,tsk_one] at hs
  have : Sat O w ((hzT g ba CX).R k se.task * (MchR bx bm y.m * (mp .i64 K y.m.kit * ((hzT g ba CX).X y.s * (tskR (hzT g ba CX).R (y.tasks.eraseIdx t) (y.m.seats.eraseIdx t) * Z))))) := hs.cast (by ac_rfl)
  exact hT.iface this
def fldOf2 (P : Program) (T : TypeId) (i : Nat) : Option (TypeId × Nat) := match P.underlying T with
 | some (.struct fs) => (fs[i]?).map fun f => (f.type,f.offset)
 | _ => none
theorem run_fld2 {P : Program} {T i ft off : Nat} {cs : Array Value} {v : Value} (hf : fldOf2 P T i = some (ft,off)) (h1 : OneC P ft) (hv : cs[off]? = some v) (w : World) : (Instr.field T (.agg cs) i).run P w = .ok v w := by
 unfold fldOf2 at hf
 cases hu : P.underlying T with
 | none => rw [hu] at hf;cases hf
 | some u =>
  rw [hu] at hf
  cases u with
  | struct fs =>
   simp only [] at hf
   cases hfi : fs[i]? with
   | none => rw [hfi] at hf;cases hf
   | some f =>
    rw [hfi] at hf
    simp only [Option.map_some,Option.some.injEq,Prod.mk.injEq] at hf
    obtain ⟨rfl,rfl⟩ := hf
    simp [Instr.field,asAgg,run_underlying hu,hfi,part,run_isAgg h1.agg,hv]
  | _ => cases hf
end Go.Proofs.YtegafhhdegnigaaGreat
end
