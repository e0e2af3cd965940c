/-
  Every move leads somewhere; what holds of a script's run.
-/
import Derived.Test.YtegafhhdegnigaaGreatLFit
import Derived.Test.YtegafhhdegnigaaGreatLHist3
import Derived.Test.YtegafhhdegnigaaGreatLRun
import Derived.Test.YtegafhhdegnigaaGreatLNew3
import Derived.Test.YtegafhhdegnigaaGreatLPlay
set_option linter.all false
section
namespace Go.Proofs.YtegafhhdegnigaaGreat
open Go.RowKit Hp
set_option maxRecDepth 100000
set_option maxHeartbeats 1000000
attribute [local irreducible] Go.Calls
theorem RunOk.start {c : Cfg} (hok : c.Ok) (km : Nat) (vs : Value) : RunOk c 0 (wst0 c km vs) := by
 have hS := hok.S1
 refine ⟨by simp [wst0,mch0],Pw.nil,Pw.nil,Pw.nil,by simp [wst0,mch0],rfl,by simp [wst0,are0];omega,by simp [wst0,mch0],by simp [wst0,mch0],rfl,by simp [wst0,mch0],by simp [wst0,mch0],by simp [wst0,mch0],rfl,by simp [wst0,mch0],by simp [wst0,mch0],?_,by simp [wst0,mch0]⟩
 intro t k se hk _
 simp only [wst0] at hk
 have := (List.mem_replicate.1 (List.mem_of_getElem? hk)).2
 cases this
structure Beh (c : Cfg) (mvs : List Mv) (y : HW) : Prop where
 pi : PI c mvs.length y
 ok : RunOk c mvs.length y
 er : y.er = runE c mvs
theorem Beh.calls {c : Cfg} {mvs : List Mv} {y : HW} (h : Beh c mvs y) : y.m.calls = (runE c mvs).m.calls := by rw [← h.er];rfl
theorem Beh.log {c : Cfg} {mvs : List Mv} {y : HW} (h : Beh c mvs y) : y.m.mem.log = (runE c mvs).m.mem.log := by rw [← h.er];rfl
theorem Beh.shifts {c : Cfg} {mvs : List Mv} {y : HW} (h : Beh c mvs y) : y.m.shifts = (runE c mvs).m.shifts := by rw [← h.er];rfl
theorem Beh.words {c : Cfg} {mvs : List Mv} {y : HW} (h : Beh c mvs y) : y.m.mem.words = (runE c mvs).m.mem.words := by rw [← h.er];rfl
end Go.Proofs.YtegafhhdegnigaaGreat
end
/-
  Operations that are not wanted are passed over, whatever their slots hold.
-/
section
namespace Go.Proofs.YtegafhhdegnigaaGreat
open Go.RowKit
namespace Hp
theorem wl_pass {P : Program} {ops : Array Oper} {Q : Exit → Act → World → Prop} {w : World} {rest : List Oper} {l : List Value} {ds : List Deferred} {d : Nat} {op : Op} {ty : TypeId} {pos : String} {after : Array Edge} {g : Nat × Bool}
  (hw : Region.wanted { dst := some d,op := op,type := ty,pos,after,guard := some g } (yielded ops l.toArray) = false) (kk : wpList P ops Q rest ⟨(l.set d undef).toArray,ds⟩ w) :
  wpList P ops Q ({ dst := some d,op := op,type := ty,pos,after,guard := some g } :: rest) ⟨l.toArray,ds⟩ w := by
 refine wpList_skip hw ?_
 have e : (Act.put ⟨l.toArray,ds⟩ (some d) undef : Act) = ⟨(l.set d undef).toArray,ds⟩ := put_set
 show wpList P ops Q rest (Act.put ⟨l.toArray,ds⟩ (some d) undef) w
 rw [e];exact kk
theorem wl_pass2 {P : Program} {ops : Array Oper} {Q : Exit → Act → World → Prop} {w : World} {rest : List Oper} {l : List Value} {ds : List Deferred} {d : Nat} {op : Op} {ty : TypeId} {pos : String} {after : Array Edge} {i : Nat} {b z : Bool} {o : Oper} {e : Nat}
  (ho : ops[i]? = some o) (hd : o.dst = some e) (hv : l[e]? = some (.bool z)) (hb : (z == b) = false) (kk : wpList P ops Q rest ⟨(l.set d undef).toArray,ds⟩ w) :
  wpList P ops Q ({ dst := some d,op := op,type := ty,pos,after,guard := some (i,b) } :: rest) ⟨l.toArray,ds⟩ w := by
 refine wl_pass ?_ kk
 have hv' : l.toArray[e]? = some (.bool z) := by simpa using hv
 simp only [Region.wanted,yielded,ho,Option.bind_some,hd,hv']
 cases z <;> cases b <;> first|rfl|cases hb
theorem wl_pass3 {P : Program} {ops : Array Oper} {Q : Exit → Act → World → Prop} {w : World} {rest : List Oper} {l : List Value} {ds : List Deferred} {d : Nat} {op : Op} {ty : TypeId} {pos : String} {after : Array Edge} {i : Nat} {b : Bool} {o : Oper} {e : Nat}
  (ho : ops[i]? = some o) (hd : o.dst = some e) (hv : l[e]? = some undef) (kk : wpList P ops Q rest ⟨(l.set d undef).toArray,ds⟩ w) :
  wpList P ops Q ({ dst := some d,op := op,type := ty,pos,after,guard := some (i,b) } :: rest) ⟨l.toArray,ds⟩ w := by
 refine wl_pass ?_ kk
 have hv' : l.toArray[e]? = some undef := by simpa using hv
 simp only [Region.wanted,yielded,ho,Option.bind_some,hd,hv']
 cases b <;> rfl
theorem wl_pick {P : Program} {ops : Array Oper} {Q : Exit → Act → World → Prop} {w : World} {rest : List Oper} {l : List Value} {ds : List Deferred} {d : Nat} {c x y : Operand} {ty : TypeId} {pos : String} {after : Array Edge} {gd : Option (Nat × Bool)} {z : Bool} {v : Value}
  (hc : ev l c = some (.bool z)) (hv : ev l (cond z x y) = some v)
  (hg : Region.wanted { dst := some d,op := .pick c x y,type := ty,pos,after,guard := gd } (yielded ops l.toArray) = true)
  (kk : wpList P ops Q rest ⟨(l.set d v).toArray,ds⟩ w) :
  wpList P ops Q ({ dst := some d,op := .pick c x y,type := ty,pos,after,guard := gd } :: rest) ⟨l.toArray,ds⟩ w := by
 refine wl_val (v := v) (w' := w) hg ?_ (put_set ▸ kk)
 have h1 := ev_eval (ds := ds) hc
 have h2 := ev_eval (ds := ds) hv
 cases z <;> simp [execOp,h1,asBool] <;> simpa using h2
theorem want_none {d : Option Nat} {op : Op} {ty : TypeId} {pos : String} {after : Array Edge} {f : Nat → Option Bool} : Region.wanted { dst := d,op := op,type := ty,pos,after,guard := none } f = true := rfl
theorem want_some {ops : Array Oper} {l : List Value} {d : Option Nat} {op : Op} {ty : TypeId} {pos : String} {after : Array Edge} {i : Nat} {b : Bool} {o : Oper} {e : Nat}
  (ho : ops[i]? = some o) (hd : o.dst = some e) (hv : l[e]? = some (.bool b)) : Region.wanted { dst := d,op := op,type := ty,pos,after,guard := some (i,b) } (yielded ops l.toArray) = true := by
 have hv' : l.toArray[e]? = some (.bool b) := by simpa using hv
 simp only [Region.wanted,yielded,ho,Option.bind_some,hd,hv']
 cases b <;> rfl
end Hp
end Go.Proofs.YtegafhhdegnigaaGreat
end
/-
  The references of layer 1.
-/
section
namespace Go.Proofs.YtegafhhdegnigaaGreat
open Go.RowKit Hp
set_option maxRecDepth 100000
set_option maxHeartbeats 1000000
attribute [local irreducible] Go.Calls
theorem ref_many (c : Cfg) (h : c.Ok) (r : Nat) (h1 : 1 ≤ r) (h2 : r ≤ 13) : Gives Tryz.prog 73 #[c.v,.int .i64 (r : Int)] emp (.int .i64 (many c r)) emp := by
 intro O w F hs
 obtain ⟨g1,g2⟩ := h.rh
 have hw : wrap64 (c.R * c.Hz) = c.R * c.Hz := by unfold wrap64;omega
 have hr : r = 1 ∨ r = 2 ∨ r = 3 ∨ r = 4 ∨ r = 5 ∨ r = 6 ∨ r = 7 ∨ r = 8 ∨ r = 9 ∨ r = 10 ∨ r = 11 ∨ r = 12 ∨ r = 13 := by omega
 rcases hr with rfl|rfl|rfl|rfl|rfl|rfl|rfl|rfl|rfl|rfl|rfl|rfl|rfl
 all_goals
  go_enter Tryz.func73,Tryz.ntmps73
  go_wp2_with (first|((with_reducible apply wl_ld hs);infer_instance;rfl;(with_reducible exact Qh);rfl;rfl;(simp only [Uc,Uz]))|((with_reducible apply wl_box hs);rfl;rfl;rfl;clear hs;intro w b hs;(simp only [Uc,Uz])))
  (go_ret)
  exact ⟨by simp [many,hw],by ((with_reducible apply Sat.fin hs);(focus with_reducible (repeat first|exact Ql|exact Qn|apply Qb|apply Qk);done))⟩
theorem ref_base (c : Cfg) (h : c.Ok) (r : Nat) (h1 : 1 ≤ r) (h2 : r ≤ 13) : Gives Tryz.prog 23 #[c.v,.int .i64 (r : Int)] emp (.int .i64 (base c r)) emp := by
 intro O w F hs
 have hM := Lib.hid (ref_many c h)
 go_enter Tryz.func23,Tryz.ntmps23
 go_wp2_with ((with_reducible apply wl_box hs);rfl;rfl;rfl;clear hs;intro w b hs;(simp only [Uc,Uz]))
 (obtain ⟨A,hA,hsn⟩ : ∃ A,Hid (A = _) ∧ Sat O w A := ⟨_,Lib.hid rfl,hs⟩;clear hs;have hs := hsn;clear hsn)
 go_loopw [5,6] (fun a q wr => ∃ k : Nat,1 ≤ k ∧ k ≤ r ∧ q = .int .i64 (k : Int) ∧ a = .int .i64 (base c k) ∧ Sat O wr A) (fun _ q _ => 15 - (intOf q).toNat)
 case atStart => exact ⟨1,by omega,by omega,rfl,rfl,hs⟩
 case round =>
  obtain ⟨k,k1,k2,rfl,rfl,hs⟩ := hrel
  have hb := base_le h k
  have hmk := many_le h k
  have e1 := base_succ c _ k1
  rw [hA.out] at hs
  by_cases hkr : k = r
  ·subst hkr
   have hlt : decide ((k : Int) < (k : Int)) = false := by simp
   have hlt2 : decide (k < k) = false := by simp
   go_wp2_with (fail)
   (go_ret)
   exact ⟨rfl,by ((with_reducible apply Sat.fin hs);(focus with_reducible (repeat first|exact Ql|exact Qn|apply Qb|apply Qk);done))⟩
  ·have hlt : decide ((k : Int) < (r : Int)) = true := by simp;omega
   have hlt2 : decide (k < r) = true := by simp;omega
   have hM1 := Lib.hid (hM.out k k1 (by omega))
   go_wp2_with (first|((with_reducible apply wl_ldF hs);infer_instance;rfl;(with_reducible exact Qh);rfl;rfl;(simp only [Uc,Uz]))|(go_at_call 73;((refine (hM1.out).at hs (by (focus ((repeat (with_reducible exact Qn));done))) ?_);clear hs;intro w hs;(try simp only [emp_mul,mul_assoc'] at hs))))
   go_roundw
   case rel => exact ⟨k + 1,by omega,by omega,by simp,by rw [e1],by rw [hA.out];((with_reducible apply Sat.fin hs);(focus with_reducible (repeat first|exact Ql|exact Qh|exact Qn|apply Qb);done))⟩
   case measure => simp [intOf];omega
theorem ref_size (c : Cfg) (h : c.Ok) : Gives Tryz.prog 22 #[c.v] emp (.int .i64 (base c 14)) emp := by
 intro O w F hs
 have hB := Lib.hid (ref_base c h 13 (by omega) (by omega))
 have hb := base_le h 13
 have h2 := h.S1;have h3 := h.S2
 have e : base c 14 = base c 13 + c.Sl := rfl
 have hw : wrap64 (base c 13 + c.Sl) = base c 14 := by unfold wrap64;omega
 go_enter Tryz.func22,Tryz.ntmps22
 go_wp2_with (first|(first|(first|(with_reducible refine NQ.mk ?_)|((with_reducible apply pl_neu);rfl;rfl)|((with_reducible apply pl_eff);rfl)|(with_reducible refine EQ.mk ?_ ?_)|(first|(with_reducible exact chk_nil)|((with_reducible refine chk_cons ?_ ?_);(focus ((with_reducible apply pl_chk);rfl;rfl))))|(with_reducible refine pl_end ?_)|(show SameA _ _ _;rfl))|((with_reducible apply wl_ld hs);infer_instance;rfl;(with_reducible exact Qh);rfl;rfl;(simp only [Uc,Uz]))|((with_reducible apply wl_ldF hs);infer_instance;rfl;(with_reducible exact Qh);rfl;rfl;(simp only [Uc,Uz]))|((with_reducible apply wl_box hs);rfl;rfl;rfl;clear hs;intro w b hs;(simp only [Uc,Uz])))|(go_at_call 23;((refine (hB.out).at hs (by (focus ((repeat (with_reducible exact Qn));done))) ?_);clear hs;intro w hs;(try simp only [emp_mul,mul_assoc'] at hs)))|((with_reducible refine wp_plan_sat (id := 1) [.neu 0,.neu 2,.neu 3,.eff 1 [2,3],.neu 4,.neu 5] hs rfl ?_ ?_);kernel_rfl;clear hs;intro w hs))
 (go_ret)
 exact ⟨by simp [e],by ((with_reducible apply Sat.fin hs);(focus with_reducible (repeat first|exact Ql|exact Qn|apply Qb|apply Qk);done))⟩
theorem ref_packLink (s : Int) (h0 : -1 ≤ s) (h1 : s ≤ 2147483646) : Gives Tryz.prog 54 #[.int .i64 s,.bool false] emp (.int .u64 (s + 1)) emp := by
 intro O w F hs
 go_enter Tryz.func54,Tryz.ntmps54
 go_wp2_with (fail)
 (go_ret)
 exact ⟨rfl,by ((with_reducible apply Sat.fin hs);(with_reducible exact Ql))⟩
theorem ref_packHead (t s : Int) (t0 : 0 ≤ t) (h0 : -1 ≤ s) (h1 : s ≤ 2147483646) : Gives Tryz.prog 92 #[.int .u64 t,.int .i64 s] emp (.int .u64 (t % 4294967296 * 4294967296 + (s + 1))) emp := by
 intro O w F hs
 go_enter Tryz.func92,Tryz.ntmps92
 go_wp2_with (fail)
 (go_ret)
 exact ⟨rfl,by ((with_reducible apply Sat.fin hs);(with_reducible exact Ql))⟩
theorem ref_first0 (c : Cfg) (h : c.Ok) : Does Tryz.prog 39 #[c.v,.int .i64 0] emp (fun v => sl 57 1 ((firstW c 0).map eU) v) := by
 intro O w F hs
 have hS := Lib.hid (ref_size c h)
 have hb10 := base_le h 10
 have hA := Lib.hid (ref_base c h 10 (by omega) (by omega))
 have hPH := ref_packHead 0 0 (by omega) (by omega) (by omega)
 rw [show (0 % 4294967296 * 4294967296 + (0 + 1) : Int) = 1 from rfl] at hPH
 have hPH := Lib.hid hPH
 obtain ⟨hc1,hc2⟩ := base_cells h
 have hb14 := base_le h 14
 have hs1 := h.S1
 have hs2 := h.S2
 have n2 : decide (0 < c.Sl) = true := by simp;omega
 obtain ⟨W0,hW0⟩ : ∃ W0 : List Int,W0 = List.replicate (base c 14).toNat 0 := ⟨_,rfl⟩
 have hrep : List.replicate (base c 14).toNat (Value.int .u64 0).cells.toList = W0.map eU := by rw [hW0,List.map_replicate];rfl
 have hlen : W0.length = (base c 14).toNat := by rw [hW0];simp
 have hl0 : 0 < W0.length := by omega
 have hg0 : W0[0]? = some 0 := by rw [hW0];simp [List.getElem?_replicate];omega
 have hfin : firstW c 0 = fillW (W0.set 0 1) (base c 10) 0 (c.Sl.toNat - 1) := by
  simp only [firstW]
  rw [if_neg (by omega),if_pos (by show (0 : Int) < c.Sl;omega),← hW0]
  rfl
 have hfin := Lib.hid hfin
 have hW0 := Lib.hid hW0
 go_enter Tryz.func39,Tryz.ntmps39
 go_wp2_with (first|(first|((with_reducible apply wl_ld hs);infer_instance;rfl;(focus with_reducible (repeat first|exact Qh|apply Qk);done);rfl;rfl;(simp only [Uc,Uz]))|((with_reducible apply wl_ldF hs);infer_instance;rfl;(with_reducible exact Qh);rfl;rfl;(simp only [Uc,Uz]))|((with_reducible apply wl_box hs);rfl;rfl;rfl;clear hs;intro w b hs;(simp only [Uc,Uz]))|((with_reducible apply wl_stS0 hs);infer_instance;rfl;rfl;assumption;(with_reducible exact Qh);rfl;(exact map_get (by assumption));(exact Vb rfl);(rfl);rfl;clear hs;intro w hs)|((with_reducible apply wl_ia hs);infer_instance;infer_instance;rfl;rfl;(with_reducible exact Qh);(rfl);(simp only [Wm,Ws,Wa,Wc,Wn,Wr] at *;omega);rfl;intro b off hat;(simp only [Uc,Uz])))|(((with_reducible apply wl_mk hs);infer_instance;infer_instance;rfl;rfl;rfl;rfl;(exact (Int.toNat_of_nonneg (by omega)).symm);omega;(exact Vb rfl);rfl;clear hs;intro w v hs;(simp only [Uc,Uz]));rw [hrep] at hs)|(go_at_call 22;((refine (hS.out).at hs (by (focus ((repeat (with_reducible exact Qn));done))) ?_);clear hs;intro w hs;(try simp only [emp_mul,mul_assoc'] at hs)))|(go_at_call 92;((refine (hPH.out).at hs (by (focus ((repeat (with_reducible exact Qn));done))) ?_);clear hs;intro w hs;(try simp only [emp_mul,mul_assoc'] at hs))))
 have e0 : (List.map eU W0).set 0 ((eU 0).set 0 (Value.int IntKind.u64 1)) = (fillW (W0.set 0 1) (base c 10) 0 0).map eU := by simp [fillW,List.map_set]
 rw [e0] at hs
 have hlW : ∀ n,(fillW (W0.set 0 1) (base c 10) 0 n).length = (base c 14).toNat := fun n => by rw [fillW_len,List.length_set,hlen]
 obtain ⟨T,hT,hs⟩ : ∃ T,Hid (T = _) ∧ Sat O w (sl 57 1 ((fillW (W0.set 0 1) (base c 10) 0 0).map eU) v * T) := ⟨_,Lib.hid rfl,hs.pull (by (with_reducible exact Qh))⟩
 clear hg0 hl0 e0 n2
 simp only [Nat.zero_mul,Nat.add_zero]
 go_loopw [6] (fun q wr => ∃ n : Nat,(n : Int) + 1 ≤ c.Sl ∧ q = .int .i64 (n : Int) ∧ Sat O wr (sl 57 1 ((fillW (W0.set 0 1) (base c 10) 0 n).map eU) v * T)) (fun q _ => 1025 - (intOf q).toNat)
 case atStart => exact ⟨0,by omega,rfl,hs⟩
 case round =>
  obtain ⟨n,k1,rfl,hs⟩ := hrel
  rw [hT.out] at hs
  have hl := hlW n
  by_cases hkr : (n : Int) + 1 = c.Sl
  ·have hlt : decide ((n : Int) + 1 < c.Sl) = false := by simp;omega
   go_wp2_with ((with_reducible apply wl_ld hs);infer_instance;rfl;(focus with_reducible (repeat first|exact Qh|apply Qk);done);rfl;rfl;(simp only [Uc,Uz]))
   (go_ret)
   refine ⟨_,rfl,?_⟩
   rw [hfin.out,show c.Sl.toNat - 1 = n by omega]
   ((with_reducible apply Sat.fin hs);(focus ((repeat (first|with_reducible exact Ql|with_reducible apply Qb|exact Qh|with_reducible apply Qk));done)))
  ·have hlt : decide ((n : Int) + 1 < c.Sl) = true := by simp;omega
   have hPL := Lib.hid (ref_packLink ((n : Int) + 1) (by omega) (by omega))
   have hix : base c 10 + (n : Int) < ((fillW (W0.set 0 1) (base c 10) 0 n).length : Int) := by rw [hl];omega
   have hi2 : (base c 10 + (n : Int)).toNat < (fillW (W0.set 0 1) (base c 10) 0 n).length := by omega
   obtain ⟨x,hx⟩ : ∃ x,(fillW (W0.set 0 1) (base c 10) 0 n)[(base c 10 + (n : Int)).toNat]? = some x := ⟨_,List.getElem?_eq_getElem hi2⟩
   have hw1 : wrap64 (base c 10 + (n : Int)) = base c 10 + (n : Int) := by unfold wrap64;omega
   have hw2 : wrap64 ((n : Int) + 1) = (n : Int) + 1 := by unfold wrap64;omega
   go_wp2_with (first|(first|((with_reducible apply wl_ld hs);infer_instance;rfl;(focus with_reducible (repeat first|exact Qh|apply Qk);done);rfl;rfl;(simp only [Uc,Uz]))|((with_reducible apply wl_ldF hs);infer_instance;rfl;(focus with_reducible (repeat first|exact Qh|apply Qk);done);rfl;rfl;(simp only [Uc,Uz]))|((with_reducible apply wl_stS0 hs);infer_instance;rfl;rfl;assumption;(with_reducible exact Qh);rfl;(exact map_get (by assumption));(exact Vb rfl);(rfl);rfl;clear hs;intro w hs)|((with_reducible apply wl_ia2 hs);infer_instance;infer_instance;rfl;assumption;rfl;(with_reducible exact Qh);(exact (Int.toNat_of_nonneg (by omega)).symm);(simp only [Wm,Ws,Wa,Wc,Wn,Wr] at *;omega);rfl;(simp only [Uc,Uz])))|(go_at_call 23;((refine (hA.out).at hs (by (focus ((repeat (with_reducible exact Qn));done))) ?_);clear hs;intro w hs;(try simp only [emp_mul,mul_assoc'] at hs)))|(go_at_call 54;((refine (hPL.out).at hs (by (focus ((repeat (with_reducible exact Qn));done))) ?_);clear hs;intro w hs;(try simp only [emp_mul,mul_assoc'] at hs))))
   have e1 : (List.map eU (fillW (W0.set 0 1) (base c 10) 0 n)).set (base c 10 + (n : Int)).toNat ((eU x).set 0 (Value.int IntKind.u64 ((n : Int) + 1 + 1))) = (fillW (W0.set 0 1) (base c 10) 0 (n + 1)).map eU := by simp [fillW,List.map_set];rfl
   rw [e1] at hs
   go_roundw
   case rel => exact ⟨n + 1,by omega,by simp,by rw [hT.out];((with_reducible apply Sat.fin hs);(with_reducible exact Ql))⟩
   case measure => simp [intOf];omega
end Go.Proofs.YtegafhhdegnigaaGreat
end
/-
  What memory tells, part by part; counts of slots in lists.
-/
section
namespace Go.Proofs.YtegafhhdegnigaaGreat
open Go.RowKit Hp
set_option maxRecDepth 100000
set_option maxHeartbeats 1000000
attribute [local irreducible] Go.Calls
def cnt2 : List (List Int) → Int → Nat
 | [],_ => 0
 | l :: r,s => l.count s + cnt2 r s
theorem cnt2_set : ∀ {ls : List (List Int)} {i : Nat} {l : List Int} (x : List Int) (s : Int),ls[i]? = some l → cnt2 (ls.set i x) s + l.count s = cnt2 ls s + x.count s
 | [],_,_,_,_,h => by simp at h
 | a :: r,0,l,x,s,h => by simp at h;subst h;simp only [Uz,cnt2];omega
 | a :: r,i + 1,l,x,s,h => by
  simp only [Ue] at h
  have := cnt2_set x s h
  simp only [Uc,cnt2];omega
theorem cnt2_get : ∀ {ls : List (List Int)} {i : Nat} {l : List Int} (s : Int),ls[i]? = some l → l.count s ≤ cnt2 ls s
 | [],_,_,_,h => by simp at h
 | a :: r,0,l,s,h => by simp at h;subst h;simp only [cnt2];omega
 | a :: r,i + 1,l,s,h => by
  simp only [Ue] at h
  have := cnt2_get s h
  simp only [cnt2];omega
theorem cnt2_nils (s : Int) : ∀ n,cnt2 (List.replicate n []) s = 0
 | 0 => rfl
 | n + 1 => by simp only [List.replicate_succ,cnt2,cnt2_nils s n,List.count_nil]
theorem cnt2_pos : ∀ {ls : List (List Int)} {s : Int},0 < cnt2 ls s → ∃ (i : Nat) (l : List Int),ls[i]? = some l ∧ s ∈ l
 | [],_,h => by simp [cnt2] at h
 | a :: r,s,h => by
  simp only [cnt2] at h
  by_cases h0 : 0 < a.count s
  ·exact ⟨0,a,rfl,List.count_pos_iff.1 h0⟩
  ·obtain ⟨i,l,h1,h2⟩ := cnt2_pos (ls := r) (s := s) (by omega)
   exact ⟨i + 1,l,by simpa using h1,h2⟩
theorem cnt2_mem {ls : List (List Int)} {l : List Int} {s : Int} (h : l ∈ ls) (hs : s ∈ l) : 0 < cnt2 ls s := by
 obtain ⟨i,hi⟩ := List.getElem?_of_mem h
 have := cnt2_get s hi
 have := List.count_pos_iff.2 hs
 omega
theorem cnt2_at {ls : List (List Int)} {i : Nat} {l : List Int} {s : Int} (h : ls[i]? = some l) (hs : s ∈ l) : 0 < cnt2 ls s := cnt2_mem (List.mem_of_getElem? h) hs
structure MV where
 hd : Int
 cell : Int
 nx : Int → Int
 act : Int → Int
 hz : Int → Int
 val : Int → Int
def upd (f : Int → Int) (k z : Int) : Int → Int := fun x => if x = k then z else f x
theorem upd_self (f : Int → Int) (k z : Int) : upd f k z k = z := by simp [upd]
theorem upd_ne (f : Int → Int) {k x : Int} (z : Int) (h : x ≠ k) : upd f k z x = f x := by simp [upd,h]
def mv (c : Cfg) (m : Mch) : MV where
 hd := m.word (adr c 1 0)
 cell := m.word (adr c 2 0)
 nx s := if 0 ≤ s ∧ s < c.Sl then m.word (adr c 10 s) else 0
 act r := if 0 ≤ r ∧ r < c.R then m.word (adr c 8 r) else 0
 hz j := if 0 ≤ j ∧ j < c.R * c.Hz then m.word (adr c 9 j) else 0
 val s := if 0 ≤ s ∧ s < c.Sl then m.word (adr c 11 s) else 0
theorem mv_same {c : Cfg} {m m' : Mch} (h : m'.mem.words = m.mem.words) : mv c m' = mv c m := by
 unfold mv Mch.word;rw [h]
theorem word_set {m m' : Mch} {A : Nat} {z : Int} (h : m'.mem.words = m.mem.words.set A z) (hA : A < m.mem.words.length) (j : Nat) : m'.word j = if j = A then z else m.word j := by
 unfold Mch.word
 rw [h]
 simp only [List.getD_eq_getElem?_getD]
 by_cases e : j = A
 ·subst e
  rw [List.getElem?_set_self hA,if_pos rfl];rfl
 ·rw [List.getElem?_set_ne (Ne.symm e),if_neg e]
section
variable {c : Cfg} {m m' : Mch} {z : Int}
structure Adrs (c : Cfg) : Prop where
 a1 : ((adr c 1 0 : Nat) : Int) = 0
 a2 : ((adr c 2 0 : Nat) : Int) = 1
 a8 : ∀ i,0 ≤ i → ((adr c 8 i : Nat) : Int) = base c 8 + i
 a9 : ∀ i,0 ≤ i → ((adr c 9 i : Nat) : Int) = base c 9 + i
 a10 : ∀ i,0 ≤ i → ((adr c 10 i : Nat) : Int) = base c 10 + i
 a11 : ∀ i,0 ≤ i → ((adr c 11 i : Nat) : Int) = base c 11 + i
theorem adrs {c : Cfg} (h : c.Ok) : Adrs c := by
 have b := bases h
 refine ⟨?_,?_,fun i hi => adr_i h 8 hi,fun i hi => adr_i h 9 hi,fun i hi => adr_i h 10 hi,fun i hi => adr_i h 11 hi⟩
 ·have := adr_i h 1 (Int.le_refl 0);have := b.b1;omega
 ·have := adr_i h 2 (Int.le_refl 0);have := b.b2;omega
theorem mv_hd (hok : c.Ok) (h : m'.mem.words = m.mem.words.set (adr c 1 0) z) (hA : adr c 1 0 < m.mem.words.length) : mv c m' = { mv c m with hd := z } := by
 obtain ⟨b1,b2,b8,b9,b10,b11,b12,b13,b14,rh,rh2⟩ := bases hok
 obtain ⟨a1,a2,a8,a9,a10,a11⟩ := adrs hok
 have hS := hok.S1
 have hR := hok.R1
 unfold mv
 simp only [word_set h hA]
 simp only [MV.mk.injEq,if_true,true_and]
 refine ⟨by rw [if_neg (by omega)],?_,?_,?_,?_⟩ <;> funext i <;> split <;> first|rfl|(rename_i hi;rw [if_neg])
 ·have := a10 i hi.1;omega
 ·have := a8 i hi.1;omega
 ·have := a9 i hi.1;omega
 ·have := a11 i hi.1;omega
theorem mv_cell (hok : c.Ok) (h : m'.mem.words = m.mem.words.set (adr c 2 0) z) (hA : adr c 2 0 < m.mem.words.length) : mv c m' = { mv c m with cell := z } := by
 obtain ⟨b1,b2,b8,b9,b10,b11,b12,b13,b14,rh,rh2⟩ := bases hok
 obtain ⟨a1,a2,a8,a9,a10,a11⟩ := adrs hok
 have hS := hok.S1
 have hR := hok.R1
 unfold mv
 simp only [word_set h hA]
 simp only [MV.mk.injEq,if_true,true_and]
 refine ⟨by rw [if_neg (by omega)],?_,?_,?_,?_⟩ <;> funext i <;> split <;> first|rfl|(rename_i hi;rw [if_neg])
 ·have := a10 i hi.1;omega
 ·have := a8 i hi.1;omega
 ·have := a9 i hi.1;omega
 ·have := a11 i hi.1;omega
theorem mv_nx (hok : c.Ok) {s : Int} (h0 : 0 ≤ s) (h1 : s < c.Sl) (h : m'.mem.words = m.mem.words.set (adr c 10 s) z) (hA : adr c 10 s < m.mem.words.length) : mv c m' = { mv c m with nx := upd (mv c m).nx s z } := by
 obtain ⟨b1,b2,b8,b9,b10,b11,b12,b13,b14,rh,rh2⟩ := bases hok
 obtain ⟨a1,a2,a8,a9,a10,a11⟩ := adrs hok
 have hS := hok.S1
 have hR := hok.R1
 have hs := a10 s h0
 unfold mv
 simp only [word_set h hA]
 simp only [MV.mk.injEq]
 refine ⟨by rw [if_neg (by omega)],by rw [if_neg (by omega)],?_,?_,?_,?_⟩ <;> funext i
 ·unfold upd
  by_cases e : i = s
  ·subst e;rw [if_pos ⟨h0,h1⟩,if_pos rfl,if_pos rfl]
  ·rw [if_neg e]
   by_cases hi : 0 ≤ i ∧ i < c.Sl
   ·have := a10 i hi.1
    simp only [if_pos hi];rw [if_neg (by omega)]
   ·simp only [if_neg hi]
 all_goals split <;> first|rfl|(rename_i hi;rw [if_neg])
 ·have := a8 i hi.1;omega
 ·have := a9 i hi.1;omega
 ·have := a11 i hi.1;omega
theorem mv_act (hok : c.Ok) {s : Int} (h0 : 0 ≤ s) (h1 : s < c.R) (h : m'.mem.words = m.mem.words.set (adr c 8 s) z) (hA : adr c 8 s < m.mem.words.length) : mv c m' = { mv c m with act := upd (mv c m).act s z } := by
 obtain ⟨b1,b2,b8,b9,b10,b11,b12,b13,b14,rh,rh2⟩ := bases hok
 obtain ⟨a1,a2,a8,a9,a10,a11⟩ := adrs hok
 have hS := hok.S1
 have hR := hok.R1
 have hs := a8 s h0
 unfold mv
 simp only [word_set h hA]
 simp only [MV.mk.injEq]
 refine ⟨by rw [if_neg (by omega)],by rw [if_neg (by omega)],?_,?_,?_,?_⟩ <;> funext i
 ·split <;> first|rfl|(rename_i hi;rw [if_neg])
  have := a10 i hi.1;omega
 ·unfold upd
  by_cases e : i = s
  ·subst e;rw [if_pos ⟨h0,h1⟩,if_pos rfl,if_pos rfl]
  ·rw [if_neg e]
   by_cases hi : 0 ≤ i ∧ i < c.R
   ·have := a8 i hi.1
    simp only [if_pos hi];rw [if_neg (by omega)]
   ·simp only [if_neg hi]
 ·split <;> first|rfl|(rename_i hi;rw [if_neg])
  have := a9 i hi.1;omega
 ·split <;> first|rfl|(rename_i hi;rw [if_neg])
  have := a11 i hi.1;omega
theorem mv_hz (hok : c.Ok) {s : Int} (h0 : 0 ≤ s) (h1 : s < c.R * c.Hz) (h : m'.mem.words = m.mem.words.set (adr c 9 s) z) (hA : adr c 9 s < m.mem.words.length) : mv c m' = { mv c m with hz := upd (mv c m).hz s z } := by
 obtain ⟨b1,b2,b8,b9,b10,b11,b12,b13,b14,rh,rh2⟩ := bases hok
 obtain ⟨a1,a2,a8,a9,a10,a11⟩ := adrs hok
 have hS := hok.S1
 have hR := hok.R1
 have hs := a9 s h0
 unfold mv
 simp only [word_set h hA]
 simp only [MV.mk.injEq]
 refine ⟨by rw [if_neg (by omega)],by rw [if_neg (by omega)],?_,?_,?_,?_⟩ <;> funext i
 ·split <;> first|rfl|(rename_i hi;rw [if_neg])
  have := a10 i hi.1;omega
 ·split <;> first|rfl|(rename_i hi;rw [if_neg])
  have := a8 i hi.1;omega
 ·unfold upd
  by_cases e : i = s
  ·subst e;rw [if_pos ⟨h0,h1⟩,if_pos rfl,if_pos rfl]
  ·rw [if_neg e]
   by_cases hi : 0 ≤ i ∧ i < c.R * c.Hz
   ·have := a9 i hi.1
    simp only [if_pos hi];rw [if_neg (by omega)]
   ·simp only [if_neg hi]
 ·split <;> first|rfl|(rename_i hi;rw [if_neg])
  have := a11 i hi.1;omega
theorem mv_val (hok : c.Ok) {s : Int} (h0 : 0 ≤ s) (h1 : s < c.Sl) (h : m'.mem.words = m.mem.words.set (adr c 11 s) z) (hA : adr c 11 s < m.mem.words.length) : mv c m' = { mv c m with val := upd (mv c m).val s z } := by
 obtain ⟨b1,b2,b8,b9,b10,b11,b12,b13,b14,rh,rh2⟩ := bases hok
 obtain ⟨a1,a2,a8,a9,a10,a11⟩ := adrs hok
 have hS := hok.S1
 have hR := hok.R1
 have hs := a11 s h0
 unfold mv
 simp only [word_set h hA]
 simp only [MV.mk.injEq]
 refine ⟨by rw [if_neg (by omega)],by rw [if_neg (by omega)],?_,?_,?_,?_⟩ <;> funext i
 ·split <;> first|rfl|(rename_i hi;rw [if_neg])
  have := a10 i hi.1;omega
 ·split <;> first|rfl|(rename_i hi;rw [if_neg])
  have := a8 i hi.1;omega
 ·split <;> first|rfl|(rename_i hi;rw [if_neg])
  have := a9 i hi.1;omega
 ·unfold upd
  by_cases e : i = s
  ·subst e;rw [if_pos ⟨h0,h1⟩,if_pos rfl,if_pos rfl]
  ·rw [if_neg e]
   by_cases hi : 0 ≤ i ∧ i < c.Sl
   ·have := a11 i hi.1
    simp only [if_pos hi];rw [if_neg (by omega)]
   ·simp only [if_neg hi]
end
def Chain (nx : Int → Int) : Int → List Int → Prop
 | x,[] => x = 0
 | x,s :: F => x = s + 1 ∧ 0 ≤ s ∧ Chain nx (nx s) F
theorem Chain.upd {nx : Int → Int} {k z : Int} : ∀ {x : Int} {F : List Int},Chain nx x F → k ∉ F → Chain (upd nx k z) x F
 | _,[],h,_ => h
 | _,s :: F,⟨h1,h2,h3⟩,hk => by
  simp only [List.mem_cons,not_or] at hk
  exact ⟨h1,h2,by rw [upd_ne _ _ (Ne.symm hk.1)];exact h3.upd hk.2⟩
def Are.sl (a : Are) (s : Int) : Slt := if 0 ≤ s then a.slots.getD s.toNat ⟨0,0⟩ else ⟨0,0⟩
def updS (f : Int → Slt) (k : Int) (z : Slt) : Int → Slt := fun x => if x = k then z else f x
theorem updS_self (f : Int → Slt) (k : Int) (z : Slt) : updS f k z k = z := by simp [updS]
theorem updS_ne (f : Int → Slt) {k x : Int} (z : Slt) (h : x ≠ k) : updS f k z x = f x := by simp [updS,h]
theorem sl_shift {a : Are} {s th to : Int} (h0 : 0 ≤ s) (h1 : s.toNat < a.slots.length) : (a.shift s.toNat th to).sl = updS a.sl s ⟨to,if to = 0 ∨ to = 3 then -1 else th⟩ := by
 funext i
 unfold Are.sl updS Are.shift
 simp only [List.getD_eq_getElem?_getD]
 by_cases e : i = s
 ·subst e
  rw [if_pos h0,if_pos rfl,List.getElem?_set_self h1];rfl
 ·rw [if_neg e]
  split
  ·rw [List.getElem?_set_ne (by omega)]
  ·rfl
end Go.Proofs.YtegafhhdegnigaaGreat
end
