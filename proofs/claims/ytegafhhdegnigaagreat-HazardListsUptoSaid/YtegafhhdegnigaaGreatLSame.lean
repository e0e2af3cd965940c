/-
  What a machine and an arena tell: who is busy, a thread's last call, the moves, a slot's state, how many slots are in a state.
-/
import Derived.Test.YtegafhhdegnigaaGreatLMove
import Derived.Test.YtegafhhdegnigaaGreatLVw
import Derived.Test.YtegafhhdegnigaaGreatLLst
import Derived.Test.YtegafhhdegnigaaGreatLLog
import Derived.Test.YtegafhhdegnigaaGreatLHaz
import Derived.Test.YtegafhhdegnigaaGreatLHist3
import Derived.Test.YtegafhhdegnigaaGreatLRun
import Derived.Test.YtegafhhdegnigaaGreatLNew3
set_option linter.all false
section
namespace Go.Proofs.YtegafhhdegnigaaGreat
open Go.RowKit Hp
set_option maxRecDepth 100000
set_option maxHeartbeats 8000000
attribute [local irreducible] Go.Calls Go.wpList
section
variable (bx bm : Nat) (m : Mch)
theorem mach_busy (t : Nat) (se : Sea) (hse : m.seats[t]? = some se) (b : Bool) (hb : (b = false ∧ se.task = .nilIface) ∨ (b = true ∧ ∃ ty x,se.task = .iface ty x)) :
  Gives Tryz.prog 53 #[.pointer (some ⟨bx,0,none⟩),.int .i64 (t : Int)] (MchR bx bm m) (.bool b) (MchR bx bm m) := by
 obtain ⟨s1,s2,s3,s4,s5⟩ := se
 simp only [] at hb
 intro O w F hs
 (obtain ⟨vh,call,told,hcur,hs⟩ := mchR.1 hs)
 have lt := (List.getElem?_eq_some_iff.1 hse).1
 have h2 : decide ((t : Int) ≥ 0) = true := by simp
 have h3 : decide ((t : Int) < (m.seats.length : Int)) = true := by simp;omega
 have h4 : decide (t < m.seats.length) = true := by simpa using lt
 rcases hb with ⟨rfl,rfl⟩|⟨rfl,ty,x,rfl⟩
 all_goals
  go_enter Tryz.func53,Tryz.ntmps53
  (repeat' (first|((with_reducible apply wl_pick);((simp only [ev,Ue,Uf]);rfl);((simp only [cond_true,cond_false,ev,Ue,Uf]);rfl);(with_reducible exact want_none);(simp only [Uc,Uz]))|(go_big_may;(first|((with_reducible apply wl_ld hs);infer_instance;rfl;(focus with_reducible (repeat first|exact Qh|apply Qk);done);rfl;rfl;(simp only [Uc,Uz]))|((with_reducible apply wl_ldS0 hs);infer_instance;rfl;assumption;(focus with_reducible (repeat first|exact Qh|apply Qk);done);rfl;(exact map_get (by assumption));rfl;rfl;(simp only [Uc,Uz]))|((with_reducible apply wl_ia hs);infer_instance;infer_instance;rfl;rfl;(focus with_reducible (repeat first|exact Qh|apply Qk);done);(rfl);(simp only [Wm,Ws,Wa,Wc,Wn,Wr] at *;omega);rfl;intro b off hat;(simp only [Uc,Uz]))|((with_reducible apply wl_len hs);infer_instance;rfl;(focus with_reducible (repeat first|exact Qh|apply Qk);done);rfl;(simp only [Uc,Uz]))))|go_guarded|go_step))
  (go_ret)
  refine ⟨rfl,?_⟩
  apply mchR_mk hcur
  ((with_reducible apply Sat.fin hs);(with_reducible exact Ql))
theorem mach_moves : Gives Tryz.prog 52 #[.pointer (some ⟨bx,0,none⟩)] (MchR bx bm m) (.int .i64 m.moves) (MchR bx bm m) := by
 intro O w F hs
 (obtain ⟨vh,call,told,hcur,hs⟩ := mchR.1 hs)
 go_enter Tryz.func52,Tryz.ntmps52
 (repeat' (first|(go_big_may;((with_reducible apply wl_ld hs);infer_instance;rfl;(with_reducible exact Qh);rfl;rfl;(simp only [Uc,Uz])))|go_step))
 (go_ret)
 refine ⟨rfl,?_⟩
 apply mchR_mk hcur
 ((with_reducible apply Sat.fin hs);(with_reducible exact Ql))
theorem mach_call_no (t : Int) (ht : t < 0 ∨ (m.seats.length : Int) ≤ t) :
  Gives Tryz.prog 60 #[.pointer (some ⟨bx,0,none⟩),.int .i64 t] (MchR bx bm m) (.tuple #[.agg (Cll.e ⟨0,0,0,0,0,0,0,0,0⟩).toArray,.bool false]) (MchR bx bm m) := by
 intro O w F hs
 (obtain ⟨vh,call,told,hcur,hs⟩ := mchR.1 hs)
 by_cases hn : t < 0
 ·have h2 : decide (t < 0) = true := by simpa using hn
  clear ht hn
  go_enter Tryz.func60,Tryz.ntmps60
  (repeat' (first|(((with_reducible apply wl_pass2);rfl;rfl;((simp only [ev,Ue,Uf]);rfl);rfl;(simp only [Uc,Uz]));(repeat ((with_reducible apply wl_pass2);rfl;rfl;((simp only [ev,Ue,Uf]);rfl);rfl;(simp only [Uc,Uz]))))|((with_reducible apply wl_pick);((simp only [ev,Ue,Uf]);rfl);((simp only [cond_true,cond_false,ev,Ue,Uf]);rfl);(with_reducible exact want_none);(simp only [Uc,Uz]))|(go_big_may;(first|((with_reducible apply wl_stF hs);infer_instance;rfl;rfl;(with_reducible exact Qh);rfl;rfl;rfl;rfl;clear hs;intro w hs)|((with_reducible apply wl_alloc hs);infer_instance;rfl;clear hs;intro w b hs;(simp only [Uc,Uz]))))|go_guarded|go_step))
  ((try simp only [Exit.inBlock,Exit.then]);(with_reducible apply bodyPost_ret);((with_reducible apply results_ct);rfl;rfl;(with_reducible apply loadF hs);infer_instance;(with_reducible exact Qh);rfl;rfl))
  refine ⟨rfl,?_⟩
  apply mchR_mk hcur
  ((with_reducible apply Sat.fin hs);(focus with_reducible (repeat first|exact Ql|exact Qh|apply Qb|apply Qk);done))
 ·have h2 : decide (t < 0) = false := by simpa using hn
  have h3 : decide (t ≥ (m.seats.length : Int)) = true := by simp;omega
  clear ht hn
  go_enter Tryz.func60,Tryz.ntmps60
  (repeat' (first|(((with_reducible apply wl_pass2);rfl;rfl;((simp only [ev,Ue,Uf]);rfl);rfl;(simp only [Uc,Uz]));(repeat ((with_reducible apply wl_pass2);rfl;rfl;((simp only [ev,Ue,Uf]);rfl);rfl;(simp only [Uc,Uz]))))|((with_reducible apply wl_pick);((simp only [ev,Ue,Uf]);rfl);((simp only [cond_true,cond_false,ev,Ue,Uf]);rfl);(with_reducible exact want_none);(simp only [Uc,Uz]))|(go_big_may;(first|((with_reducible apply wl_ld hs);infer_instance;rfl;(focus with_reducible (repeat first|exact Qh|apply Qk);done);rfl;rfl;(simp only [Uc,Uz]))|((with_reducible apply wl_stF hs);infer_instance;rfl;rfl;(with_reducible exact Qh);rfl;rfl;rfl;rfl;clear hs;intro w hs)|((with_reducible apply wl_alloc hs);infer_instance;rfl;clear hs;intro w b hs;(simp only [Uc,Uz]))|((with_reducible apply wl_len hs);infer_instance;rfl;(focus with_reducible (repeat first|exact Qh|apply Qk);done);rfl;(simp only [Uc,Uz]))))|go_guarded|go_step))
  ((try simp only [Exit.inBlock,Exit.then]);(with_reducible apply bodyPost_ret);((with_reducible apply results_ct);rfl;rfl;(with_reducible apply loadF hs);infer_instance;(with_reducible exact Qh);rfl;rfl))
  refine ⟨rfl,?_⟩
  apply mchR_mk hcur
  ((with_reducible apply Sat.fin hs);(focus with_reducible (repeat first|exact Ql|exact Qh|apply Qb|apply Qk);done))
theorem mach_call_none (t : Nat) (se : Sea) (hse : m.seats[t]? = some se) (hl : se.last < 0) :
  Gives Tryz.prog 60 #[.pointer (some ⟨bx,0,none⟩),.int .i64 (t : Int)] (MchR bx bm m) (.tuple #[.agg (Cll.e ⟨0,0,0,0,0,0,0,0,0⟩).toArray,.bool false]) (MchR bx bm m) := by
 obtain ⟨s1,s2,s3,s4,s5⟩ := se
 simp only [] at hl
 intro O w F hs
 (obtain ⟨vh,call,told,hcur,hs⟩ := mchR.1 hs)
 have lt := (List.getElem?_eq_some_iff.1 hse).1
 have h2 : decide ((t : Int) < 0) = false := by simp
 have h3 : decide ((t : Int) ≥ (m.seats.length : Int)) = false := by simp;omega
 have h4 : decide (m.seats.length ≤ t) = false := by simpa using lt
 have h5 : decide (s3 < 0) = true := by simpa using hl
 clear hl
 go_enter Tryz.func60,Tryz.ntmps60
 (repeat' (first|((with_reducible apply wl_pick);((simp only [ev,Ue,Uf]);rfl);((simp only [cond_true,cond_false,ev,Ue,Uf]);rfl);(with_reducible exact want_none);(simp only [Uc,Uz]))|(go_big_may;(first|((with_reducible apply wl_ld hs);infer_instance;rfl;(focus with_reducible (repeat first|exact Qh|apply Qk);done);rfl;rfl;(simp only [Uc,Uz]))|((with_reducible apply wl_stF hs);infer_instance;rfl;rfl;(with_reducible exact Qh);rfl;rfl;rfl;rfl;clear hs;intro w hs)|((with_reducible apply wl_alloc hs);infer_instance;rfl;clear hs;intro w b hs;(simp only [Uc,Uz]))|((with_reducible apply wl_ldS hs);infer_instance;rfl;assumption;(focus with_reducible (repeat first|exact Qh|apply Qk);done);rfl;(exact map_get (by assumption));rfl;rfl;(simp only [Uc,Uz]))|((with_reducible apply wl_ia hs);infer_instance;infer_instance;rfl;rfl;(focus with_reducible (repeat first|exact Qh|apply Qk);done);(rfl);(simp only [Wm,Ws,Wa,Wc,Wn,Wr] at *;omega);rfl;intro b off hat;(simp only [Uc,Uz]))|((with_reducible apply wl_len hs);infer_instance;rfl;(focus with_reducible (repeat first|exact Qh|apply Qk);done);rfl;(simp only [Uc,Uz]))))|go_guarded|go_step))
 ((try simp only [Exit.inBlock,Exit.then]);(with_reducible apply bodyPost_ret);((with_reducible apply results_ct);rfl;rfl;(with_reducible apply loadF hs);infer_instance;(with_reducible exact Qh);rfl;rfl))
 refine ⟨rfl,?_⟩
 apply mchR_mk hcur
 ((with_reducible apply Sat.fin hs);(focus with_reducible (repeat first|exact Ql|exact Qh|apply Qb|apply Qk);done))
theorem mach_call (t i : Nat) (se : Sea) (hse : m.seats[t]? = some se) (hl : se.last = (i : Int)) (c : Cll) (hc : m.calls[i]? = some c) :
  Gives Tryz.prog 60 #[.pointer (some ⟨bx,0,none⟩),.int .i64 (t : Int)] (MchR bx bm m) (.tuple #[.agg (Cll.e c).toArray,.bool true]) (MchR bx bm m) := by
 obtain ⟨s1,s2,s3,s4,s5⟩ := se
 simp only [] at hl
 subst hl
 intro O w F hs
 (obtain ⟨vh,call,told,hcur,hs⟩ := mchR.1 hs)
 have lt := (List.getElem?_eq_some_iff.1 hse).1
 have lc := (List.getElem?_eq_some_iff.1 hc).1
 have h2 : decide ((t : Int) < 0) = false := by simp
 have h3 : decide ((t : Int) ≥ (m.seats.length : Int)) = false := by simp;omega
 have h4 : decide (m.seats.length ≤ t) = false := by simpa using lt
 have h5 : decide ((i : Int) < 0) = false := by simp
 have h6 : (m.calls.map Cll.e)[i]? = some (Cll.e c) := by rw [List.getElem?_map,hc];rfl
 have h7 : i < (m.calls.map Cll.e).length := by simpa using lc
 have h8 : (m.seats.map Sea.e)[t]? = some (Sea.e ⟨s1,s2,(i : Int),s4,s5⟩) := by rw [List.getElem?_map,hse];rfl
 have h9 : t < (m.seats.map Sea.e).length := by simpa using lt
 obtain ⟨c1,c2,c3,c4,c5,c6,c7,c8,c9⟩ := c
 clear hse hc lt lc
 go_enter Tryz.func60,Tryz.ntmps60
 (repeat' (first|((with_reducible apply wl_pick);((simp only [ev,Ue,Uf]);rfl);((simp only [cond_true,cond_false,ev,Ue,Uf]);rfl);(with_reducible exact want_none);(simp only [Uc,Uz]))|(go_big_may;(first|(first|(first|(with_reducible refine NQ.mk ?_)|((with_reducible apply pl_neu);rfl;rfl)|((with_reducible apply pl_eff);rfl)|(with_reducible refine EQ.mk ?_ ?_)|(with_reducible exact chk_nil)|(with_reducible refine pl_end ?_))|((with_reducible apply wl_ld hs);infer_instance;rfl;(focus with_reducible (repeat first|exact Qh|apply Qk);done);rfl;rfl;(simp only [Uc,Uz]))|((with_reducible apply wl_stF hs);infer_instance;rfl;rfl;(with_reducible exact Qh);rfl;rfl;rfl;rfl;clear hs;intro w hs)|((with_reducible apply wl_alloc hs);infer_instance;rfl;clear hs;intro w b hs;(simp only [Uc,Uz]))|((with_reducible apply wl_ldS hs);infer_instance;rfl;assumption;(focus with_reducible (repeat first|exact Qh|apply Qk);done);rfl;(assumption);rfl;rfl;(simp only [Uc,Uz]))|((with_reducible apply wl_ldSN (k := 0) hs);infer_instance;rfl;assumption;(focus with_reducible (repeat first|exact Qh|apply Qk);done);(exact (Nat.add_zero _).symm);(assumption);(exact Vb rfl);rfl;rfl;(simp only [Uc,Uz]))|((with_reducible apply wl_ia2 hs);infer_instance;infer_instance;rfl;assumption;rfl;(focus with_reducible (repeat first|exact Qh|apply Qk);done);(rfl);(assumption);rfl;(simp only [Uc,Uz]))|((with_reducible apply wl_ia hs);infer_instance;infer_instance;rfl;rfl;(focus with_reducible (repeat first|exact Qh|apply Qk);done);(rfl);(assumption);rfl;intro b off hat;(simp only [Uc,Uz]))|((with_reducible apply wl_len hs);infer_instance;rfl;(focus with_reducible (repeat first|exact Qh|apply Qk);done);rfl;(simp only [Uc,Uz])))|((with_reducible refine wp_plan_sat (id := 3) [.neu 0,.neu 1,.neu 2,.neu 3,.neu 4,.neu 5,.neu 6,.neu 7,.neu 8,.neu 9,.neu 10,.neu 11,.neu 12,.neu 13,.eff 14 [],.neu 15] hs rfl ?_ ?_);kernel_rfl;clear hs;intro w hs)))|go_guarded|go_step))
 ((try simp only [Exit.inBlock,Exit.then]);(with_reducible apply bodyPost_ret);((with_reducible apply results_ct);rfl;rfl;(with_reducible apply loadF hs);infer_instance;(with_reducible exact Qh);rfl;rfl))
 refine ⟨rfl,?_⟩
 apply mchR_mk hcur
 ((with_reducible apply Sat.fin hs);(focus with_reducible (repeat first|exact Ql|exact Qh|apply Qb|apply Qk);done))
end
theorem arena_state (b : Nat) (a : Are) (i : Nat) (s : Slt) (hi : a.slots[i]? = some s) :
  Gives Tryz.prog 115 #[.pointer (some ⟨b,0,none⟩),.int .i64 (i : Int)] (AreR b a) (.tuple #[.int .i64 s.state,.int .i64 s.holder,.int .i64 0]) (AreR b a) := by
 intro O w F hs
 have hl := (List.getElem?_eq_some_iff.1 hi).1
 have hH := Lib.hid (arena_has b a i hl)
 obtain ⟨s1,s2⟩ := s
 have hgv : (a.slots.map Slt.e)[i]? = some (Slt.e ⟨s1,s2⟩) := by rw [List.getElem?_map,hi];rfl
 have hgl : i < (a.slots.map Slt.e).length := by simpa using hl
 clear hi
 go_enter Tryz.func115,Tryz.ntmps115
 (repeat' (first|(go_big_may;(first|(go_at_call 132;((refine (hH.out).at hs (by (with_reducible exact Qh)) ?_);clear hs;intro w hs;(try simp only [emp_mul,mul_assoc'] at hs));(obtain ⟨vas,vac,hs⟩ := areR.1 hs))|(first|(first|(with_reducible refine NQ.mk ?_)|((with_reducible apply pl_neu);rfl;rfl)|(with_reducible refine pl_end ?_))|((with_reducible apply wl_ld hs);infer_instance;rfl;(focus with_reducible (repeat first|exact Qh|apply Qk);done);rfl;rfl;(simp only [Uc,Uz]))|((with_reducible apply wl_ldS hs);infer_instance;rfl;assumption;(focus with_reducible (repeat first|exact Qh|apply Qk);done);rfl;(assumption);rfl;rfl;(simp only [Uc,Uz]))|((with_reducible apply wl_ldS0 hs);infer_instance;rfl;assumption;(focus with_reducible (repeat first|exact Qh|apply Qk);done);rfl;(assumption);rfl;rfl;(simp only [Uc,Uz]))|((with_reducible apply wl_ia2 hs);infer_instance;infer_instance;rfl;assumption;rfl;(focus with_reducible (repeat first|exact Qh|apply Qk);done);(rfl);(assumption);rfl;(simp only [Uc,Uz]))|((with_reducible apply wl_ia hs);infer_instance;infer_instance;rfl;rfl;(focus with_reducible (repeat first|exact Qh|apply Qk);done);(rfl);(assumption);rfl;intro b off hat;(simp only [Uc,Uz])))|((with_reducible refine wp_plan_sat (id := 3) [.neu 0,.neu 1,.neu 2,.neu 3,.neu 4,.neu 5,.neu 6,.neu 7,.neu 8,.neu 9,.neu 10,.neu 11,.neu 12,.neu 13,.neu 14,.neu 15,.neu 16,.neu 17,.neu 18] hs rfl ?_ ?_);kernel_rfl;clear hs;intro w hs)))|go_step|(dsimp only)))
 (go_ret3)
 refine ⟨rfl,?_⟩
 (apply areR_mk;((try simp only [List.map_append,List.map_cons,List.map_nil,List.map_set,List.set_set]);(try simp only [List.map_append,List.map_cons,List.map_nil,List.map_set,List.set_set] at hs);((with_reducible apply Sat.fin hs);(with_reducible exact Ql))))
def cntS (st : Int) (l : List Slt) : Nat := l.countP (fun x => x.state == st)
theorem arena_count (b : Nat) (a : Are) (st : Int) (hl : a.slots.length < 4294967296) :
  Gives Tryz.prog 116 #[.pointer (some ⟨b,0,none⟩),.int .i64 st] (AreR b a) (.int .i64 (cntS st a.slots : Int)) (AreR b a) := by
 intro O w F hs
 (obtain ⟨vas,vac,hs⟩ := areR.1 hs)
 obtain ⟨b1,m1,rfl⟩ := sl_len (hs.pull (A := sl 156 2 _ vas) (by (focus with_reducible (repeat first|exact Qh|apply Qk);done)))
 simp only [List.length_map] at hs ⊢
 go_enter Tryz.func116,Tryz.ntmps116
 (repeat' (go_step))
 refine wp_scope_jumps 0 (fun _ _ => False) (fun _ _ => 0) rfl ?_ (fun _ _ h => h.elim)
 (repeat' (go_step))
 go_step3
 (repeat' (first|(go_big_may;(first|((with_reducible apply wl_ld hs);infer_instance;rfl;(with_reducible exact Qh);rfl;rfl;(simp only [Uc,Uz]))|((with_reducible apply wl_len hs);infer_instance;rfl;(focus with_reducible (repeat first|exact Qh|apply Qk);done);rfl;(simp only [Uc,Uz]))))|go_step))
 go_loopw [5,15] (fun q5 q wr => ∃ k : Nat,k ≤ a.slots.length ∧ q5 = .int .i64 (cntS st (a.slots.take k) : Int) ∧ q = .int .i64 (k : Int) ∧ Sat O wr (pt b (.cells #[.int .i64 a.c.T,.int .i64 a.c.R,.int .i64 a.c.Hz,.int .i64 a.c.Rt,.int .i64 a.c.Ca,.int .i64 a.c.Sl,.int .i64 a.c.Bu,.slice b1 a.slots.length m1,vac] 154) * (sl 156 2 (a.slots.map Slt.e) (.slice b1 a.slots.length m1) * (nest 44 3 a.caches vac * F)))) (fun _ q _ => a.slots.length + 1 - (intOf q).toNat)
 case atStart => exact ⟨0,by omega,rfl,rfl,by ((with_reducible apply Sat.fin hs);(with_reducible exact Ql))⟩
 case round =>
  obtain ⟨k,kk,rfl,rfl,hs⟩ := hrel
  by_cases hkr : k = a.slots.length
  ·have hlt : decide ((k : Int) < (a.slots.length : Int)) = false := by simp;omega
   have e : cntS st (a.slots.take k) = cntS st a.slots := by rw [hkr,List.take_length]
   have e := Lib.hid e
   (repeat' (go_step))
   refine jump_ret ?_
   (go_ret)
   refine ⟨by rw [e.out];rfl,?_⟩
   (apply areR_mk;((try simp only [List.map_append,List.map_cons,List.map_nil,List.map_set,List.set_set]);(try simp only [List.map_append,List.map_cons,List.map_nil,List.map_set,List.set_set] at hs);((with_reducible apply Sat.fin hs);(with_reducible exact Ql))))
  ·have hlt : decide ((k : Int) < (a.slots.length : Int)) = true := by simp;omega
   have hlt2 : decide (k < a.slots.length) = true := by simp;omega
   have hkL := Lib.hid (show k < a.slots.length by omega)
   have hln : k < (a.slots.map Slt.e).length := by simp;omega
   obtain ⟨e,he⟩ : ∃ e,a.slots[k]? = some e := ⟨_,List.getElem?_eq_getElem (by omega)⟩
   have hnx : cntS st (a.slots.take (k + 1)) = cntS st (a.slots.take k) + (if e.state = st then 1 else 0) := by
    unfold cntS
    rw [List.take_add_one,he,List.countP_append]
    simp only [Option.toList,List.countP_cons,List.countP_nil,beq_iff_eq]
    omega
   have hcb : cntS st (a.slots.take k) ≤ k := by
    have := List.countP_le_length (p := fun x : Slt => x.state == st) (l := a.slots.take k)
    unfold cntS
    simp at this
    omega
   obtain ⟨e1,e2⟩ := e
   have hgv : (a.slots.map Slt.e)[k]? = some (Slt.e ⟨e1,e2⟩) := by rw [List.getElem?_map,he];rfl
   simp only [] at hnx
   have hnx := Lib.hid hnx
   generalize cntS st (a.slots.take k) = n0 at *
   clear he hkr
   by_cases hs1 : e1 = st
   ·subst hs1
    have hnx := Lib.hid (show cntS e1 (a.slots.take (k + 1)) = n0 + 1 by rw [hnx.out];simp)
    (repeat' (first|(go_big_may;(first|((with_reducible apply wl_ld hs);infer_instance;rfl;(with_reducible exact Qh);rfl;rfl;(simp only [Uc,Uz]))|((with_reducible apply wl_stF hs);infer_instance;rfl;rfl;(with_reducible exact Qh);rfl;rfl;rfl;rfl;clear hs;intro w hs)|((with_reducible apply wl_alloc hs);infer_instance;rfl;clear hs;intro w b hs;(simp only [Uc,Uz]))|((with_reducible apply wl_ldSN (k := 0) hs);infer_instance;rfl;assumption;(focus with_reducible (repeat first|exact Qh|apply Qk);done);(exact (Nat.add_zero _).symm);(assumption);(exact Vb rfl);rfl;rfl;(simp only [Uc,Uz]))|((with_reducible apply wl_ia hs);infer_instance;infer_instance;rfl;rfl;(focus with_reducible (repeat first|exact Qh|apply Qk);done);(rfl);(assumption);rfl;intro b off hat;(simp only [Uc,Uz]))))|go_step))
    go_roundw
    case rel => exact ⟨k + 1,(by have := hkL.out;omega),by rw [hnx.out];simp,by simp,by ((with_reducible apply Sat.fin hs);(focus with_reducible (repeat first|exact Ql|exact Qh|apply Qb|apply Qk);done))⟩
    case measure => have := hkL.out;simp [intOf];omega
   ·have hb : (e1 == st) = false := by simpa using hs1
    have hnx := Lib.hid (show cntS st (a.slots.take (k + 1)) = n0 by rw [hnx.out];simp [hs1])
    clear hs1
    (repeat' (first|(go_big_may;(first|((with_reducible apply wl_ld hs);infer_instance;rfl;(with_reducible exact Qh);rfl;rfl;(simp only [Uc,Uz]))|((with_reducible apply wl_stF hs);infer_instance;rfl;rfl;(with_reducible exact Qh);rfl;rfl;rfl;rfl;clear hs;intro w hs)|((with_reducible apply wl_alloc hs);infer_instance;rfl;clear hs;intro w b hs;(simp only [Uc,Uz]))|((with_reducible apply wl_ldSN (k := 0) hs);infer_instance;rfl;assumption;(focus with_reducible (repeat first|exact Qh|apply Qk);done);(exact (Nat.add_zero _).symm);(assumption);(exact Vb rfl);rfl;rfl;(simp only [Uc,Uz]))|((with_reducible apply wl_ia hs);infer_instance;infer_instance;rfl;rfl;(focus with_reducible (repeat first|exact Qh|apply Qk);done);(rfl);(assumption);rfl;intro b off hat;(simp only [Uc,Uz]))))|go_step))
    go_roundw
    case rel => exact ⟨k + 1,(by have := hkL.out;omega),by rw [hnx.out],by simp,by ((with_reducible apply Sat.fin hs);(focus with_reducible (repeat first|exact Ql|exact Qh|apply Qb|apply Qk);done))⟩
    case measure => have := hkL.out;simp [intOf];omega
theorem ref_addr9 (c : Cfg) (hok : c.Ok) (r k : Nat) (r1 : (r : Int) < c.R) (k1 : (k : Int) < c.Hz) :
  Gives Tryz.prog 114 #[c.v,.agg #[.int .i64 9,.int .i64 (r : Int),.int .i64 (k : Int)]] emp (.int .i64 (base c 9 + (r : Int) * c.Hz + (k : Int))) emp := by
 intro O w F hs
 have hB := Lib.hid (ref_base c hok 9 (by omega) (by omega))
 obtain ⟨b1,b2⟩ := base_le hok 9
 have hR2 := hok.R2
 have hH1 := hok.H1
 have hH2 := hok.H2
 have hrk : 0 ≤ (r : Int) * c.Hz ∧ (r : Int) * c.Hz ≤ 128 := by
  refine ⟨Int.mul_nonneg (by omega) (by omega),?_⟩
  have := Int.mul_le_mul (show (r : Int) ≤ 16 by omega) hH2 (by omega) (by omega)
  omega
 obtain ⟨q1,q2⟩ := hrk
 have f1 : decide ((r : Int) < 0) = false := by simp
 have f2 : decide ((r : Int) ≥ c.R) = false := by simp;omega
 have f3 : decide ((k : Int) < 0) = false := by simp
 have f4 : decide ((k : Int) ≥ c.Hz) = false := by simp;omega
 have w1 : wrap64 ((r : Int) * c.Hz) = (r : Int) * c.Hz := by unfold wrap64;omega
 obtain ⟨c1,c2,c3,c4,c5,c6,c7⟩ := c
 simp only [] at r1 k1 f2 f4 w1 q1 q2 hH2
 have w2 : wrap64 (base ⟨c1,c2,c3,c4,c5,c6,c7⟩ 9 + (r : Int) * c3 + (k : Int)) = base ⟨c1,c2,c3,c4,c5,c6,c7⟩ 9 + (r : Int) * c3 + (k : Int) := by unfold wrap64;omega
 have w2 := Lib.hid w2
 go_enter Tryz.func114,Tryz.ntmps114
 (repeat' (first|((with_reducible apply wl_pick);((simp only [ev,Ue,Uf]);rfl);((simp only [cond_true,cond_false,ev,Ue,Uf]);rfl);(with_reducible exact want_none);(simp only [Uc,Uz]))|(go_big_may;(first|(first|(first|(with_reducible refine NQ.mk ?_)|((with_reducible apply pl_neu);rfl;rfl)|((with_reducible apply pl_eff);rfl)|(with_reducible refine EQ.mk ?_ ?_)|(first|(with_reducible exact chk_nil)|((with_reducible refine chk_cons ?_ ?_);(focus ((with_reducible apply pl_chk);rfl;rfl))))|(with_reducible refine pl_end ?_)|(show SameA _ _ _;rfl))|((with_reducible apply wl_ld hs);infer_instance;rfl;(focus with_reducible (repeat first|exact Qh|apply Qk);done);rfl;rfl;(simp only [Uc,Uz]))|((with_reducible apply wl_ldF hs);infer_instance;rfl;(focus with_reducible (repeat first|exact Qh|apply Qk);done);rfl;rfl;(simp only [Uc,Uz]))|((with_reducible apply wl_box hs);rfl;rfl;rfl;clear hs;intro w b hs;(simp only [Uc,Uz])))|(go_at_call 23;((refine (hB.out).at hs (by (focus ((repeat (with_reducible exact Qn));done))) ?_);clear hs;intro w hs;(try simp only [emp_mul,mul_assoc'] at hs)))|((with_reducible refine wp_plan_sat (id := 7) [.neu 0,.neu 1,.neu 3,.neu 4,.neu 5,.neu 6,.neu 7,.neu 9,.neu 10,.eff 2 [3,4,5,6,7,9,10],.neu 8,.neu 11,.neu 12] hs rfl ?_ ?_);kernel_rfl;clear hs;intro w hs)))|go_guarded|go_step|(dsimp only)))
 (go_ret)
 exact ⟨by simp [w1,w2.out],by ((with_reducible apply Sat.fin hs);(focus with_reducible (repeat first|exact Ql|exact Qn|apply Qb|apply Qk);done))⟩
theorem cen_listed (c : Cfg) (hok : c.Ok) : Gives Tryz.prog 86 #[c.v] emp (.int .i64 (Bt c + (c.R - 1) * Am c)) emp := by
 intro O w F hs
 obtain ⟨q1,q2⟩ := hok.rh
 have hR1 := hok.R1
 have hR2 := hok.R2
 have hRt1 := hok.Rt1
 have hRt2 := hok.Rt2
 have hA : 0 ≤ Am c ∧ Am c ≤ 128 := ⟨q1,q2⟩
 have hm : 0 ≤ (c.R - 1) * Am c ∧ (c.R - 1) * Am c ≤ 2048 := by
  refine ⟨Int.mul_nonneg (by omega) hA.1,?_⟩
  have := Int.mul_le_mul (show c.R - 1 ≤ 16 by omega) hA.2 hA.1 (by omega)
  omega
 have w1 : wrap64 (c.R * c.Hz) = c.R * c.Hz := by unfold wrap64;omega
 have w2 : wrap64 ((c.R - 1) * (c.R * c.Hz)) = (c.R - 1) * (c.R * c.Hz) := by have h := hm;unfold Am at h;unfold wrap64;omega
 have hB : Bt c = (if c.Rt ≤ c.R * c.Hz + 1 then c.R * c.Hz + 1 else c.Rt) := rfl
 have hAm : Am c = c.R * c.Hz := rfl
 rw [hB,hAm]
 rw [hAm] at hm hA
 obtain ⟨c1,c2,c3,c4,c5,c6,c7⟩ := c
 simp only [] at *
 by_cases hc : c4 < c2 * c3 + 1
 ·have f1 : decide (c2 * c3 + 1 > c4) = true := by simpa using hc
  have f2 : decide (c4 < c2 * c3 + 1) = true := by simpa using hc
  rw [if_pos (by omega)]
  go_enter Tryz.func86,Tryz.ntmps86
  (repeat' (first|(go_big_may;(first|((with_reducible apply wl_ld hs);infer_instance;rfl;(with_reducible exact Qh);rfl;rfl;(simp only [Uc,Uz]))|((with_reducible apply wl_box hs);rfl;rfl;rfl;clear hs;intro w b hs;(simp only [Uc,Uz]))))|go_step))
  (go_ret)
  exact ⟨by simp [w1,w2],by ((with_reducible apply Sat.fin hs);(focus with_reducible (repeat first|exact Ql|exact Qn|apply Qb|apply Qk);done))⟩
 ·have f1 : decide (c2 * c3 + 1 > c4) = false := by simpa using hc
  have f2 : decide (c4 < c2 * c3 + 1) = false := by simpa using hc
  have e : (if c4 ≤ c2 * c3 + 1 then c2 * c3 + 1 else c4) = c4 := by split <;> omega
  rw [e]
  go_enter Tryz.func86,Tryz.ntmps86
  (repeat' (first|(go_big_may;(first|((with_reducible apply wl_ld hs);infer_instance;rfl;(with_reducible exact Qh);rfl;rfl;(simp only [Uc,Uz]))|((with_reducible apply wl_box hs);rfl;rfl;rfl;clear hs;intro w b hs;(simp only [Uc,Uz]))))|go_step))
  (go_ret)
  exact ⟨by simp [w1,w2],by ((with_reducible apply Sat.fin hs);(focus with_reducible (repeat first|exact Ql|exact Qn|apply Qb|apply Qk);done))⟩
end Go.Proofs.YtegafhhdegnigaaGreat
end
/-
  Lists of numbers: a record's list, and the law's comparison.
-/
section
namespace Go.Proofs.YtegafhhdegnigaaGreat
open Go.RowKit Hp
set_option maxRecDepth 100000
set_option maxHeartbeats 1000000
attribute [local irreducible] Go.Calls
theorem haz_list (b ba : Nat) (h : Haz) (n : Nat) (x : List Int) (hx : h.lists[n]? = some x) (hl : x.length < 4294967296) :
  Does Tryz.prog 42 #[.pointer (some ⟨b,0,none⟩),.int .i64 (n : Int)] (HazR b ba h) (fun v => sl 3 1 (x.map eI) v * HazR b ba h) := by
 intro O w F hs
 have hlt := (List.getElem?_eq_some_iff.1 hx).1
 (replace hs := hs.pull (A := HazR b _ _) (by (with_reducible exact Qh));obtain ⟨vhh,vhl,hus_,hu_,husl,husg,hs⟩ := hazT hs hx)
 have hltu : n < hus_.length := by omega
 have h0 : decide ((n : Int) < 0) = false := by simp
 have h1 : decide ((n : Int) ≥ (hus_.length : Int)) = false := by simp;omega
 have h2 : decide (hus_.length ≤ n) = false := by simp;omega
 have hC := Lib.hid (fun v => clone_ints v x hl)
 go_enter Tryz.func42,Tryz.ntmps42
 go_wp2_with (first|(first|((with_reducible apply wl_ld hs);infer_instance;rfl;(focus with_reducible (repeat first|exact Qh|apply Qk);done);rfl;rfl;(simp only [Uc,Uz]))|((with_reducible apply wl_ldS0 hs);infer_instance;rfl;assumption;(focus with_reducible (repeat first|exact Qh|apply Qk);done);rfl;(exact map_get (by assumption));rfl;rfl;(simp only [Uc,Uz]))|((with_reducible apply wl_ia hs);infer_instance;infer_instance;rfl;rfl;(focus with_reducible (repeat first|exact Qh|apply Qk);done);(rfl);(simp only [Wm,Ws,Wa,Wc,Wn,Wr] at *;omega);rfl;intro b off hat;(simp only [Uc,Uz]))|((with_reducible apply wl_len hs);infer_instance;rfl;(focus with_reducible (repeat first|exact Qh|apply Qk);done);rfl;(simp only [Uc,Uz])))|(go_at_call 102;((refine ((hC.out _)).at hs (by (focus with_reducible (repeat first|exact Qh|apply Qk);done)) ?_);clear hs;intro v w hs;(try simp only [emp_mul,mul_assoc'] at hs))))
 (go_ret)
 refine ⟨_,rfl,?_⟩
 (replace hs := hazT_back husl husg hx (hs.fin (by (focus with_reducible (repeat first|exact Ql|exact Qh|apply Qb|apply Qk);done))))
 simp only [mul_assoc']
 ((with_reducible apply Sat.fin hs);(focus ((repeat (first|with_reducible exact Ql|with_reducible apply Qb|exact Qh|with_reducible apply Qk));done)))
end Go.Proofs.YtegafhhdegnigaaGreat
end
/-
  The census: where an access or a shift may stand.
-/
section
namespace Go.Proofs.YtegafhhdegnigaaGreat
open Go.RowKit Hp
set_option maxRecDepth 100000
set_option maxHeartbeats 1000000
attribute [local irreducible] Go.Calls
abbrev Cll.v (x : Cll) : Value := .agg (Cll.e x).toArray
end Go.Proofs.YtegafhhdegnigaaGreat
end
/-
  The census: the calls' ends.
-/
section
namespace Go.Proofs.YtegafhhdegnigaaGreat
open Go.RowKit Hp
set_option maxRecDepth 100000
set_option maxHeartbeats 2000000
attribute [local irreducible] Go.Calls
abbrev eB (b : Bool) : List Value := [.bool b]
end Go.Proofs.YtegafhhdegnigaaGreat
end
/-
  The reference's comparisons, where the lists are the same (written by gensame.py).
-/
section
namespace Go.Proofs.YtegafhhdegnigaaGreat
open Go.RowKit Hp
set_option maxRecDepth 100000
set_option maxHeartbeats 1000000
attribute [local irreducible] Go.Calls
structure RunLen (cs : List Cll) (lg : List Acc) (sh : List Shf) (ws : List Int) : Prop where
 l1 : cs.length < 100000000
 l2 : lg.length < 100000000
 l3 : sh.length < 100000000
 l4 : ws.length < 100000000
theorem runR_mk {O w : World} {F : SProp} {cs : List Cll} {lg : List Acc} {sh : List Shf} {ws : List Int} {vc vt vs vw : Value}
  (hs : Sat O w (sl 50 9 (cs.map Cll.e) vc * (sl 138 7 (lg.map Acc.e) vt * (sl 127 5 (sh.map Shf.e) vs * (sl 57 1 (ws.map eU) vw * F))))) : Sat O w (RunR cs lg sh ws (.agg #[vc,vt,vs,vw]) * F) := by
 unfold RunR
 simp only [sat_ex,mul_assoc',sat_pu]
 exact ⟨_,_,_,_,rfl,hs⟩
theorem runR_get {O w : World} {F : SProp} {cs : List Cll} {lg : List Acc} {sh : List Shf} {ws : List Int} {v : Value} (hs : Sat O w (RunR cs lg sh ws v * F)) :
  ∃ a1 k1 a2 k2 a3 k3 a4 k4,v = .agg #[.slice a1 cs.length k1,.slice a2 lg.length k2,.slice a3 sh.length k3,.slice a4 ws.length k4] ∧
   Sat O w (sl 50 9 (cs.map Cll.e) (.slice a1 cs.length k1) * (sl 138 7 (lg.map Acc.e) (.slice a2 lg.length k2) * (sl 127 5 (sh.map Shf.e) (.slice a3 sh.length k3) * (sl 57 1 (ws.map eU) (.slice a4 ws.length k4) * F)))) := by
 unfold RunR at hs
 simp only [sat_ex,mul_assoc',sat_pu] at hs
 obtain ⟨vc,vt,vs,vw,rfl,hs⟩ := hs
 obtain ⟨_,_,rfl⟩ := sl_len (hs.pull (A := sl 50 9 _ vc) (by (with_reducible exact Qh)))
 obtain ⟨_,_,rfl⟩ := sl_len (hs.pull (A := sl 138 7 _ vt) (by (focus with_reducible (repeat first|exact Qh|apply Qk);done)))
 obtain ⟨_,_,rfl⟩ := sl_len (hs.pull (A := sl 127 5 _ vs) (by (focus with_reducible (repeat first|exact Qh|apply Qk);done)))
 obtain ⟨_,_,rfl⟩ := sl_len (hs.pull (A := sl 57 1 _ vw) (by (focus with_reducible (repeat first|exact Qh|apply Qk);done)))
 simp only [List.length_map] at hs ⊢
 exact ⟨_,_,_,_,_,_,_,_,rfl,hs⟩
end Go.Proofs.YtegafhhdegnigaaGreat
end
