/-
  The census of faults: the slots ahead of a move and behind it.
-/
import Derived.Test.YtegafhhdegnigaaGreatSFlt2
set_option linter.all false
section
namespace Go.Proofs.YtegafhhdegnigaaGreat
open Go.RowKit Hp
set_option maxRecDepth 100000
set_option maxHeartbeats 8000000
attribute [local irreducible] Go.Calls Go.wpList
theorem map_put_st (sl : List Slt) (x : Shf) : putS (sl.map Slt.state) x = (put sl x).map Slt.state := by simp [putS,put,List.map_set]
theorem map_put_ho (sl : List Slt) (x : Shf) : putH (sl.map Slt.holder) x = (put sl x).map Slt.holder := by simp [putH,put,List.map_set]
theorem puts_snoc (sl : List Slt) (l : List Shf) (x : Shf) : puts sl (l ++ [x]) = put (puts sl l) x := by rw [puts_append];rfl
theorem take_filter_yes {α : Type} {p : α → Bool} {l : List α} {k : Nat} {e : α} (he : l[k]? = some e) (h : p e = true) : (l.take (k + 1)).filter p = (l.take k).filter p ++ [e] := by
 rw [List.take_add_one,he,List.filter_append];simp [h]
theorem take_filter_no {α : Type} {p : α → Bool} {l : List α} {k : Nat} {e : α} (he : l[k]? = some e) (h : p e = false) : (l.take (k + 1)).filter p = (l.take k).filter p := by
 rw [List.take_add_one,he,List.filter_append];simp [h]
theorem s0_st (c : Cfg) : (s0 c).map Slt.state = List.replicate c.Sl.toNat 0 := by simp [s0,are0]
theorem s0_ho (c : Cfg) : (s0 c).map Slt.holder = List.replicate c.Sl.toNat (-1) := by simp [s0,are0]
theorem cen_states (c : Cfg) (hok : c.Ok) (cs : List Cll) (lg : List Acc) (sh : List Shf) (ws : List Int) (u : Value) (hl : RunLen cs lg sh ws) (n : Int) (hr : ∀ d ∈ sh,∃ i : Nat,d.slot = (i : Int) ∧ (i : Int) < c.Sl) :
  Does Tryz.prog 75 #[c.v,.int .i64 0,u,.int .i64 n] (RunR cs lg sh ws u) (fun v => (ex fun v1 => ex fun v2 => pu (v = .tuple #[v1,v2]) * (stR ((puts (s0 c) (sh.filter (fun x => decide (x.move < n)))).map Slt.state) v1 * hoR ((puts (s0 c) (sh.filter (fun x => decide (x.move < n)))).map Slt.holder) v2)) * RunR cs lg sh ws u) := by
 intro O w F hs
 have hg := runR_get hs
 clear hs
 obtain ⟨a1,k1,a2,k2,a3,k3,a4,k4,rfl,hs⟩ := hg
 obtain ⟨g1,g2,g3,g4⟩ := hl
 have hB := Lib.hid (cen_begin c hok)
 have hS1 := hok.S1
 have hS2 := hok.S2
 have hLen := s0_len hok
 rw [← s0_st,← s0_ho] at hB
 obtain ⟨Z0,hZ0⟩ : ∃ Z,Z = s0 c := ⟨_,rfl⟩
 rw [← hZ0] at hB hLen ⊢
 clear hZ0 hok
 obtain ⟨S0,hS0⟩ : ∃ S0 : Nat,c.Sl = (S0 : Int) := ⟨c.Sl.toNat,by omega⟩
 obtain ⟨c1,c2,c3,c4,c5,c6,c7⟩ := c
 simp only [] at hS0 hS1 hS2 hr hLen
 subst hS0
 have hSl : S0 ≤ 1024 := by omega
 have hLen : Z0.length = S0 := by omega
 clear hS1 hS2
 have hr := Lib.hid hr
 go_enter Tryz.func75,Tryz.ntmps75
 (repeat' (first|(go_big_may;(first|((show wpList _ _ _ (Oper.mk (some 4) _ _ _ _ _ :: _) _ _);(with_reducible apply wl_box hs);rfl;rfl;rfl;clear hs;intro w bC hs;(simp only [Uc,Uz]))|((show wpList _ _ _ (Oper.mk (some 6) _ _ _ _ _ :: _) _ _);(with_reducible apply wl_box hs);rfl;rfl;rfl;clear hs;intro w bR hs;(simp only [Uc,Uz]))|((with_reducible apply wl_ldF hs);infer_instance;rfl;(focus with_reducible (repeat first|exact Qh|apply Qk);done);rfl;rfl;(simp only [Uc,Uz]))|(go_at_call 82;((refine (hB.out).at hs (by (focus ((repeat (with_reducible exact Qn));done))) ?_);clear hs;intro v w hs;(try simp only [emp_mul,mul_assoc'] at hs));(simp only [sat_ex,mul_assoc',sat_pu] at hs);(obtain ⟨v1,v2,rfl,hs⟩ := hs))))|go_step|(dsimp only)))
 go_loopw [12] (fun q wr => ∃ (k : Nat) (sn : List Slt),k ≤ sh.length ∧ q = .int .i64 (k : Int) ∧ Hid (sn = puts Z0 ((sh.take k).filter (fun x => decide (x.move < n)))) ∧ Sat O wr (stR (sn.map Slt.state) v1 * (hoR (sn.map Slt.holder) v2 * (pt bR (.cells #[.slice a1 cs.length k1,.slice a2 lg.length k2,.slice a3 sh.length k3,.slice a4 ws.length k4] 32) * (pt bC (.cells #[.int .i64 c1,.int .i64 c2,.int .i64 c3,.int .i64 c4,.int .i64 c5,.int .i64 (S0 : Int),.int .i64 c7] 23) * (sl 50 9 (cs.map Cll.e) (.slice a1 cs.length k1) * (sl 138 7 (lg.map Acc.e) (.slice a2 lg.length k2) * (sl 127 5 (sh.map Shf.e) (.slice a3 sh.length k3) * (sl 57 1 (ws.map eU) (.slice a4 ws.length k4) * F))))))))) (fun q _ => sh.length + 1 - (intOf q).toNat)
 case atStart => exact ⟨0,Z0,by omega,rfl,Lib.hid rfl,by ((with_reducible apply Sat.fin hs);(with_reducible exact Ql))⟩
 case round =>
  obtain ⟨k,sn,kk,rfl,hsn,hs⟩ := hrel
  have hsnl : sn.length = S0 := by rw [hsn.out,puts_len];exact hLen
  by_cases hkr : k = sh.length
  ·subst hkr
   have hlt : decide ((sh.length : Int) < (sh.length : Int)) = false := by simp
   clear hsnl
   (repeat' (first|(go_big_may;(first|((with_reducible apply wl_ld hs);infer_instance;rfl;(focus with_reducible (repeat first|exact Qh|apply Qk);done);rfl;rfl;(simp only [Uc,Uz]))|((with_reducible apply wl_len hs);infer_instance;rfl;(focus with_reducible (repeat first|exact Qh|apply Qk);done);rfl;(simp only [Uc,Uz]))))|go_step))
   (go_ret2)
   refine ⟨_,rfl,?_⟩
   simp only [sat_ex,mul_assoc',sat_pu]
   have hsn := hsn.out
   rw [List.take_length] at hsn
   rw [← hsn]
   refine ⟨v1,v2,rfl,?_⟩
   have hs : Sat O _ (RunR cs lg sh ws (.agg #[.slice a1 cs.length k1,.slice a2 lg.length k2,.slice a3 sh.length k3,.slice a4 ws.length k4]) * (stR (sn.map Slt.state) v1 * (hoR (sn.map Slt.holder) v2 * F))) := runR_mk (by ((with_reducible apply Sat.fin hs);(focus with_reducible (repeat first|exact Ql|exact Qh|apply Qb|apply Qk);done)))
   ((with_reducible apply Sat.fin hs);(focus with_reducible (repeat first|exact Ql|exact Qh|apply Qb|apply Qk);done))
  ·have hlt : decide ((k : Int) < (sh.length : Int)) = true := by simp;omega
   have hlt2 : decide (k < sh.length) = true := by simp;omega
   have hln : k < (sh.map Shf.e).length := by simp;omega
   obtain ⟨e,he⟩ : ∃ e,sh[k]? = some e := ⟨_,List.getElem?_eq_getElem (by omega)⟩
   obtain ⟨i,hi,hiS⟩ := hr.out e (List.mem_of_getElem? he)
   have hnL := Lib.hid (show k < sh.length by omega)
   have hPut := Lib.hid (cen_put (sn.map Slt.state) (sn.map Slt.holder) e v1 v2 i hi (by simp;omega) (by simp;omega) (by simp;omega) (by simp;omega))
   rw [map_put_st,map_put_ho] at hPut
   have hyes := Lib.hid (fun h : decide (e.move < n) = true => show put sn e = puts Z0 ((sh.take (k + 1)).filter (fun x => decide (x.move < n))) by rw [take_filter_yes he h,puts_snoc,← hsn.out])
   have hno := Lib.hid (fun h : decide (e.move < n) = false => show sn = puts Z0 ((sh.take (k + 1)).filter (fun x => decide (x.move < n))) by rw [take_filter_no he h];exact hsn.out)
   generalize put sn e = sn' at hPut hyes
   obtain ⟨e1,e2,e3,e4,e5⟩ := e
   have hgv : (sh.map Shf.e)[k]? = some (Shf.e ⟨e1,e2,e3,e4,e5⟩) := by rw [List.getElem?_map,he];rfl
   simp only [] at hyes hno
   clear he hkr hlt hsn hsnl hi hiS
   by_cases hd : e1 < n
   ·have hd' : decide (e1 < n) = true := by simpa using hd
    have hyes := Lib.hid (hyes.out hd')
    clear hno hd
    (repeat' (first|(go_big_may;(first|(first|((with_reducible apply wl_ld hs);infer_instance;rfl;(focus with_reducible (repeat first|exact Qh|apply Qk);done);rfl;rfl;(simp only [Uc,Uz]))|((with_reducible apply wl_ldS0 hs);infer_instance;rfl;assumption;(focus with_reducible (repeat first|exact Qh|apply Qk);done);rfl;(assumption);rfl;rfl;(simp only [Uc,Uz]))|((with_reducible apply wl_ldSN (k := 0) hs);infer_instance;rfl;assumption;(focus with_reducible (repeat first|exact Qh|apply Qk);done);(exact (Nat.add_zero _).symm);(assumption);(exact Vb rfl);rfl;rfl;(simp only [Uc,Uz]))|((with_reducible apply wl_ia2 hs);infer_instance;infer_instance;rfl;assumption;rfl;(focus with_reducible (repeat first|exact Qh|apply Qk);done);(rfl);(assumption);rfl;(simp only [Uc,Uz]))|((with_reducible apply wl_ia hs);infer_instance;infer_instance;rfl;rfl;(focus with_reducible (repeat first|exact Qh|apply Qk);done);(rfl);(assumption);rfl;intro b off hat;(simp only [Uc,Uz]))|((with_reducible apply wl_len hs);infer_instance;rfl;(focus with_reducible (repeat first|exact Qh|apply Qk);done);rfl;(simp only [Uc,Uz])))|(go_at_call 81;((refine (hPut.out).at hs (by (focus with_reducible (repeat first|exact Qh|apply Qb);done)) ?_);clear hs;intro w hs;(try simp only [emp_mul,mul_assoc'] at hs)))))|go_step|(dsimp only)))
    go_roundw
    case rel => exact ⟨k + 1,sn',(by have := hnL.out;omega),by simp,hyes,by ((with_reducible apply Sat.fin hs);(with_reducible exact Ql))⟩
    case measure => have := hnL.out;simp [intOf];omega
   ·have hd' : decide (e1 < n) = false := by simpa using hd
    have hno := Lib.hid (hno.out hd')
    clear hyes hd
    (repeat' (first|(go_big_may;(first|((with_reducible apply wl_ld hs);infer_instance;rfl;(focus with_reducible (repeat first|exact Qh|apply Qk);done);rfl;rfl;(simp only [Uc,Uz]))|((with_reducible apply wl_ldS0 hs);infer_instance;rfl;assumption;(focus with_reducible (repeat first|exact Qh|apply Qk);done);rfl;(assumption);rfl;rfl;(simp only [Uc,Uz]))|((with_reducible apply wl_ia hs);infer_instance;infer_instance;rfl;rfl;(focus with_reducible (repeat first|exact Qh|apply Qk);done);(rfl);(assumption);rfl;intro b off hat;(simp only [Uc,Uz]))|((with_reducible apply wl_len hs);infer_instance;rfl;(focus with_reducible (repeat first|exact Qh|apply Qk);done);rfl;(simp only [Uc,Uz]))))|go_step))
    go_roundw
    case rel => exact ⟨k + 1,sn,(by have := hnL.out;omega),by simp,hno,by ((with_reducible apply Sat.fin hs);(with_reducible exact Ql))⟩
    case measure => have := hnL.out;simp [intOf];omega
theorem cen_behind (c : Cfg) (hok : c.Ok) (cs : List Cll) (lg : List Acc) (sh : List Shf) (ws : List Int) (u : Value) (hl : RunLen cs lg sh ws) (n : Int) (hr : ∀ d ∈ sh,∃ i : Nat,d.slot = (i : Int) ∧ (i : Int) < c.Sl) :
  Does Tryz.prog 76 #[c.v,.int .i64 0,u,.int .i64 n] (RunR cs lg sh ws u) (fun v => (ex fun v1 => ex fun v2 => pu (v = .tuple #[v1,v2]) * (stR ((puts (s0 c) (sh.filter (fun x => decide (x.move ≤ n)))).map Slt.state) v1 * hoR ((puts (s0 c) (sh.filter (fun x => decide (x.move ≤ n)))).map Slt.holder) v2)) * RunR cs lg sh ws u) := by
 intro O w F hs
 have hg := runR_get hs
 clear hs
 obtain ⟨a1,k1,a2,k2,a3,k3,a4,k4,rfl,hs⟩ := hg
 obtain ⟨g1,g2,g3,g4⟩ := hl
 have hB := Lib.hid (cen_begin c hok)
 have hS1 := hok.S1
 have hS2 := hok.S2
 have hLen := s0_len hok
 rw [← s0_st,← s0_ho] at hB
 obtain ⟨Z0,hZ0⟩ : ∃ Z,Z = s0 c := ⟨_,rfl⟩
 rw [← hZ0] at hB hLen ⊢
 clear hZ0 hok
 obtain ⟨S0,hS0⟩ : ∃ S0 : Nat,c.Sl = (S0 : Int) := ⟨c.Sl.toNat,by omega⟩
 obtain ⟨c1,c2,c3,c4,c5,c6,c7⟩ := c
 simp only [] at hS0 hS1 hS2 hr hLen
 subst hS0
 have hSl : S0 ≤ 1024 := by omega
 have hLen : Z0.length = S0 := by omega
 clear hS1 hS2
 have hr := Lib.hid hr
 go_enter Tryz.func76,Tryz.ntmps76
 (repeat' (first|(go_big_may;(first|((show wpList _ _ _ (Oper.mk (some 4) _ _ _ _ _ :: _) _ _);(with_reducible apply wl_box hs);rfl;rfl;rfl;clear hs;intro w bC hs;(simp only [Uc,Uz]))|((show wpList _ _ _ (Oper.mk (some 6) _ _ _ _ _ :: _) _ _);(with_reducible apply wl_box hs);rfl;rfl;rfl;clear hs;intro w bR hs;(simp only [Uc,Uz]))|((with_reducible apply wl_ldF hs);infer_instance;rfl;(focus with_reducible (repeat first|exact Qh|apply Qk);done);rfl;rfl;(simp only [Uc,Uz]))|(go_at_call 82;((refine (hB.out).at hs (by (focus ((repeat (with_reducible exact Qn));done))) ?_);clear hs;intro v w hs;(try simp only [emp_mul,mul_assoc'] at hs));(simp only [sat_ex,mul_assoc',sat_pu] at hs);(obtain ⟨v1,v2,rfl,hs⟩ := hs))))|go_step|(dsimp only)))
 go_loopw [12] (fun q wr => ∃ (k : Nat) (sn : List Slt),k ≤ sh.length ∧ q = .int .i64 (k : Int) ∧ Hid (sn = puts Z0 ((sh.take k).filter (fun x => decide (x.move ≤ n)))) ∧ Sat O wr (stR (sn.map Slt.state) v1 * (hoR (sn.map Slt.holder) v2 * (pt bR (.cells #[.slice a1 cs.length k1,.slice a2 lg.length k2,.slice a3 sh.length k3,.slice a4 ws.length k4] 32) * (pt bC (.cells #[.int .i64 c1,.int .i64 c2,.int .i64 c3,.int .i64 c4,.int .i64 c5,.int .i64 (S0 : Int),.int .i64 c7] 23) * (sl 50 9 (cs.map Cll.e) (.slice a1 cs.length k1) * (sl 138 7 (lg.map Acc.e) (.slice a2 lg.length k2) * (sl 127 5 (sh.map Shf.e) (.slice a3 sh.length k3) * (sl 57 1 (ws.map eU) (.slice a4 ws.length k4) * F))))))))) (fun q _ => sh.length + 1 - (intOf q).toNat)
 case atStart => exact ⟨0,Z0,by omega,rfl,Lib.hid rfl,by ((with_reducible apply Sat.fin hs);(with_reducible exact Ql))⟩
 case round =>
  obtain ⟨k,sn,kk,rfl,hsn,hs⟩ := hrel
  have hsnl : sn.length = S0 := by rw [hsn.out,puts_len];exact hLen
  by_cases hkr : k = sh.length
  ·subst hkr
   have hlt : decide ((sh.length : Int) < (sh.length : Int)) = false := by simp
   clear hsnl
   (repeat' (first|(go_big_may;(first|((with_reducible apply wl_ld hs);infer_instance;rfl;(focus with_reducible (repeat first|exact Qh|apply Qk);done);rfl;rfl;(simp only [Uc,Uz]))|((with_reducible apply wl_len hs);infer_instance;rfl;(focus with_reducible (repeat first|exact Qh|apply Qk);done);rfl;(simp only [Uc,Uz]))))|go_step))
   (go_ret2)
   refine ⟨_,rfl,?_⟩
   simp only [sat_ex,mul_assoc',sat_pu]
   have hsn := hsn.out
   rw [List.take_length] at hsn
   rw [← hsn]
   refine ⟨v1,v2,rfl,?_⟩
   have hs : Sat O _ (RunR cs lg sh ws (.agg #[.slice a1 cs.length k1,.slice a2 lg.length k2,.slice a3 sh.length k3,.slice a4 ws.length k4]) * (stR (sn.map Slt.state) v1 * (hoR (sn.map Slt.holder) v2 * F))) := runR_mk (by ((with_reducible apply Sat.fin hs);(focus with_reducible (repeat first|exact Ql|exact Qh|apply Qb|apply Qk);done)))
   ((with_reducible apply Sat.fin hs);(focus with_reducible (repeat first|exact Ql|exact Qh|apply Qb|apply Qk);done))
  ·have hlt : decide ((k : Int) < (sh.length : Int)) = true := by simp;omega
   have hlt2 : decide (k < sh.length) = true := by simp;omega
   have hln : k < (sh.map Shf.e).length := by simp;omega
   obtain ⟨e,he⟩ : ∃ e,sh[k]? = some e := ⟨_,List.getElem?_eq_getElem (by omega)⟩
   obtain ⟨i,hi,hiS⟩ := hr.out e (List.mem_of_getElem? he)
   have hnL := Lib.hid (show k < sh.length by omega)
   have hPut := Lib.hid (cen_put (sn.map Slt.state) (sn.map Slt.holder) e v1 v2 i hi (by simp;omega) (by simp;omega) (by simp;omega) (by simp;omega))
   rw [map_put_st,map_put_ho] at hPut
   have hyes := Lib.hid (fun h : decide (e.move ≤ n) = true => show put sn e = puts Z0 ((sh.take (k + 1)).filter (fun x => decide (x.move ≤ n))) by rw [take_filter_yes he h,puts_snoc,← hsn.out])
   have hno := Lib.hid (fun h : decide (e.move ≤ n) = false => show sn = puts Z0 ((sh.take (k + 1)).filter (fun x => decide (x.move ≤ n))) by rw [take_filter_no he h];exact hsn.out)
   generalize put sn e = sn' at hPut hyes
   obtain ⟨e1,e2,e3,e4,e5⟩ := e
   have hgv : (sh.map Shf.e)[k]? = some (Shf.e ⟨e1,e2,e3,e4,e5⟩) := by rw [List.getElem?_map,he];rfl
   simp only [] at hyes hno
   clear he hkr hlt hsn hsnl hi hiS
   by_cases hd : e1 ≤ n
   ·have hd' : decide (e1 ≤ n) = true := by simpa using hd
    have hyes := Lib.hid (hyes.out hd')
    clear hno hd
    (repeat' (first|(go_big_may;(first|(first|((with_reducible apply wl_ld hs);infer_instance;rfl;(focus with_reducible (repeat first|exact Qh|apply Qk);done);rfl;rfl;(simp only [Uc,Uz]))|((with_reducible apply wl_ldS0 hs);infer_instance;rfl;assumption;(focus with_reducible (repeat first|exact Qh|apply Qk);done);rfl;(assumption);rfl;rfl;(simp only [Uc,Uz]))|((with_reducible apply wl_ldSN (k := 0) hs);infer_instance;rfl;assumption;(focus with_reducible (repeat first|exact Qh|apply Qk);done);(exact (Nat.add_zero _).symm);(assumption);(exact Vb rfl);rfl;rfl;(simp only [Uc,Uz]))|((with_reducible apply wl_ia2 hs);infer_instance;infer_instance;rfl;assumption;rfl;(focus with_reducible (repeat first|exact Qh|apply Qk);done);(rfl);(assumption);rfl;(simp only [Uc,Uz]))|((with_reducible apply wl_ia hs);infer_instance;infer_instance;rfl;rfl;(focus with_reducible (repeat first|exact Qh|apply Qk);done);(rfl);(assumption);rfl;intro b off hat;(simp only [Uc,Uz]))|((with_reducible apply wl_len hs);infer_instance;rfl;(focus with_reducible (repeat first|exact Qh|apply Qk);done);rfl;(simp only [Uc,Uz])))|(go_at_call 81;((refine (hPut.out).at hs (by (focus with_reducible (repeat first|exact Qh|apply Qb);done)) ?_);clear hs;intro w hs;(try simp only [emp_mul,mul_assoc'] at hs)))))|go_step|(dsimp only)))
    go_roundw
    case rel => exact ⟨k + 1,sn',(by have := hnL.out;omega),by simp,hyes,by ((with_reducible apply Sat.fin hs);(with_reducible exact Ql))⟩
    case measure => have := hnL.out;simp [intOf];omega
   ·have hd' : decide (e1 ≤ n) = false := by simpa using hd
    have hno := Lib.hid (hno.out hd')
    clear hyes hd
    (repeat' (first|(go_big_may;(first|((with_reducible apply wl_ld hs);infer_instance;rfl;(focus with_reducible (repeat first|exact Qh|apply Qk);done);rfl;rfl;(simp only [Uc,Uz]))|((with_reducible apply wl_ldS0 hs);infer_instance;rfl;assumption;(focus with_reducible (repeat first|exact Qh|apply Qk);done);rfl;(assumption);rfl;rfl;(simp only [Uc,Uz]))|((with_reducible apply wl_ia hs);infer_instance;infer_instance;rfl;rfl;(focus with_reducible (repeat first|exact Qh|apply Qk);done);(rfl);(assumption);rfl;intro b off hat;(simp only [Uc,Uz]))|((with_reducible apply wl_len hs);infer_instance;rfl;(focus with_reducible (repeat first|exact Qh|apply Qk);done);rfl;(simp only [Uc,Uz]))))|go_step))
    go_roundw
    case rel => exact ⟨k + 1,sn,(by have := hnL.out;omega),by simp,hno,by ((with_reducible apply Sat.fin hs);(with_reducible exact Ql))⟩
    case measure => have := hnL.out;simp [intOf];omega
def lkF (s fr : Int) (r : Int × Bool) (x : Shf) : Int × Bool := (if x.slot = s then x.to else r.1,r.2 || (decide (fr ≤ x.move) && r.1 == 3))
def lkB (sh : List Shf) (s fr : Int) : Bool := (sh.foldl (lkF s fr) (0,false)).2 || (sh.foldl (lkF s fr) (0,false)).1 == 3
theorem fold_take {α β : Type} {f : β → α → β} {l : List α} {k : Nat} {e : α} {z r : β} (he : l[k]? = some e) (hr : r = (l.take k).foldl f z) : f r e = (l.take (k + 1)).foldl f z := by
 rw [List.take_add_one,he,List.foldl_append,← hr];rfl
theorem cen_linked (c : Cfg) (hok : c.Ok) (cs : List Cll) (lg : List Acc) (sh : List Shf) (ws : List Int) (u : Value) (hl : RunLen cs lg sh ws) (n : Nat) (hn : n ≤ sh.length) (s : Nat) (hsS : (s : Int) < c.Sl) (fr : Int) :
  Gives Tryz.prog 124 #[c.v,.int .i64 0,u,.int .i64 (n : Int),.int .i64 (s : Int),.int .i64 fr] (RunR cs lg sh ws u) (.bool (lkB (sh.take n) s fr)) (RunR cs lg sh ws u) := by
 intro O w F hs
 have hg := runR_get hs
 clear hs
 obtain ⟨a1,k1,a2,k2,a3,k3,a4,k4,rfl,hs⟩ := hg
 obtain ⟨g1,g2,g3,g4⟩ := hl
 have hB := Lib.hid (cen_begin c hok)
 have hS1 := hok.S1
 have hS2 := hok.S2
 obtain ⟨S0,hS0⟩ : ∃ S0 : Nat,c.Sl = (S0 : Int) := ⟨c.Sl.toNat,by omega⟩
 have hSn : c.Sl.toNat = S0 := by omega
 rw [hSn] at hB
 obtain ⟨c1,c2,c3,c4,c5,c6,c7⟩ := c
 simp only [] at hS0 hS1 hS2 hsS hSn
 subst hS0
 have hsS : s < S0 := by omega
 have hSl : S0 ≤ 1024 := by omega
 have hg0 : ((List.replicate S0 (0 : Int)).map eI)[s]? = some (eI 0) := by simp [List.getElem?_replicate,hsS]
 have hgl : s < ((List.replicate S0 (0 : Int)).map eI).length := by simpa using hsS
 have hsS' : decide (s < S0) = true := by simpa using hsS
 clear hS1 hS2 hok hSn
 have hnb : n < 100000000 := by omega
 have hnH := Lib.hid hn
 clear hn
 go_enter Tryz.func124,Tryz.ntmps124
 (repeat' (first|(go_big_may;(first|((show wpList _ _ _ (Oper.mk (some 6) _ _ _ _ _ :: _) _ _);(with_reducible apply wl_box hs);rfl;rfl;rfl;clear hs;intro w bC hs;(simp only [Uc,Uz]))|((show wpList _ _ _ (Oper.mk (some 8) _ _ _ _ _ :: _) _ _);(with_reducible apply wl_box hs);rfl;rfl;rfl;clear hs;intro w bR hs;(simp only [Uc,Uz]))|(go_at_call 82;((refine (hB.out).at hs (by (focus ((repeat (with_reducible exact Qn));done))) ?_);clear hs;intro v w hs;(try simp only [emp_mul,mul_assoc'] at hs));(simp only [sat_ex,mul_assoc',sat_pu] at hs);(obtain ⟨v1,v2,rfl,hs⟩ := hs);(obtain ⟨b1,m1,rfl⟩ := sl_len (hs.pull (A := stR _ v1) (by (with_reducible exact Qh))));(simp only [List.length_map,List.length_replicate] at hs ⊢))|(first|((with_reducible apply wl_ldF hs);infer_instance;rfl;(focus with_reducible (repeat first|exact Qh|apply Qk);done);rfl;rfl;(simp only [Uc,Uz]))|((with_reducible apply wl_ldS0 hs);infer_instance;rfl;assumption;(with_reducible exact Qh);rfl;(assumption);rfl;rfl;(simp only [Uc,Uz]))|((with_reducible apply wl_ia hs);infer_instance;infer_instance;rfl;rfl;(with_reducible exact Qh);(rfl);(assumption);rfl;intro b off hat;(simp only [Uc,Uz])))))|go_step))
 go_loopw [15,16,17] (fun S B q wr => ∃ (k : Nat) (r : Int × Bool),k ≤ n ∧ S = .int .i64 r.1 ∧ B = .bool r.2 ∧ q = .int .i64 (k : Int) ∧ Hid (r = (sh.take k).foldl (lkF s fr) (0,false)) ∧ Sat O wr (pt bR (.cells #[.slice a1 cs.length k1,.slice a2 lg.length k2,.slice a3 sh.length k3,.slice a4 ws.length k4] 32) * (pt bC (.cells #[.int .i64 c1,.int .i64 c2,.int .i64 c3,.int .i64 c4,.int .i64 c5,.int .i64 (S0 : Int),.int .i64 c7] 23) * (sl 50 9 (cs.map Cll.e) (.slice a1 cs.length k1) * (sl 138 7 (lg.map Acc.e) (.slice a2 lg.length k2) * (sl 127 5 (sh.map Shf.e) (.slice a3 sh.length k3) * (sl 57 1 (ws.map eU) (.slice a4 ws.length k4) * F))))))) (fun _ _ q _ => n + 1 - (intOf q).toNat)
 case atStart => exact ⟨0,(0,false),by omega,rfl,rfl,rfl,Lib.hid rfl,by ((with_reducible apply Sat.fin hs);(focus with_reducible (repeat first|exact Ql|exact Qh|apply Qb|apply Qk);done))⟩
 case round =>
  obtain ⟨k,⟨st,sn⟩,kk,rfl,rfl,rfl,hr,hs⟩ := hrel
  by_cases hkr : k = n
  ·have hkr := hkr.symm
   subst hkr
   have hlt : decide ((n : Int) < (n : Int)) = false := by simp
   have hres : lkB (sh.take n) s fr = (sn || st == 3) := by unfold lkB;rw [← hr.out]
   have hres := Lib.hid hres
   cases sn with
   | true =>
    (repeat' (first|(((with_reducible apply wl_pass2);rfl;rfl;((simp only [ev,Ue,Uf]);rfl);rfl;(simp only [Uc,Uz]));(repeat ((with_reducible apply wl_pass2);rfl;rfl;((simp only [ev,Ue,Uf]);rfl);rfl;(simp only [Uc,Uz]))))|((with_reducible apply wl_pick);((simp only [ev,Ue,Uf]);rfl);((simp only [cond_true,cond_false,ev,Ue,Uf]);rfl);(with_reducible exact want_none);(simp only [Uc,Uz]))|go_step))
    (go_ret)
    exact ⟨by rw [hres.out];rfl,runR_mk (by ((with_reducible apply Sat.fin hs);(focus with_reducible (repeat first|exact Ql|exact Qh|apply Qb|apply Qk);done)))⟩
   | false =>
    (repeat' (first|((with_reducible apply wl_pick);((simp only [ev,Ue,Uf]);rfl);((simp only [cond_true,cond_false,ev,Ue,Uf]);rfl);(with_reducible exact want_none);(simp only [Uc,Uz]))|go_guarded|go_step))
    (go_ret)
    exact ⟨by rw [hres.out];simp,runR_mk (by ((with_reducible apply Sat.fin hs);(focus with_reducible (repeat first|exact Ql|exact Qh|apply Qb|apply Qk);done)))⟩
  ·have hlt : decide ((k : Int) < (n : Int)) = true := by simp;omega
   have hlt2 : decide (k < n) = true := by simp;omega
   have hkL := Lib.hid (show k < n by omega)
   have hks : k < sh.length := by have := hnH.out;omega
   have hln : k < (sh.map Shf.e).length := by simpa using hks
   obtain ⟨e,he⟩ : ∃ e,sh[k]? = some e := ⟨_,List.getElem?_eq_getElem hks⟩
   have hnx := Lib.hid (fold_take he hr.out)
   obtain ⟨e1,e2,e3,e4,e5⟩ := e
   have hgv : (sh.map Shf.e)[k]? = some (Shf.e ⟨e1,e2,e3,e4,e5⟩) := by rw [List.getElem?_map,he];rfl
   clear he hkr hlt hr hks
   have hc : (decide (e1 ≥ fr) = false ∧ decide (fr ≤ e1) = false) ∨ (decide (e1 ≥ fr) = true ∧ decide (fr ≤ e1) = true ∧ (st = 3 ∨ (st == 3) = false)) := by
    simp only [decide_eq_true_eq,decide_eq_false_iff_not,beq_eq_false_iff_ne];omega
   have hd : e3 = (s : Int) ∨ (e3 == (s : Int)) = false := by simp only [beq_eq_false_iff_ne];omega
   simp only [lkF] at hnx
   rcases hc with ⟨f1,f2⟩|⟨f1,f2,rfl|f3⟩
   all_goals rcases hd with rfl|f4
   all_goals (
    (repeat' (first|(((with_reducible apply wl_pass2);rfl;rfl;((simp only [ev,Ue,Uf]);rfl);rfl;(simp only [Uc,Uz]));(repeat ((with_reducible apply wl_pass2);rfl;rfl;((simp only [ev,Ue,Uf]);rfl);rfl;(simp only [Uc,Uz]))))|((with_reducible apply wl_pick);((simp only [ev,Ue,Uf]);rfl);((simp only [cond_true,cond_false,ev,Ue,Uf]);rfl);(with_reducible exact want_none);(simp only [Uc,Uz]))|(go_big_may;(first|((with_reducible apply wl_ld hs);infer_instance;rfl;(with_reducible exact Qh);rfl;rfl;(simp only [Uc,Uz]))|((with_reducible apply wl_stF hs);infer_instance;rfl;rfl;(with_reducible exact Qh);rfl;rfl;rfl;rfl;clear hs;intro w hs)|((with_reducible apply wl_alloc hs);infer_instance;rfl;clear hs;intro w b hs;(simp only [Uc,Uz]))|((with_reducible apply wl_ldSN (k := 0) hs);infer_instance;rfl;assumption;(focus with_reducible (repeat first|exact Qh|apply Qk);done);(exact (Nat.add_zero _).symm);(assumption);(exact Vb rfl);rfl;rfl;(simp only [Uc,Uz]))|((with_reducible apply wl_ia hs);infer_instance;infer_instance;rfl;rfl;(focus with_reducible (repeat first|exact Qh|apply Qk);done);(rfl);(assumption);rfl;intro b off hat;(simp only [Uc,Uz]))))|go_guarded|go_step))
    go_roundw
    case rel => exact ⟨k + 1,(_,_),(by have := hkL.out;omega),rfl,rfl,by simp,(by have h := hnx.out;refine Lib.hid ?_;(try rw [f2] at h);(try rw [f3] at h);(try rw [if_pos rfl] at h);(try rw [if_neg (by simpa using f4)] at h);simpa using h),by ((with_reducible apply Sat.fin hs);(focus with_reducible (repeat first|exact Ql|exact Qh|apply Qb|apply Qk);done))⟩
    case measure => have := hkL.out;simp [intOf];omega)
end Go.Proofs.YtegafhhdegnigaaGreat
end
/-
  The census of faults: whether a hazard holds a slot.
-/
section
namespace Go.Proofs.YtegafhhdegnigaaGreat
open Go.RowKit Hp
set_option maxRecDepth 100000
set_option maxHeartbeats 8000000
attribute [local irreducible] Go.Calls Go.wpList
def wfF (b mv : Int) (lg : List Acc) : Int × Int := (lg.filter (fun e => decide (e.move ≤ mv))).foldl (wr1 b) (-1,0)
theorem wf_next {b mv : Int} {lg : List Acc} {k : Nat} {e : Acc} (he : lg[k]? = some e) : wfF b mv (lg.take (k + 1)) = if e.move ≤ mv then wr1 b (wfF b mv (lg.take k)) e else wfF b mv (lg.take k) := by
 unfold wfF
 by_cases h : e.move ≤ mv
 ·rw [take_filter_yes he (by simpa using h),List.foldl_append,if_pos h];rfl
 ·rw [take_filter_no he (by simpa using h),if_neg h]
theorem cen_held (c : Cfg) (hok : c.Ok) (cs : List Cll) (lg : List Acc) (sh : List Shf) (ws : List Int) (u : Value) (hl : RunLen cs lg sh ws) (i : Nat) (x : Shf) (hx : sh[i]? = some x) (s : Nat) (hsS : (s : Int) < c.Sl)
  (hno : ∀ j : Nat,(j : Int) < c.R * c.Hz → (wfF (base c 9 + j) x.move lg).2 = s + 1 → lkB (sh.take i) s (wfF (base c 9 + j) x.move lg).1 = false) :
  Gives Tryz.prog 80 #[c.v,.int .i64 0,u,.int .i64 (i : Int),.int .i64 (s : Int)] (RunR cs lg sh ws u) (.bool false) (RunR cs lg sh ws u) := by
 intro O w F hs
 have hil := (List.getElem?_eq_some_iff.1 hx).1
 have hL := Lib.hid (fun u fr => cen_linked c hok cs lg sh ws u hl i (by omega) s hsS fr)
 have hg := runR_get hs
 clear hs
 obtain ⟨a1,k1,a2,k2,a3,k3,a4,k4,rfl,hs⟩ := hg
 obtain ⟨g1,g2,g3,g4⟩ := hl
 have hB := Lib.hid (ref_base c hok 9 (by omega) (by omega))
 obtain ⟨q1,q2⟩ := hok.rh
 have hwm : wrap64 (c.R * c.Hz) = c.R * c.Hz := by unfold wrap64;omega
 obtain ⟨hb1,hb2⟩ := base_le hok 9
 have hS2 := hok.S2
 have hP := Lib.hid (ref_packLink (s : Int) (by omega) (by omega))
 obtain ⟨M,hM⟩ : ∃ M : Nat,c.R * c.Hz = (M : Int) := ⟨(c.R * c.Hz).toNat,by omega⟩
 have hMl : M ≤ 128 := by omega
 obtain ⟨b9,hb9⟩ : ∃ b,b = base c 9 := ⟨_,rfl⟩
 rw [← hb9] at hB hno hb1 hb2
 rw [hM] at hno hwm
 have hno := Lib.hid hno
 obtain ⟨c1,c2,c3,c4,c5,c6,c7⟩ := c
 simp only [] at hM hwm
 obtain ⟨x1,x2,x3,x4,x5⟩ := x
 have hgx : (sh.map Shf.e)[i]? = some (Shf.e ⟨x1,x2,x3,x4,x5⟩) := by rw [List.getElem?_map,hx];rfl
 have hgl : i < (sh.map Shf.e).length := by simpa using hil
 have hil' : decide (i < sh.length) = true := by simpa using hil
 simp only [] at hno
 clear hb9 hok hS2 hsS q1 q2 hx hil
 go_enter Tryz.func80,Tryz.ntmps80
 (repeat' (first|(go_big_may;(first|((show wpList _ _ _ (Oper.mk (some 5) _ _ _ _ _ :: _) _ _);(with_reducible apply wl_box hs);rfl;rfl;rfl;clear hs;intro w bC hs;(simp only [Uc,Uz]))|((show wpList _ _ _ (Oper.mk (some 7) _ _ _ _ _ :: _) _ _);(with_reducible apply wl_box hs);rfl;rfl;rfl;clear hs;intro w bR hs;(simp only [Uc,Uz]))|(first|((with_reducible apply wl_ld hs);infer_instance;rfl;(focus with_reducible (repeat first|exact Qh|apply Qk);done);rfl;rfl;(simp only [Uc,Uz]))|((with_reducible apply wl_ldF hs);infer_instance;rfl;(focus with_reducible (repeat first|exact Qh|apply Qk);done);rfl;rfl;(simp only [Uc,Uz]))|((with_reducible apply wl_ldS0 hs);infer_instance;rfl;assumption;(focus with_reducible (repeat first|exact Qh|apply Qk);done);rfl;(assumption);rfl;rfl;(simp only [Uc,Uz]))|((with_reducible apply wl_ia hs);infer_instance;infer_instance;rfl;rfl;(focus with_reducible (repeat first|exact Qh|apply Qk);done);(rfl);(assumption);rfl;intro b off hat;(simp only [Uc,Uz])))|(go_at_call 23;((refine (hB.out).at hs (by (focus ((repeat (with_reducible exact Qn));done))) ?_);clear hs;intro w hs;(try simp only [emp_mul,mul_assoc'] at hs)))))|go_step|(dsimp only)))
 go_loopw [13] (fun q wr => ∃ j : Nat,j ≤ M ∧ q = .int .i64 (j : Int) ∧ Sat O wr (pt bR (.cells #[.slice a1 cs.length k1,.slice a2 lg.length k2,.slice a3 sh.length k3,.slice a4 ws.length k4] 32) * (pt bC (.cells #[.int .i64 c1,.int .i64 c2,.int .i64 c3,.int .i64 c4,.int .i64 c5,.int .i64 c6,.int .i64 c7] 23) * (sl 50 9 (cs.map Cll.e) (.slice a1 cs.length k1) * (sl 138 7 (lg.map Acc.e) (.slice a2 lg.length k2) * (sl 127 5 (sh.map Shf.e) (.slice a3 sh.length k3) * (sl 57 1 (ws.map eU) (.slice a4 ws.length k4) * F))))))) (fun q _ => M + 1 - (intOf q).toNat)
 case atStart => exact ⟨0,by omega,rfl,by ((with_reducible apply Sat.fin hs);(with_reducible exact Ql))⟩
 case round =>
  obtain ⟨j,kj,rfl,hs⟩ := hrel
  by_cases hkr : j = M
  ·have hlt : decide ((j : Int) < c2 * c3) = false := by rw [hM,hkr];simp
   (repeat' (first|(go_big_may;((with_reducible apply wl_ld hs);infer_instance;rfl;(focus with_reducible (repeat first|exact Qh|apply Qk);done);rfl;rfl;(simp only [Uc,Uz])))|go_step))
   (go_ret)
   exact ⟨rfl,runR_mk (by ((with_reducible apply Sat.fin hs);(focus with_reducible (repeat first|exact Ql|exact Qh|apply Qb|apply Qk);done)))⟩
  ·have hlt : decide ((j : Int) < c2 * c3) = true := by rw [hM];simp;omega
   have hjM := Lib.hid (show j < M by omega)
   clear hkr
   (repeat' (first|(go_big_may;((with_reducible apply wl_ld hs);infer_instance;rfl;(focus with_reducible (repeat first|exact Qh|apply Qk);done);rfl;rfl;(simp only [Uc,Uz])))|go_step))
   go_loopw [14,15,16] (fun A B q wr => ∃ (k : Nat) (r : Int × Int),k ≤ lg.length ∧ A = .int .i64 r.1 ∧ B = .bool (r.2 == (s : Int) + 1) ∧ q = .int .i64 (k : Int) ∧ Hid (wfF (b9 + j) x1 (lg.take k) = r) ∧ Sat O wr (pt bR (.cells #[.slice a1 cs.length k1,.slice a2 lg.length k2,.slice a3 sh.length k3,.slice a4 ws.length k4] 32) * (pt bC (.cells #[.int .i64 c1,.int .i64 c2,.int .i64 c3,.int .i64 c4,.int .i64 c5,.int .i64 c6,.int .i64 c7] 23) * (sl 50 9 (cs.map Cll.e) (.slice a1 cs.length k1) * (sl 138 7 (lg.map Acc.e) (.slice a2 lg.length k2) * (sl 127 5 (sh.map Shf.e) (.slice a3 sh.length k3) * (sl 57 1 (ws.map eU) (.slice a4 ws.length k4) * F))))))) (fun _ _ q _ => lg.length + 1 - (intOf q).toNat)
   case atStart => exact ⟨0,(-1,0),by omega,rfl,by (have : ((0 : Int) == (s : Int) + 1) = false := (by simp only [beq_eq_false_iff_ne];omega));rw [this],rfl,Lib.hid rfl,by ((with_reducible apply Sat.fin hs);(with_reducible exact Ql))⟩
   case round =>
    obtain ⟨k,⟨wt,wv⟩,kk,rfl,rfl,rfl,hr,hs⟩ := hrel
    by_cases hkr : k = lg.length
    ·subst hkr
     have hltk : decide ((lg.length : Int) < (lg.length : Int)) = false := by simp
     have hr1 := hr.out
     rw [List.take_length] at hr1
     by_cases hv : wv = (s : Int) + 1
     ·have hfin := hno.out j (by have := hjM.out;omega) (by rw [hr1];exact hv)
      rw [hr1] at hfin
      have hL1 := hL.out (.agg #[.slice a1 cs.length k1,.slice a2 lg.length k2,.slice a3 sh.length k3,.slice a4 ws.length k4]) wt
      have hfin : lkB (sh.take i) s wt = false := hfin
      rw [hfin] at hL1
      have hL1 := Lib.hid hL1
      have hv' : (wv == (s : Int) + 1) = true := by simpa using hv
      rw [hv']
      clear hfin hr1 hr hv
      (repeat' (first|((with_reducible apply wl_pick);((simp only [ev,Ue,Uf]);rfl);((simp only [cond_true,cond_false,ev,Ue,Uf]);rfl);(with_reducible exact want_none);(simp only [Uc,Uz]))|(go_big_may;(first|(first|((with_reducible apply wl_ld hs);infer_instance;rfl;(with_reducible exact Qh);rfl;rfl;(simp only [Uc,Uz]))|((with_reducible apply wl_ldF hs);infer_instance;rfl;(focus with_reducible (repeat first|exact Qh|apply Qk);done);rfl;rfl;(simp only [Uc,Uz]))|((with_reducible apply wl_len hs);infer_instance;rfl;(focus with_reducible (repeat first|exact Qh|apply Qk);done);rfl;(simp only [Uc,Uz])))|(go_at_call 124;(replace hs := runR_mkP a1 k1 a2 k2 a3 k3 a4 k4 (cs := cs) (lg := lg) (sh := sh) (ws := ws) hs (by (focus with_reducible (repeat first|exact Qh|apply Qb|apply Qk);done)));((refine (hL1.out).at hs (by (with_reducible exact Qh)) ?_);clear hs;intro w hs;(try simp only [emp_mul,mul_assoc'] at hs));(replace hs := runR_open hs (by (with_reducible exact Qh))))))|go_guarded|go_step|(dsimp only)))
      go_roundw
      case rel => exact ⟨j + 1,(by have := hjM.out;omega),by simp,by ((with_reducible apply Sat.fin hs);(focus with_reducible (repeat first|exact Ql|exact Qh|apply Qb|apply Qk);done))⟩
      case measure => have := hjM.out;simp [intOf];omega
     ·have hv' : (wv == (s : Int) + 1) = false := by simpa using hv
      rw [hv']
      clear hr1 hr hv
      (repeat' (first|(((with_reducible apply wl_pass2);rfl;rfl;((simp only [ev,Ue,Uf]);rfl);rfl;(simp only [Uc,Uz]));(repeat ((with_reducible apply wl_pass2);rfl;rfl;((simp only [ev,Ue,Uf]);rfl);rfl;(simp only [Uc,Uz]))))|((with_reducible apply wl_pick);((simp only [ev,Ue,Uf]);rfl);((simp only [cond_true,cond_false,ev,Ue,Uf]);rfl);(with_reducible exact want_none);(simp only [Uc,Uz]))|(go_big_may;(first|((with_reducible apply wl_ld hs);infer_instance;rfl;(with_reducible exact Qh);rfl;rfl;(simp only [Uc,Uz]))|((with_reducible apply wl_len hs);infer_instance;rfl;(focus with_reducible (repeat first|exact Qh|apply Qk);done);rfl;(simp only [Uc,Uz]))))|go_step))
      go_roundw
      case rel => exact ⟨j + 1,(by have := hjM.out;omega),by simp,by ((with_reducible apply Sat.fin hs);(with_reducible exact Ql))⟩
      case measure => have := hjM.out;simp [intOf];omega
    ·have hltk : decide ((k : Int) < (lg.length : Int)) = true := by simp;omega
     have hltk2 : decide (k < lg.length) = true := by simp;omega
     have hkL := Lib.hid (show k < lg.length by omega)
     have hln : k < (lg.map Acc.e).length := by simp;omega
     obtain ⟨e,he⟩ : ∃ e,lg[k]? = some e := ⟨_,List.getElem?_eq_getElem (by omega)⟩
     have hnx := wf_next (b := b9 + j) (mv := x1) he
     rw [hr.out] at hnx
     obtain ⟨e1,e2,e3,e4,e5,e6,e7⟩ := e
     have hgv : (lg.map Acc.e)[k]? = some (Acc.e ⟨e1,e2,e3,e4,e5,e6,e7⟩) := by rw [List.getElem?_map,he];rfl
     clear he hkr hr
     have hjb : (j : Int) ≤ 128 := by have := hjM.out;omega
     have hc : ((decide (e1 > x1) = true ∧ decide (x1 < e1) = true) ∧ ¬ e1 ≤ x1) ∨ ((decide (e1 > x1) = false ∧ decide (x1 < e1) = false) ∧ e1 ≤ x1 ∧ ((e4 != b9 + j) = true ∧ ¬ e4 = b9 + j ∨ (e4 = b9 + j ∧ (e3 = 2 ∨ (e3 == 2) = false ∧ e3 ≠ 2 ∧ ((e3 == 3) = false ∧ e3 ≠ 3 ∨ e3 = 3 ∧ (e7 = e5 ∨ (e7 == e5) = false ∧ e7 ≠ e5)))))) := by
      simp only [decide_eq_true_eq,decide_eq_false_iff_not,beq_eq_false_iff_ne,bne_iff_ne];omega
     have hres : ((e1 > x1 ∨ e4 ≠ b9 + j ∨ ¬ (e3 = 2 ∨ e3 = 3 ∧ e7 = e5)) → wfF (b9 + j) x1 (lg.take (k + 1)) = (wt,wv)) ∧ (e1 ≤ x1 → e4 = b9 + j → (e3 = 2 ∨ e3 = 3 ∧ e7 = e5) → wfF (b9 + j) x1 (lg.take (k + 1)) = (e1,e6)) := by
      refine ⟨fun h => ?_,fun h1 h2 h3 => ?_⟩
      ·rw [hnx]
       simp only []
       split
       ·unfold wr1
        rw [if_neg (fun hw : Wrt _ _ => by obtain ⟨w1,w2⟩ := hw;simp only [] at w1 w2;omega)]
       ·rfl
      ·rw [hnx]
       simp only []
       rw [if_pos h1]
       unfold wr1
       rw [if_pos (show Wrt _ _ from ⟨h2,h3⟩)]
     have hres := Lib.hid hres
     clear hnx
     rcases hc with ⟨⟨f1,f2⟩,f3⟩|⟨⟨f1,f2⟩,f3,⟨f4,f5⟩|⟨rfl,rfl|⟨f6,f7,⟨f8,f9⟩|⟨rfl,rfl|⟨f8,f9⟩⟩⟩⟩⟩
     all_goals first
      | (replace hres := Lib.hid (hres.out.1 (by omega));try clear f3;try clear f5;try clear f7;try clear f9)
      | (replace hres := Lib.hid (hres.out.2 f3 rfl (by omega));try clear f3;try clear f7)
     all_goals (
      (repeat' (first|(((with_reducible apply wl_pass2);rfl;rfl;((simp only [ev,Ue,Uf]);rfl);rfl;(simp only [Uc,Uz]));(repeat (first|((with_reducible apply wl_pass2);rfl;rfl;((simp only [ev,Ue,Uf]);rfl);rfl;(simp only [Uc,Uz]))|((with_reducible apply wl_pass3);rfl;rfl;(simp only [Ue,Uf]);(simp only [Uc,Uz])))))|((with_reducible apply wl_pick);((simp only [ev,Ue,Uf]);rfl);((simp only [cond_true,cond_false,ev,Ue,Uf]);rfl);(first|(with_reducible exact want_none)|((with_reducible apply want_some);rfl;rfl;(simp only [Ue,Uf])));(simp only [Uc,Uz]))|(go_big_may;(first|(first|(first|(with_reducible refine NQ.mk ?_)|((with_reducible apply pl_neu);rfl;rfl)|((with_reducible apply pl_eff);rfl)|(with_reducible refine EQ.mk ?_ ?_)|(first|(with_reducible exact chk_nil)|((with_reducible refine chk_cons ?_ ?_);(focus ((with_reducible apply pl_chk);rfl;rfl))))|(with_reducible refine pl_end ?_)|(show SameA _ _ _;rfl))|((with_reducible apply wl_ld hs);infer_instance;rfl;(with_reducible exact Qh);rfl;rfl;(simp only [Uc,Uz]))|((with_reducible apply wl_stF hs);infer_instance;rfl;rfl;(with_reducible exact Qh);rfl;rfl;rfl;rfl;clear hs;intro w hs)|((with_reducible apply wl_alloc hs);infer_instance;rfl;clear hs;intro w b hs;(simp only [Uc,Uz]))|((with_reducible apply wl_ldSN (k := 0) hs);infer_instance;rfl;assumption;(focus with_reducible (repeat first|exact Qh|apply Qk);done);(exact (Nat.add_zero _).symm);(assumption);(exact Vb rfl);rfl;rfl;(simp only [Uc,Uz]))|((with_reducible apply wl_ia hs);infer_instance;infer_instance;rfl;rfl;(focus with_reducible (repeat first|exact Qh|apply Qk);done);(rfl);(assumption);rfl;intro b off hat;(simp only [Uc,Uz]))|((with_reducible apply wl_len hs);infer_instance;rfl;(focus with_reducible (repeat first|exact Qh|apply Qk);done);rfl;(simp only [Uc,Uz])))|(go_at_call 54;((refine (hP.out).at hs (by (focus ((repeat (with_reducible exact Qn));done))) ?_);clear hs;intro w hs;(try simp only [emp_mul,mul_assoc'] at hs)))|((with_reducible refine wp_plan_sat (id := 14) [.neu 0,.neu 1,.neu 2,.eff 3 [0,1],.neu 4,.neu 5] hs rfl ?_ ?_);kernel_rfl;clear hs;intro w hs)))|go_guarded|go_step|(dsimp only)))
      go_roundw
      case rel => exact ⟨k + 1,(_,_),(by have := hkL.out;omega),rfl,rfl,by simp,hres,by ((with_reducible apply Sat.fin hs);(focus with_reducible (repeat first|exact Ql|exact Qh|apply Qb|apply Qk);done))⟩
      case measure => have := hkL.out;simp [intOf];omega)
end Go.Proofs.YtegafhhdegnigaaGreat
end
