/-
  The census: the calls.
-/
import Derived.Test.YtegafhhdegnigaaGreatDCmp
import Derived.Test.YtegafhhdegnigaaGreatDNew3
import Derived.Test.YtegafhhdegnigaaGreatDInv5
import Derived.Test.YtegafhhdegnigaaGreatDRun
set_option linter.all false
section
namespace Go.Proofs.YtegafhhdegnigaaGreat
open Go.RowKit Hp
set_option maxRecDepth 100000
set_option maxHeartbeats 8000000
attribute [local irreducible] Go.Calls Go.wpList
abbrev cfgR (b : Nat) (c : Cfg) : SProp := pt b (.cells #[.int .i64 c.T,.int .i64 c.R,.int .i64 c.Hz,.int .i64 c.Rt,.int .i64 c.Ca,.int .i64 c.Sl,.int .i64 c.Bu] 23)
theorem prev_cll {cs : List Cll} (hs : Pw (fun x z => x.begin_ < z.begin_) cs) {n : Nat} {e : Cll} (he : cs[n]? = some e) :
  (decide ((n : Int) > 0) = false ∧ decide (0 < n) = false) ∨ ∃ z1 z2 z3 z4 z5 z6 z7 z8 z9 : Int,1 ≤ n ∧ ((n : Int) - 1).toNat < (cs.map Cll.e).length ∧ (cs.map Cll.e)[n - 1]? = some (Cll.e ⟨z1,z2,z3,z4,z5,z6,z7,z8,z9⟩) ∧ decide (e.begin_ ≤ z5) = false ∧ decide ((n : Int) > 0) = true := by
 have hn := (List.getElem?_eq_some_iff.1 he).1
 cases n with
 | zero => exact .inl ⟨rfl,rfl⟩
 | succ j =>
  right
  obtain ⟨z,hz⟩ : ∃ z,cs[j]? = some z := ⟨_,List.getElem?_eq_getElem (by omega)⟩
  have hm := hs j (j + 1) z e (by omega) hz he
  obtain ⟨z1,z2,z3,z4,z5,z6,z7,z8,z9⟩ := z
  have hm : z5 < e.begin_ := hm
  have e0 : (((j + 1 : Nat) : Int) - 1).toNat = j := by omega
  have e1 : j < (cs.map Cll.e).length := by rw [List.length_map];omega
  have e3 : (cs.map Cll.e)[j]? = some (Cll.e ⟨z1,z2,z3,z4,z5,z6,z7,z8,z9⟩) := by rw [List.getElem?_map,hz];rfl
  have e4 : decide (e.begin_ ≤ z5) = false := by rw [decide_eq_false_iff_not];omega
  have e5 : decide (((j + 1 : Nat) : Int) > 0) = true := by rw [decide_eq_true_eq];omega
  exact ⟨z1,z2,z3,z4,z5,z6,z7,z8,z9,by omega,by rw [e0];exact e1,e3,e4,e5⟩
theorem cen_calls (c : Cfg) (hok : c.Ok) (cs : List Cll) (v : Value) (n : Int) (hn : n ≤ 65536) (hl : cs.length < 4294967296) (h0 : ∀ x ∈ cs,ClOk c n x)
  (hb : Pw (fun x z => x.begin_ < z.begin_) cs) (ho : Pw (fun x z => x.thread = z.thread → x.end_ ≠ -1 ∧ x.end_ < z.begin_) cs) (he : Pw (fun x z => x.end_ ≠ -1 → x.end_ ≠ z.end_) cs) (hbe : ∀ x ∈ cs,∀ z ∈ cs,x.end_ ≠ z.begin_) :
  Gives Tryz.prog 118 #[c.v,v] (cslR cs v) (.bool true) (cslR cs v) := by
 intro O w F hs
 have hE := Lib.hid (fun v => cen_ends cs v n hn hl (fun x hx => by have := h0 x hx;obtain ⟨q1,q2,q3,q4,q5,q6⟩ := this;exact ⟨⟨q3,q4⟩,by omega⟩) hb he hbe)
 obtain ⟨a0,cap0,rfl⟩ := sl_len (hs.pull (A := cslR cs v) (by (with_reducible exact Qh)))
 simp only [List.length_map] at hs ⊢
 have hT1 := hok.T1
 have hT2 := hok.T2
 have h0 := Lib.hid h0
 have hb := Lib.hid hb
 have ho := Lib.hid ho
 clear he hbe hok
 go_enter Tryz.func118,Tryz.ntmps118
 (repeat' (first|(go_big_may;((with_reducible apply wl_box hs);rfl;rfl;rfl;clear hs;intro w b hs;(simp only [Uc,Uz])))|go_step))
 obtain ⟨bc,hbc⟩ : ∃ x,x = b := ⟨_,rfl⟩
 subst hbc
 go_loopw [5] (fun q wr => ∃ k : Nat,k ≤ cs.length ∧ q = .int .i64 (k : Int) ∧ Sat O wr (cfgR bc c * (cslR cs (.slice a0 cs.length cap0) * F))) (fun q _ => cs.length + 1 - (intOf q).toNat)
 case atStart => exact ⟨0,by omega,rfl,by ((with_reducible apply Sat.fin hs);(with_reducible exact Ql))⟩
 case round =>
  obtain ⟨k,k1,rfl,hs⟩ := hrel
  by_cases hkr : k = cs.length
  ·subst hkr
   have hlt : decide ((cs.length : Int) < (cs.length : Int)) = false := by simp
   (repeat' (first|(go_big_may;(first|(first|((with_reducible apply wl_ld hs);infer_instance;rfl;(with_reducible exact Qh);rfl;rfl;(simp only [Uc,Uz]))|((with_reducible apply wl_len hs);infer_instance;rfl;(focus with_reducible (repeat first|exact Qh|apply Qk);done);rfl;(simp only [Uc,Uz])))|((with_reducible apply wl_mk hs);infer_instance;infer_instance;rfl;rfl;rfl;rfl;(exact (Int.toNat_of_nonneg (by omega)).symm);omega;(exact Vb rfl);rfl;clear hs;intro w v hs;(simp only [Uc,Uz]))))|go_step))
   obtain ⟨a8,c8,rfl⟩ := sl_len (hs.pull (A := sl 3 1 _ v) (by (with_reducible exact Qh)))
   simp only [List.length_replicate,List.length_map] at hs ⊢
   obtain ⟨T0,hT0⟩ : ∃ T0 : Nat,c.T = (T0 : Int) := ⟨c.T.toNat,by omega⟩
   have hT2' : c.T.toNat = T0 := by omega
   rw [hT2'] at hs ⊢
   have hTl : T0 ≤ 16 := by omega
   have hT0 := Lib.hid hT0
   clear hT2' hT1 hT2
   go_loopw [9] (fun q wr => ∃ (k : Nat) (ls : List Int),k ≤ T0 ∧ q = .int .i64 (k : Int) ∧ Hid (ls.length = T0 ∧ ∀ j z,j < k → ls[j]? = some z → z = -1) ∧
    Sat O wr (sl 3 1 (ls.map eI) (.slice a8 T0 c8) * (cfgR bc c * (cslR cs (.slice a0 cs.length cap0) * F)))) (fun q _ => T0 + 1 - (intOf q).toNat)
   case atStart => exact ⟨0,List.replicate T0 0,by omega,rfl,Lib.hid ⟨by simp,by omega⟩,by rw [List.map_replicate];((with_reducible apply Sat.fin hs);(focus ((repeat (first|with_reducible exact Ql|with_reducible apply Qb|exact Qh));done)))⟩
   case round =>
    obtain ⟨k,ls,k1,rfl,hls,hs⟩ := hrel
    by_cases hkr : k = T0
    ·have hkr := hkr.symm
     subst hkr
     have hl1 := hls.out.1
     have hlt : decide ((T0 : Int) < (T0 : Int)) = false := by simp
     have hlt3 : decide ((T0 : Int) < (ls.length : Int)) = false := by simp;omega
     have hlt4 : decide (T0 < ls.length) = false := by simp;omega
     have hlt5 : decide ((T0 : Int) < ((ls.map eI).length : Int)) = false := by simp;omega
     clear hl1
     (repeat' (first|(go_big_may;((with_reducible apply wl_len hs);infer_instance;rfl;(with_reducible exact Qh);rfl;(simp only [Uc,Uz])))|go_step))
     simp only [List.length_map] at hs ⊢
     go_loopw [10] (fun q wr => ∃ (k : Nat) (ls : List Int),k ≤ cs.length ∧ q = .int .i64 (k : Int) ∧ Hid (ls.length = T0 ∧ ∀ (t : Nat) (z : Int),ls[t]? = some z → z = -1 ∨ ∃ j : Nat,z = (j : Int) ∧ j < k ∧ ∃ y,cs[j]? = some y ∧ y.thread = (t : Int)) ∧
      Sat O wr (sl 3 1 (ls.map eI) (.slice a8 T0 c8) * (cfgR bc c * (cslR cs (.slice a0 cs.length cap0) * F)))) (fun q _ => cs.length + 1 - (intOf q).toNat)
     case atStart =>
      refine ⟨0,ls,by omega,rfl,Lib.hid ⟨hls.out.1,fun t z hz => .inl ?_⟩,by ((with_reducible apply Sat.fin hs);(with_reducible exact Ql))⟩
      have h1 := (List.getElem?_eq_some_iff.1 hz).1
      rw [hls.out.1] at h1
      exact hls.out.2 t z h1 hz
     case round =>
      obtain ⟨k,ls,k1,rfl,hls,hs⟩ := hrel
      by_cases hkr : k = cs.length
      ·subst hkr
       have hlt : decide ((cs.length : Int) < (cs.length : Int)) = false := by simp
       (repeat' (first|(go_big_may;(first|((with_reducible apply wl_len hs);infer_instance;rfl;(focus with_reducible (repeat first|exact Qh|apply Qk);done);rfl;(simp only [Uc,Uz]))|(go_at_call 142;((refine ((hE.out _)).at hs (by (focus with_reducible (repeat first|exact Qh|apply Qk);done)) ?_);clear hs;intro w hs;(try simp only [emp_mul,mul_assoc'] at hs)))))|go_step|(dsimp only)))
       (go_ret)
       exact ⟨rfl,by ((with_reducible apply Sat.fin hs);(focus with_reducible (repeat first|exact Ql|exact Qh|apply Qb|apply Qk);done))⟩
      ·have hlt : decide ((k : Int) < (cs.length : Int)) = true := by simp;omega
       have hlt2 : decide (k < cs.length) = true := by simp;omega
       have hln : k < (cs.map Cll.e).length := by simp;omega
       obtain ⟨x,hx⟩ : ∃ x,cs[k]? = some x := ⟨_,List.getElem?_eq_getElem (by omega)⟩
       obtain ⟨q1,q2,_,_,_,_⟩ := h0.out x (List.mem_of_getElem? hx)
       obtain ⟨hl1,hl2⟩ := hls.out
       have hT0' := hT0.out
       obtain ⟨th,hth⟩ : ∃ th : Nat,x.thread = (th : Int) := ⟨x.thread.toNat,by omega⟩
       have hthT : th < T0 := by omega
       clear hT0'
       obtain ⟨z,hz⟩ : ∃ z,ls[th]? = some z := ⟨_,List.getElem?_eq_getElem (by omega)⟩
       have hnew : Hid ((ls.set th (k : Int)).length = T0 ∧ ∀ (t : Nat) (z : Int),(ls.set th (k : Int))[t]? = some z → z = -1 ∨ ∃ j : Nat,z = (j : Int) ∧ j < k + 1 ∧ ∃ y,cs[j]? = some y ∧ y.thread = (t : Int)) := by
        refine Lib.hid ⟨by simp [hl1],fun t z hz => ?_⟩
        by_cases e : t = th
        ·subst e
         rw [List.getElem?_set_self (by omega)] at hz
         cases hz
         exact .inr ⟨k,rfl,by omega,x,hx,hth⟩
        ·rw [List.getElem?_set_ne (Ne.symm e)] at hz
         rcases hl2 t z hz with h|⟨j,h1,h2,h3⟩
         ·exact .inl h
         ·exact .inr ⟨j,h1,by omega,h3⟩
       have hprev := hl2 th z hz
       have hthl : th < (ls.map eI).length := by simp;omega
       have hthl2 : decide (th < T0) = true := by simp;omega
       have hgz : (ls.map eI)[th]? = some (eI z) := by rw [List.getElem?_map,hz];rfl
       rcases hprev with rfl|⟨j,rfl,hjk,y,hy,hyt⟩
       ·obtain ⟨c1,c2,c3,c4,c5,c6,c7,c8,c9⟩ := x
        simp only [] at hth
        subst hth
        have hgv : (cs.map Cll.e)[k]? = some (Cll.e ⟨(th : Int),c2,c3,c4,c5,c6,c7,c8,c9⟩) := by rw [List.getElem?_map,hx];rfl
        have hge : decide ((-1 : Int) ≥ 0) = false := rfl
        have hnL := Lib.hid (show k < cs.length by omega)
        clear hl1 hl2 hz q1 q2 hx hls hkr
        (repeat' (first|((first|((with_reducible apply wl_pass2);rfl;rfl;((simp only [ev,Ue,Uf]);rfl);rfl;(simp only [Uc,Uz]))|((with_reducible apply wl_pass3);rfl;rfl;(simp only [Ue,Uf]);(simp only [Uc,Uz])));(repeat (fail)))|((with_reducible apply wl_pick);((simp only [ev,Ue,Uf]);rfl);((simp only [cond_true,cond_false,ev,Ue,Uf]);rfl);(with_reducible exact want_none);(simp only [Uc,Uz]))|(go_big_may;(first|(first|(first|(with_reducible refine NQ.mk ?_)|((with_reducible apply pl_neu);rfl;rfl)|(with_reducible refine pl_end ?_))|((with_reducible apply wl_ldS0 hs);infer_instance;rfl;assumption;(focus with_reducible (repeat first|exact Qh|apply Qk);done);rfl;(assumption);rfl;rfl;(simp only [Uc,Uz]))|((with_reducible apply wl_stS0 hs);infer_instance;rfl;rfl;assumption;(with_reducible exact Qh);rfl;(assumption);(exact Vb rfl);(rfl);rfl;clear hs;intro w hs)|((with_reducible apply wl_ia2 hs);infer_instance;infer_instance;rfl;assumption;rfl;(focus with_reducible (repeat first|exact Qh|apply Qk);done);(rfl);(assumption);rfl;(simp only [Uc,Uz]))|((with_reducible apply wl_ia hs);infer_instance;infer_instance;rfl;rfl;(focus with_reducible (repeat first|exact Qh|apply Qk);done);(rfl);(assumption);rfl;intro b off hat;(simp only [Uc,Uz]))|((with_reducible apply wl_len hs);infer_instance;rfl;(focus with_reducible (repeat first|exact Qh|apply Qk);done);rfl;(simp only [Uc,Uz])))|((with_reducible refine wp_plan_sat (id := 23) [.neu 0,.neu 1,.neu 2,.neu 3,.neu 4,.neu 5,.neu 6,.neu 7,.neu 8,.neu 9,.neu 10,.neu 11,.neu 12,.neu 13,.neu 14,.neu 15,.neu 16,.neu 17,.neu 18,.neu 19,.neu 20,.neu 21,.neu 22] hs rfl ?_ ?_);kernel_rfl;clear hs;intro w hs)))|go_step))
        go_roundw
        case rel => exact ⟨k + 1,ls.set th (k : Int),(by have := hnL.out;omega),by simp,hnew,by rw [List.map_set];((with_reducible apply Sat.fin hs);(focus ((repeat (first|with_reducible exact Ql|with_reducible apply Qb|exact Qh));done)))⟩
        case measure => have := hnL.out;simp [intOf];omega
       ·have hord := ho.out j k y x hjk hy hx (by omega)
        obtain ⟨o1,o2⟩ := hord
        obtain ⟨c1,c2,c3,c4,c5,c6,c7,c8,c9⟩ := x
        obtain ⟨d1,d2,d3,d4,d5,d6,d7,d8,d9⟩ := y
        simp only [] at hth o1 o2
        subst hth
        have hgv : (cs.map Cll.e)[k]? = some (Cll.e ⟨(th : Int),c2,c3,c4,c5,c6,c7,c8,c9⟩) := by rw [List.getElem?_map,hx];rfl
        have hgy : (cs.map Cll.e)[j]? = some (Cll.e ⟨d1,d2,d3,d4,d5,d6,d7,d8,d9⟩) := by rw [List.getElem?_map,hy];rfl
        have hge : decide ((j : Int) ≥ 0) = true := by simp
        have hjl : j < (cs.map Cll.e).length := by simp;omega
        have hjl2 : decide (j < cs.length) = true := by simp;omega
        have hne : (d6 == -1) = false := by simpa using o1
        have hge2 : decide (d6 ≥ c5) = false := by simp;omega
        have hnL := Lib.hid (show k < cs.length by omega)
        clear hl1 hl2 hz q1 q2 hx hls hkr hy hyt o1 o2 hjk
        (repeat' (first|((with_reducible apply wl_pick);((simp only [ev,Ue,Uf]);rfl);((simp only [cond_true,cond_false,ev,Ue,Uf]);rfl);(first|(with_reducible exact want_none)|((with_reducible apply want_some);rfl;rfl;(simp only [Ue,Uf])));(simp only [Uc,Uz]))|(go_big_may;(first|(first|(first|(with_reducible refine NQ.mk ?_)|((with_reducible apply pl_neu);rfl;rfl)|(with_reducible refine pl_end ?_))|((with_reducible apply wl_ldS hs);infer_instance;rfl;assumption;(focus with_reducible (repeat first|exact Qh|apply Qk);done);rfl;(assumption);rfl;rfl;(simp only [Uc,Uz]))|((with_reducible apply wl_ldS0 hs);infer_instance;rfl;assumption;(focus with_reducible (repeat first|exact Qh|apply Qk);done);rfl;(assumption);rfl;rfl;(simp only [Uc,Uz]))|((with_reducible apply wl_stS0 hs);infer_instance;rfl;rfl;assumption;(with_reducible exact Qh);rfl;(assumption);(exact Vb rfl);(rfl);rfl;clear hs;intro w hs)|((with_reducible apply wl_ia2 hs);infer_instance;infer_instance;rfl;assumption;rfl;(focus with_reducible (repeat first|exact Qh|apply Qk);done);(rfl);(assumption);rfl;(simp only [Uc,Uz]))|((with_reducible apply wl_ia hs);infer_instance;infer_instance;rfl;rfl;(focus with_reducible (repeat first|exact Qh|apply Qk);done);(rfl);(assumption);rfl;intro b off hat;(simp only [Uc,Uz]))|((with_reducible apply wl_len hs);infer_instance;rfl;(focus with_reducible (repeat first|exact Qh|apply Qk);done);rfl;(simp only [Uc,Uz])))|((with_reducible refine wp_plan_sat (id := 23) [.neu 0,.neu 1,.neu 2,.neu 3,.neu 4,.neu 5,.neu 6,.neu 7,.neu 8,.neu 9,.neu 10,.neu 11,.neu 12,.neu 13,.neu 14,.neu 15,.neu 16,.neu 17,.neu 18,.neu 19,.neu 20,.neu 21,.neu 22] hs rfl ?_ ?_);kernel_rfl;clear hs;intro w hs)))|go_guarded|go_step))
        go_roundw
        case rel => exact ⟨k + 1,ls.set th (k : Int),(by have := hnL.out;omega),by simp,hnew,by rw [List.map_set];((with_reducible apply Sat.fin hs);(focus ((repeat (first|with_reducible exact Ql|with_reducible apply Qb|exact Qh));done)))⟩
        case measure => have := hnL.out;simp [intOf];omega
    ·have hlt : decide ((k : Int) < (T0 : Int)) = true := by simp;omega
     have hlt2 : decide (k < T0) = true := by simp;omega
     have hl1 := hls.out.1
     have hlt3 : decide ((k : Int) < (ls.length : Int)) = true := by simp;omega
     have hlt4 : decide (k < ls.length) = true := by simp;omega
     have hlt5 : decide ((k : Int) < ((ls.map eI).length : Int)) = true := by simp;omega
     have hln : k < (ls.map eI).length := by simp;omega
     obtain ⟨z,hz⟩ : ∃ z,ls[k]? = some z := ⟨_,List.getElem?_eq_getElem (by omega)⟩
     have hgz : (ls.map eI)[k]? = some (eI z) := by rw [List.getElem?_map,hz];rfl
     have hnew : Hid ((ls.set k (-1)).length = T0 ∧ ∀ j z,j < k + 1 → (ls.set k (-1))[j]? = some z → z = -1) := by
      refine Lib.hid ⟨by simp [hl1],fun j z hj hz => ?_⟩
      by_cases e : j = k
      ·subst e
       rw [List.getElem?_set_self (by omega)] at hz
       cases hz;rfl
      ·rw [List.getElem?_set_ne (Ne.symm e)] at hz
       exact hls.out.2 j z (by omega) hz
     have hnL := Lib.hid (show k < T0 by omega)
     clear hl1 hz hkr
     (repeat' (first|(go_big_may;(first|((with_reducible apply wl_stS0 hs);infer_instance;rfl;rfl;assumption;(with_reducible exact Qh);rfl;(assumption);(exact Vb rfl);(rfl);rfl;clear hs;intro w hs)|((with_reducible apply wl_ia hs);infer_instance;infer_instance;rfl;rfl;(with_reducible exact Qh);(rfl);(assumption);rfl;intro b off hat;(simp only [Uc,Uz]))|((with_reducible apply wl_len hs);infer_instance;rfl;(with_reducible exact Qh);rfl;(simp only [Uc,Uz]))))|go_step))
     go_roundw
     case rel => exact ⟨k + 1,ls.set k (-1),(by have := hnL.out;omega),by simp,hnew,by rw [List.map_set];((with_reducible apply Sat.fin hs);(focus ((repeat (first|with_reducible exact Ql|with_reducible apply Qb|exact Qh));done)))⟩
     case measure => have := hnL.out;simp [intOf];omega
  ·have hlt : decide ((k : Int) < (cs.length : Int)) = true := by simp;omega
   have hlt2 : decide (k < cs.length) = true := by simp;omega
   have hln : k < (cs.map Cll.e).length := by simp;omega
   obtain ⟨x,hx⟩ : ∃ x,cs[k]? = some x := ⟨_,List.getElem?_eq_getElem (by omega)⟩
   obtain ⟨q1,q2,q3,q4,q5,q6⟩ := h0.out x (List.mem_of_getElem? hx)
   have hprev := Lib.hid (prev_cll hb.out hx)
   have hnL := Lib.hid (show k < cs.length by omega)
   obtain ⟨c1,c2,c3,c4,c5,c6,c7,c8,c9⟩ := x
   simp only [] at q1 q2 q3 q4 q5 q6
   have f1 : decide (c1 < 0) = false := by simp;omega
   have f2 : decide (c1 ≥ c.T) = false := by simp;omega
   have f2' : decide (c.T ≤ c1) = false := by simp;omega
   have f3 : decide (c5 < 0) = false := by simp;omega
   have f4 : Hid (((c6 != -1) = false ∧ (c6 == -1) = true ∧ (c8 == 0) = true ∧ (c8 != 2) = true ∧ (c9 != 0) = false) ∨ ((c6 != -1) = true ∧ (c6 == -1) = false ∧ decide (c6 ≤ c5) = false ∧ (c8 == 0) = false ∧ ((c8 != 2) = false ∨ (c8 != 2) = true ∧ (c9 != 0) = false))) := by
    refine Lib.hid ?_
    rcases q5 with ⟨e1,e2,e3⟩|⟨e1,e2,e3,e4,e5⟩
    ·exact .inl ⟨by simp;omega,by simp;omega,by simp;omega,by simp;omega,by simp;omega⟩
    ·refine .inr ⟨by simp;omega,by simp;omega,by simp;omega,by simp;omega,?_⟩
     by_cases e : c8 = 2
     ·exact .inl (by simpa using e)
     ·exact .inr ⟨by simpa using e,by simpa using e5 e⟩
   have f5 : Hid ((c7 != -1) = false ∨ ((c7 != -1) = true ∧ decide (c7 ≤ c5) = false ∧ ((c6 != -1) = true → decide (c7 > c6) = false ∧ decide (c6 < c7) = false))) := by
    refine Lib.hid ?_
    rcases q6 with e|⟨e1,e2,e3⟩
    ·exact .inl (by simp;omega)
    ·exact .inr ⟨by simp;omega,by simp;omega,fun h => by have h' : c6 ≠ -1 := (by simpa using h);have := e3 h';constructor <;> simp <;> omega⟩
   have f6 : decide (c8 < 0) = false := by simp;omega
   have f7 : decide (c8 > 6) = false := by simp;omega
   have f7' : decide (6 < c8) = false := by simp;omega
   have hgv : (cs.map Cll.e)[k]? = some (Cll.e ⟨c1,c2,c3,c4,c5,c6,c7,c8,c9⟩) := by rw [List.getElem?_map,hx];rfl
   clear hx q1 q2 q3 q4 q5 q6 hkr
   have f1 := Lib.hid f1
   have f2 := Lib.hid f2
   have f3 := Lib.hid f3
   have f6 := Lib.hid f6
   have f7 := Lib.hid f7
   clear f2' f7'
   rcases hprev.out with ⟨j6,j7⟩|⟨z1,z2,z3,z4,z5,z6,z7,z8,z9,j1,j2,j3,j4,j6⟩
   all_goals rcases f4.out with ⟨e1,e2,e3,e4,e5⟩|⟨e1,e2,e3,e4,e5|⟨e5,e6⟩⟩
   all_goals rcases f5.out with d1|⟨d1,d2,d3⟩
   all_goals (
    try clear j7
    try replace j4 : decide (c5 ≤ z5) = false := j4
    try replace j4 := Lib.hid j4
    replace j6 := Lib.hid j6
    (first|(have d45 := d3 e1;obtain ⟨d4,d5⟩ := d45)|skip)
    try clear d5
    try clear d3
    try replace d4 := Lib.hid d4
    try replace d2 := Lib.hid d2
    replace d1 := Lib.hid d1
    replace e1 := Lib.hid e1
    replace e2 := Lib.hid e2
    replace e3 := Lib.hid e3
    replace e4 := Lib.hid e4
    replace e5 := Lib.hid e5
    try replace e6 := Lib.hid e6
    clear f4 f5 hprev
    (repeat' (first|(((with_reducible apply wl_pass2);rfl;rfl;((simp only [ev,Ue,Uf]);rfl);rfl;(simp only [Uc,Uz]));(repeat (first|((with_reducible apply wl_pass2);rfl;rfl;((simp only [ev,Ue,Uf]);rfl);rfl;(simp only [Uc,Uz]))|((with_reducible apply wl_pass3);rfl;rfl;(simp only [Ue,Uf]);(simp only [Uc,Uz])))))|((with_reducible apply wl_pick);((simp only [ev,Ue,Uf]);rfl);((simp only [cond_true,cond_false,ev,Ue,Uf]);rfl);(first|(with_reducible exact want_none)|((with_reducible apply want_some);rfl;rfl;(simp only [Ue,Uf])));(simp only [Uc,Uz]))|(first|((with_reducible apply wl_neqC);((simp only [ev,Ue,Uf]);rfl);((simp only [ev,Ue,Uf]);rfl);(with_reducible exact Hid.out (by with_reducible assumption));(first|(with_reducible exact want_none)|((with_reducible apply want_some);rfl;rfl;(simp only [Ue,Uf])));(simp only [Uc,Uz]))|((with_reducible apply wl_eqlC);((simp only [ev,Ue,Uf]);rfl);((simp only [ev,Ue,Uf]);rfl);(with_reducible exact Hid.out (by with_reducible assumption));((with_reducible apply want_some);rfl;rfl;(simp only [Ue,Uf]));(simp only [Uc,Uz]))|((with_reducible apply wl_lssC);((simp only [ev,Ue,Uf]);rfl);((simp only [ev,Ue,Uf]);rfl);(with_reducible exact Hid.out (by with_reducible assumption));(first|(with_reducible exact want_none)|((with_reducible apply want_some);rfl;rfl;(simp only [Ue,Uf])));(simp only [Uc,Uz]))|((with_reducible apply wl_leqC);((simp only [ev,Ue,Uf]);rfl);((simp only [ev,Ue,Uf]);rfl);(with_reducible exact Hid.out (by with_reducible assumption));((with_reducible apply want_some);rfl;rfl;(simp only [Ue,Uf]));(simp only [Uc,Uz]))|((with_reducible apply wl_gtrC);((simp only [ev,Ue,Uf]);rfl);((simp only [ev,Ue,Uf]);rfl);(with_reducible exact Hid.out (by with_reducible assumption));(first|(with_reducible exact want_none)|((with_reducible apply want_some);rfl;rfl;(simp only [Ue,Uf])));(simp only [Uc,Uz]))|((with_reducible apply wl_geqC);((simp only [ev,Ue,Uf]);rfl);((simp only [ev,Ue,Uf]);rfl);(with_reducible exact Hid.out (by with_reducible assumption));((with_reducible apply want_some);rfl;rfl;(simp only [Ue,Uf]));(simp only [Uc,Uz])))|((with_reducible apply wl_mvB);((simp only [ev,Ue,Uf]);rfl);(first|(with_reducible exact want_none)|((with_reducible apply want_some);rfl;rfl;(simp only [Ue,Uf])));(simp only [Uc,Uz]))|(go_big_may;(first|(first|(first|(with_reducible refine NQ.mk ?_)|((with_reducible apply pl_neu);rfl;rfl)|(with_reducible refine pl_end ?_))|((with_reducible apply wl_ld hs);infer_instance;rfl;(focus with_reducible (repeat first|exact Qh|apply Qk);done);rfl;rfl;(simp only [Uc,Uz]))|((with_reducible apply wl_stF hs);infer_instance;rfl;rfl;(with_reducible exact Qh);rfl;rfl;rfl;rfl;clear hs;intro w hs)|((with_reducible apply wl_alloc hs);infer_instance;rfl;clear hs;intro w b hs;(simp only [Uc,Uz]))|((with_reducible apply wl_ldS hs);infer_instance;rfl;assumption;(focus with_reducible (repeat first|exact Qh|apply Qk);done);rfl;(assumption);rfl;rfl;(simp only [Uc,Uz]))|((with_reducible apply wl_ldSN (k := 0) hs);infer_instance;rfl;assumption;(focus with_reducible (repeat first|exact Qh|apply Qk);done);(exact (Nat.add_zero _).symm);(assumption);(exact Vb rfl);rfl;rfl;(simp only [Uc,Uz]))|((with_reducible apply wl_ia2 hs);infer_instance;infer_instance;rfl;assumption;rfl;(focus with_reducible (repeat first|exact Qh|apply Qk);done);(exact (Int.toNat_of_nonneg (by omega)).symm);(assumption);rfl;(simp only [Uc,Uz]))|((with_reducible apply wl_ia hs);infer_instance;infer_instance;rfl;rfl;(focus with_reducible (repeat first|exact Qh|apply Qk);done);(rfl);(assumption);rfl;intro b off hat;(simp only [Uc,Uz]))|((with_reducible apply wl_len hs);infer_instance;rfl;(focus with_reducible (repeat first|exact Qh|apply Qk);done);rfl;(simp only [Uc,Uz])))|((with_reducible refine wp_plan_sat (id := 7) [.neu 0,.neu 1,.neu 2,.neu 3,.neu 4,.neu 5,.neu 6,.neu 7,.neu 8,.neu 9,.neu 10,.neu 11,.neu 12] hs rfl ?_ ?_);kernel_rfl;clear hs;intro w hs)))|go_guarded|go_step))
    go_roundw
    case rel => exact ⟨k + 1,(by have := hnL.out;omega),by simp,by ((with_reducible apply Sat.fin hs);(focus with_reducible (repeat first|exact Ql|exact Qh|apply Qb|apply Qk);done))⟩
    case measure => have := hnL.out;simp [intOf];omega)
end Go.Proofs.YtegafhhdegnigaaGreat
end
/-
  The references of layer 1.
-/
section
namespace Go.Proofs.YtegafhhdegnigaaGreat
open Go.RowKit Hp
set_option maxRecDepth 100000
set_option maxHeartbeats 1000000
attribute [local irreducible] Go.Calls
theorem ref_many (c : Cfg) (h : c.Ok) (r : Nat) (h1 : 1 ≤ r) (h2 : r ≤ 13) : Gives Tryz.prog 73 #[c.v,.int .i64 (r : Int)] emp (.int .i64 (many c r)) emp := by
 intro O w F hs
 obtain ⟨g1,g2⟩ := h.rh
 have hw : wrap64 (c.R * c.Hz) = c.R * c.Hz := by unfold wrap64;omega
 have hr : r = 1 ∨ r = 2 ∨ r = 3 ∨ r = 4 ∨ r = 5 ∨ r = 6 ∨ r = 7 ∨ r = 8 ∨ r = 9 ∨ r = 10 ∨ r = 11 ∨ r = 12 ∨ r = 13 := by omega
 rcases hr with rfl|rfl|rfl|rfl|rfl|rfl|rfl|rfl|rfl|rfl|rfl|rfl|rfl
 all_goals
  go_enter Tryz.func73,Tryz.ntmps73
  go_wp2_with (first|((with_reducible apply wl_ld hs);infer_instance;rfl;(with_reducible exact Qh);rfl;rfl;(simp only [Uc,Uz]))|((with_reducible apply wl_box hs);rfl;rfl;rfl;clear hs;intro w b hs;(simp only [Uc,Uz])))
  (go_ret)
  exact ⟨by simp [many,hw],by ((with_reducible apply Sat.fin hs);(focus with_reducible (repeat first|exact Ql|exact Qn|apply Qb|apply Qk);done))⟩
theorem ref_base (c : Cfg) (h : c.Ok) (r : Nat) (h1 : 1 ≤ r) (h2 : r ≤ 13) : Gives Tryz.prog 23 #[c.v,.int .i64 (r : Int)] emp (.int .i64 (base c r)) emp := by
 intro O w F hs
 have hM := Lib.hid (ref_many c h)
 go_enter Tryz.func23,Tryz.ntmps23
 go_wp2_with ((with_reducible apply wl_box hs);rfl;rfl;rfl;clear hs;intro w b hs;(simp only [Uc,Uz]))
 (obtain ⟨A,hA,hsn⟩ : ∃ A,Hid (A = _) ∧ Sat O w A := ⟨_,Lib.hid rfl,hs⟩;clear hs;have hs := hsn;clear hsn)
 go_loopw [5,6] (fun a q wr => ∃ k : Nat,1 ≤ k ∧ k ≤ r ∧ q = .int .i64 (k : Int) ∧ a = .int .i64 (base c k) ∧ Sat O wr A) (fun _ q _ => 15 - (intOf q).toNat)
 case atStart => exact ⟨1,by omega,by omega,rfl,rfl,hs⟩
 case round =>
  obtain ⟨k,k1,k2,rfl,rfl,hs⟩ := hrel
  have hb := base_le h k
  have hmk := many_le h k
  have e1 := base_succ c _ k1
  rw [hA.out] at hs
  by_cases hkr : k = r
  ·subst hkr
   have hlt : decide ((k : Int) < (k : Int)) = false := by simp
   have hlt2 : decide (k < k) = false := by simp
   go_wp2_with (fail)
   (go_ret)
   exact ⟨rfl,by ((with_reducible apply Sat.fin hs);(focus with_reducible (repeat first|exact Ql|exact Qn|apply Qb|apply Qk);done))⟩
  ·have hlt : decide ((k : Int) < (r : Int)) = true := by simp;omega
   have hlt2 : decide (k < r) = true := by simp;omega
   have hM1 := Lib.hid (hM.out k k1 (by omega))
   go_wp2_with (first|((with_reducible apply wl_ldF hs);infer_instance;rfl;(with_reducible exact Qh);rfl;rfl;(simp only [Uc,Uz]))|(go_at_call 73;((refine (hM1.out).at hs (by (focus ((repeat (with_reducible exact Qn));done))) ?_);clear hs;intro w hs;(try simp only [emp_mul,mul_assoc'] at hs))))
   go_roundw
   case rel => exact ⟨k + 1,by omega,by omega,by simp,by rw [e1],by rw [hA.out];((with_reducible apply Sat.fin hs);(focus with_reducible (repeat first|exact Ql|exact Qh|exact Qn|apply Qb);done))⟩
   case measure => simp [intOf];omega
theorem ref_size (c : Cfg) (h : c.Ok) : Gives Tryz.prog 22 #[c.v] emp (.int .i64 (base c 14)) emp := by
 intro O w F hs
 have hB := Lib.hid (ref_base c h 13 (by omega) (by omega))
 have hb := base_le h 13
 have h2 := h.S1;have h3 := h.S2
 have e : base c 14 = base c 13 + c.Sl := rfl
 have hw : wrap64 (base c 13 + c.Sl) = base c 14 := by unfold wrap64;omega
 go_enter Tryz.func22,Tryz.ntmps22
 go_wp2_with (first|(first|(first|(with_reducible refine NQ.mk ?_)|((with_reducible apply pl_neu);rfl;rfl)|((with_reducible apply pl_eff);rfl)|(with_reducible refine EQ.mk ?_ ?_)|(first|(with_reducible exact chk_nil)|((with_reducible refine chk_cons ?_ ?_);(focus ((with_reducible apply pl_chk);rfl;rfl))))|(with_reducible refine pl_end ?_)|(show SameA _ _ _;rfl))|((with_reducible apply wl_ld hs);infer_instance;rfl;(with_reducible exact Qh);rfl;rfl;(simp only [Uc,Uz]))|((with_reducible apply wl_ldF hs);infer_instance;rfl;(with_reducible exact Qh);rfl;rfl;(simp only [Uc,Uz]))|((with_reducible apply wl_box hs);rfl;rfl;rfl;clear hs;intro w b hs;(simp only [Uc,Uz])))|(go_at_call 23;((refine (hB.out).at hs (by (focus ((repeat (with_reducible exact Qn));done))) ?_);clear hs;intro w hs;(try simp only [emp_mul,mul_assoc'] at hs)))|((with_reducible refine wp_plan_sat (id := 1) [.neu 0,.neu 2,.neu 3,.eff 1 [2,3],.neu 4,.neu 5] hs rfl ?_ ?_);kernel_rfl;clear hs;intro w hs))
 (go_ret)
 exact ⟨by simp [e],by ((with_reducible apply Sat.fin hs);(focus with_reducible (repeat first|exact Ql|exact Qn|apply Qb|apply Qk);done))⟩
theorem ref_linkIndex (u : Int) (h0 : 0 ≤ u) : Gives Tryz.prog 24 #[.int .u64 u] emp (.int .i64 (u % 4294967296 - 1)) emp := by
 intro O w F hs
 have e1 : Int.tmod u 4294967296 = u % 4294967296 := Int.tmod_eq_emod_of_nonneg h0
 go_enter Tryz.func24,Tryz.ntmps24
 go_wp2_with (fail)
 (go_ret)
 exact ⟨rfl,by ((with_reducible apply Sat.fin hs);(with_reducible exact Ql))⟩
theorem ref_packLink (s : Int) (h0 : -1 ≤ s) (h1 : s ≤ 2147483646) : Gives Tryz.prog 54 #[.int .i64 s,.bool false] emp (.int .u64 (s + 1)) emp := by
 intro O w F hs
 go_enter Tryz.func54,Tryz.ntmps54
 go_wp2_with (fail)
 (go_ret)
 exact ⟨rfl,by ((with_reducible apply Sat.fin hs);(with_reducible exact Ql))⟩
theorem ref_packHead (t s : Int) (t0 : 0 ≤ t) (h0 : -1 ≤ s) (h1 : s ≤ 2147483646) : Gives Tryz.prog 92 #[.int .u64 t,.int .i64 s] emp (.int .u64 (t % 4294967296 * 4294967296 + (s + 1))) emp := by
 intro O w F hs
 go_enter Tryz.func92,Tryz.ntmps92
 go_wp2_with (fail)
 (go_ret)
 exact ⟨rfl,by ((with_reducible apply Sat.fin hs);(with_reducible exact Ql))⟩
theorem ref_first0 (c : Cfg) (h : c.Ok) : Does Tryz.prog 39 #[c.v,.int .i64 0] emp (fun v => sl 57 1 ((firstW c 0).map eU) v) := by
 intro O w F hs
 have hS := Lib.hid (ref_size c h)
 have hb10 := base_le h 10
 have hA := Lib.hid (ref_base c h 10 (by omega) (by omega))
 have hPH := ref_packHead 0 0 (by omega) (by omega) (by omega)
 rw [show (0 % 4294967296 * 4294967296 + (0 + 1) : Int) = 1 from rfl] at hPH
 have hPH := Lib.hid hPH
 obtain ⟨hc1,hc2⟩ := base_cells h
 have hb14 := base_le h 14
 have hs1 := h.S1
 have hs2 := h.S2
 have n2 : decide (0 < c.Sl) = true := by simp;omega
 obtain ⟨W0,hW0⟩ : ∃ W0 : List Int,W0 = List.replicate (base c 14).toNat 0 := ⟨_,rfl⟩
 have hrep : List.replicate (base c 14).toNat (Value.int .u64 0).cells.toList = W0.map eU := by rw [hW0,List.map_replicate];rfl
 have hlen : W0.length = (base c 14).toNat := by rw [hW0];simp
 have hl0 : 0 < W0.length := by omega
 have hg0 : W0[0]? = some 0 := by rw [hW0];simp [List.getElem?_replicate];omega
 have hfin : firstW c 0 = fillW (W0.set 0 1) (base c 10) 0 (c.Sl.toNat - 1) := by
  simp only [firstW]
  rw [if_neg (by omega),if_pos (by show (0 : Int) < c.Sl;omega),← hW0]
  rfl
 have hfin := Lib.hid hfin
 have hW0 := Lib.hid hW0
 go_enter Tryz.func39,Tryz.ntmps39
 go_wp2_with (first|(first|((with_reducible apply wl_ld hs);infer_instance;rfl;(focus with_reducible (repeat first|exact Qh|apply Qk);done);rfl;rfl;(simp only [Uc,Uz]))|((with_reducible apply wl_ldF hs);infer_instance;rfl;(with_reducible exact Qh);rfl;rfl;(simp only [Uc,Uz]))|((with_reducible apply wl_box hs);rfl;rfl;rfl;clear hs;intro w b hs;(simp only [Uc,Uz]))|((with_reducible apply wl_stS0 hs);infer_instance;rfl;rfl;assumption;(with_reducible exact Qh);rfl;(exact map_get (by assumption));(exact Vb rfl);(rfl);rfl;clear hs;intro w hs)|((with_reducible apply wl_ia hs);infer_instance;infer_instance;rfl;rfl;(with_reducible exact Qh);(rfl);(simp only [Wm,Ws,Wa,Wc,Wn,Wr] at *;omega);rfl;intro b off hat;(simp only [Uc,Uz])))|(((with_reducible apply wl_mk hs);infer_instance;infer_instance;rfl;rfl;rfl;rfl;(exact (Int.toNat_of_nonneg (by omega)).symm);omega;(exact Vb rfl);rfl;clear hs;intro w v hs;(simp only [Uc,Uz]));rw [hrep] at hs)|(go_at_call 22;((refine (hS.out).at hs (by (focus ((repeat (with_reducible exact Qn));done))) ?_);clear hs;intro w hs;(try simp only [emp_mul,mul_assoc'] at hs)))|(go_at_call 92;((refine (hPH.out).at hs (by (focus ((repeat (with_reducible exact Qn));done))) ?_);clear hs;intro w hs;(try simp only [emp_mul,mul_assoc'] at hs))))
 have e0 : (List.map eU W0).set 0 ((eU 0).set 0 (Value.int IntKind.u64 1)) = (fillW (W0.set 0 1) (base c 10) 0 0).map eU := by simp [fillW,List.map_set]
 rw [e0] at hs
 have hlW : ∀ n,(fillW (W0.set 0 1) (base c 10) 0 n).length = (base c 14).toNat := fun n => by rw [fillW_len,List.length_set,hlen]
 obtain ⟨T,hT,hs⟩ : ∃ T,Hid (T = _) ∧ Sat O w (sl 57 1 ((fillW (W0.set 0 1) (base c 10) 0 0).map eU) v * T) := ⟨_,Lib.hid rfl,hs.pull (by (with_reducible exact Qh))⟩
 clear hg0 hl0 e0 n2
 simp only [Nat.zero_mul,Nat.add_zero]
 go_loopw [6] (fun q wr => ∃ n : Nat,(n : Int) + 1 ≤ c.Sl ∧ q = .int .i64 (n : Int) ∧ Sat O wr (sl 57 1 ((fillW (W0.set 0 1) (base c 10) 0 n).map eU) v * T)) (fun q _ => 1025 - (intOf q).toNat)
 case atStart => exact ⟨0,by omega,rfl,hs⟩
 case round =>
  obtain ⟨n,k1,rfl,hs⟩ := hrel
  rw [hT.out] at hs
  have hl := hlW n
  by_cases hkr : (n : Int) + 1 = c.Sl
  ·have hlt : decide ((n : Int) + 1 < c.Sl) = false := by simp;omega
   go_wp2_with ((with_reducible apply wl_ld hs);infer_instance;rfl;(focus with_reducible (repeat first|exact Qh|apply Qk);done);rfl;rfl;(simp only [Uc,Uz]))
   (go_ret)
   refine ⟨_,rfl,?_⟩
   rw [hfin.out,show c.Sl.toNat - 1 = n by omega]
   ((with_reducible apply Sat.fin hs);(focus ((repeat (first|with_reducible exact Ql|with_reducible apply Qb|exact Qh|with_reducible apply Qk));done)))
  ·have hlt : decide ((n : Int) + 1 < c.Sl) = true := by simp;omega
   have hPL := Lib.hid (ref_packLink ((n : Int) + 1) (by omega) (by omega))
   have hix : base c 10 + (n : Int) < ((fillW (W0.set 0 1) (base c 10) 0 n).length : Int) := by rw [hl];omega
   have hi2 : (base c 10 + (n : Int)).toNat < (fillW (W0.set 0 1) (base c 10) 0 n).length := by omega
   obtain ⟨x,hx⟩ : ∃ x,(fillW (W0.set 0 1) (base c 10) 0 n)[(base c 10 + (n : Int)).toNat]? = some x := ⟨_,List.getElem?_eq_getElem hi2⟩
   have hw1 : wrap64 (base c 10 + (n : Int)) = base c 10 + (n : Int) := by unfold wrap64;omega
   have hw2 : wrap64 ((n : Int) + 1) = (n : Int) + 1 := by unfold wrap64;omega
   go_wp2_with (first|(first|((with_reducible apply wl_ld hs);infer_instance;rfl;(focus with_reducible (repeat first|exact Qh|apply Qk);done);rfl;rfl;(simp only [Uc,Uz]))|((with_reducible apply wl_ldF hs);infer_instance;rfl;(focus with_reducible (repeat first|exact Qh|apply Qk);done);rfl;rfl;(simp only [Uc,Uz]))|((with_reducible apply wl_stS0 hs);infer_instance;rfl;rfl;assumption;(with_reducible exact Qh);rfl;(exact map_get (by assumption));(exact Vb rfl);(rfl);rfl;clear hs;intro w hs)|((with_reducible apply wl_ia2 hs);infer_instance;infer_instance;rfl;assumption;rfl;(with_reducible exact Qh);(exact (Int.toNat_of_nonneg (by omega)).symm);(simp only [Wm,Ws,Wa,Wc,Wn,Wr] at *;omega);rfl;(simp only [Uc,Uz])))|(go_at_call 23;((refine (hA.out).at hs (by (focus ((repeat (with_reducible exact Qn));done))) ?_);clear hs;intro w hs;(try simp only [emp_mul,mul_assoc'] at hs)))|(go_at_call 54;((refine (hPL.out).at hs (by (focus ((repeat (with_reducible exact Qn));done))) ?_);clear hs;intro w hs;(try simp only [emp_mul,mul_assoc'] at hs))))
   have e1 : (List.map eU (fillW (W0.set 0 1) (base c 10) 0 n)).set (base c 10 + (n : Int)).toNat ((eU x).set 0 (Value.int IntKind.u64 ((n : Int) + 1 + 1))) = (fillW (W0.set 0 1) (base c 10) 0 (n + 1)).map eU := by simp [fillW,List.map_set];rfl
   rw [e1] at hs
   go_roundw
   case rel => exact ⟨n + 1,by omega,by simp,by rw [hT.out];((with_reducible apply Sat.fin hs);(with_reducible exact Ql))⟩
   case measure => simp [intOf];omega
end Go.Proofs.YtegafhhdegnigaaGreat
end
/-
  The reference's comparisons, where the lists are the same (written by gensame.py).
-/
section
namespace Go.Proofs.YtegafhhdegnigaaGreat
open Go.RowKit Hp
set_option maxRecDepth 100000
set_option maxHeartbeats 1000000
attribute [local irreducible] Go.Calls
structure RunLen (cs : List Cll) (lg : List Acc) (sh : List Shf) (ws : List Int) : Prop where
 l1 : cs.length < 100000000
 l2 : lg.length < 100000000
 l3 : sh.length < 100000000
 l4 : ws.length < 100000000
theorem runR_mk {O w : World} {F : SProp} {cs : List Cll} {lg : List Acc} {sh : List Shf} {ws : List Int} {vc vt vs vw : Value}
  (hs : Sat O w (sl 50 9 (cs.map Cll.e) vc * (sl 138 7 (lg.map Acc.e) vt * (sl 127 5 (sh.map Shf.e) vs * (sl 57 1 (ws.map eU) vw * F))))) : Sat O w (RunR cs lg sh ws (.agg #[vc,vt,vs,vw]) * F) := by
 unfold RunR
 simp only [sat_ex,mul_assoc',sat_pu]
 exact ⟨_,_,_,_,rfl,hs⟩
theorem runR_get {O w : World} {F : SProp} {cs : List Cll} {lg : List Acc} {sh : List Shf} {ws : List Int} {v : Value} (hs : Sat O w (RunR cs lg sh ws v * F)) :
  ∃ a1 k1 a2 k2 a3 k3 a4 k4,v = .agg #[.slice a1 cs.length k1,.slice a2 lg.length k2,.slice a3 sh.length k3,.slice a4 ws.length k4] ∧
   Sat O w (sl 50 9 (cs.map Cll.e) (.slice a1 cs.length k1) * (sl 138 7 (lg.map Acc.e) (.slice a2 lg.length k2) * (sl 127 5 (sh.map Shf.e) (.slice a3 sh.length k3) * (sl 57 1 (ws.map eU) (.slice a4 ws.length k4) * F)))) := by
 unfold RunR at hs
 simp only [sat_ex,mul_assoc',sat_pu] at hs
 obtain ⟨vc,vt,vs,vw,rfl,hs⟩ := hs
 obtain ⟨_,_,rfl⟩ := sl_len (hs.pull (A := sl 50 9 _ vc) (by (with_reducible exact Qh)))
 obtain ⟨_,_,rfl⟩ := sl_len (hs.pull (A := sl 138 7 _ vt) (by (focus with_reducible (repeat first|exact Qh|apply Qk);done)))
 obtain ⟨_,_,rfl⟩ := sl_len (hs.pull (A := sl 127 5 _ vs) (by (focus with_reducible (repeat first|exact Qh|apply Qk);done)))
 obtain ⟨_,_,rfl⟩ := sl_len (hs.pull (A := sl 57 1 _ vw) (by (focus with_reducible (repeat first|exact Qh|apply Qk);done)))
 simp only [List.length_map] at hs ⊢
 exact ⟨_,_,_,_,_,_,_,_,rfl,hs⟩
end Go.Proofs.YtegafhhdegnigaaGreat
end
