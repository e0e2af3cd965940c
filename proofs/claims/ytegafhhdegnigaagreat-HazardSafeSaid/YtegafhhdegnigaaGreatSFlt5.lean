/-
  The census of faults, walked: of a run that is safe it finds none.
-/
import Derived.Test.YtegafhhdegnigaaGreatSFlt4
set_option linter.all false
namespace Go.Proofs.YtegafhhdegnigaaGreat
open Go.RowKit Hp
set_option maxRecDepth 100000
set_option maxHeartbeats 16000000
attribute [local irreducible] Go.Calls Go.wpList
structure FltQ (c : Cfg) (lg : List Acc) (sh : List Shf) : Prop where
 ml : ∀ e ∈ lg,e.move < 65536
 ms : ∀ d ∈ sh,d.move < 65536
 acc : ∀ e ∈ lg,(0 ≤ e.addr ∧ e.addr < base c 12) ∧ (slotZ c e.addr < 0 ∨ ∃ s : Nat,slotZ c e.addr = (s : Int) ∧ (s : Int) < c.Sl ∧ opnB ((puts (s0 c) (sh.filter (fun x => decide (x.move ≤ e.move)))).getD s ⟨0,0⟩).state ((puts (s0 c) (sh.filter (fun x => decide (x.move ≤ e.move)))).getD s ⟨0,0⟩).holder e.thread = true)
 shf : ∀ (i : Nat) (x : Shf),sh[i]? = some x → ∃ s : Nat,x.slot = (s : Int) ∧ (s : Int) < c.Sl ∧
  ((x.fr = 0 ∧ x.to = 2) ∨ (x.fr = 1 ∧ (x.to = 2 ∨ x.to = 0) ∧ ((puts (s0 c) (sh.take i)).getD s ⟨0,0⟩).holder = x.thread) ∨ (x.fr = 2 ∧ (x.to = 3 ∨ x.to = 1 ∨ x.to = 0) ∧ ((puts (s0 c) (sh.take i)).getD s ⟨0,0⟩).holder = x.thread) ∨ (x.fr = 3 ∧ x.to = 4) ∨ (x.fr = 4 ∧ x.to = 5 ∧ ((puts (s0 c) (sh.take i)).getD s ⟨0,0⟩).holder = x.thread) ∨ (x.fr = 5 ∧ (x.to = 1 ∨ x.to = 0))) ∧
  (x.fr = 5 → ∀ j : Nat,(j : Int) < c.R * c.Hz → (wfF (base c 9 + j) x.move lg).2 = s + 1 → lkB (sh.take i) s (wfF (base c 9 + j) x.move lg).1 = false)
 srt : sh.Pairwise (fun x y => x.move ≤ y.move)
theorem sort_split : ∀ {l : List Shf} {n : Int},l.Pairwise (fun x y => x.move ≤ y.move) → (∀ x ∈ l,x.move ≤ n) → l.filter (fun x => decide (x.move < n)) ++ l.filter (fun x => decide (x.move = n)) = l
 | [],_,_,_ => rfl
 | a :: r,n,h,hn => by
  obtain ⟨h1,h2⟩ := List.pairwise_cons.1 h
  have ih := sort_split h2 fun x hx => hn x (List.mem_cons_of_mem _ hx)
  have ha := hn a (List.mem_cons_self ..)
  by_cases e : a.move < n
  ·rw [List.filter_cons_of_pos (by simpa using e),List.filter_cons_of_neg (by simp;omega),List.cons_append,ih]
  ·have hr : ∀ x ∈ r,x.move = n := fun x hx => by have := h1 x hx;have := hn x (List.mem_cons_of_mem _ hx);omega
   rw [List.filter_cons_of_neg (by simpa using e),List.filter_cons_of_pos (by simp;omega),List.filter_eq_nil_iff.2 (fun x hx => by have := hr x hx;simp;omega),List.nil_append,List.filter_eq_self.2 (fun x hx => by simpa using hr x hx)]
theorem mem_takeS {l : List Shf} {k : Nat} {x : Shf} (h : x ∈ l.take k) : ∃ j,j < k ∧ l[j]? = some x := by
 obtain ⟨j,hj⟩ := List.getElem?_of_mem h
 rw [List.getElem?_take] at hj
 split at hj
 ·rename_i h;exact ⟨j,h,hj⟩
 ·cases hj
theorem sort_take {l : List Shf} (h : l.Pairwise (fun x y => x.move ≤ y.move)) {i : Nat} {x : Shf} (hx : l[i]? = some x) : l.filter (fun z => decide (z.move < x.move)) ++ (l.take i).filter (fun z => decide (z.move = x.move)) = l.take i := by
 have h1 : ∀ z ∈ l.take i,z.move ≤ x.move := fun z hz => by
  obtain ⟨j,hj,e⟩ := mem_takeS hz
  exact pw_get h hj e hx
 have h2 : ∀ z ∈ l.drop i,¬ z.move < x.move := fun z hz => by
  obtain ⟨j,hj⟩ := List.getElem?_of_mem hz
  rw [List.getElem?_drop] at hj
  by_cases e : j = 0
  ·subst e
   rw [Nat.add_zero,hx] at hj
   cases hj;omega
  ·have := pw_get h (show i < i + j by omega) hx hj
   omega
 have e : l.filter (fun z => decide (z.move < x.move)) = (l.take i).filter (fun z => decide (z.move < x.move)) := by
  conv => lhs;rw [← List.take_append_drop i l]
  exact filter_app_none fun z hz => by simpa using h2 z hz
 rw [e]
 exact sort_split (h.sublist (List.take_sublist ..)) h1
theorem cen_faults (c : Cfg) (hok : c.Ok) (cs : List Cll) (lg : List Acc) (sh : List Shf) (ws : List Int) (u : Value) (hl : RunLen cs lg sh ws) (Q : FltQ c lg sh) :
  Gives Tryz.prog 25 #[c.v,.int .i64 0,u] (RunR cs lg sh ws u) (.slice none 0 0) (RunR cs lg sh ws u) := by
 intro O w F hs
 have hg := runR_get hs
 clear hs
 obtain ⟨a1,k1,a2,k2,a3,k3,a4,k4,rfl,hs⟩ := hg
 have hLen := s0_len hok
 have hr : ∀ d ∈ sh,∃ i : Nat,d.slot = (i : Int) ∧ (i : Int) < c.Sl := fun d hd => by
  obtain ⟨i,hi⟩ := List.getElem?_of_mem hd
  obtain ⟨s,h1,h2,_⟩ := Q.shf i d hi
  exact ⟨s,h1,h2⟩
 have hN := Lib.hid (fun u n => cen_next cs lg sh ws u hl n Q.ml Q.ms)
 have hSt := Lib.hid (fun u n => cen_states c hok cs lg sh ws u hl n hr)
 have hBe := Lib.hid (fun u n => cen_behind c hok cs lg sh ws u hl n hr)
 have hAcc : ∀ e ∈ lg,∃ z : Int,Gives Tryz.prog 77 #[c.v,.int .i64 e.addr] emp (.int .i64 z) emp ∧ (z < 0 ∨ ∃ s : Nat,z = (s : Int) ∧ (s : Int) < c.Sl ∧ opnB ((puts (s0 c) (sh.filter (fun x => decide (x.move ≤ e.move)))).getD s ⟨0,0⟩).state ((puts (s0 c) (sh.filter (fun x => decide (x.move ≤ e.move)))).getD s ⟨0,0⟩).holder e.thread = true) := fun e he => by
  obtain ⟨⟨h1,h2⟩,h3⟩ := Q.acc e he
  exact ⟨_,cen_slotOf c hok e.addr h1 h2,h3⟩
 have hShf : ∀ (i : Nat) (x : Shf),sh[i]? = some x → ∃ s : Nat,x.slot = (s : Int) ∧ (s : Int) < c.Sl ∧ Gives Tryz.prog 79 #[x.v,.int .i64 ((puts (s0 c) (sh.take i)).getD s ⟨0,0⟩).holder] emp (.bool true) emp ∧
   (x.fr = 5 → ∀ u,Gives Tryz.prog 80 #[c.v,.int .i64 0,u,.int .i64 (i : Int),.int .i64 (s : Int)] (RunR cs lg sh ws u) (.bool false) (RunR cs lg sh ws u)) := fun i x hx => by
  obtain ⟨s,h1,h2,h3,h4⟩ := Q.shf i x hx
  exact ⟨s,h1,h2,cen_may1 x _ h3,fun h5 u => cen_held c hok cs lg sh ws u hl i x hx s h2 (h4 h5)⟩
 have hTk := Lib.hid (fun (i : Nat) (x : Shf) (hx : sh[i]? = some x) => sort_take Q.srt hx)
 have hAcc := Lib.hid hAcc
 have hShf := Lib.hid hShf
 obtain ⟨g1,g2,g3,g4⟩ := hl
 have hS1 := hok.S1
 have hS2 := hok.S2
 clear hr Q
 obtain ⟨Z0,hZ0⟩ : ∃ Z,Z = s0 c := ⟨_,rfl⟩
 rw [← hZ0] at hSt hBe hAcc hShf hLen
 clear hZ0 hok
 obtain ⟨S0,hS0⟩ : ∃ S0 : Nat,c.Sl = (S0 : Int) := ⟨c.Sl.toNat,by omega⟩
 obtain ⟨c1,c2,c3,c4,c5,c6,c7⟩ := c
 simp only [] at hS0 hS1 hS2 hLen
 subst hS0
 have hSl : S0 ≤ 1024 := by omega
 have hLen : Z0.length = S0 := by omega
 clear hS1 hS2
 go_enter Tryz.func25,Tryz.ntmps25
 (repeat' (first|(go_big_may;(first|((show wpList _ _ _ (Oper.mk (some 3) _ _ _ _ _ :: _) _ _);(with_reducible apply wl_box hs);rfl;rfl;rfl;clear hs;intro w bC hs;(simp only [Uc,Uz]))|((show wpList _ _ _ (Oper.mk (some 5) _ _ _ _ _ :: _) _ _);(with_reducible apply wl_box hs);rfl;rfl;rfl;clear hs;intro w bR hs;(simp only [Uc,Uz]))|((with_reducible apply wl_ldF hs);infer_instance;rfl;(with_reducible exact Qh);rfl;rfl;(simp only [Uc,Uz]))|(go_at_call 74;(replace hs := runR_mkP a1 k1 a2 k2 a3 k3 a4 k4 (cs := cs) (lg := lg) (sh := sh) (ws := ws) hs (by (focus with_reducible (repeat first|exact Qh|apply Qb|apply Qk);done)));((refine ((hN.out _ _)).at hs (by (with_reducible exact Qh)) ?_);clear hs;intro v w hs;(try simp only [emp_mul,mul_assoc'] at hs));(simp only [sat_ex,mul_assoc',sat_pu] at hs);(obtain ⟨q,⟨rfl,hq⟩,hs⟩ := hs);(replace hq := Lib.hid hq);(replace hs := runR_open hs (by (with_reducible exact Qh))))))|go_step|(dsimp only)))
 go_loopw [7,8] (fun t7 q wr => ∃ n : Int,t7 = .slice none 0 0 ∧ q = .int .i64 n ∧ Hid (n = -1 ∨ -1 < n ∧ n < 65536) ∧ Sat O wr (pt bR (.cells #[.slice a1 cs.length k1,.slice a2 lg.length k2,.slice a3 sh.length k3,.slice a4 ws.length k4] 32) * (pt bC (.cells #[.int .i64 c1,.int .i64 c2,.int .i64 c3,.int .i64 c4,.int .i64 c5,.int .i64 (S0 : Int),.int .i64 c7] 23) * (sl 50 9 (cs.map Cll.e) (.slice a1 cs.length k1) * (sl 138 7 (lg.map Acc.e) (.slice a2 lg.length k2) * (sl 127 5 (sh.map Shf.e) (.slice a3 sh.length k3) * (sl 57 1 (ws.map eU) (.slice a4 ws.length k4) * F))))))) (fun _ q _ => ((65537 - intOf q) % 65538).toNat)
 case atStart => exact ⟨q,rfl,rfl,hq,by ((with_reducible apply Sat.fin hs);(focus with_reducible (repeat first|exact Ql|exact Qh|apply Qb|apply Qk);done))⟩
 case round =>
  try clear hq
  obtain ⟨n,rfl,rfl,hn,hs⟩ := hrel
  rcases hn.out with hneg|⟨hn1,hn2⟩
  ·subst hneg
   (repeat' (go_step))
   (go_ret)
   exact ⟨rfl,runR_mk (by ((with_reducible apply Sat.fin hs);(focus with_reducible (repeat first|exact Ql|exact Qh|apply Qb|apply Qk);done)))⟩
  ·have f1 : decide (n ≥ 0) = true := by simp;omega
   have f2 : decide (0 ≤ n) = true := by simp;omega
   have hn1 := Lib.hid hn1
   have hn2 := Lib.hid hn2
   clear hn
   (repeat' (first|(go_big_may;(first|((with_reducible apply wl_ldF hs);infer_instance;rfl;(focus with_reducible (repeat first|exact Qh|apply Qk);done);rfl;rfl;(simp only [Uc,Uz]))|(go_at_call 75;(replace hs := runR_mkP a1 k1 a2 k2 a3 k3 a4 k4 (cs := cs) (lg := lg) (sh := sh) (ws := ws) hs (by (focus with_reducible (repeat first|exact Qh|apply Qb|apply Qk);done)));((refine ((hSt.out _ n)).at hs (by (with_reducible exact Qh)) ?_);clear hs;intro v w hs;(try simp only [emp_mul,mul_assoc'] at hs));(simp only [sat_ex,mul_assoc',sat_pu] at hs);(obtain ⟨v1,v2,rfl,hs⟩ := hs);(replace hs := runR_open hs (by (focus with_reducible (repeat first|exact Qh|apply Qk);done))))|(go_at_call 76;(replace hs := runR_mkP a1 k1 a2 k2 a3 k3 a4 k4 (cs := cs) (lg := lg) (sh := sh) (ws := ws) hs (by (focus with_reducible (repeat first|exact Qh|apply Qb);done)));((refine ((hBe.out _ n)).at hs (by (with_reducible exact Qh)) ?_);clear hs;intro v w hs;(try simp only [emp_mul,mul_assoc'] at hs));(simp only [sat_ex,mul_assoc',sat_pu] at hs);(obtain ⟨v3,v4,rfl,hs⟩ := hs);(replace hs := runR_open hs (by (focus with_reducible (repeat first|exact Qh|apply Qk);done))))))|go_step|(dsimp only)))
   obtain ⟨A,hA⟩ : ∃ A,A = puts Z0 (sh.filter (fun x => decide (x.move < n))) := ⟨_,rfl⟩
   obtain ⟨B,hB⟩ : ∃ B,B = puts Z0 (sh.filter (fun x => decide (x.move ≤ n))) := ⟨_,rfl⟩
   rw [← hA,← hB] at hs
   have hAl : A.length = S0 := by rw [hA,puts_len];exact hLen
   have hBl : B.length = S0 := by rw [hB,puts_len];exact hLen
   have hA := Lib.hid hA
   have hB := Lib.hid hB
   obtain ⟨b1,m1,rfl⟩ := sl_len (hs.pull (A := stR _ v1) (by (focus with_reducible (repeat first|exact Qh|apply Qk);done)))
   obtain ⟨b2,m2,rfl⟩ := sl_len (hs.pull (A := hoR _ v2) (by (focus with_reducible (repeat first|exact Qh|apply Qk);done)))
   obtain ⟨b3,m3,rfl⟩ := sl_len (hs.pull (A := stR _ v3) (by (focus with_reducible (repeat first|exact Qh|apply Qk);done)))
   obtain ⟨b4,m4,rfl⟩ := sl_len (hs.pull (A := hoR _ v4) (by (focus with_reducible (repeat first|exact Qh|apply Qk);done)))
   simp only [List.length_map,hAl,hBl] at hs ⊢
   go_loopw [7,13] (fun t7 q wr => ∃ k : Nat,k ≤ lg.length ∧ t7 = .slice none 0 0 ∧ q = .int .i64 (k : Int) ∧ Sat O wr (stR (A.map Slt.state) (.slice b1 S0 m1) * (hoR (A.map Slt.holder) (.slice b2 S0 m2) * (stR (B.map Slt.state) (.slice b3 S0 m3) * (hoR (B.map Slt.holder) (.slice b4 S0 m4) * (pt bR (.cells #[.slice a1 cs.length k1,.slice a2 lg.length k2,.slice a3 sh.length k3,.slice a4 ws.length k4] 32) * (pt bC (.cells #[.int .i64 c1,.int .i64 c2,.int .i64 c3,.int .i64 c4,.int .i64 c5,.int .i64 (S0 : Int),.int .i64 c7] 23) * (sl 50 9 (cs.map Cll.e) (.slice a1 cs.length k1) * (sl 138 7 (lg.map Acc.e) (.slice a2 lg.length k2) * (sl 127 5 (sh.map Shf.e) (.slice a3 sh.length k3) * (sl 57 1 (ws.map eU) (.slice a4 ws.length k4) * F))))))))))) (fun _ q _ => lg.length + 1 - (intOf q).toNat)
   case atStart => exact ⟨0,by omega,rfl,rfl,by ((with_reducible apply Sat.fin hs);(focus with_reducible (repeat first|exact Ql|exact Qh|apply Qb|apply Qk);done))⟩
   case round =>
    obtain ⟨k,kk,rfl,rfl,hs⟩ := hrel
    by_cases hkr : k = lg.length
    ·subst hkr
     have hltk : decide ((lg.length : Int) < (lg.length : Int)) = false := by simp
     clear hB hBl
     (repeat' (first|(go_big_may;(first|((with_reducible apply wl_ld hs);infer_instance;rfl;(focus with_reducible (repeat first|exact Qh|apply Qk);done);rfl;rfl;(simp only [Uc,Uz]))|((with_reducible apply wl_len hs);infer_instance;rfl;(focus with_reducible (repeat first|exact Qh|apply Qk);done);rfl;(simp only [Uc,Uz]))))|go_step))
     go_loopw [7,17] (fun t7 q wr => ∃ (k : Nat) (sn : List Slt),k ≤ sh.length ∧ t7 = .slice none 0 0 ∧ q = .int .i64 (k : Int) ∧ Hid (sn = puts Z0 (sh.filter (fun x => decide (x.move < n)) ++ (sh.take k).filter (fun x => decide (x.move = n)))) ∧ Sat O wr (stR (sn.map Slt.state) (.slice b1 S0 m1) * (hoR (sn.map Slt.holder) (.slice b2 S0 m2) * (pt bR (.cells #[.slice a1 cs.length k1,.slice a2 lg.length k2,.slice a3 sh.length k3,.slice a4 ws.length k4] 32) * (pt bC (.cells #[.int .i64 c1,.int .i64 c2,.int .i64 c3,.int .i64 c4,.int .i64 c5,.int .i64 (S0 : Int),.int .i64 c7] 23) * (sl 50 9 (cs.map Cll.e) (.slice a1 cs.length k1) * (sl 138 7 (lg.map Acc.e) (.slice a2 lg.length k2) * (sl 127 5 (sh.map Shf.e) (.slice a3 sh.length k3) * (sl 57 1 (ws.map eU) (.slice a4 ws.length k4) * F))))))))) (fun _ q _ => sh.length + 1 - (intOf q).toNat)
     case atStart => exact ⟨0,A,by omega,rfl,rfl,Lib.hid (by rw [List.take_zero,List.filter_nil,List.append_nil];exact hA.out),by ((with_reducible apply Sat.fin hs);(focus with_reducible (repeat first|exact Ql|exact Qh|apply Qb|apply Qk);done))⟩
     case round =>
      clear hA hAl hltk
      obtain ⟨k,sn,kk,rfl,rfl,hsn,hs⟩ := hrel
      by_cases hkr : k = sh.length
      ·subst hkr
       have hltk : decide ((sh.length : Int) < (sh.length : Int)) = false := by simp
       clear hsn
       (repeat' (first|(go_big_may;(first|(first|((with_reducible apply wl_ld hs);infer_instance;rfl;(focus with_reducible (repeat first|exact Qh|apply Qk);done);rfl;rfl;(simp only [Uc,Uz]))|((with_reducible apply wl_ldF hs);infer_instance;rfl;(focus with_reducible (repeat first|exact Qh|apply Qk);done);rfl;rfl;(simp only [Uc,Uz]))|((with_reducible apply wl_len hs);infer_instance;rfl;(focus with_reducible (repeat first|exact Qh|apply Qk);done);rfl;(simp only [Uc,Uz])))|(go_at_call 74;(replace hs := runR_mkP a1 k1 a2 k2 a3 k3 a4 k4 (cs := cs) (lg := lg) (sh := sh) (ws := ws) hs (by (focus with_reducible (repeat first|exact Qh|apply Qb|apply Qk);done)));((refine ((hN.out _ _)).at hs (by (with_reducible exact Qh)) ?_);clear hs;intro v w hs;(try simp only [emp_mul,mul_assoc'] at hs));(simp only [sat_ex,mul_assoc',sat_pu] at hs);(obtain ⟨q,⟨rfl,hq⟩,hs⟩ := hs);(replace hq := Lib.hid hq);(replace hs := runR_open hs (by (with_reducible exact Qh))))))|go_step|(dsimp only)))
       go_roundw
       case rel => exact ⟨q,rfl,rfl,Lib.hid (by have := hq.out;have := hn1.out;omega),by ((with_reducible apply Sat.fin hs);(focus with_reducible (repeat first|exact Ql|exact Qh|apply Qb|apply Qk);done))⟩
       case measure =>
        have h1 := hq.out
        have h2 := hn1.out
        have h3 := hn2.out
        simp only [intOf]
        omega
      ·have hltk : decide ((k : Int) < (sh.length : Int)) = true := by simp;omega
       have hltk2 : decide (k < sh.length) = true := by simp;omega
       have hkL := Lib.hid (show k < sh.length by omega)
       have hln : k < (sh.map Shf.e).length := by simp;omega
       obtain ⟨x,hx⟩ : ∃ x,sh[k]? = some x := ⟨_,List.getElem?_eq_getElem (by omega)⟩
       obtain ⟨s,hxs,hsS,hMay,hHeld⟩ := hShf.out k x hx
       have hsS : s < S0 := by have h : (s : Int) < (S0 : Int) := hsS;omega
       have hsnl : sn.length = S0 := by rw [hsn.out,puts_len];exact hLen
       have htk := hTk.out k x hx
       have hyes : x.move = n → put sn x = puts Z0 (sh.filter (fun x => decide (x.move < n)) ++ (sh.take (k + 1)).filter (fun x => decide (x.move = n))) := fun e => by
        rw [take_filter_yes hx (by simpa using e),← List.append_assoc,puts_snoc,← hsn.out]
       have hno : ¬ x.move = n → sn = puts Z0 (sh.filter (fun x => decide (x.move < n)) ++ (sh.take (k + 1)).filter (fun x => decide (x.move = n))) := fun e => by
        rw [take_filter_no hx (by simpa using e)];exact hsn.out
       have hPut := Lib.hid (cen_put (sn.map Slt.state) (sn.map Slt.holder) x (.slice b1 S0 m1) (.slice b2 S0 m2) s hxs (by simp;omega) (by simp;omega) (by simp;omega) (by simp;omega))
       rw [map_put_st,map_put_ho] at hPut
       have hgn : x.move = n → ((puts Z0 (sh.take k)).getD s ⟨0,0⟩) = sn.getD s ⟨0,0⟩ := fun e => by
        rw [hsn.out,← e,htk]
       obtain ⟨y,hy⟩ : ∃ y,sn[s]? = some y := ⟨_,List.getElem?_eq_getElem (by omega)⟩
       have hyd : sn.getD s ⟨0,0⟩ = y := by rw [List.getD_eq_getElem?_getD,hy];rfl
       rw [hyd] at hgn
       have hgs : ((sn.map Slt.holder).map eI)[s]? = some (eI y.holder) := by rw [List.getElem?_map,List.getElem?_map,hy];rfl
       have hgl : s < ((sn.map Slt.holder).map eI).length := by simp;omega
       have hsS' : decide (s < S0) = true := by simpa using hsS
       generalize put sn x = sn' at hPut hyes
       obtain ⟨x1,x2,x3,x4,x5⟩ := x
       simp only [] at hxs hyes hno hgn hHeld hMay
       subst hxs
       have hgv : (sh.map Shf.e)[k]? = some (Shf.e ⟨x1,x2,(s : Int),x4,x5⟩) := by rw [List.getElem?_map,hx];rfl
       clear hx hkr hsn hsS hsnl htk hy hyd
       by_cases hxn : x1 = n
       ·subst hxn
        have hyes := Lib.hid (hyes rfl)
        rw [hgn rfl] at hMay
        have hMay := Lib.hid hMay
        clear hno hgn
        have hbq : (x1 != x1) = false := by simp
        by_cases h5 : x4 = 5
        ·subst h5
         have hHeld := Lib.hid (hHeld rfl (.agg #[.slice a1 cs.length k1,.slice a2 lg.length k2,.slice a3 sh.length k3,.slice a4 ws.length k4]))
         have h6 : decide (x5 ≤ 1) = true ∨ decide (x5 ≤ 1) = false := by simp only [decide_eq_true_eq,decide_eq_false_iff_not];omega
         rcases h6 with h6|h6
         all_goals (
          (repeat' (first|(((with_reducible apply wl_pass2);rfl;rfl;((simp only [ev,Ue,Uf]);rfl);rfl;(simp only [Uc,Uz]));(repeat ((with_reducible apply wl_pass2);rfl;rfl;((simp only [ev,Ue,Uf]);rfl);rfl;(simp only [Uc,Uz]))))|((with_reducible apply wl_pick);((simp only [ev,Ue,Uf]);rfl);((simp only [cond_true,cond_false,ev,Ue,Uf]);rfl);(with_reducible exact want_none);(simp only [Uc,Uz]))|(go_big_may;(first|(first|(first|(with_reducible refine NQ.mk ?_)|((with_reducible apply pl_neu);rfl;rfl)|((with_reducible apply pl_eff);rfl)|(with_reducible refine EQ.mk ?_ ?_)|(with_reducible exact chk_nil)|(with_reducible refine pl_end ?_))|((with_reducible apply wl_ld hs);infer_instance;rfl;(focus with_reducible (repeat first|exact Qh|apply Qk);done);rfl;rfl;(simp only [Uc,Uz]))|((with_reducible apply wl_ldF hs);infer_instance;rfl;(focus with_reducible (repeat first|exact Qh|apply Qk);done);rfl;rfl;(simp only [Uc,Uz]))|((with_reducible apply wl_stF hs);infer_instance;rfl;rfl;(with_reducible exact Qh);rfl;rfl;rfl;rfl;clear hs;intro w hs)|((with_reducible apply wl_alloc hs);infer_instance;rfl;clear hs;intro w b hs;(simp only [Uc,Uz]))|((with_reducible apply wl_ldS0 hs);infer_instance;rfl;assumption;(focus with_reducible (repeat first|exact Qh|apply Qk);done);rfl;(assumption);rfl;rfl;(simp only [Uc,Uz]))|((with_reducible apply wl_ldSN (k := 0) hs);infer_instance;rfl;assumption;(focus with_reducible (repeat first|exact Qh|apply Qk);done);(exact (Nat.add_zero _).symm);(assumption);(exact Vb rfl);rfl;rfl;(simp only [Uc,Uz]))|((with_reducible apply wl_ia hs);infer_instance;infer_instance;rfl;rfl;(focus with_reducible (repeat first|exact Qh|apply Qk);done);(rfl);(assumption);rfl;intro b off hat;(simp only [Uc,Uz]))|((with_reducible apply wl_len hs);infer_instance;rfl;(focus with_reducible (repeat first|exact Qh|apply Qk);done);rfl;(simp only [Uc,Uz])))|(go_at_call 79;((refine (hMay.out).at hs (by (focus ((repeat (with_reducible exact Qn));done))) ?_);clear hs;intro w hs;(try simp only [emp_mul,mul_assoc'] at hs)))|(go_at_call 80;(replace hs := runR_mkP a1 k1 a2 k2 a3 k3 a4 k4 (cs := cs) (lg := lg) (sh := sh) (ws := ws) hs (by (focus with_reducible (repeat first|exact Qh|apply Qb|apply Qk);done)));((refine (hHeld.out).at hs (by (with_reducible exact Qh)) ?_);clear hs;intro w hs;(try simp only [emp_mul,mul_assoc'] at hs));(replace hs := runR_open hs (by (with_reducible exact Qh))))|(go_at_call 81;((refine (hPut.out).at hs (by (focus with_reducible (repeat first|exact Qh|apply Qb|apply Qk);done)) ?_);clear hs;intro w hs;(try simp only [emp_mul,mul_assoc'] at hs)))|((with_reducible refine wp_plan_sat (id := 23) [.neu 0,.neu 1,.neu 2,.neu 3,.neu 4,.neu 5,.eff 6 [],.neu 7] hs rfl ?_ ?_);kernel_rfl;clear hs;intro w hs)))|go_guarded|go_step|(dsimp only)))
          go_roundw
          case rel => exact ⟨k + 1,sn',(by have := hkL.out;omega),rfl,by simp,hyes,by ((with_reducible apply Sat.fin hs);(focus with_reducible (repeat first|exact Ql|exact Qh|apply Qb|apply Qk);done))⟩
          case measure => have := hkL.out;simp [intOf];omega)
        ·have h5' : (x4 == 5) = false := by simpa using h5
         clear hHeld h5
         (repeat' (first|(((with_reducible apply wl_pass2);rfl;rfl;((simp only [ev,Ue,Uf]);rfl);rfl;(simp only [Uc,Uz]));(repeat ((with_reducible apply wl_pass2);rfl;rfl;((simp only [ev,Ue,Uf]);rfl);rfl;(simp only [Uc,Uz]))))|((with_reducible apply wl_pick);((simp only [ev,Ue,Uf]);rfl);((simp only [cond_true,cond_false,ev,Ue,Uf]);rfl);(with_reducible exact want_none);(simp only [Uc,Uz]))|(go_big_may;(first|(first|(first|(with_reducible refine NQ.mk ?_)|((with_reducible apply pl_neu);rfl;rfl)|((with_reducible apply pl_eff);rfl)|(with_reducible refine EQ.mk ?_ ?_)|(with_reducible exact chk_nil)|(with_reducible refine pl_end ?_))|((with_reducible apply wl_ld hs);infer_instance;rfl;(focus with_reducible (repeat first|exact Qh|apply Qk);done);rfl;rfl;(simp only [Uc,Uz]))|((with_reducible apply wl_ldF hs);infer_instance;rfl;(with_reducible exact Qh);rfl;rfl;(simp only [Uc,Uz]))|((with_reducible apply wl_stF hs);infer_instance;rfl;rfl;(with_reducible exact Qh);rfl;rfl;rfl;rfl;clear hs;intro w hs)|((with_reducible apply wl_alloc hs);infer_instance;rfl;clear hs;intro w b hs;(simp only [Uc,Uz]))|((with_reducible apply wl_ldS0 hs);infer_instance;rfl;assumption;(focus with_reducible (repeat first|exact Qh|apply Qk);done);rfl;(assumption);rfl;rfl;(simp only [Uc,Uz]))|((with_reducible apply wl_ldSN (k := 0) hs);infer_instance;rfl;assumption;(focus with_reducible (repeat first|exact Qh|apply Qk);done);(exact (Nat.add_zero _).symm);(assumption);(exact Vb rfl);rfl;rfl;(simp only [Uc,Uz]))|((with_reducible apply wl_ia hs);infer_instance;infer_instance;rfl;rfl;(focus with_reducible (repeat first|exact Qh|apply Qk);done);(rfl);(assumption);rfl;intro b off hat;(simp only [Uc,Uz]))|((with_reducible apply wl_len hs);infer_instance;rfl;(focus with_reducible (repeat first|exact Qh|apply Qk);done);rfl;(simp only [Uc,Uz])))|(go_at_call 79;((refine (hMay.out).at hs (by (focus ((repeat (with_reducible exact Qn));done))) ?_);clear hs;intro w hs;(try simp only [emp_mul,mul_assoc'] at hs)))|(go_at_call 81;((refine (hPut.out).at hs (by (focus with_reducible (repeat first|exact Qh|apply Qb|apply Qk);done)) ?_);clear hs;intro w hs;(try simp only [emp_mul,mul_assoc'] at hs)))|((with_reducible refine wp_plan_sat (id := 23) [.neu 0,.neu 1,.neu 2,.neu 3,.neu 4,.neu 5,.eff 6 [],.neu 7] hs rfl ?_ ?_);kernel_rfl;clear hs;intro w hs)))|go_step|(dsimp only)))
         go_roundw
         case rel => exact ⟨k + 1,sn',(by have := hkL.out;omega),rfl,by simp,hyes,by ((with_reducible apply Sat.fin hs);(focus with_reducible (repeat first|exact Ql|exact Qh|apply Qb|apply Qk);done))⟩
         case measure => have := hkL.out;simp [intOf];omega
       ·have hxn' : (x1 != n) = true := by simpa using hxn
        have hno := Lib.hid (hno hxn)
        clear hyes hgn hHeld hMay hPut hxn
        (repeat' (first|(go_big_may;(first|((with_reducible apply wl_ld hs);infer_instance;rfl;(focus with_reducible (repeat first|exact Qh|apply Qk);done);rfl;rfl;(simp only [Uc,Uz]))|((with_reducible apply wl_stF hs);infer_instance;rfl;rfl;(with_reducible exact Qh);rfl;rfl;rfl;rfl;clear hs;intro w hs)|((with_reducible apply wl_alloc hs);infer_instance;rfl;clear hs;intro w b hs;(simp only [Uc,Uz]))|((with_reducible apply wl_ldSN (k := 0) hs);infer_instance;rfl;assumption;(focus with_reducible (repeat first|exact Qh|apply Qk);done);(exact (Nat.add_zero _).symm);(assumption);(exact Vb rfl);rfl;rfl;(simp only [Uc,Uz]))|((with_reducible apply wl_ia hs);infer_instance;infer_instance;rfl;rfl;(focus with_reducible (repeat first|exact Qh|apply Qk);done);(rfl);(assumption);rfl;intro b off hat;(simp only [Uc,Uz]))|((with_reducible apply wl_len hs);infer_instance;rfl;(focus with_reducible (repeat first|exact Qh|apply Qk);done);rfl;(simp only [Uc,Uz]))))|go_step))
        go_roundw
        case rel => exact ⟨k + 1,sn,(by have := hkL.out;omega),rfl,by simp,hno,by ((with_reducible apply Sat.fin hs);(focus with_reducible (repeat first|exact Ql|exact Qh|apply Qb|apply Qk);done))⟩
        case measure => have := hkL.out;simp [intOf];omega
    ·have hltk : decide ((k : Int) < (lg.length : Int)) = true := by simp;omega
     have hltk2 : decide (k < lg.length) = true := by simp;omega
     have hkL := Lib.hid (show k < lg.length by omega)
     have hln : k < (lg.map Acc.e).length := by simp;omega
     obtain ⟨e,he⟩ : ∃ e,lg[k]? = some e := ⟨_,List.getElem?_eq_getElem (by omega)⟩
     obtain ⟨z,hG,hz⟩ := hAcc.out e (List.mem_of_getElem? he)
     obtain ⟨e1,e2,e3,e4,e5,e6,e7⟩ := e
     have hgv : (lg.map Acc.e)[k]? = some (Acc.e ⟨e1,e2,e3,e4,e5,e6,e7⟩) := by rw [List.getElem?_map,he];rfl
     simp only [] at hG hz
     have hG := Lib.hid hG
     clear he hkr
     by_cases hen : e1 = n
     ·subst hen
      have hbq : (e1 != e1) = false := by simp
      rcases hz with hz|⟨s,rfl,hsS,ho⟩
      ·have f3 : decide (z < 0) = true := by simpa using hz
       clear hz
       (repeat' (first|((with_reducible apply wl_pick);((simp only [ev,Ue,Uf]);rfl);((simp only [cond_true,cond_false,ev,Ue,Uf]);rfl);(with_reducible exact want_none);(simp only [Uc,Uz]))|(go_big_may;(first|(first|((with_reducible apply wl_ld hs);infer_instance;rfl;(focus with_reducible (repeat first|exact Qh|apply Qk);done);rfl;rfl;(simp only [Uc,Uz]))|((with_reducible apply wl_ldF hs);infer_instance;rfl;(focus with_reducible (repeat first|exact Qh|apply Qk);done);rfl;rfl;(simp only [Uc,Uz]))|((with_reducible apply wl_stF hs);infer_instance;rfl;rfl;(with_reducible exact Qh);rfl;rfl;rfl;rfl;clear hs;intro w hs)|((with_reducible apply wl_alloc hs);infer_instance;rfl;clear hs;intro w b hs;(simp only [Uc,Uz]))|((with_reducible apply wl_ldSN (k := 0) hs);infer_instance;rfl;assumption;(focus with_reducible (repeat first|exact Qh|apply Qk);done);(exact (Nat.add_zero _).symm);(assumption);(exact Vb rfl);rfl;rfl;(simp only [Uc,Uz]))|((with_reducible apply wl_ia hs);infer_instance;infer_instance;rfl;rfl;(focus with_reducible (repeat first|exact Qh|apply Qk);done);(rfl);(assumption);rfl;intro b off hat;(simp only [Uc,Uz]))|((with_reducible apply wl_len hs);infer_instance;rfl;(focus with_reducible (repeat first|exact Qh|apply Qk);done);rfl;(simp only [Uc,Uz])))|(go_at_call 77;((refine (hG.out).at hs (by (focus ((repeat (with_reducible exact Qn));done))) ?_);clear hs;intro w hs;(try simp only [emp_mul,mul_assoc'] at hs)))))|go_guarded|go_step|(dsimp only)))
       go_roundw
       case rel => exact ⟨k + 1,(by have := hkL.out;omega),rfl,by simp,by ((with_reducible apply Sat.fin hs);(focus with_reducible (repeat first|exact Ql|exact Qh|apply Qb|apply Qk);done))⟩
       case measure => have := hkL.out;simp [intOf];omega
      ·have hsS : s < S0 := by omega
       rw [← hB.out] at ho
       obtain ⟨y,hy⟩ : ∃ y,A[s]? = some y := ⟨_,List.getElem?_eq_getElem (by omega)⟩
       obtain ⟨y',hy'⟩ : ∃ y,B[s]? = some y := ⟨_,List.getElem?_eq_getElem (by omega)⟩
       have hyd : B.getD s ⟨0,0⟩ = y' := by rw [List.getD_eq_getElem?_getD,hy'];rfl
       rw [hyd] at ho
       have q1 : ((A.map Slt.state).map eI)[s]? = some (eI y.state) := by rw [List.getElem?_map,List.getElem?_map,hy];rfl
       have q2 : ((A.map Slt.holder).map eI)[s]? = some (eI y.holder) := by rw [List.getElem?_map,List.getElem?_map,hy];rfl
       have q3 : ((B.map Slt.state).map eI)[s]? = some (eI y'.state) := by rw [List.getElem?_map,List.getElem?_map,hy'];rfl
       have q4 : ((B.map Slt.holder).map eI)[s]? = some (eI y'.holder) := by rw [List.getElem?_map,List.getElem?_map,hy'];rfl
       have q5 : s < ((A.map Slt.state).map eI).length := by simp;omega
       have q6 : s < ((A.map Slt.holder).map eI).length := by simp;omega
       have q7 : s < ((B.map Slt.state).map eI).length := by simp;omega
       have q8 : s < ((B.map Slt.holder).map eI).length := by simp;omega
       have hO1 := cen_open y.state y.holder e2
       have hO2 := cen_open y'.state y'.holder e2
       rw [ho] at hO2
       have hO2 := Lib.hid hO2
       have f3 : decide ((s : Int) < 0) = false := by simp
       have hsS' : decide (s < S0) = true := by simpa using hsS
       clear hy hy' hyd ho hsS
       cases hb : opnB y.state y.holder e2 with
       | true =>
        rw [hb] at hO1
        have hO1 := Lib.hid hO1
        clear hb
        (repeat' (first|(((with_reducible apply wl_pass2);rfl;rfl;((simp only [ev,Ue,Uf]);rfl);rfl;(simp only [Uc,Uz]));(repeat (fail)))|((with_reducible apply wl_pick);((simp only [ev,Ue,Uf]);rfl);((simp only [cond_true,cond_false,ev,Ue,Uf]);rfl);(with_reducible exact want_none);(simp only [Uc,Uz]))|(go_big_may;(first|(first|(first|(with_reducible refine NQ.mk ?_)|((with_reducible apply pl_neu);rfl;rfl)|((with_reducible apply pl_eff);rfl)|(with_reducible refine EQ.mk ?_ ?_)|(with_reducible exact chk_nil)|(with_reducible refine pl_end ?_))|((with_reducible apply wl_ld hs);infer_instance;rfl;(focus with_reducible (repeat first|exact Qh|apply Qk);done);rfl;rfl;(simp only [Uc,Uz]))|((with_reducible apply wl_ldF hs);infer_instance;rfl;(focus with_reducible (repeat first|exact Qh|apply Qk);done);rfl;rfl;(simp only [Uc,Uz]))|((with_reducible apply wl_stF hs);infer_instance;rfl;rfl;(with_reducible exact Qh);rfl;rfl;rfl;rfl;clear hs;intro w hs)|((with_reducible apply wl_alloc hs);infer_instance;rfl;clear hs;intro w b hs;(simp only [Uc,Uz]))|((with_reducible apply wl_ldS0 hs);infer_instance;rfl;assumption;(focus with_reducible (repeat first|exact Qh|apply Qk);done);rfl;(assumption);rfl;rfl;(simp only [Uc,Uz]))|((with_reducible apply wl_ldSN (k := 0) hs);infer_instance;rfl;assumption;(focus with_reducible (repeat first|exact Qh|apply Qk);done);(exact (Nat.add_zero _).symm);(assumption);(exact Vb rfl);rfl;rfl;(simp only [Uc,Uz]))|((with_reducible apply wl_ia hs);infer_instance;infer_instance;rfl;rfl;(focus with_reducible (repeat first|exact Qh|apply Qk);done);(rfl);(assumption);rfl;intro b off hat;(simp only [Uc,Uz]))|((with_reducible apply wl_len hs);infer_instance;rfl;(focus with_reducible (repeat first|exact Qh|apply Qk);done);rfl;(simp only [Uc,Uz])))|(go_at_call 77;((refine (hG.out).at hs (by (focus ((repeat (with_reducible exact Qn));done))) ?_);clear hs;intro w hs;(try simp only [emp_mul,mul_assoc'] at hs)))|(go_at_call 78;((refine (hO1.out).at hs (by (focus ((repeat (with_reducible exact Qn));done))) ?_);clear hs;intro w hs;(try simp only [emp_mul,mul_assoc'] at hs)))|((with_reducible refine wp_plan_sat (id := 13) [.neu 0,.neu 1,.neu 2,.neu 3,.neu 4,.neu 5,.neu 6,.neu 7,.neu 8,.neu 9,.eff 10 [],.neu 11,.neu 12,.neu 13,.neu 14,.neu 15,.neu 16,.neu 17,.neu 18,.neu 19,.neu 20,.neu 21,.eff 22 [],.neu 23] hs rfl ?_ ?_);kernel_rfl;clear hs;intro w hs)))|go_guarded|go_step|(dsimp only)))
        go_roundw
        case rel => exact ⟨k + 1,(by have := hkL.out;omega),rfl,by simp,by ((with_reducible apply Sat.fin hs);(focus with_reducible (repeat first|exact Ql|exact Qh|apply Qb|apply Qk);done))⟩
        case measure => have := hkL.out;simp [intOf];omega
       | false =>
        rw [hb] at hO1
        have hO1 := Lib.hid hO1
        clear hb
        (repeat' (first|((with_reducible apply wl_pick);((simp only [ev,Ue,Uf]);rfl);((simp only [cond_true,cond_false,ev,Ue,Uf]);rfl);(with_reducible exact want_none);(simp only [Uc,Uz]))|(go_big_may;(first|(first|(first|(with_reducible refine NQ.mk ?_)|((with_reducible apply pl_neu);rfl;rfl)|((with_reducible apply pl_eff);rfl)|(with_reducible refine EQ.mk ?_ ?_)|(with_reducible exact chk_nil)|(with_reducible refine pl_end ?_))|((with_reducible apply wl_ld hs);infer_instance;rfl;(focus with_reducible (repeat first|exact Qh|apply Qk);done);rfl;rfl;(simp only [Uc,Uz]))|((with_reducible apply wl_ldF hs);infer_instance;rfl;(focus with_reducible (repeat first|exact Qh|apply Qk);done);rfl;rfl;(simp only [Uc,Uz]))|((with_reducible apply wl_stF hs);infer_instance;rfl;rfl;(with_reducible exact Qh);rfl;rfl;rfl;rfl;clear hs;intro w hs)|((with_reducible apply wl_alloc hs);infer_instance;rfl;clear hs;intro w b hs;(simp only [Uc,Uz]))|((with_reducible apply wl_ldS0 hs);infer_instance;rfl;assumption;(focus with_reducible (repeat first|exact Qh|apply Qk);done);rfl;(assumption);rfl;rfl;(simp only [Uc,Uz]))|((with_reducible apply wl_ldSN (k := 0) hs);infer_instance;rfl;assumption;(focus with_reducible (repeat first|exact Qh|apply Qk);done);(exact (Nat.add_zero _).symm);(assumption);(exact Vb rfl);rfl;rfl;(simp only [Uc,Uz]))|((with_reducible apply wl_ia hs);infer_instance;infer_instance;rfl;rfl;(focus with_reducible (repeat first|exact Qh|apply Qk);done);(rfl);(assumption);rfl;intro b off hat;(simp only [Uc,Uz]))|((with_reducible apply wl_len hs);infer_instance;rfl;(focus with_reducible (repeat first|exact Qh|apply Qk);done);rfl;(simp only [Uc,Uz])))|(go_at_call 77;((refine (hG.out).at hs (by (focus ((repeat (with_reducible exact Qn));done))) ?_);clear hs;intro w hs;(try simp only [emp_mul,mul_assoc'] at hs)))|(go_at_call 78;(first|((refine (hO1.out).at hs (by (focus ((repeat (with_reducible exact Qn));done))) ?_);clear hs;intro w hs;(try simp only [emp_mul,mul_assoc'] at hs))|((refine (hO2.out).at hs (by (focus ((repeat (with_reducible exact Qn));done))) ?_);clear hs;intro w hs;(try simp only [emp_mul,mul_assoc'] at hs))))|((with_reducible refine wp_plan_sat (id := 13) [.neu 0,.neu 1,.neu 2,.neu 3,.neu 4,.neu 5,.neu 6,.neu 7,.neu 8,.neu 9,.eff 10 [],.neu 11,.neu 12,.neu 13,.neu 14,.neu 15,.neu 16,.neu 17,.neu 18,.neu 19,.neu 20,.neu 21,.eff 22 [],.neu 23] hs rfl ?_ ?_);kernel_rfl;clear hs;intro w hs)))|go_guarded|go_step|(dsimp only)))
        go_roundw
        case rel => exact ⟨k + 1,(by have := hkL.out;omega),rfl,by simp,by ((with_reducible apply Sat.fin hs);(focus with_reducible (repeat first|exact Ql|exact Qh|apply Qb|apply Qk);done))⟩
        case measure => have := hkL.out;simp [intOf];omega
     ·have hen' : (e1 != n) = true := by simpa using hen
      clear hz hen
      (repeat' (first|(((with_reducible apply wl_pass2);rfl;rfl;((simp only [ev,Ue,Uf]);rfl);rfl;(simp only [Uc,Uz]));(repeat ((with_reducible apply wl_pass2);rfl;rfl;((simp only [ev,Ue,Uf]);rfl);rfl;(simp only [Uc,Uz]))))|((with_reducible apply wl_pick);((simp only [ev,Ue,Uf]);rfl);((simp only [cond_true,cond_false,ev,Ue,Uf]);rfl);(with_reducible exact want_none);(simp only [Uc,Uz]))|(go_big_may;(first|(first|((with_reducible apply wl_ld hs);infer_instance;rfl;(focus with_reducible (repeat first|exact Qh|apply Qk);done);rfl;rfl;(simp only [Uc,Uz]))|((with_reducible apply wl_ldF hs);infer_instance;rfl;(focus with_reducible (repeat first|exact Qh|apply Qk);done);rfl;rfl;(simp only [Uc,Uz]))|((with_reducible apply wl_stF hs);infer_instance;rfl;rfl;(with_reducible exact Qh);rfl;rfl;rfl;rfl;clear hs;intro w hs)|((with_reducible apply wl_alloc hs);infer_instance;rfl;clear hs;intro w b hs;(simp only [Uc,Uz]))|((with_reducible apply wl_ldSN (k := 0) hs);infer_instance;rfl;assumption;(focus with_reducible (repeat first|exact Qh|apply Qk);done);(exact (Nat.add_zero _).symm);(assumption);(exact Vb rfl);rfl;rfl;(simp only [Uc,Uz]))|((with_reducible apply wl_ia hs);infer_instance;infer_instance;rfl;rfl;(focus with_reducible (repeat first|exact Qh|apply Qk);done);(rfl);(assumption);rfl;intro b off hat;(simp only [Uc,Uz]))|((with_reducible apply wl_len hs);infer_instance;rfl;(focus with_reducible (repeat first|exact Qh|apply Qk);done);rfl;(simp only [Uc,Uz])))|(go_at_call 77;((refine (hG.out).at hs (by (focus ((repeat (with_reducible exact Qn));done))) ?_);clear hs;intro w hs;(try simp only [emp_mul,mul_assoc'] at hs)))))|go_step|(dsimp only)))
      go_roundw
      case rel => exact ⟨k + 1,(by have := hkL.out;omega),rfl,by simp,by ((with_reducible apply Sat.fin hs);(focus with_reducible (repeat first|exact Ql|exact Qh|apply Qb|apply Qk);done))⟩
      case measure => have := hkL.out;simp [intOf];omega
end Go.Proofs.YtegafhhdegnigaaGreat
