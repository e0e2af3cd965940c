/-
  HazardRecords, walked (written by genrec.py).
-/
import Derived.Test.YtegafhhdegnigaaGreatHMay
import Derived.Test.YtegafhhdegnigaaGreatHLiftM
set_option linter.all false
namespace Go.Proofs.YtegafhhdegnigaaGreat
open Go.RowKit Hp
set_option maxRecDepth 100000
set_option maxHeartbeats 8000000
attribute [local irreducible] Go.Calls Go.wpList
theorem hid_rest {O w : World} {A R : SProp} (h : Sat O w (A * R)) : ∃ R',Hid (R' = R) ∧ Sat O w (A * R') := ⟨R,Lib.hid rfl,h⟩
theorem all_neg {ls : List Int} {n : Nat} (h1 : ls.length = n) (h2 : ∀ (j : Nat) (z : Int),j < n → ls[j]? = some z → z = -1) : ls = List.replicate n (-1) := by
  refine List.eq_replicate_iff.2 ⟨h1,fun z hz => ?_⟩
  obtain ⟨j,hj⟩ := List.getElem?_of_mem hz
  exact h2 j z (by have := (List.getElem?_eq_some_iff.1 hj).1;omega) hj
theorem neg_next {ls : List Int} {n k : Nat} (h1 : ls.length = n) (h2 : ∀ (j : Nat) (z : Int),j < k → ls[j]? = some z → z = -1) : (ls.set k (-1)).length = n ∧ ∀ (j : Nat) (z : Int),j < k + 1 → (ls.set k (-1))[j]? = some z → z = -1 := by
  refine ⟨by simp [h1],fun j z hj hz => ?_⟩
  by_cases e : j = k
  · subst e
    have hl : j < ls.length := by have := (List.getElem?_eq_some_iff.1 hz).1;simpa using this
    rw [List.getElem?_set_self hl] at hz
    cases hz;rfl
  · rw [List.getElem?_set_ne (Ne.symm e)] at hz
    exact h2 j z (by omega) hz
def rcS' (R0 T0 : Nat) (cs : List Cll) : Nat → RS
  | 0 => (List.replicate R0 (-1),List.replicate T0 (-1))
  | n + 1 => rcFold n cs (rcS' R0 T0 cs n)
theorem rcS'_eq (c : Cfg) (cs : List Cll) : ∀ n,rcS' c.R.toNat c.T.toNat cs n = rcS c cs n
  | 0 => rfl
  | n + 1 => by simp only [rcS',rcS,rcS'_eq c cs n]
structure RcQ (R0 T0 : Nat) (cs : List Cll) : Prop where
  ok : ∀ n : Nat,∀ x ∈ cs,(x.begin_ = n → (x.op = 20 ↔ (rcS' R0 T0 cs n).2.getD x.thread.toNat 0 < 0)) ∧
    (x.end_ = n → x.op = 20 → x.kind ≠ 4 → x.kind = 2 ∧ (0 ≤ x.value ∧ x.value < R0) ∧ (rcS' R0 T0 cs n).1.getD x.value.toNat 0 < 0) ∧ (x.end_ = n → x.op = 21 → 0 ≤ (rcS' R0 T0 cs n).2.getD x.thread.toNat 0 ∧ (rcS' R0 T0 cs n).2.getD x.thread.toNat 0 < R0)
  th : ∀ x ∈ cs,0 ≤ x.thread ∧ x.thread < T0
  ends : Pw (fun x z => x.end_ ≠ -1 → x.end_ ≠ z.end_) cs
  be : ∀ x ∈ cs,∀ z ∈ cs,x.end_ ≠ z.begin_
theorem rcNext_len (mv : Int) (s : RS) (x : Cll) : (rcNext mv s x).1.length = s.1.length ∧ (rcNext mv s x).2.length = s.2.length := by
  unfold rcNext
  repeat' split
  all_goals simp
theorem rcFold_len (mv : Int) : ∀ (cs : List Cll) (s : RS),(rcFold mv cs s).1.length = s.1.length ∧ (rcFold mv cs s).2.length = s.2.length
  | [],_ => ⟨rfl,rfl⟩
  | x :: r,s => by
    have h1 := rcNext_len mv s x
    have h2 := rcFold_len mv r (rcNext mv s x)
    exact ⟨h2.1.trans h1.1,h2.2.trans h1.2⟩
theorem rcS'_len (R0 T0 : Nat) (cs : List Cll) : ∀ n,(rcS' R0 T0 cs n).1.length = R0 ∧ (rcS' R0 T0 cs n).2.length = T0
  | 0 => by simp [rcS']
  | n + 1 => by
    have h1 := rcS'_len R0 T0 cs n
    have h2 := rcFold_len n cs (rcS' R0 T0 cs n)
    exact ⟨h2.1.trans h1.1,h2.2.trans h1.2⟩
theorem rc_quiet {R0 T0 : Nat} {cs : List Cll} (Q : RcQ R0 T0 cs) {k n : Nat} {x : Cll} (hx : cs[k]? = some x) (h : x.begin_ = n ∨ x.end_ = n) (s : RS) : rcFold n (cs.take k) s = s := by
  refine rcFold_none fun z hz e => ?_
  obtain ⟨j,hj,hz2⟩ := mem_take hz
  rcases h with h | h
  · exact Q.be z (List.mem_of_getElem? hz2) x (List.mem_of_getElem? hx) (by omega)
  · exact Q.ends j k z x hj hz2 hx (by omega) (by omega)
theorem rc_case {R0 T0 : Nat} {cs : List Cll} (Q : RcQ R0 T0 cs) {k : Nat} {x : Cll} (hx : cs[k]? = some x) (n : Nat) (st : RS) (hst : st = rcFold n (cs.take k) (rcS' R0 T0 cs n)) :
    st.1.length = R0 ∧ st.2.length = T0 ∧ ∃ th : Nat,x.thread = (th : Int) ∧ th < T0 ∧ ∃ hd : Int,st.2[th]? = some hd ∧
      ((x.begin_ == (n : Int)) = false ∨ ((x.begin_ = (n : Int) ∧ (x.op = 20 ↔ hd < 0) ∧ (x.op = 20 ∨ ¬ x.op = 20)))) ∧
      (((x.end_ != (n : Int)) = true ∧ st = rcFold n (cs.take (k + 1)) (rcS' R0 T0 cs n)) ∨
       (x.end_ = (n : Int) ∧ x.op = 20 ∧ (x.begin_ == (n : Int)) = false ∧ x.kind = 4 ∧ st = rcFold n (cs.take (k + 1)) (rcS' R0 T0 cs n)) ∨
       (x.end_ = (n : Int) ∧ x.op = 20 ∧ (x.begin_ == (n : Int)) = false ∧ x.kind = 2 ∧ ∃ r : Nat,x.value = (r : Int) ∧ r < R0 ∧ (∃ w9 : Int,st.1[r]? = some w9 ∧ w9 < 0) ∧ (st.1.set r (th : Int),st.2.set th (r : Int)) = rcFold n (cs.take (k + 1)) (rcS' R0 T0 cs n)) ∨
       (x.end_ = (n : Int) ∧ x.op = 21 ∧ (x.begin_ == (n : Int)) = false ∧ ∃ d : Nat,hd = (d : Int) ∧ d < R0 ∧ (∃ w9 : Int,st.1[d]? = some w9) ∧ (st.1.set d (-1),st.2.set th (-1)) = rcFold n (cs.take (k + 1)) (rcS' R0 T0 cs n)) ∨
       (x.end_ = (n : Int) ∧ (x.begin_ == (n : Int)) = false ∧ (x.op == 20) = false ∧ (x.op == 21) = false ∧ st = rcFold n (cs.take (k + 1)) (rcS' R0 T0 cs n))) := by
  have hm := List.mem_of_getElem? hx
  obtain ⟨q1,q2,q3⟩ := Q.ok n x hm
  have hL := rcFold_len n (cs.take k) (rcS' R0 T0 cs n)
  have hL' := rcS'_len R0 T0 cs n
  rw [← hst] at hL
  obtain ⟨t0,t1⟩ := Q.th x hm
  have hl1 : st.1.length = R0 := hL.1.trans hL'.1
  have hl2 : st.2.length = T0 := hL.2.trans hL'.2
  have htl : x.thread.toNat < st.2.length := by omega
  have hnx : rcFold n (cs.take (k + 1)) (rcS' R0 T0 cs n) = rcNext n st x := by
    rw [List.take_add_one,hx,rcFold_app,← hst];rfl
  have hq : x.begin_ = n ∨ x.end_ = n → st = rcS' R0 T0 cs n := fun h => by rw [hst];exact rc_quiet Q hx h _
  refine ⟨hl1,hl2,x.thread.toNat,by omega,by omega,st.2.getD x.thread.toNat 0,by rw [List.getD_eq_getElem?_getD,List.getElem?_eq_getElem htl];rfl,?_,?_⟩
  · by_cases hb : x.begin_ = (n : Int)
    · refine .inr ⟨hb,?_,Classical.em _⟩
      rw [hq (.inl hb)];exact q1 hb
    · exact .inl (by simpa using hb)
  · rw [hnx]
    by_cases he : x.end_ = (n : Int)
    · have hb : (x.begin_ == (n : Int)) = false := by
        have := Q.be x hm x hm
        simp;omega
      have hs := hq (.inr he)
      by_cases h20 : x.op = 20
      · by_cases h4 : x.kind = 4
        · refine .inr (.inl ⟨he,h20,hb,h4,?_⟩)
          unfold rcNext;rw [if_pos he,if_pos h20,if_pos h4]
        · obtain ⟨r1,r2,r3⟩ := q2 he h20 h4
          refine .inr (.inr (.inl ⟨he,h20,hb,r1,x.value.toNat,by omega,by omega,⟨st.1.getD x.value.toNat 0,?_,by rw [hs];exact r3⟩,?_⟩))
          · rw [List.getD_eq_getElem?_getD,List.getElem?_eq_getElem (by omega)];rfl
          · have e1 : ((x.thread.toNat : Nat) : Int) = x.thread := by omega
            have e2 : ((x.value.toNat : Nat) : Int) = x.value := by omega
            unfold rcNext;rw [if_pos he,if_pos h20,if_neg h4,e1,e2]
      · by_cases h21 : x.op = 21
        · obtain ⟨r1,r2⟩ := q3 he h21
          rw [← hs] at r1 r2
          refine .inr (.inr (.inr (.inl ⟨he,h21,hb,(st.2.getD x.thread.toNat 0).toNat,by omega,by omega,⟨_,List.getElem?_eq_getElem (by omega)⟩,?_⟩)))
          unfold rcNext;rw [if_pos he,if_neg h20,if_pos h21]
        · refine .inr (.inr (.inr (.inr ⟨he,hb,by simpa using h20,by simpa using h21,?_⟩)))
          unfold rcNext;rw [if_pos he,if_neg h20,if_neg h21]
    · refine .inl ⟨by simpa using he,?_⟩
      rw [rcNext_ne he]
set_option maxHeartbeats 16000000 in
theorem haz_records (c : Cfg) (mvs0 : List Mv) (v0 : Value) (A : SProp) (hRd0 : Rd A 4 (mvs0.map Mv.e) v0) (hN : mvs0.length ≤ 9223372036854775807) :
    Gives Tryz.prog 4 #[c.v,v0] A (.bool true) A := by
  intro O w F hs
  have hok := fitC_ok c
  obtain ⟨y,hB,hK⟩ := ki_ex hok (rcJ_ok (fitC c) hok) (mvs0.take 65536) (fitM_len mvs0)
  have hPl := Lib.hid (law_play c mvs0 v0 A hRd0 hB)
  obtain ⟨a0,c0,rfl⟩ := hRd0.len
  simp only [List.length_map] at hPl hs ⊢
  have hQ : RcQ (fitC c).R.toNat (fitC c).T.toNat y.m.calls := by
    obtain ⟨pr,F,_,J⟩ := hK.ex
    refine ⟨fun n x hx => ?_,fun x hx => ?_,hB.ok.ends,hB.ok.be⟩
    · have X : RcOk (fitC c) n (rcS (fitC c) y.m.calls n) x := by
        by_cases hn : n < (mvs0.take 65536).length
        · exact J.ok n hn x hx
        · have := hB.ok.cl x hx
          exact rcok_none (by have := this.bn;omega) (by rcases this.e with e | e <;> omega)
      rw [rcS'_eq]
      have hR1 := hok.R1
      exact ⟨X.beg,fun h1 h2 h3 => (by have := X.reg h1 h2 h3;exact ⟨this.1,by omega,this.2.2⟩),fun h1 h2 => (by have := X.unr h1 h2;omega)⟩
    · have := hB.ok.cl x hx
      have h1 := this.t0
      have h2 := this.t1
      omega
  have hT1 := hok.T1
  have hR1 := hok.R1
  have hT2 := hok.T2
  have hR2 := hok.R2
  have hlc := (hB.lens (fitM_len mvs0)).l1
  clear hK hRd0
  generalize fitC c = C at *
  generalize y.m.calls = cs at *
  generalize y.m.mem.log = lg at *
  generalize y.m.shifts = sh at *
  generalize y.m.mem.words = ws at *
  clear hB
  obtain ⟨T0,hT0⟩ : ∃ T0 : Nat,C.T = (T0 : Int) := ⟨C.T.toNat,by omega⟩
  obtain ⟨R0,hR0⟩ : ∃ R0 : Nat,C.R = (R0 : Int) := ⟨C.R.toNat,by omega⟩
  obtain ⟨C1,C2,c3,c4,c5,c6,c7⟩ := C
  simp only [] at hT0 hR0 hT1 hR1 hT2 hR2
  subst hT0
  subst hR0
  simp only [Int.toNat_natCast] at hQ
  have hTl : T0 ≤ 16 := by omega
  have hRl : R0 ≤ 16 := by omega
  have hQ := Lib.hid hQ
  generalize hNN : mvs0.length = N at *
  clear hok hT1 hT2 hR1 hR2 hNN
  obtain ⟨d1,d2,d3,d4,d5,d6,d7⟩ := c
  go_enter Tryz.func4,Tryz.ntmps4
  (repeat' (first | (go_big_may;(first | ((show wpList _ _ _ (Oper.mk (some 2) _ _ _ _ _ :: _) _ _);(with_reducible apply wl_box hs);rfl;rfl;rfl;clear hs;intro w bC hs;(simp only [Uc,Uz])) | ((show wpList _ _ _ (Oper.mk (some 6) _ _ _ _ _ :: _) _ _);(with_reducible apply wl_alloc hs);infer_instance;rfl;clear hs;intro w bR hs;(simp only [Uc,Uz])) | (go_at_call 20;((refine (hPl.out).at hs (by (focus with_reducible (repeat first | exact Qh | apply Qk);done)) ?_);clear hs;intro v w hs;(try simp only [emp_mul,mul_assoc'] at hs));(simp only [sat_ex,mul_assoc',sat_pu] at hs);(obtain ⟨vm,p1,p2,p3,p4,⟨rfl,hRd⟩,hs⟩ := hs);(have hg := runR_get hs);(clear hs hRd);(obtain ⟨a1,k1,a2,k2,a3,k3,a4,k4,hv,hs⟩ := hg);(injection hv with hv);(injection hv with hv);(simp only [List.cons.injEq,and_true] at hv);(obtain ⟨rfl,rfl,rfl,rfl⟩ := hv)) | (first | ((with_reducible apply wl_ld hs);infer_instance;rfl;(focus with_reducible (repeat first | exact Qh | apply Qk);done);rfl;rfl;(simp only [Uc,Uz])) | ((with_reducible apply wl_ldF hs);infer_instance;rfl;(with_reducible exact Qh);rfl;rfl;(simp only [Uc,Uz])) | ((with_reducible apply wl_stF hs);infer_instance;rfl;rfl;(focus with_reducible (repeat first | exact Qh | apply Qk);done);rfl;rfl;rfl;rfl;clear hs;intro w hs)) | ((with_reducible apply wl_mk hs);infer_instance;infer_instance;rfl;rfl;rfl;rfl;(rfl);omega;(exact Vb rfl);rfl;clear hs;intro w v hs;(simp only [Uc,Uz])))) | go_step | (dsimp only)))
  obtain ⟨b8,m8,rfl⟩ := sl_len (hs.pull (A := sl 3 1 _ v) (by (with_reducible exact Qh)))
  simp only [List.length_replicate,Int.toNat_natCast] at hs ⊢
  have hs2 := hs.pull (A := sl 3 1 (List.replicate R0 (eI 0)) (.slice b8 R0 m8) * (pt bC (.cells #[.int .i64 (T0 : Int),.int .i64 (R0 : Int),.int .i64 c3,.int .i64 c4,.int .i64 c5,.int .i64 c6,.int .i64 c7] 23) * (pt bR (.cells #[.slice a1 cs.length k1,.slice a2 lg.length k2,.slice a3 sh.length k3,.slice a4 ws.length k4] 32) * sl 50 9 (cs.map Cll.e) (.slice a1 cs.length k1)))) (by (focus ((repeat (first | with_reducible exact Qh | with_reducible apply Qb | exact Qh | with_reducible apply Qk));done)))
  clear hs
  obtain ⟨REST,hREST,hs⟩ := hid_rest hs2
  clear hs2
  simp only [mul_assoc'] at hs
  go_loopw [9] (fun q wr => ∃ (k : Nat) (ls : List Int),k ≤ R0 ∧ q = .int .i64 (k : Int) ∧ Hid (ls.length = R0 ∧ ∀ (j : Nat) (z : Int),j < k → ls[j]? = some z → z = -1) ∧ Sat O wr (sl 3 1 (ls.map eI) (.slice b8 R0 m8) * (pt bC (.cells #[.int .i64 (T0 : Int),.int .i64 (R0 : Int),.int .i64 c3,.int .i64 c4,.int .i64 c5,.int .i64 c6,.int .i64 c7] 23) * (pt bR (.cells #[.slice a1 cs.length k1,.slice a2 lg.length k2,.slice a3 sh.length k3,.slice a4 ws.length k4] 32) * (sl 50 9 (cs.map Cll.e) (.slice a1 cs.length k1) * REST))))) (fun q _ => R0 + 1 - (intOf q).toNat)
  case atStart => exact ⟨0,List.replicate R0 0,by omega,rfl,Lib.hid ⟨by simp,by omega⟩,by rw [List.map_replicate];((with_reducible apply Sat.fin hs);(with_reducible exact Ql))⟩
  case round =>
    obtain ⟨k,ls,k1',rfl,hls,hs⟩ := hrel
    by_cases hkr : k = R0
    · have hkr := hkr.symm
      subst hkr
      have hlt : decide ((R0 : Int) < (R0 : Int)) = false := by simp
      have hall : ls = List.replicate R0 (-1) := all_neg hls.out.1 hls.out.2
      subst hall
      clear hls hlt
      have hlt : decide ((R0 : Int) < (R0 : Int)) = false := by simp
      (repeat' (first | (go_big_may;(first | ((with_reducible apply wl_ld hs);infer_instance;rfl;(focus with_reducible (repeat first | exact Qh | apply Qk);done);rfl;rfl;(simp only [Uc,Uz])) | ((with_reducible apply wl_mk hs);infer_instance;infer_instance;rfl;rfl;rfl;rfl;(rfl);omega;(exact Vb rfl);rfl;clear hs;intro w v hs;(simp only [Uc,Uz])))) | go_step))
      obtain ⟨b9,m9,rfl⟩ := sl_len (hs.pull (A := sl 3 1 _ v) (by (with_reducible exact Qh)))
      simp only [List.length_replicate,Int.toNat_natCast] at hs ⊢
      go_loopw [11] (fun q wr => ∃ (k : Nat) (ls : List Int),k ≤ T0 ∧ q = .int .i64 (k : Int) ∧ Hid (ls.length = T0 ∧ ∀ (j : Nat) (z : Int),j < k → ls[j]? = some z → z = -1) ∧ Sat O wr (sl 3 1 (ls.map eI) (.slice b9 T0 m9) * (sl 3 1 ((List.replicate R0 (-1 : Int)).map eI) (.slice b8 R0 m8) * (pt bC (.cells #[.int .i64 (T0 : Int),.int .i64 (R0 : Int),.int .i64 c3,.int .i64 c4,.int .i64 c5,.int .i64 c6,.int .i64 c7] 23) * (pt bR (.cells #[.slice a1 cs.length k1,.slice a2 lg.length k2,.slice a3 sh.length k3,.slice a4 ws.length k4] 32) * (sl 50 9 (cs.map Cll.e) (.slice a1 cs.length k1) * REST)))))) (fun q _ => T0 + 1 - (intOf q).toNat)
      case atStart => exact ⟨0,List.replicate T0 0,by omega,rfl,Lib.hid ⟨by simp,by omega⟩,by rw [List.map_replicate];((with_reducible apply Sat.fin hs);(focus ((repeat (first | with_reducible exact Ql | with_reducible apply Qb | exact Qh));done)))⟩
      case round =>
        obtain ⟨k,ls,k1',rfl,hls,hs⟩ := hrel
        by_cases hkr : k = T0
        · have hkr := hkr.symm
          subst hkr
          have hlt : decide ((T0 : Int) < (T0 : Int)) = false := by simp
          have hall : ls = List.replicate T0 (-1) := all_neg hls.out.1 hls.out.2
          subst hall
          clear hls hlt
          have hlt : decide ((T0 : Int) < (T0 : Int)) = false := by simp
          (repeat' (first | (go_big_may;((with_reducible apply wl_ld hs);infer_instance;rfl;(focus with_reducible (repeat first | exact Qh | apply Qk);done);rfl;rfl;(simp only [Uc,Uz]))) | go_step))
          go_loopw [12] (fun q wr => ∃ (n : Nat) (st : RS),n ≤ N ∧ q = .int .i64 (n : Int) ∧ Hid (st = rcS' R0 T0 cs n) ∧ Sat O wr (sl 3 1 (st.1.map eI) (.slice b8 R0 m8) * (sl 3 1 (st.2.map eI) (.slice b9 T0 m9) * (pt bC (.cells #[.int .i64 (T0 : Int),.int .i64 (R0 : Int),.int .i64 c3,.int .i64 c4,.int .i64 c5,.int .i64 c6,.int .i64 c7] 23) * (pt bR (.cells #[.slice a1 cs.length k1,.slice a2 lg.length k2,.slice a3 sh.length k3,.slice a4 ws.length k4] 32) * (sl 50 9 (cs.map Cll.e) (.slice a1 cs.length k1) * REST)))))) (fun q _ => N + 1 - (intOf q).toNat)
          case atStart => exact ⟨0,(List.replicate R0 (-1),List.replicate T0 (-1)),by omega,rfl,Lib.hid rfl,by ((with_reducible apply Sat.fin hs);(focus with_reducible (repeat first | exact Ql | exact Qh | apply Qb | apply Qk);done))⟩
          case round =>
            obtain ⟨n,st,kn,rfl,hst,hs⟩ := hrel
            by_cases hkr : n = N
            · have hkr := hkr.symm
              subst hkr
              have hltN : decide ((N : Int) < (N : Int)) = false := by simp
              (repeat' (go_step))
              (go_ret)
              rw [hREST.out] at hs
              exact ⟨rfl,by ((with_reducible apply Sat.fin hs);(focus with_reducible (repeat first | exact Ql | exact Qh | apply Qb | apply Qk);done))⟩
            · have hltN : decide ((n : Int) < (N : Int)) = true := by simp;omega
              have hltN2 : decide (n < N) = true := by simp;omega
              have hnN := Lib.hid (show n < N by omega)
              clear hkr kn
              (repeat' (first | (go_big_may;(first | ((with_reducible apply wl_ld hs);infer_instance;rfl;(focus with_reducible (repeat first | exact Qh | apply Qk);done);rfl;rfl;(simp only [Uc,Uz])) | ((with_reducible apply wl_len hs);infer_instance;rfl;(focus with_reducible (repeat first | exact Qh | apply Qk);done);rfl;(simp only [Uc,Uz])))) | go_step))
              go_loopw [59] (fun q wr => ∃ (k : Nat) (st : RS),k ≤ cs.length ∧ q = .int .i64 (k : Int) ∧ Hid (st = rcFold n (cs.take k) (rcS' R0 T0 cs n)) ∧ Sat O wr (sl 3 1 (st.1.map eI) (.slice b8 R0 m8) * (sl 3 1 (st.2.map eI) (.slice b9 T0 m9) * (pt bC (.cells #[.int .i64 (T0 : Int),.int .i64 (R0 : Int),.int .i64 c3,.int .i64 c4,.int .i64 c5,.int .i64 c6,.int .i64 c7] 23) * (pt bR (.cells #[.slice a1 cs.length k1,.slice a2 lg.length k2,.slice a3 sh.length k3,.slice a4 ws.length k4] 32) * (sl 50 9 (cs.map Cll.e) (.slice a1 cs.length k1) * REST)))))) (fun q _ => cs.length + 1 - (intOf q).toNat)
              case atStart => exact ⟨0,st,by omega,rfl,Lib.hid (by rw [hst.out];rfl),by ((with_reducible apply Sat.fin hs);(with_reducible exact Ql))⟩
              case round =>
                obtain ⟨k,st',kk,rfl,hst',hs⟩ := hrel
                clear hst
                by_cases hkr : k = cs.length
                · have e1 : st' = rcS' R0 T0 cs (n + 1) := by rw [hst'.out,hkr,List.take_length];rfl
                  subst hkr
                  have hltc : decide ((cs.length : Int) < (cs.length : Int)) = false := by simp
                  have e1 := Lib.hid e1
                  have hnb : (n : Int) + 1 ≤ 9223372036854775807 := by have := hnN.out;omega
                  (repeat' (go_step))
                  go_roundw
                  case rel => exact ⟨n + 1,st',(by have := hnN.out;omega),by simp,e1,by ((with_reducible apply Sat.fin hs);(with_reducible exact Ql))⟩
                  case measure => have := hnN.out;simp [intOf];omega
                · have hltc : decide ((k : Int) < (cs.length : Int)) = true := by simp;omega
                  have hltc2 : decide (k < cs.length) = true := by simp;omega
                  have hlnc : k < (cs.map Cll.e).length := by simp;omega
                  have hkL := Lib.hid (show k < cs.length by omega)
                  obtain ⟨x,hx⟩ : ∃ x,cs[k]? = some x := ⟨_,List.getElem?_eq_getElem (by omega)⟩
                  have hC := rc_case hQ.out hx n st' hst'.out
                  obtain ⟨g1,g2,th,hth,hthT,hd,hhd,hbeg,hC⟩ := hC
                  obtain ⟨x1,x2,x3,x4,x5,x6,x7,x8,x9⟩ := x
                  simp only [] at hth hbeg hC
                  subst hth
                  have hgv : (cs.map Cll.e)[k]? = some (Cll.e ⟨(th : Int),x2,x3,x4,x5,x6,x7,x8,x9⟩) := by rw [List.getElem?_map,hx];rfl
                  have hgh : (st'.2.map eI)[th]? = some (eI hd) := by rw [List.getElem?_map,hhd];rfl
                  have hthl : th < (st'.2.map eI).length := by simp;omega
                  have hthT2 : decide (th < T0) = true := by simpa using hthT
                  have hbeg := Lib.hid hbeg
                  clear hx hkr hst' hhd hthT
                  rcases hC with ⟨e6,hnx⟩ | ⟨rfl,rfl,e5,rfl,hnx⟩ | ⟨rfl,rfl,e5,rfl,r,rfl,hrR,e9,hnx⟩ | ⟨rfl,rfl,e5,d,rfl,hdR,y8,hnx⟩ | ⟨rfl,e5,e20,e21,hnx⟩
                  all_goals replace hnx := Lib.hid hnx
                  all_goals try (have e6' := e6;clear e6';rcases hbeg.out with e5 | ⟨rfl,f1,rfl | f2⟩)
                  all_goals try (have e6' := e6;have e5' := e5;clear e6' e5' g2)
                  all_goals try (replace f1 := f1.1 rfl;have f3 : decide (hd ≥ 0) = false := by simp;omega)
                  all_goals try (have f3' : decide (0 ≤ hd) = false := f3)
                  all_goals try (have f2' : (x2 != 20) = true := by simpa using f2)
                  all_goals try (have f2'' : (x2 == 20) = false := by simpa using f2)
                  all_goals try (have f3 : decide (hd < 0) = false := (by simp;exact Int.not_lt.1 fun h => f2 (f1.2 h));clear f1 f2)
                  all_goals try (obtain ⟨w9,hw9,w0⟩ := e9;have hgr : (st'.1.map eI)[r]? = some (eI w9) := (by rw [List.getElem?_map,hw9];rfl);have hrl : r < (st'.1.map eI).length := (by simp;omega);have h1 : decide ((r : Int) < 0) = false := (by simp);have h2 : decide ((r : Int) ≥ (R0 : Int)) = false := (by simp;omega);have h2' : decide (R0 ≤ r) = false := (by simp;omega);have h2'' : decide (r < R0) = true := (by simp;omega);have h3 : decide (w9 ≥ 0) = false := (by simp;omega);have h3' : decide (0 ≤ w9) = false := (by simp;omega);clear hw9 w0 hrR)
                  all_goals try (obtain ⟨w9,hw9⟩ := y8;have hgr : (st'.1.map eI)[d]? = some (eI w9) := (by rw [List.getElem?_map,hw9];rfl);have hdl : d < (st'.1.map eI).length := (by simp;omega);have hdR2 : decide (d < R0) = true := (by simp;omega);clear hw9 hdR)
                  all_goals (
                    (repeat' (first | (((with_reducible apply wl_pass2);rfl;rfl;((simp only [ev,List.getElem?_cons_succ,List.getElem?_cons_zero]);rfl);rfl;(simp only [Uc,Uz]));(repeat ((with_reducible apply wl_pass2);rfl;rfl;((simp only [ev,List.getElem?_cons_succ,List.getElem?_cons_zero]);rfl);rfl;(simp only [Uc,Uz])))) | ((with_reducible apply wl_pick);((simp only [ev,List.getElem?_cons_succ,List.getElem?_cons_zero]);rfl);((simp only [cond_true,cond_false,ev,List.getElem?_cons_succ,List.getElem?_cons_zero]);rfl);(first | (with_reducible exact want_none) | ((with_reducible apply want_some);rfl;rfl;(simp only [List.getElem?_cons_succ,List.getElem?_cons_zero])));(simp only [Uc,Uz])) | (go_big_may;(first | ((with_reducible apply wl_ld hs);infer_instance;rfl;(focus with_reducible (repeat first | exact Qh | apply Qk);done);rfl;rfl;(simp only [Uc,Uz])) | ((with_reducible apply wl_stF hs);infer_instance;rfl;rfl;(with_reducible exact Qh);rfl;rfl;rfl;rfl;clear hs;intro w hs) | ((with_reducible apply wl_alloc hs);infer_instance;rfl;clear hs;intro w b hs;(simp only [Uc,Uz])) | ((with_reducible apply wl_ldS0 hs);infer_instance;rfl;assumption;(focus with_reducible (repeat first | exact Qh | apply Qk);done);rfl;(assumption);rfl;rfl;(simp only [Uc,Uz])) | ((with_reducible apply wl_stS0 hs);infer_instance;rfl;rfl;assumption;(focus with_reducible (repeat first | exact Qh | apply Qk);done);rfl;(assumption);(exact Vb rfl);(rfl);rfl;clear hs;intro w hs) | ((with_reducible apply wl_ldSN (k := 0) hs);infer_instance;rfl;assumption;(focus with_reducible (repeat first | exact Qh | apply Qk);done);(exact (Nat.add_zero _).symm);(assumption);(exact Vb rfl);rfl;rfl;(simp only [Uc,Uz])) | ((with_reducible apply wl_ia2 hs);infer_instance;infer_instance;rfl;assumption;rfl;(focus with_reducible (repeat first | exact Qh | apply Qk);done);(rfl);(assumption);rfl;(simp only [Uc,Uz])) | ((with_reducible apply wl_ia hs);infer_instance;infer_instance;rfl;rfl;(focus with_reducible (repeat first | exact Qh | apply Qk);done);(rfl);(assumption);rfl;intro b off hat;(simp only [Uc,Uz])))) | go_guarded | go_step))
                    go_roundw
                    case rel => exact ⟨k + 1,_,(by have := hkL.out;omega),by simp,hnx.out,by (try simp only [List.map_set]);((with_reducible apply Sat.fin hs);(focus ((repeat (first | with_reducible exact Ql | with_reducible exact Qh | with_reducible apply Qb | exact Qh | with_reducible apply Qk));done)))⟩
                    case measure => have := hkL.out;simp [intOf];omega)
        · have hlt : decide ((k : Int) < (T0 : Int)) = true := by simp;omega
          have hlt2 : decide (k < T0) = true := by simp;omega
          have hl1 := hls.out.1
          have hln : k < (ls.map eI).length := by simp;omega
          obtain ⟨z,hz⟩ : ∃ z,ls[k]? = some z := ⟨_,List.getElem?_eq_getElem (by omega)⟩
          have hgz : (ls.map eI)[k]? = some (eI z) := by rw [List.getElem?_map,hz];rfl
          have hnew : Hid ((ls.set k (-1)).length = T0 ∧ ∀ (j : Nat) (z : Int),j < k + 1 → (ls.set k (-1))[j]? = some z → z = -1) := Lib.hid (neg_next hls.out.1 hls.out.2)
          have hnL := Lib.hid (show k < T0 by omega)
          clear hl1 hz hkr
          (repeat' (first | (go_big_may;(first | ((with_reducible apply wl_ld hs);infer_instance;rfl;(focus with_reducible (repeat first | exact Qh | apply Qk);done);rfl;rfl;(simp only [Uc,Uz])) | ((with_reducible apply wl_stS0 hs);infer_instance;rfl;rfl;assumption;(with_reducible exact Qh);rfl;(assumption);(exact Vb rfl);(rfl);rfl;clear hs;intro w hs) | ((with_reducible apply wl_ia hs);infer_instance;infer_instance;rfl;rfl;(with_reducible exact Qh);(rfl);(assumption);rfl;intro b off hat;(simp only [Uc,Uz])))) | go_step))
          go_roundw
          case rel => exact ⟨k + 1,ls.set k (-1),(by have := hnL.out;omega),by simp,hnew,by rw [List.map_set];((with_reducible apply Sat.fin hs);(focus ((repeat (first | with_reducible exact Ql | with_reducible apply Qb | exact Qh));done)))⟩
          case measure => have := hnL.out;simp [intOf];omega
    · have hlt : decide ((k : Int) < (R0 : Int)) = true := by simp;omega
      have hlt2 : decide (k < R0) = true := by simp;omega
      have hl1 := hls.out.1
      have hln : k < (ls.map eI).length := by simp;omega
      obtain ⟨z,hz⟩ : ∃ z,ls[k]? = some z := ⟨_,List.getElem?_eq_getElem (by omega)⟩
      have hgz : (ls.map eI)[k]? = some (eI z) := by rw [List.getElem?_map,hz];rfl
      have hnew : Hid ((ls.set k (-1)).length = R0 ∧ ∀ (j : Nat) (z : Int),j < k + 1 → (ls.set k (-1))[j]? = some z → z = -1) := Lib.hid (neg_next hls.out.1 hls.out.2)
      have hnL := Lib.hid (show k < R0 by omega)
      clear hl1 hz hkr
      (repeat' (first | (go_big_may;(first | ((with_reducible apply wl_ld hs);infer_instance;rfl;(focus with_reducible (repeat first | exact Qh | apply Qk);done);rfl;rfl;(simp only [Uc,Uz])) | ((with_reducible apply wl_stS0 hs);infer_instance;rfl;rfl;assumption;(with_reducible exact Qh);rfl;(assumption);(exact Vb rfl);(rfl);rfl;clear hs;intro w hs) | ((with_reducible apply wl_ia hs);infer_instance;infer_instance;rfl;rfl;(with_reducible exact Qh);(rfl);(assumption);rfl;intro b off hat;(simp only [Uc,Uz])))) | go_step))
      go_roundw
      case rel => exact ⟨k + 1,ls.set k (-1),(by have := hnL.out;omega),by simp,hnew,by rw [List.map_set];((with_reducible apply Sat.fin hs);(focus ((repeat (first | with_reducible exact Ql | with_reducible apply Qb | exact Qh));done)))⟩
      case measure => have := hnL.out;simp [intOf];omega
end Go.Proofs.YtegafhhdegnigaaGreat
