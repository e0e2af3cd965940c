/-
  The census: where an access or a shift may stand.
-/
import Derived.Test.YtegafhhdegnigaaGreatDVw
import Derived.Test.YtegafhhdegnigaaGreatDRun
set_option linter.all false
namespace Go.Proofs.YtegafhhdegnigaaGreat
open Go.RowKit Hp
set_option maxRecDepth 100000
set_option maxHeartbeats 1000000
attribute [local irreducible] Go.Calls
abbrev Cll.v (x : Cll) : Value := .agg (Cll.e x).toArray
def inB (x : Cll) (mv : Int) : Bool := decide (x.begin_ < mv) && (decide (x.end_ < 0) || decide (mv ≤ x.end_))
theorem cen_in (x : Cll) (mv : Int) : Gives Tryz.prog 125 #[x.v,.int .i64 mv] emp (.bool (inB x mv)) emp := by
 intro O w F hs
 obtain ⟨c1,c2,c3,c4,c5,c6,c7,c8,c9⟩ := x
 by_cases h1 : c5 < mv
 ·have f1 : decide (mv > c5) = true := by simpa using h1
  have g1 : decide (c5 < mv) = true := by simpa using h1
  clear h1
  by_cases h2 : c6 < 0
  ·have f2 : decide (c6 < 0) = true := by simpa using h2
   clear h2
   go_enter Tryz.func125,Tryz.ntmps125
   go_wp2_with (first|((with_reducible apply wl_ld hs);infer_instance;rfl;(with_reducible exact Qh);rfl;rfl;(simp only [Uc,Uz]))|((with_reducible apply wl_box hs);rfl;rfl;rfl;clear hs;intro w b hs;(simp only [Uc,Uz])))
   (go_ret)
   exact ⟨by unfold inB;simp only [g1,f2];rfl,by ((with_reducible apply Sat.fin hs);(focus with_reducible (repeat first|exact Ql|exact Qn|apply Qb|apply Qk);done))⟩
  ·have f2 : decide (c6 < 0) = false := by simpa using h2
   clear h2
   go_enter Tryz.func125,Tryz.ntmps125
   go_wp2_with (first|((with_reducible apply wl_ld hs);infer_instance;rfl;(with_reducible exact Qh);rfl;rfl;(simp only [Uc,Uz]))|((with_reducible apply wl_box hs);rfl;rfl;rfl;clear hs;intro w b hs;(simp only [Uc,Uz])))
   (go_ret)
   exact ⟨by unfold inB;simp only [g1,f2];rfl,by ((with_reducible apply Sat.fin hs);(focus with_reducible (repeat first|exact Ql|exact Qn|apply Qb|apply Qk);done))⟩
 ·have f1 : decide (mv > c5) = false := by simpa using h1
  have g1 : decide (c5 < mv) = false := by simpa using h1
  clear h1
  go_enter Tryz.func125,Tryz.ntmps125
  go_wp2_with (first|go_skip|(first|((with_reducible apply wl_ld hs);infer_instance;rfl;(with_reducible exact Qh);rfl;rfl;(simp only [Uc,Uz]))|((with_reducible apply wl_box hs);rfl;rfl;rfl;clear hs;intro w b hs;(simp only [Uc,Uz]))))
  (go_ret)
  exact ⟨by unfold inB;simp only [g1];rfl,by ((with_reducible apply Sat.fin hs);(focus with_reducible (repeat first|exact Ql|exact Qn|apply Qb|apply Qk);done))⟩
abbrev cslR (cs : List Cll) (v : Value) : SProp := sl 50 9 (cs.map Cll.e) v
theorem cen_begins (cs : List Cll) (v : Value) (mv : Int) (hl : cs.length < 4294967296) (h : ∀ x ∈ cs,x.begin_ ≠ mv) :
  Gives Tryz.prog 151 #[v,.int .i64 mv] (cslR cs v) (.bool false) (cslR cs v) := by
 intro O w F hs
 obtain ⟨a0,cap0,rfl⟩ := sl_len (hs.pull (A := cslR cs v) (by (with_reducible exact Qh)))
 simp only [List.length_map] at hs ⊢
 have h := Lib.hid h
 go_enter Tryz.func151,Tryz.ntmps151
 go_wp2_with (fail)
 go_loopw [5] (fun q wr => ∃ n : Nat,n ≤ cs.length ∧ q = .int .i64 (n : Int) ∧ Sat O wr (cslR cs (.slice a0 cs.length cap0) * F)) (fun q _ => cs.length + 1 - (intOf q).toNat)
 case atStart => exact ⟨0,by omega,rfl,by ((with_reducible apply Sat.fin hs);(with_reducible exact Ql))⟩
 case round =>
  obtain ⟨n,k1,rfl,hs⟩ := hrel
  by_cases hkr : n = cs.length
  ·subst hkr
   have hlt : decide ((cs.length : Int) < (cs.length : Int)) = false := by simp
   go_wp2_with ((with_reducible apply wl_len hs);infer_instance;rfl;(with_reducible exact Qh);rfl;(simp only [Uc,Uz]))
   (go_ret)
   exact ⟨rfl,by ((with_reducible apply Sat.fin hs);(with_reducible exact Ql))⟩
  ·have hlt : decide ((n : Int) < (cs.length : Int)) = true := by simp;omega
   have hlt2 : decide (n < cs.length) = true := by simp;omega
   have hln : n < (cs.map Cll.e).length := by simp;omega
   obtain ⟨x,hx⟩ : ∃ x,cs[n]? = some x := ⟨_,List.getElem?_eq_getElem (by omega)⟩
   have hne := h.out x (List.mem_of_getElem? hx)
   obtain ⟨c1,c2,c3,c4,c5,c6,c7,c8,c9⟩ := x
   have hne2 : (c5 == mv) = false := by simpa using hne
   clear hne
   have hw : wrap64 ((n : Int) + 1) = (n : Int) + 1 := by unfold wrap64;omega
   have hgv : (cs.map Cll.e)[n]? = some (Cll.e ⟨c1,c2,c3,c4,c5,c6,c7,c8,c9⟩) := by rw [List.getElem?_map,hx];rfl
   go_wp2_with (first|((with_reducible apply wl_ldS hs);infer_instance;rfl;assumption;(with_reducible exact Qh);rfl;(assumption);rfl;rfl;(simp only [Uc,Uz]))|((with_reducible apply wl_ia hs);infer_instance;infer_instance;rfl;rfl;(with_reducible exact Qh);(rfl);(assumption);rfl;intro b off hat;(simp only [Uc,Uz]))|((with_reducible apply wl_len hs);infer_instance;rfl;(with_reducible exact Qh);rfl;(simp only [Uc,Uz])))
   go_roundw
   case rel => exact ⟨n + 1,by omega,by simp,by ((with_reducible apply Sat.fin hs);(with_reducible exact Ql))⟩
   case measure => simp [intOf];omega
def enderOf : List Cll → Int → Int
 | [],_ => -1
 | x :: r,mv => if x.end_ = mv then x.thread else enderOf r mv
theorem enderOf_or : ∀ {cs : List Cll} {th mv : Int},(∀ x ∈ cs,x.end_ = mv → x.thread = th) → enderOf cs mv = -1 ∨ enderOf cs mv = th
 | [],_,_,_ => .inl rfl
 | x :: r,th,mv,h => by
  simp only [enderOf]
  split
  ·rename_i he;exact .inr (h x (List.mem_cons_self ..) he)
  ·exact enderOf_or (fun z hz => h z (List.mem_cons_of_mem _ hz))
theorem cen_ender (cs : List Cll) (v : Value) (mv : Int) (hl : cs.length < 4294967296) :
  Gives Tryz.prog 153 #[v,.int .i64 mv] (cslR cs v) (.int .i64 (enderOf cs mv)) (cslR cs v) := by
 intro O w F hs
 obtain ⟨a0,cap0,rfl⟩ := sl_len (hs.pull (A := cslR cs v) (by (with_reducible exact Qh)))
 simp only [List.length_map] at hs ⊢
 go_enter Tryz.func153,Tryz.ntmps153
 go_wp2_with (fail)
 go_loopw [5] (fun q wr => ∃ n : Nat,n ≤ cs.length ∧ q = .int .i64 (n : Int) ∧ enderOf (cs.drop n) mv = enderOf cs mv ∧ Sat O wr (cslR cs (.slice a0 cs.length cap0) * F)) (fun q _ => cs.length + 1 - (intOf q).toNat)
 case atStart => exact ⟨0,by omega,rfl,rfl,by ((with_reducible apply Sat.fin hs);(with_reducible exact Ql))⟩
 case round =>
  obtain ⟨n,k1,rfl,hE,hs⟩ := hrel
  by_cases hkr : n = cs.length
  ·subst hkr
   have hlt : decide ((cs.length : Int) < (cs.length : Int)) = false := by simp
   rw [List.drop_length] at hE
   have hE := Lib.hid hE
   go_wp2_with ((with_reducible apply wl_len hs);infer_instance;rfl;(with_reducible exact Qh);rfl;(simp only [Uc,Uz]))
   (go_ret)
   exact ⟨by rw [← hE.out];rfl,by ((with_reducible apply Sat.fin hs);(with_reducible exact Ql))⟩
  ·have hlt : decide ((n : Int) < (cs.length : Int)) = true := by simp;omega
   have hlt2 : decide (n < cs.length) = true := by simp;omega
   have hln : n < (cs.map Cll.e).length := by simp;omega
   obtain ⟨x,hx⟩ : ∃ x,cs[n]? = some x := ⟨_,List.getElem?_eq_getElem (by omega)⟩
   have hd : cs.drop n = x :: cs.drop (n + 1) := by
    obtain ⟨h1,rfl⟩ := List.getElem?_eq_some_iff.1 hx
    exact List.drop_eq_getElem_cons h1
   rw [hd] at hE
   simp only [enderOf] at hE
   obtain ⟨c1,c2,c3,c4,c5,c6,c7,c8,c9⟩ := x
   have hw : wrap64 ((n : Int) + 1) = (n : Int) + 1 := by unfold wrap64;omega
   have hgv : (cs.map Cll.e)[n]? = some (Cll.e ⟨c1,c2,c3,c4,c5,c6,c7,c8,c9⟩) := by rw [List.getElem?_map,hx];rfl
   clear hd
   by_cases he : c6 = mv
   ·have he2 : (c6 == mv) = true := by simpa using he
    rw [if_pos he] at hE
    have hE := Lib.hid hE
    clear he
    go_wp2_with (first|((with_reducible apply wl_ldS hs);infer_instance;rfl;assumption;(with_reducible exact Qh);rfl;(assumption);rfl;rfl;(simp only [Uc,Uz]))|((with_reducible apply wl_ldS0 hs);infer_instance;rfl;assumption;(with_reducible exact Qh);rfl;(assumption);rfl;rfl;(simp only [Uc,Uz]))|((with_reducible apply wl_ia2 hs);infer_instance;infer_instance;rfl;assumption;rfl;(with_reducible exact Qh);(rfl);(assumption);rfl;(simp only [Uc,Uz]))|((with_reducible apply wl_ia hs);infer_instance;infer_instance;rfl;rfl;(with_reducible exact Qh);(rfl);(assumption);rfl;intro b off hat;(simp only [Uc,Uz]))|((with_reducible apply wl_len hs);infer_instance;rfl;(with_reducible exact Qh);rfl;(simp only [Uc,Uz])))
    (go_ret)
    exact ⟨by rw [← hE.out];rfl,by ((with_reducible apply Sat.fin hs);(with_reducible exact Ql))⟩
   ·have he2 : (c6 == mv) = false := by simpa using he
    rw [if_neg he] at hE
    have hE := Lib.hid hE
    clear he
    go_wp2_with (first|((with_reducible apply wl_ldS hs);infer_instance;rfl;assumption;(with_reducible exact Qh);rfl;(assumption);rfl;rfl;(simp only [Uc,Uz]))|((with_reducible apply wl_ia hs);infer_instance;infer_instance;rfl;rfl;(with_reducible exact Qh);(rfl);(assumption);rfl;intro b off hat;(simp only [Uc,Uz]))|((with_reducible apply wl_len hs);infer_instance;rfl;(with_reducible exact Qh);rfl;(simp only [Uc,Uz])))
    go_roundw
    case rel => exact ⟨n + 1,by omega,by simp,hE.out,by ((with_reducible apply Sat.fin hs);(with_reducible exact Ql))⟩
    case measure => simp [intOf];omega
theorem cen_whose (cs : List Cll) (v : Value) (th mv : Int) (hl : cs.length < 4294967296) (h : ∃ x ∈ cs,x.thread = th ∧ x.begin_ < mv ∧ (x.end_ < 0 ∨ mv ≤ x.end_)) :
  Does Tryz.prog 152 #[v,.int .i64 th,.int .i64 mv] (cslR cs v) (fun u => (ex fun i : Nat => pu (u = .int .i64 (i : Int))) * cslR cs v) := by
 intro O w F hs
 obtain ⟨a0,cap0,rfl⟩ := sl_len (hs.pull (A := cslR cs v) (by (with_reducible exact Qh)))
 simp only [List.length_map] at hs ⊢
 obtain ⟨z,hz,hz1,hz2,hz3⟩ := h
 obtain ⟨j,hj⟩ := List.getElem?_of_mem hz
 have hjl := (List.getElem?_eq_some_iff.1 hj).1
 have hzi : inB z mv = true := by
  simp only [inB,Bool.and_eq_true,Bool.or_eq_true,decide_eq_true_eq]
  exact ⟨hz2,hz3⟩
 clear hz2 hz3 hz
 have hI := Lib.hid cen_in
 have hw0 : wrap64 ((cs.length : Int) - 1) = (cs.length : Int) - 1 := by unfold wrap64;omega
 go_enter Tryz.func152,Tryz.ntmps152
 go_wp2_with ((with_reducible apply wl_len hs);infer_instance;rfl;(with_reducible exact Qh);rfl;(simp only [Uc,Uz]))
 simp only [List.length_map]
 go_loopw [7] (fun q wr => ∃ n : Nat,j ≤ n ∧ n < cs.length ∧ q = .int .i64 (n : Int) ∧ Sat O wr (cslR cs (.slice a0 cs.length cap0) * F)) (fun q _ => (intOf q).toNat)
 case atStart => exact ⟨cs.length - 1,by omega,by omega,by congr 1;omega,by ((with_reducible apply Sat.fin hs);(with_reducible exact Ql))⟩
 case round =>
  obtain ⟨n,k0,k1,rfl,hs⟩ := hrel
  have hge : decide ((n : Int) ≥ 0) = true := by simp
  have hlt2 : decide (n < cs.length) = true := by simpa using k1
  have hln : n < (cs.map Cll.e).length := by simp;omega
  obtain ⟨x,hx⟩ : ∃ x,cs[n]? = some x := ⟨_,List.getElem?_eq_getElem (by omega)⟩
  have hjx : n = j → x = z := by intro e;subst e;rw [hx] at hj;cases hj;rfl
  obtain ⟨c1,c2,c3,c4,c5,c6,c7,c8,c9⟩ := x
  have hw : wrap64 ((n : Int) - 1) = (n : Int) - 1 := by unfold wrap64;omega
  have hgv : (cs.map Cll.e)[n]? = some (Cll.e ⟨c1,c2,c3,c4,c5,c6,c7,c8,c9⟩) := by rw [List.getElem?_map,hx];rfl
  by_cases he : c1 = th ∧ inB ⟨c1,c2,c3,c4,c5,c6,c7,c8,c9⟩ mv = true
  ·obtain ⟨h1,h2⟩ := he
   have h1' : (c1 == th) = true := by simpa using h1
   clear hjx hzi hz1 h1
   go_wp2_with (first|(first|((with_reducible apply wl_ldS0 hs);infer_instance;rfl;assumption;(with_reducible exact Qh);rfl;(assumption);rfl;rfl;(simp only [Uc,Uz]))|((with_reducible apply wl_ldSN (k := 0) hs);infer_instance;rfl;assumption;(with_reducible exact Qh);(exact (Nat.add_zero _).symm);(assumption);(exact Vb rfl);rfl;rfl;(simp only [Uc,Uz]))|((with_reducible apply wl_ia2 hs);infer_instance;infer_instance;rfl;assumption;rfl;(with_reducible exact Qh);(rfl);(assumption);rfl;(simp only [Uc,Uz]))|((with_reducible apply wl_ia hs);infer_instance;infer_instance;rfl;rfl;(with_reducible exact Qh);(rfl);(assumption);rfl;intro b off hat;(simp only [Uc,Uz])))|(go_at_call 125;((refine ((hI.out ⟨c1,c2,c3,c4,c5,c6,c7,c8,c9⟩ mv)).at hs (by (focus ((repeat (with_reducible exact Qn));done))) ?_);clear hs;intro w hs;(try simp only [emp_mul,mul_assoc'] at hs))))
   (go_ret)
   refine ⟨_,rfl,?_⟩
   simp only [sat_ex,mul_assoc',sat_pu]
   exact ⟨n,rfl,by ((with_reducible apply Sat.fin hs);(with_reducible exact Ql))⟩
  ·have hne : n ≠ j := by
    intro e
    have := hjx e
    subst this
    exact he ⟨hz1,hzi⟩
   clear hjx hzi hz1
   by_cases h1 : c1 = th
   ·have h1' : (c1 == th) = true := by simpa using h1
    have h2 : inB ⟨c1,c2,c3,c4,c5,c6,c7,c8,c9⟩ mv = false := by
     cases hh : inB ⟨c1,c2,c3,c4,c5,c6,c7,c8,c9⟩ mv with
     | false => rfl
     | true => exact absurd ⟨h1,hh⟩ he
    clear he h1
    go_wp2_with (first|(first|((with_reducible apply wl_ldS0 hs);infer_instance;rfl;assumption;(with_reducible exact Qh);rfl;(assumption);rfl;rfl;(simp only [Uc,Uz]))|((with_reducible apply wl_ldSN (k := 0) hs);infer_instance;rfl;assumption;(with_reducible exact Qh);(exact (Nat.add_zero _).symm);(assumption);(exact Vb rfl);rfl;rfl;(simp only [Uc,Uz]))|((with_reducible apply wl_ia2 hs);infer_instance;infer_instance;rfl;assumption;rfl;(with_reducible exact Qh);(rfl);(assumption);rfl;(simp only [Uc,Uz]))|((with_reducible apply wl_ia hs);infer_instance;infer_instance;rfl;rfl;(with_reducible exact Qh);(rfl);(assumption);rfl;intro b off hat;(simp only [Uc,Uz])))|(go_at_call 125;((refine ((hI.out ⟨c1,c2,c3,c4,c5,c6,c7,c8,c9⟩ mv)).at hs (by (focus ((repeat (with_reducible exact Qn));done))) ?_);clear hs;intro w hs;(try simp only [emp_mul,mul_assoc'] at hs))))
    go_roundw
    case rel => exact ⟨n - 1,by omega,by omega,by congr 1;omega,by ((with_reducible apply Sat.fin hs);(with_reducible exact Ql))⟩
    case measure => simp [intOf];omega
   ·have h1' : (c1 == th) = false := by simpa using h1
    clear he h1
    go_wp2_with (first|((with_reducible apply wl_ldS0 hs);infer_instance;rfl;assumption;(with_reducible exact Qh);rfl;(assumption);rfl;rfl;(simp only [Uc,Uz]))|((with_reducible apply wl_ia hs);infer_instance;infer_instance;rfl;rfl;(with_reducible exact Qh);(rfl);(assumption);rfl;intro b off hat;(simp only [Uc,Uz])))
    go_roundw
    case rel => exact ⟨n - 1,by omega,by omega,by congr 1;omega,by ((with_reducible apply Sat.fin hs);(with_reducible exact Ql))⟩
    case measure => simp [intOf];omega
theorem cen_place (cs : List Cll) (v : Value) (th mv : Int) (hl : cs.length < 4294967296) (h : PlOk cs th mv) :
  Gives Tryz.prog 143 #[v,.int .i64 th,.int .i64 mv] (cslR cs v) (.bool true) (cslR cs v) := by
 intro O w F hs
 have h1 := Lib.hid (cen_begins cs v mv hl h.beg)
 have h2 := Lib.hid (cen_whose cs v th mv hl h.who)
 have h3 := Lib.hid (cen_ender cs v mv hl)
 have h4 := enderOf_or h.ends
 generalize enderOf cs mv = z at h3 h4
 clear h
 rcases h4 with rfl|rfl
 ·go_enter Tryz.func143,Tryz.ntmps143
  go_wp2_with (first|(go_at_call 151;((refine (h1.out).at hs (by (with_reducible exact Qh)) ?_);clear hs;intro w hs;(try simp only [emp_mul,mul_assoc'] at hs)))|(go_at_call 152;((refine (h2.out).at hs (by (with_reducible exact Qh)) ?_);clear hs;intro v w hs;(try simp only [emp_mul,mul_assoc'] at hs));(simp only [sat_ex,mul_assoc',sat_pu] at hs);(obtain ⟨i,rfl,hs⟩ := hs);(have hi0 : decide ((i : Int) < 0) = false := by simp))|(go_at_call 153;((refine (h3.out).at hs (by (with_reducible exact Qh)) ?_);clear hs;intro w hs;(try simp only [emp_mul,mul_assoc'] at hs))))
  (go_ret)
  exact ⟨rfl,by ((with_reducible apply Sat.fin hs);(with_reducible exact Ql))⟩
 ·by_cases hz : z < 0
  ·have hz : decide (z < 0) = true := by simpa using hz
   go_enter Tryz.func143,Tryz.ntmps143
   go_wp2_with (first|(go_at_call 151;((refine (h1.out).at hs (by (with_reducible exact Qh)) ?_);clear hs;intro w hs;(try simp only [emp_mul,mul_assoc'] at hs)))|(go_at_call 152;((refine (h2.out).at hs (by (with_reducible exact Qh)) ?_);clear hs;intro v w hs;(try simp only [emp_mul,mul_assoc'] at hs));(simp only [sat_ex,mul_assoc',sat_pu] at hs);(obtain ⟨i,rfl,hs⟩ := hs);(have hi0 : decide ((i : Int) < 0) = false := by simp))|(go_at_call 153;((refine (h3.out).at hs (by (with_reducible exact Qh)) ?_);clear hs;intro w hs;(try simp only [emp_mul,mul_assoc'] at hs))))
   (go_ret)
   exact ⟨rfl,by ((with_reducible apply Sat.fin hs);(with_reducible exact Ql))⟩
  ·have hz : decide (z < 0) = false := by simpa using hz
   have hz2 : (z == z) = true := by simp
   go_enter Tryz.func143,Tryz.ntmps143
   go_wp2_with (first|(go_at_call 151;((refine (h1.out).at hs (by (with_reducible exact Qh)) ?_);clear hs;intro w hs;(try simp only [emp_mul,mul_assoc'] at hs)))|(go_at_call 152;((refine (h2.out).at hs (by (with_reducible exact Qh)) ?_);clear hs;intro v w hs;(try simp only [emp_mul,mul_assoc'] at hs));(simp only [sat_ex,mul_assoc',sat_pu] at hs);(obtain ⟨i,rfl,hs⟩ := hs);(have hi0 : decide ((i : Int) < 0) = false := by simp))|(go_at_call 153;((refine (h3.out).at hs (by (with_reducible exact Qh)) ?_);clear hs;intro w hs;(try simp only [emp_mul,mul_assoc'] at hs))))
   (go_ret)
   exact ⟨rfl,by ((with_reducible apply Sat.fin hs);(with_reducible exact Ql))⟩
end Go.Proofs.YtegafhhdegnigaaGreat
