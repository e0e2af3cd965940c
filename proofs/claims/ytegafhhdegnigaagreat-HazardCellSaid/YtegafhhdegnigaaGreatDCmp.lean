/-
  The census: the calls' ends.
-/
import Derived.Test.YtegafhhdegnigaaGreatDCen
import Derived.Test.YtegafhhdegnigaaGreatDHaz2
import Derived.Test.YtegafhhdegnigaaGreatDNew3
import Derived.Lib.Hide
set_option linter.all false
section
namespace Go.Proofs.YtegafhhdegnigaaGreat
open Go.RowKit Hp
set_option maxRecDepth 100000
set_option maxHeartbeats 2000000
attribute [local irreducible] Go.Calls
abbrev eB (b : Bool) : List Value := [.bool b]
theorem mem_take {α : Type} {xs : List α} {k : Nat} {x : α} (h : x ∈ xs.take k) : ∃ j,j < k ∧ xs[j]? = some x := by
 obtain ⟨j,hj⟩ := List.getElem?_of_mem h
 rw [List.getElem?_take] at hj
 split at hj
 ·exact ⟨j,by assumption,hj⟩
 ·cases hj
theorem take_mem {α : Type} {xs : List α} {j k : Nat} {x : α} (h : j < k) (hj : xs[j]? = some x) : x ∈ xs.take k := by
 apply List.mem_of_getElem? (i := j)
 rw [List.getElem?_take,if_pos h];exact hj
theorem mem_take_succ {α : Type} {xs : List α} {k : Nat} {x z : α} (hz : xs[k]? = some z) (h : x ∈ xs.take (k + 1)) : x ∈ xs.take k ∨ x = z := by
 rw [List.take_add_one,hz] at h
 rcases List.mem_append.1 h with h|h
 ·exact .inl h
 ·simp at h;exact .inr h
theorem cen_ends (cs : List Cll) (v : Value) (n : Int) (hn : n ≤ 65536) (hl : cs.length < 4294967296) (h0 : ∀ x ∈ cs,(0 ≤ x.begin_ ∧ x.begin_ < n) ∧ (x.end_ = -1 ∨ 0 ≤ x.end_ ∧ x.end_ < n))
  (hb : Pw (fun x z => x.begin_ < z.begin_) cs) (he : Pw (fun x z => x.end_ ≠ -1 → x.end_ ≠ z.end_) cs) (hbe : ∀ x ∈ cs,∀ z ∈ cs,x.end_ ≠ z.begin_) :
  Gives Tryz.prog 142 #[v] (cslR cs v) (.bool true) (cslR cs v) := by
 intro O w F hs
 obtain ⟨a0,cap0,rfl⟩ := sl_len (hs.pull (A := cslR cs v) (by (with_reducible exact Qh)))
 simp only [List.length_map] at hs ⊢
 have h0 := Lib.hid h0
 have hb := Lib.hid hb
 have he := Lib.hid he
 have hbe := Lib.hid hbe
 go_enter Tryz.func142,Tryz.ntmps142
 (repeat' (go_step))
 go_loopw [3,4] (fun tp q wr => ∃ (k z : Nat),k ≤ cs.length ∧ q = .int .i64 (k : Int) ∧ tp = .int .i64 (z : Int) ∧ z ≤ 65536 ∧ Hid (∀ x ∈ cs.take k,x.begin_ ≤ (z : Int) ∧ x.end_ ≤ (z : Int)) ∧ Sat O wr (cslR cs (.slice a0 cs.length cap0) * F)) (fun _ q _ => cs.length + 1 - (intOf q).toNat)
 case atStart => exact ⟨0,0,by omega,rfl,rfl,by omega,Lib.hid (by simp),by ((with_reducible apply Sat.fin hs);(with_reducible exact Ql))⟩
 case round =>
  obtain ⟨k,z,k1,rfl,rfl,z1,hz,hs⟩ := hrel
  by_cases hkr : k = cs.length
  ·subst hkr
   have hlt : decide ((cs.length : Int) < (cs.length : Int)) = false := by simp
   have hz2 : decide ((z : Int) ≤ 262144) = true := by simp;omega
   have hw : wrap64 ((z : Int) + 1) = (z : Int) + 1 := by unfold wrap64;omega
   have hz3 : z + 1 ≤ 4294967296 := by omega
   rw [List.take_length] at hz
   (repeat' (first|(go_big_may;(first|((with_reducible apply wl_len hs);infer_instance;rfl;(with_reducible exact Qh);rfl;(simp only [Uc,Uz]))|((with_reducible apply wl_mk hs);infer_instance;infer_instance;rfl;rfl;rfl;rfl;(rfl);omega;(exact Vb rfl);rfl;clear hs;intro w v hs;(simp only [Uc,Uz]))))|go_step))
   obtain ⟨a5,c5,rfl⟩ := sl_len (hs.pull (A := sl 4 1 _ v) (by (with_reducible exact Qh)))
   simp only [List.length_replicate,List.length_map] at hs ⊢
   go_loopw [6] (fun q wr => ∃ (k : Nat) (bs : List Bool),k ≤ cs.length ∧ q = .int .i64 (k : Int) ∧ bs.length = z + 1 ∧ Hid (∀ j : Nat,bs[j]? = some true → ∃ x ∈ cs.take k,x.begin_ = (j : Int) ∨ x.end_ = (j : Int)) ∧
    Sat O wr (sl 4 1 (bs.map eB) (.slice a5 (z + 1) c5) * (cslR cs (.slice a0 cs.length cap0) * F))) (fun q _ => cs.length + 1 - (intOf q).toNat)
   case atStart =>
    refine ⟨0,List.replicate (z + 1) false,by omega,rfl,by simp,Lib.hid (fun j hj => ?_),by rw [List.map_replicate];((with_reducible apply Sat.fin hs);(focus ((repeat (first|with_reducible exact Ql|with_reducible apply Qb|exact Qh));done)))⟩
    have := (List.mem_replicate.1 (List.mem_of_getElem? hj)).2
    cases this
   case round =>
    obtain ⟨k,bs,k1,rfl,hbl,hbs,hs⟩ := hrel
    by_cases hkr : k = cs.length
    ·subst hkr
     have hlt : decide ((cs.length : Int) < (cs.length : Int)) = false := by simp
     (repeat' (first|(go_big_may;((with_reducible apply wl_len hs);infer_instance;rfl;(focus with_reducible (repeat first|exact Qh|apply Qk);done);rfl;(simp only [Uc,Uz])))|go_step))
     (go_ret)
     exact ⟨rfl,by ((with_reducible apply Sat.fin hs);(focus with_reducible (repeat first|exact Ql|exact Qh|apply Qb|apply Qk);done))⟩
    ·have hlt : decide ((k : Int) < (cs.length : Int)) = true := by simp;omega
     have hlt2 : decide (k < cs.length) = true := by simp;omega
     have hln : k < (cs.map Cll.e).length := by simp;omega
     obtain ⟨x,hx⟩ : ∃ x,cs[k]? = some x := ⟨_,List.getElem?_eq_getElem (by omega)⟩
     obtain ⟨⟨x1,x2⟩,x3⟩ := h0.out x (List.mem_of_getElem? hx)
     obtain ⟨x4,x5⟩ := hz.out x (List.mem_of_getElem? hx)
     have hnB : ∀ j : Nat,(j : Int) = x.begin_ → bs[j]? = some false := by
      intro j hj
      have hjl : j < bs.length := by omega
      cases hg : bs[j]'hjl with
      | false => rw [List.getElem?_eq_getElem hjl,hg]
      | true =>
       obtain ⟨y,hy,hy2⟩ := hbs.out j (by rw [List.getElem?_eq_getElem hjl,hg])
       obtain ⟨i,hi,hy⟩ := mem_take hy
       rcases hy2 with hy2|hy2
       ·have := hb.out i k y x hi hy hx;omega
       ·exact absurd (hy2.trans hj) (hbe.out y (List.mem_of_getElem? hy) x (List.mem_of_getElem? hx))
     have hnE : ∀ j : Nat,(j : Int) = x.end_ → x.end_ ≠ -1 → (bs.set x.begin_.toNat true)[j]? = some false := by
      intro j hj hne
      have hjl : j < bs.length := by omega
      have hjb : x.begin_.toNat ≠ j := by
       intro e
       exact hbe.out x (List.mem_of_getElem? hx) x (List.mem_of_getElem? hx) (by omega)
      rw [List.getElem?_set_ne hjb]
      cases hg : bs[j]'hjl with
      | false => rw [List.getElem?_eq_getElem hjl,hg]
      | true =>
       obtain ⟨y,hy,hy2⟩ := hbs.out j (by rw [List.getElem?_eq_getElem hjl,hg])
       obtain ⟨i,hi,hy⟩ := mem_take hy
       rcases hy2 with hy2|hy2
       ·exact absurd (hj.symm.trans hy2.symm) (hbe.out x (List.mem_of_getElem? hx) y (List.mem_of_getElem? hy))
       ·exact absurd (hy2.trans hj) (he.out i k y x hi hy hx (by omega))
     have hold : ∀ (bs' : List Bool),(∀ j : Nat,bs'[j]? = some true → bs[j]? = some true ∨ (j : Int) = x.begin_ ∨ (j : Int) = x.end_) → ∀ j : Nat,bs'[j]? = some true → ∃ x ∈ cs.take (k + 1),x.begin_ = (j : Int) ∨ x.end_ = (j : Int) := by
      intro bs' h j hj
      rcases h j hj with h|h|h
      ·obtain ⟨y,hy,hy2⟩ := hbs.out j h
       obtain ⟨i,hi,hy⟩ := mem_take hy
       exact ⟨y,take_mem (by omega) hy,hy2⟩
      ·exact ⟨x,take_mem (by omega) hx,.inl h.symm⟩
      ·exact ⟨x,take_mem (by omega) hx,.inr h.symm⟩
     obtain ⟨c1,c2,c3,c4,c5,c6,c7,c8,c9⟩ := x
     simp only [] at x1 x2 x3 x4 x5 hnB hnE hold
     obtain ⟨B,rfl⟩ : ∃ B : Nat,c5 = (B : Int) := ⟨c5.toNat,by omega⟩
     have hB := hnB B rfl
     simp only [Int.toNat_natCast] at hnE
     have hBl : B < bs.length := (List.getElem?_eq_some_iff.1 hB).1
     have hBl2 : B < (bs.map eB).length := by simp;exact hBl
     have hBl3 : decide (B < bs.length) = true := by simpa using hBl
     have hBg : (bs.map eB)[B]? = some [.bool false] := by rw [List.getElem?_map,hB];rfl
     have hw : wrap64 ((k : Int) + 1) = (k : Int) + 1 := by unfold wrap64;omega
     have hgv : (cs.map Cll.e)[k]? = some (Cll.e ⟨c1,c2,c3,c4,(B : Int),c6,c7,c8,c9⟩) := by rw [List.getElem?_map,hx];rfl
     have set_or : ∀ (l : List Bool) (i j : Nat),(l.set i true)[j]? = some true → l[j]? = some true ∨ j = i := by
      intro l i j hj
      by_cases e : j = i
      ·exact .inr e
      ·rw [List.getElem?_set_ne (Ne.symm e)] at hj;exact .inl hj
     by_cases hE : c6 = -1
     ·subst hE
      have hge : decide ((-1 : Int) ≥ 0) = false := rfl
      have hold := Lib.hid (hold (bs.set B true) (fun j hj => by rcases set_or _ _ _ hj with h|h;exact .inl h;exact .inr (.inl (by omega))))
      have hbl := Lib.hid hbl
      clear hnE hnB x1 x2 x3 x4 x5 set_or hB hBl
      (repeat' (first|(go_big_may;(first|((with_reducible apply wl_ldS hs);infer_instance;rfl;assumption;(focus with_reducible (repeat first|exact Qh|apply Qk);done);rfl;(assumption);rfl;rfl;(simp only [Uc,Uz]))|((with_reducible apply wl_ldS0 hs);infer_instance;rfl;assumption;(with_reducible exact Qh);rfl;(assumption);rfl;rfl;(simp only [Uc,Uz]))|((with_reducible apply wl_stS0 hs);infer_instance;rfl;rfl;assumption;(with_reducible exact Qh);rfl;(assumption);(exact Vb rfl);(rfl);rfl;clear hs;intro w hs)|((with_reducible apply wl_ia2 hs);infer_instance;infer_instance;rfl;assumption;rfl;(focus with_reducible (repeat first|exact Qh|apply Qk);done);(rfl);(assumption);rfl;(simp only [Uc,Uz]))|((with_reducible apply wl_ia hs);infer_instance;infer_instance;rfl;rfl;(focus with_reducible (repeat first|exact Qh|apply Qk);done);(rfl);(assumption);rfl;intro b off hat;(simp only [Uc,Uz]))|((with_reducible apply wl_len hs);infer_instance;rfl;(focus with_reducible (repeat first|exact Qh|apply Qk);done);rfl;(simp only [Uc,Uz]))))|go_step))
      go_roundw
      case rel => exact ⟨k + 1,bs.set B true,by omega,by simp,by simp [hbl.out],hold,by rw [List.map_set];((with_reducible apply Sat.fin hs);(focus ((repeat (first|with_reducible exact Ql|with_reducible apply Qb|exact Qh));done)))⟩
      case measure => simp [intOf];omega
     ·obtain ⟨E,rfl⟩ : ∃ E : Nat,c6 = (E : Int) := ⟨c6.toNat,by omega⟩
      have hge : decide ((E : Int) ≥ 0) = true := by simp
      have hEg := hnE E rfl hE
      have hEl : E < (bs.set B true).length := (List.getElem?_eq_some_iff.1 hEg).1
      have hEl2 : E < ((bs.map eB).set B [.bool true]).length := by simp at hEl ⊢;exact hEl
      have hEl3 : decide (E < bs.length) = true := by simpa using hEl
      have hEg2 : ((bs.map eB).set B [.bool true])[E]? = some [.bool false] := by
       have : ((bs.set B true).map eB)[E]? = some [.bool false] := by rw [List.getElem?_map,hEg];rfl
       rw [List.map_set] at this
       exact this
      have hold := Lib.hid (hold ((bs.set B true).set E true) (fun j hj => by
       rcases set_or _ _ _ hj with h|h
       ·rcases set_or _ _ _ h with h|h
        ·exact .inl h
        ·exact .inr (.inl (by omega))
       ·exact .inr (.inr (by omega))))
      have hbl := Lib.hid hbl
      clear hnE hnB x1 x2 x3 x4 x5 set_or hE hEg hEl hB hBl
      (repeat' (first|(go_big_may;(first|((with_reducible apply wl_ldS hs);infer_instance;rfl;assumption;(focus with_reducible (repeat first|exact Qh|apply Qk);done);rfl;(assumption);rfl;rfl;(simp only [Uc,Uz]))|((with_reducible apply wl_ldS0 hs);infer_instance;rfl;assumption;(with_reducible exact Qh);rfl;(assumption);rfl;rfl;(simp only [Uc,Uz]))|((with_reducible apply wl_stS0 hs);infer_instance;rfl;rfl;assumption;(with_reducible exact Qh);rfl;(assumption);(exact Vb rfl);(rfl);rfl;clear hs;intro w hs)|((with_reducible apply wl_ia2 hs);infer_instance;infer_instance;rfl;assumption;rfl;(focus with_reducible (repeat first|exact Qh|apply Qk);done);(rfl);(assumption);rfl;(simp only [Uc,Uz]))|((with_reducible apply wl_ia hs);infer_instance;infer_instance;rfl;rfl;(focus with_reducible (repeat first|exact Qh|apply Qk);done);(rfl);(assumption);rfl;intro b off hat;(simp only [Uc,Uz]))|((with_reducible apply wl_len hs);infer_instance;rfl;(focus with_reducible (repeat first|exact Qh|apply Qk);done);rfl;(simp only [Uc,Uz]))))|go_step))
      go_roundw
      case rel => exact ⟨k + 1,(bs.set B true).set E true,by omega,by simp,by simp [hbl.out],hold,by rw [List.map_set,List.map_set];((with_reducible apply Sat.fin hs);(focus ((repeat (first|with_reducible exact Ql|with_reducible apply Qb|exact Qh));done)))⟩
      case measure => simp [intOf];omega
  ·have hlt : decide ((k : Int) < (cs.length : Int)) = true := by simp;omega
   have hlt2 : decide (k < cs.length) = true := by simp;omega
   have hln : k < (cs.map Cll.e).length := by simp;omega
   obtain ⟨x,hx⟩ : ∃ x,cs[k]? = some x := ⟨_,List.getElem?_eq_getElem (by omega)⟩
   obtain ⟨⟨x1,x2⟩,x3⟩ := h0.out x (List.mem_of_getElem? hx)
   have hnew : ∀ z' : Nat,z ≤ z' → x.begin_ ≤ (z' : Int) → x.end_ ≤ (z' : Int) → ∀ y ∈ cs.take (k + 1),y.begin_ ≤ (z' : Int) ∧ y.end_ ≤ (z' : Int) := by
    intro z' h1 h2 h3 y hy
    rcases mem_take_succ hx hy with hy|rfl
    ·have := hz.out y hy;omega
    ·exact ⟨h2,h3⟩
   obtain ⟨c1,c2,c3,c4,c5,c6,c7,c8,c9⟩ := x
   simp only [] at x1 x2 x3 hnew
   obtain ⟨B,rfl⟩ : ∃ B : Nat,c5 = (B : Int) := ⟨c5.toNat,by omega⟩
   have hw : wrap64 ((k : Int) + 1) = (k : Int) + 1 := by unfold wrap64;omega
   have hgv : (cs.map Cll.e)[k]? = some (Cll.e ⟨c1,c2,c3,c4,(B : Int),c6,c7,c8,c9⟩) := by rw [List.getElem?_map,hx];rfl
   by_cases e1 : c6 > (z : Int)
   ·obtain ⟨E,rfl⟩ : ∃ E : Nat,c6 = (E : Int) := ⟨c6.toNat,by omega⟩
    have f1 : decide ((E : Int) > (z : Int)) = true := by simp;omega
    have f1' : decide (z < E) = true := by simp;omega
    by_cases e2 : (B : Int) > (E : Int)
    ·have f2 : decide ((B : Int) > (E : Int)) = true := by simp;omega
     have f2' : decide (E < B) = true := by simp;omega
     have hnew := Lib.hid (hnew B (by omega) (by omega) (by omega))
     have hB := Lib.hid (show B ≤ 65536 by omega)
     clear e1 e2 x1 x2 x3
     (repeat' (first|(go_big_may;(first|((with_reducible apply wl_ldS hs);infer_instance;rfl;assumption;(with_reducible exact Qh);rfl;(assumption);rfl;rfl;(simp only [Uc,Uz]))|((with_reducible apply wl_ia2 hs);infer_instance;infer_instance;rfl;assumption;rfl;(with_reducible exact Qh);(rfl);(assumption);rfl;(simp only [Uc,Uz]))|((with_reducible apply wl_ia hs);infer_instance;infer_instance;rfl;rfl;(with_reducible exact Qh);(rfl);(assumption);rfl;intro b off hat;(simp only [Uc,Uz]))|((with_reducible apply wl_len hs);infer_instance;rfl;(with_reducible exact Qh);rfl;(simp only [Uc,Uz]))))|go_step))
     go_roundw
     case rel => exact ⟨k + 1,B,by omega,by simp,rfl,hB.out,hnew,by ((with_reducible apply Sat.fin hs);(with_reducible exact Ql))⟩
     case measure => simp [intOf];omega
    ·have f2 : decide ((B : Int) > (E : Int)) = false := by simp;omega
     have f2' : decide (E < B) = false := by simp;omega
     have hnew := Lib.hid (hnew E (by omega) (by omega) (by omega))
     have hB := Lib.hid (show E ≤ 65536 by omega)
     clear e1 e2 x1 x2 x3
     (repeat' (first|(go_big_may;(first|((with_reducible apply wl_ldS hs);infer_instance;rfl;assumption;(with_reducible exact Qh);rfl;(assumption);rfl;rfl;(simp only [Uc,Uz]))|((with_reducible apply wl_ia2 hs);infer_instance;infer_instance;rfl;assumption;rfl;(with_reducible exact Qh);(rfl);(assumption);rfl;(simp only [Uc,Uz]))|((with_reducible apply wl_ia hs);infer_instance;infer_instance;rfl;rfl;(with_reducible exact Qh);(rfl);(assumption);rfl;intro b off hat;(simp only [Uc,Uz]))|((with_reducible apply wl_len hs);infer_instance;rfl;(with_reducible exact Qh);rfl;(simp only [Uc,Uz]))))|go_step))
     go_roundw
     case rel => exact ⟨k + 1,E,by omega,by simp,rfl,hB.out,hnew,by ((with_reducible apply Sat.fin hs);(with_reducible exact Ql))⟩
     case measure => simp [intOf];omega
   ·have f1 : decide (c6 > (z : Int)) = false := by simp;omega
    by_cases e2 : (B : Int) > (z : Int)
    ·have f2 : decide ((B : Int) > (z : Int)) = true := by simp;omega
     have f2' : decide (z < B) = true := by simp;omega
     have hnew := Lib.hid (hnew B (by omega) (by omega) (by omega))
     have hB := Lib.hid (show B ≤ 65536 by omega)
     clear e1 e2 x1 x2 x3
     (repeat' (first|(go_big_may;(first|((with_reducible apply wl_ldS hs);infer_instance;rfl;assumption;(with_reducible exact Qh);rfl;(assumption);rfl;rfl;(simp only [Uc,Uz]))|((with_reducible apply wl_ia2 hs);infer_instance;infer_instance;rfl;assumption;rfl;(with_reducible exact Qh);(rfl);(assumption);rfl;(simp only [Uc,Uz]))|((with_reducible apply wl_ia hs);infer_instance;infer_instance;rfl;rfl;(with_reducible exact Qh);(rfl);(assumption);rfl;intro b off hat;(simp only [Uc,Uz]))|((with_reducible apply wl_len hs);infer_instance;rfl;(with_reducible exact Qh);rfl;(simp only [Uc,Uz]))))|go_step))
     go_roundw
     case rel => exact ⟨k + 1,B,by omega,by simp,rfl,hB.out,hnew,by ((with_reducible apply Sat.fin hs);(with_reducible exact Ql))⟩
     case measure => simp [intOf];omega
    ·have f2 : decide ((B : Int) > (z : Int)) = false := by simp;omega
     have f2' : decide (z < B) = false := by simp;omega
     have hnew := Lib.hid (hnew z (by omega) (by omega) (by omega))
     have hB := Lib.hid (show z ≤ 65536 by omega)
     clear e1 e2 x1 x2 x3
     (repeat' (first|(go_big_may;(first|((with_reducible apply wl_ldS hs);infer_instance;rfl;assumption;(with_reducible exact Qh);rfl;(assumption);rfl;rfl;(simp only [Uc,Uz]))|((with_reducible apply wl_ia2 hs);infer_instance;infer_instance;rfl;assumption;rfl;(with_reducible exact Qh);(rfl);(assumption);rfl;(simp only [Uc,Uz]))|((with_reducible apply wl_ia hs);infer_instance;infer_instance;rfl;rfl;(with_reducible exact Qh);(rfl);(assumption);rfl;intro b off hat;(simp only [Uc,Uz]))|((with_reducible apply wl_len hs);infer_instance;rfl;(with_reducible exact Qh);rfl;(simp only [Uc,Uz]))))|go_step))
     go_roundw
     case rel => exact ⟨k + 1,z,by omega,by simp,rfl,hB.out,hnew,by ((with_reducible apply Sat.fin hs);(with_reducible exact Ql))⟩
     case measure => simp [intOf];omega
end Go.Proofs.YtegafhhdegnigaaGreat
end
/-
  Comparisons of integers whose outcome is known: by laws, not by the walk's own means.
-/
section
namespace Go.Proofs.YtegafhhdegnigaaGreat
open Go.RowKit
namespace Hp
section
variable {P : Program} {ops : Array Oper} {Q : Exit → Act → World → Prop} {w : World} {rest : List Oper} {l : List Value} {ds : List Deferred} {T T' ty : TypeId} {pos : String} {after : Array Edge} {gd : Option (Nat × Bool)} {d : Nat} {x y : Operand} {K : IntKind} {a b : Int} {r : Bool}
theorem wl_neqC (hx : ev l x = some (.int K a)) (hy : ev l y = some (.int K b)) (hr : (a != b) = r)
  (hg : Region.wanted { dst := some d,op := .binOp .neq T x y T',type := ty,pos,after,guard := gd } (yielded ops l.toArray) = true)
  (kk : wpList P ops Q rest ⟨(l.set d (.bool r)).toArray,ds⟩ w) :
  wpList P ops Q ({ dst := some d,op := .binOp .neq T x y T',type := ty,pos,after,guard := gd } :: rest) ⟨l.toArray,ds⟩ w := by
 refine wl_val (v := .bool r) (w' := w) hg ?_ (put_set ▸ kk)
 have h1 := ev_eval (ds := ds) hx
 have h2 := ev_eval (ds := ds) hy
 subst hr
 simp [execOp,h1,h2,binOp,Op.intCmp,eqGuard]
theorem wl_eqlC (hx : ev l x = some (.int K a)) (hy : ev l y = some (.int K b)) (hr : (a == b) = r)
  (hg : Region.wanted { dst := some d,op := .binOp .eql T x y T',type := ty,pos,after,guard := gd } (yielded ops l.toArray) = true)
  (kk : wpList P ops Q rest ⟨(l.set d (.bool r)).toArray,ds⟩ w) :
  wpList P ops Q ({ dst := some d,op := .binOp .eql T x y T',type := ty,pos,after,guard := gd } :: rest) ⟨l.toArray,ds⟩ w := by
 refine wl_val (v := .bool r) (w' := w) hg ?_ (put_set ▸ kk)
 have h1 := ev_eval (ds := ds) hx
 have h2 := ev_eval (ds := ds) hy
 subst hr
 simp [execOp,h1,h2,binOp,Op.intCmp,eqGuard]
theorem wl_lssC (hx : ev l x = some (.int K a)) (hy : ev l y = some (.int K b)) (hr : decide (a < b) = r)
  (hg : Region.wanted { dst := some d,op := .binOp .lss T x y T',type := ty,pos,after,guard := gd } (yielded ops l.toArray) = true)
  (kk : wpList P ops Q rest ⟨(l.set d (.bool r)).toArray,ds⟩ w) :
  wpList P ops Q ({ dst := some d,op := .binOp .lss T x y T',type := ty,pos,after,guard := gd } :: rest) ⟨l.toArray,ds⟩ w := by
 refine wl_val (v := .bool r) (w' := w) hg ?_ (put_set ▸ kk)
 have h1 := ev_eval (ds := ds) hx
 have h2 := ev_eval (ds := ds) hy
 subst hr
 simp [execOp,h1,h2,binOp,Op.intCmp,eqGuard]
theorem wl_leqC (hx : ev l x = some (.int K a)) (hy : ev l y = some (.int K b)) (hr : decide (a ≤ b) = r)
  (hg : Region.wanted { dst := some d,op := .binOp .leq T x y T',type := ty,pos,after,guard := gd } (yielded ops l.toArray) = true)
  (kk : wpList P ops Q rest ⟨(l.set d (.bool r)).toArray,ds⟩ w) :
  wpList P ops Q ({ dst := some d,op := .binOp .leq T x y T',type := ty,pos,after,guard := gd } :: rest) ⟨l.toArray,ds⟩ w := by
 refine wl_val (v := .bool r) (w' := w) hg ?_ (put_set ▸ kk)
 have h1 := ev_eval (ds := ds) hx
 have h2 := ev_eval (ds := ds) hy
 subst hr
 simp [execOp,h1,h2,binOp,Op.intCmp,eqGuard]
theorem wl_gtrC (hx : ev l x = some (.int K a)) (hy : ev l y = some (.int K b)) (hr : decide (a > b) = r)
  (hg : Region.wanted { dst := some d,op := .binOp .gtr T x y T',type := ty,pos,after,guard := gd } (yielded ops l.toArray) = true)
  (kk : wpList P ops Q rest ⟨(l.set d (.bool r)).toArray,ds⟩ w) :
  wpList P ops Q ({ dst := some d,op := .binOp .gtr T x y T',type := ty,pos,after,guard := gd } :: rest) ⟨l.toArray,ds⟩ w := by
 refine wl_val (v := .bool r) (w' := w) hg ?_ (put_set ▸ kk)
 have h1 := ev_eval (ds := ds) hx
 have h2 := ev_eval (ds := ds) hy
 subst hr
 simp [execOp,h1,h2,binOp,Op.intCmp,eqGuard]
theorem wl_geqC (hx : ev l x = some (.int K a)) (hy : ev l y = some (.int K b)) (hr : decide (a ≥ b) = r)
  (hg : Region.wanted { dst := some d,op := .binOp .geq T x y T',type := ty,pos,after,guard := gd } (yielded ops l.toArray) = true)
  (kk : wpList P ops Q rest ⟨(l.set d (.bool r)).toArray,ds⟩ w) :
  wpList P ops Q ({ dst := some d,op := .binOp .geq T x y T',type := ty,pos,after,guard := gd } :: rest) ⟨l.toArray,ds⟩ w := by
 refine wl_val (v := .bool r) (w' := w) hg ?_ (put_set ▸ kk)
 have h1 := ev_eval (ds := ds) hx
 have h2 := ev_eval (ds := ds) hy
 subst hr
 simp [execOp,h1,h2,binOp,Op.intCmp,eqGuard]
theorem wl_mvB {z : Value} (hx : ev l x = some z)
  (hg : Region.wanted { dst := some d,op := .move x,type := ty,pos,after,guard := gd } (yielded ops l.toArray) = true)
  (kk : wpList P ops Q rest ⟨(l.set d z).toArray,ds⟩ w) :
  wpList P ops Q ({ dst := some d,op := .move x,type := ty,pos,after,guard := gd } :: rest) ⟨l.toArray,ds⟩ w := by
 refine wl_val (v := z) (w' := w) hg ?_ (put_set ▸ kk)
 have h1 := ev_eval (ds := ds) hx
 simp [execOp,h1]
end
end Hp
end Go.Proofs.YtegafhhdegnigaaGreat
end
