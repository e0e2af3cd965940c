/-
  The census: the slots' states, counted from the shifts.
-/
import Derived.Test.YtegafhhdegnigaaGreatDCen
import Derived.Test.YtegafhhdegnigaaGreatDHaz2
import Derived.Test.YtegafhhdegnigaaGreatDSame
set_option linter.all false
namespace Go.Proofs.YtegafhhdegnigaaGreat
open Go.RowKit Hp
set_option maxRecDepth 100000
set_option maxHeartbeats 8000000
attribute [local irreducible] Go.Calls
abbrev stR (l : List Int) (v : Value) : SProp := sl 125 1 (l.map eI) v
abbrev hoR (l : List Int) (v : Value) : SProp := sl 3 1 (l.map eI) v
abbrev Shf.v (x : Shf) : Value := .agg (Shf.e x).toArray
theorem cen_begin (c : Cfg) (hok : c.Ok) : Does Tryz.prog 82 #[c.v,.int .i64 0] emp (fun u => ex fun v1 => ex fun v2 => pu (u = .tuple #[v1,v2]) * (stR (List.replicate c.Sl.toNat 0) v1 * hoR (List.replicate c.Sl.toNat (-1)) v2)) := by
 intro O w F hs
 have hS1 := hok.S1
 have hS2 := hok.S2
 obtain ⟨S0,hS0⟩ : ∃ S0 : Nat,c.Sl = (S0 : Int) := ⟨c.Sl.toNat,by omega⟩
 have hSn : c.Sl.toNat = S0 := by omega
 rw [hSn]
 obtain ⟨c1,c2,c3,c4,c5,c6,c7⟩ := c
 simp only [] at hS0 hS1 hS2
 subst hS0
 have hSl : S0 ≤ 1024 := by omega
 clear hok hSn hS1 hS2
 have hs := sl_nil (E := 125) (sz := 1) hs (by omega)
 have hs := sl_nil (E := 3) (sz := 1) hs (by omega)
 go_enter Tryz.func82,Tryz.ntmps82
 (repeat' (first|(go_big_may;((with_reducible apply wl_box hs);rfl;rfl;rfl;clear hs;intro w b hs;(simp only [Uc,Uz])))|go_step))
 obtain ⟨bC,hbC⟩ : ∃ x,x = b := ⟨_,rfl⟩
 subst hbC
 go_loopw [6,7,8] (fun v1 v2 q wr => ∃ n : Nat,n ≤ S0 ∧ q = .int .i64 (n : Int) ∧ Sat O wr (stR (List.replicate n 0) v1 * (hoR (List.replicate n (-1)) v2 * (pt bC (.cells #[.int .i64 c1,.int .i64 c2,.int .i64 c3,.int .i64 c4,.int .i64 c5,.int .i64 (S0 : Int),.int .i64 c7] 23) * F)))) (fun _ _ q _ => S0 + 1 - (intOf q).toNat)
 case atStart => exact ⟨0,by omega,rfl,by simp only [List.replicate_zero,List.map_nil];((with_reducible apply Sat.fin hs);(focus ((repeat (first|with_reducible exact Ql|with_reducible exact Qh|with_reducible apply Qb|exact Qh|with_reducible apply Qk));done)))⟩
 case round =>
  obtain ⟨n,kn,rfl,hs⟩ := hrel
  have hnl : (List.replicate n (0 : Int)).length < 4294967296 := by simp;omega
  have hnl2 : (List.replicate n (-1 : Int)).length < 4294967296 := by simp;omega
  by_cases hkr : n = S0
  ·have hkr := hkr.symm
   subst hkr
   have hlt : decide ((S0 : Int) < (S0 : Int)) = false := by simp
   (repeat' (first|(go_big_may;((with_reducible apply wl_ld hs);infer_instance;rfl;(focus with_reducible (repeat first|exact Qh|apply Qk);done);rfl;rfl;(simp only [Uc,Uz])))|go_step))
   (go_ret2)
   refine ⟨_,rfl,?_⟩
   simp only [sat_ex,mul_assoc',sat_pu]
   exact ⟨_,_,rfl,by ((with_reducible apply Sat.fin hs);(focus ((repeat (first|with_reducible exact Ql|with_reducible apply Qb|exact Qh|with_reducible apply Qk));done)))⟩
  ·have hlt : decide ((n : Int) < (S0 : Int)) = true := by simp;omega
   have hlt2 : decide (n < S0) = true := by simp;omega
   have hn0 : decide ((n : Int) < 0) = false := by simp
   have hnL := Lib.hid (show n < S0 by omega)
   have e1 : Hid (List.replicate (n + 1) (0 : Int) = List.replicate n 0 ++ [0]) := Lib.hid List.replicate_succ'
   have e2 : Hid (List.replicate (n + 1) (-1 : Int) = List.replicate n (-1) ++ [-1]) := Lib.hid List.replicate_succ'
   clear hkr
   generalize List.replicate n (0 : Int) = l1 at *
   generalize List.replicate n (-1 : Int) = l2 at *
   (repeat' (first|(go_big_may;(first|((with_reducible apply wl_ld hs);infer_instance;rfl;(focus with_reducible (repeat first|exact Qh|apply Qk);done);rfl;rfl;(simp only [Uc,Uz]))|((with_reducible apply wl_bs hs);infer_instance;infer_instance;rfl;rfl;rfl;rfl;(exact Vb rfl);rfl;clear hs;intro w v hs;(simp only [Uc,Uz]))|((with_reducible apply wl_app hs);infer_instance;infer_instance;rfl;rfl;(focus with_reducible (repeat first|exact Qh|apply Qk);done);(with_reducible exact Qh);(simp only [Wm,Ws,Wa,Wc,Wn,Wr] at *;omega);(exact Vb rfl);rfl;clear hs;intro w v hs;(simp only [Uc,Uz]))))|go_step))
   go_roundw
   case rel => exact ⟨n + 1,(by have := hnL.out;omega),by simp,by rw [e1.out,e2.out];simp only [stR,hoR];((try simp only [List.map_append,List.map_cons,List.map_nil,List.map_set,List.set_set]);(try simp only [List.map_append,List.map_cons,List.map_nil,List.map_set,List.set_set] at hs);((with_reducible apply Sat.fin hs);(focus with_reducible (repeat first|exact Ql|exact Qh|apply Qb|apply Qk);done)))⟩
   case measure => have := hnL.out;simp [intOf];omega
def putS (l : List Int) (x : Shf) : List Int := l.set x.slot.toNat x.to
def putH (l : List Int) (x : Shf) : List Int := l.set x.slot.toNat (if x.to = 0 ∨ x.to = 3 then -1 else x.thread)
theorem cen_put (l1 l2 : List Int) (x : Shf) (v1 v2 : Value) (i : Nat) (hi : x.slot = (i : Int)) (h1 : i < l1.length) (h2 : i < l2.length) (hl1 : l1.length < 4294967296) (hl2 : l2.length < 4294967296) :
  Gives Tryz.prog 81 #[v1,v2,x.v] (stR l1 v1 * hoR l2 v2) (.tuple #[]) (stR (putS l1 x) v1 * hoR (putH l2 x) v2) := by
 intro O w F hs
 simp only [mul_assoc'] at hs
 obtain ⟨a1,k1,rfl⟩ := sl_len (hs.pull (A := stR l1 v1) (by (with_reducible exact Qh)))
 obtain ⟨a2,k2,rfl⟩ := sl_len (hs.pull (A := hoR l2 v2) (by (focus with_reducible (repeat first|exact Qh|apply Qk);done)))
 simp only [List.length_map] at hs ⊢
 obtain ⟨x1,x2,x3,x4,x5⟩ := x
 simp only [] at hi
 subst hi
 obtain ⟨y1,hy1⟩ : ∃ y,l1[i]? = some y := ⟨_,List.getElem?_eq_getElem h1⟩
 obtain ⟨y2,hy2⟩ : ∃ y,l2[i]? = some y := ⟨_,List.getElem?_eq_getElem h2⟩
 have g1 : (l1.map eI)[i]? = some (eI y1) := by rw [List.getElem?_map,hy1];rfl
 have g2 : (l2.map eI)[i]? = some (eI y2) := by rw [List.getElem?_map,hy2];rfl
 have g3 : ((l2.map eI).set i (eI x2))[i]? = some (eI x2) := by rw [List.getElem?_set_self (by simpa using h2)]
 have b1 : i < (l1.map eI).length := by simpa using h1
 have b2 : i < (l2.map eI).length := by simpa using h2
 have b3 : i < ((l2.map eI).set i (eI x2)).length := by simpa using h2
 have d1 : decide (i < l1.length) = true := by simpa using h1
 have d2 : decide (i < l2.length) = true := by simpa using h2
 have hin : ((i : Nat) : Int).toNat = i := Int.toNat_natCast i
 clear hy1 hy2
 by_cases e0 : x5 = 0
 ·subst e0
  have eH : putH l2 ⟨x1,x2,(i : Int),x4,0⟩ = (l2.set i x2).set i (-1) := by simp [putH,List.set_set]
  have eS : putS l1 ⟨x1,x2,(i : Int),x4,0⟩ = l1.set i 0 := by simp [putS]
  rw [eH,eS]
  clear eH eS
  go_enter Tryz.func81,Tryz.ntmps81
  (repeat' (first|(((with_reducible apply wl_pass2);rfl;rfl;((simp only [ev,Ue,Uf]);rfl);rfl;(simp only [Uc,Uz]));(repeat ((with_reducible apply wl_pass2);rfl;rfl;((simp only [ev,Ue,Uf]);rfl);rfl;(simp only [Uc,Uz]))))|((with_reducible apply wl_pick);((simp only [ev,Ue,Uf]);rfl);((simp only [cond_true,cond_false,ev,Ue,Uf]);rfl);(with_reducible exact want_none);(simp only [Uc,Uz]))|(go_big_may;(first|((with_reducible apply wl_ld hs);infer_instance;rfl;(focus with_reducible (repeat first|exact Qh|apply Qk);done);rfl;rfl;(simp only [Uc,Uz]))|((with_reducible apply wl_box hs);rfl;rfl;rfl;clear hs;intro w b hs;(simp only [Uc,Uz]))|((with_reducible apply wl_stS0 hs);infer_instance;rfl;rfl;assumption;(focus with_reducible (repeat first|exact Qh|apply Qk);done);rfl;(assumption);(exact Vb rfl);(rfl);rfl;clear hs;intro w hs)|((with_reducible apply wl_ia2 hs);infer_instance;infer_instance;rfl;assumption;rfl;(with_reducible exact Qh);(rfl);(assumption);rfl;(simp only [Uc,Uz]))|((with_reducible apply wl_ia hs);infer_instance;infer_instance;rfl;rfl;(focus with_reducible (repeat first|exact Qh|apply Qk);done);(rfl);(assumption);rfl;intro b off hat;(simp only [Uc,Uz]))))|go_step))
  (go_end0)
  exact ⟨rfl,by simp only [stR,hoR,mul_assoc'];((try simp only [List.map_append,List.map_cons,List.map_nil,List.map_set,List.set_set]);(try simp only [List.map_append,List.map_cons,List.map_nil,List.map_set,List.set_set] at hs);((with_reducible apply Sat.fin hs);(focus ((repeat (first|with_reducible exact Ql|with_reducible apply Qb|exact Qh|with_reducible apply Qk));done))))⟩
 ·by_cases e3 : x5 = 3
  ·subst e3
   have eH : putH l2 ⟨x1,x2,(i : Int),x4,3⟩ = (l2.set i x2).set i (-1) := by simp [putH,List.set_set]
   have eS : putS l1 ⟨x1,x2,(i : Int),x4,3⟩ = l1.set i 3 := by simp [putS]
   rw [eH,eS]
   clear eH eS e0
   go_enter Tryz.func81,Tryz.ntmps81
   (repeat' (first|((with_reducible apply wl_pick);((simp only [ev,Ue,Uf]);rfl);((simp only [cond_true,cond_false,ev,Ue,Uf]);rfl);(with_reducible exact want_none);(simp only [Uc,Uz]))|(go_big_may;(first|((with_reducible apply wl_ld hs);infer_instance;rfl;(focus with_reducible (repeat first|exact Qh|apply Qk);done);rfl;rfl;(simp only [Uc,Uz]))|((with_reducible apply wl_box hs);rfl;rfl;rfl;clear hs;intro w b hs;(simp only [Uc,Uz]))|((with_reducible apply wl_stS0 hs);infer_instance;rfl;rfl;assumption;(focus with_reducible (repeat first|exact Qh|apply Qk);done);rfl;(assumption);(exact Vb rfl);(rfl);rfl;clear hs;intro w hs)|((with_reducible apply wl_ia2 hs);infer_instance;infer_instance;rfl;assumption;rfl;(with_reducible exact Qh);(rfl);(assumption);rfl;(simp only [Uc,Uz]))|((with_reducible apply wl_ia hs);infer_instance;infer_instance;rfl;rfl;(focus with_reducible (repeat first|exact Qh|apply Qk);done);(rfl);(assumption);rfl;intro b off hat;(simp only [Uc,Uz]))))|go_guarded|go_step))
   (go_end0)
   exact ⟨rfl,by simp only [stR,hoR,mul_assoc'];((try simp only [List.map_append,List.map_cons,List.map_nil,List.map_set,List.set_set]);(try simp only [List.map_append,List.map_cons,List.map_nil,List.map_set,List.set_set] at hs);((with_reducible apply Sat.fin hs);(focus ((repeat (first|with_reducible exact Ql|with_reducible apply Qb|exact Qh|with_reducible apply Qk));done))))⟩
  ·have f0 : (x5 == 0) = false := by simpa using e0
   have f3 : (x5 == 3) = false := by simpa using e3
   have eH : putH l2 ⟨x1,x2,(i : Int),x4,x5⟩ = l2.set i x2 := by simp [putH,e0,e3]
   have eS : putS l1 ⟨x1,x2,(i : Int),x4,x5⟩ = l1.set i x5 := by simp [putS]
   rw [eH,eS]
   clear eH eS e0 e3
   go_enter Tryz.func81,Tryz.ntmps81
   (repeat' (first|((with_reducible apply wl_pick);((simp only [ev,Ue,Uf]);rfl);((simp only [cond_true,cond_false,ev,Ue,Uf]);rfl);(with_reducible exact want_none);(simp only [Uc,Uz]))|(go_big_may;(first|((with_reducible apply wl_ld hs);infer_instance;rfl;(focus with_reducible (repeat first|exact Qh|apply Qk);done);rfl;rfl;(simp only [Uc,Uz]))|((with_reducible apply wl_box hs);rfl;rfl;rfl;clear hs;intro w b hs;(simp only [Uc,Uz]))|((with_reducible apply wl_stS0 hs);infer_instance;rfl;rfl;assumption;(focus with_reducible (repeat first|exact Qh|apply Qk);done);rfl;(assumption);(exact Vb rfl);(rfl);rfl;clear hs;intro w hs)|((with_reducible apply wl_ia hs);infer_instance;infer_instance;rfl;rfl;(focus with_reducible (repeat first|exact Qh|apply Qk);done);(rfl);(assumption);rfl;intro b off hat;(simp only [Uc,Uz]))))|go_guarded|go_step))
   (go_end0)
   exact ⟨rfl,by simp only [stR,hoR,mul_assoc'];((try simp only [List.map_append,List.map_cons,List.map_nil,List.map_set,List.set_set]);(try simp only [List.map_append,List.map_cons,List.map_nil,List.map_set,List.set_set] at hs);((with_reducible apply Sat.fin hs);(focus ((repeat (first|with_reducible exact Ql|with_reducible apply Qb|exact Qh|with_reducible apply Qk));done))))⟩
end Go.Proofs.YtegafhhdegnigaaGreat
