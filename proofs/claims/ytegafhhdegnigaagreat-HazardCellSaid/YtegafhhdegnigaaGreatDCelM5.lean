/-
  HazardCell: the cell by definition, walked: calls one behind the other; calls by their points.
-/
import Derived.Test.YtegafhhdegnigaaGreatDCelM2
import Derived.Test.YtegafhhdegnigaaGreatDHaz2
set_option linter.all false
section
namespace Go.Proofs.YtegafhhdegnigaaGreat
open Go.RowKit Hp
set_option maxRecDepth 100000
set_option maxHeartbeats 8000000
attribute [local irreducible] Go.Calls Go.wpList
def PlV (o : Option Int) (u : Value) : SProp := ex fun v1 => pu (u = .tuple #[v1,.int .i64 (-1)]) * CtR o v1
theorem plv_mk {O w : World} {F : SProp} {o : Option Int} {v1 : Value} (hs : Sat O w (CtR o v1 * F)) : Sat O w (PlV o (.tuple #[v1,.int .i64 (-1)]) * F) := by
 unfold PlV
 simp only [sat_ex,mul_assoc',sat_pu]
 exact ⟨_,rfl,hs⟩
theorem plv_get {O w : World} {F : SProp} {o : Option Int} {u : Value} (hs : Sat O w (PlV o u * F)) : ∃ v1,u = .tuple #[v1,.int .i64 (-1)] ∧ Sat O w (CtR o v1 * F) := by
 unfold PlV at hs
 simp only [sat_ex,mul_assoc',sat_pu] at hs
 exact hs
theorem mod_play (l : List Cll) (R : Option Int) (hll : l.length < 4294967296) (h : PlayOk none l ∧ runO none l = R) (a0 : Option Addr) (c0 : Nat) : Does Tryz.prog 72 #[.agg #[.slice none 0 0,.slice none 0 0,.slice none 0 0,.slice none 0 0,.slice none 0 0],.slice a0 l.length c0]
  (sl 50 9 (l.map Cll.e) (.slice a0 l.length c0)) (PlV R) := by
 intro O w F hs
 have hs := sl_nil (E := 3) (sz := 1) hs (by omega)
 have hs := sl_nil (E := 3) (sz := 1) hs (by omega)
 have hs := sl_nil (E := 3) (sz := 1) hs (by omega)
 have hs := sl_nil (E := 3) (sz := 1) hs (by omega)
 have hs := sl_nil (E := 276) (sz := 2) hs (by omega)
 have hC := Lib.hid (mod_copy none (.slice none 0 0) (.slice none 0 0) (.slice none 0 0) (.slice none 0 0) (.slice none 0 0))
 replace h := Lib.hid h
 go_enter Tryz.func72,Tryz.ntmps72
 (repeat' (first|(go_big_may;(first|((with_reducible apply wl_box hs);rfl;rfl;rfl;clear hs;intro w bx hs;(simp only [Uc,Uz]))|(first|((with_reducible apply wl_ldF hs);infer_instance;rfl;(focus with_reducible (repeat first|exact Qh|apply Qk);done);rfl;rfl;(simp only [Uc,Uz]))|((with_reducible apply wl_stF hs);infer_instance;rfl;rfl;(focus with_reducible (repeat first|exact Qh|apply Qk);done);rfl;rfl;rfl;rfl;clear hs;intro w hs)|((with_reducible apply wl_alloc hs);infer_instance;rfl;clear hs;intro w b hs;(simp only [Uc,Uz])))|(go_at_call 121;((refine (hC.out).at hs (by (focus ((repeat (first|with_reducible exact Qh|with_reducible apply Qb|exact Qh|with_reducible apply Qk));done))) ?_);clear hs;intro v w hs;(try simp only [emp_mul,mul_assoc'] at hs));(have hg := ct_get hs);(clear hs);(obtain ⟨b0,m0,b1,m1,b2,m2,b3,m3,b4,m4,rfl,hs⟩ := hg))))|go_step|(dsimp only)))
 obtain ⟨by_,hby⟩ : ∃ x,x = b := ⟨_,rfl⟩
 subst hby
 go_loopw [6] (fun q wr => ∃ (n : Nat) (o : Option Int) (b0 : Option Addr) (m0 : Nat) (b1 : Option Addr) (m1 : Nat) (b2 : Option Addr) (m2 : Nat) (b3 : Option Addr) (m3 : Nat) (b4 : Option Addr) (m4 : Nat),n ≤ l.length ∧ q = .int .i64 (n : Int) ∧ Hid (PlayOk o (l.drop n) ∧ runO o (l.drop n) = R) ∧
  Sat O wr (pt bx (.cells #[.slice b0 (ctL o).length m0,.slice b1 0 m1,.slice b2 0 m2,.slice b3 0 m3,.slice b4 0 m4] 53) * (pt by_ (.cells #[.slice none 0 0,.slice none 0 0,.slice none 0 0,.slice none 0 0,.slice none 0 0] 53) * (sl 3 1 (ctL o) (.slice b0 (ctL o).length m0) * (sl 3 1 [] (.slice b1 0 m1) * (sl 3 1 [] (.slice b2 0 m2) * (sl 3 1 [] (.slice b3 0 m3) * (sl 276 2 [] (.slice b4 0 m4) * (sl 50 9 (l.map Cll.e) (.slice a0 l.length c0) * F))))))))) (fun q _ => l.length + 1 - (intOf q).toNat)
 case atStart => exact ⟨0,none,b0,m0,b1,m1,b2,m2,b3,m3,b4,m4,by omega,rfl,Lib.hid (by rw [List.drop_zero];exact h.out),by ((with_reducible apply Sat.fin hs);(focus with_reducible (repeat first|exact Ql|exact Qh|apply Qb|apply Qk);done))⟩
 case round =>
  obtain ⟨n,o,b0,m0,b1,m1,b2,m2,b3,m3,b4,m4,k1,rfl,hP,hs⟩ := hrel
  by_cases hkr : n = l.length
  ·subst hkr
   have hlt : decide ((l.length : Int) < (l.length : Int)) = false := by simp
   have hR := hP.out.2
   rw [List.drop_length] at hR
   have hR : o = R := hR
   clear hP h hC
   (repeat' (first|(go_big_may;(first|((with_reducible apply wl_ldF hs);infer_instance;rfl;(with_reducible exact Qh);rfl;rfl;(simp only [Uc,Uz]))|((with_reducible apply wl_stF hs);infer_instance;rfl;rfl;(focus with_reducible (repeat first|exact Qh|apply Qk);done);rfl;rfl;rfl;rfl;clear hs;intro w hs)|((with_reducible apply wl_len hs);infer_instance;rfl;(focus with_reducible (repeat first|exact Qh|apply Qk);done);rfl;(simp only [Uc,Uz]))))|go_step))
   ((try simp only [Exit.inBlock,Exit.then]);(with_reducible apply bodyPost_ret);((with_reducible apply results_ct);rfl;rfl;(with_reducible apply loadF hs);infer_instance;(with_reducible exact Qh);rfl;rfl))
   refine ⟨_,rfl,?_⟩
   apply plv_mk
   apply ct_mk
   rw [← hR]
   ((with_reducible apply Sat.fin hs);(focus with_reducible (repeat first|exact Ql|exact Qh|apply Qb|apply Qk);done))
  ·have hlt : decide ((n : Int) < (l.length : Int)) = true := by simp;omega
   have hlt2 : decide (n < l.length) = true := by simp;omega
   have hln : n < (l.map Cll.e).length := by simp;omega
   obtain ⟨x,hx⟩ : ∃ x,l[n]? = some x := ⟨_,List.getElem?_eq_getElem (by omega)⟩
   have hd : l.drop n = x :: l.drop (n + 1) := by
    obtain ⟨q1,q2⟩ := List.getElem?_eq_some_iff.1 hx
    rw [List.drop_eq_getElem_cons q1,q2]
   have hPo := hP.out
   rw [hd] at hPo
   obtain ⟨⟨hP1,hP2⟩,hP3⟩ := hPo
   have hP4 : runO (nextO o x) (l.drop (n + 1)) = R := hP3
   have hA := Lib.hid (mod_allows o x hP1 (.slice b0 (ctL o).length m0) (.slice b1 0 m1) (.slice b2 0 m2) (.slice b3 0 m3) (.slice b4 0 m4))
   have hN := Lib.hid (show PlayOk (nextO o x) (l.drop (n + 1)) ∧ runO (nextO o x) (l.drop (n + 1)) = R from ⟨hP2,hP4⟩)
   generalize nextO o x = o' at hA hN
   obtain ⟨x1,x2,x3,x4,x5,x6,x7,x8,x9⟩ := x
   have hgv : (l.map Cll.e)[n]? = some (Cll.e ⟨x1,x2,x3,x4,x5,x6,x7,x8,x9⟩) := by rw [List.getElem?_map,hx];rfl
   have hk2 := Lib.hid (show n + 1 ≤ l.length by omega)
   have hn65 : n < 4294967296 := by omega
   clear hP h hC hd hP1 hP2 hP3 hP4 hx hkr
   (repeat' (first|(go_big_may;(first|(first|(first|(with_reducible refine NQ.mk ?_)|((with_reducible apply pl_neu);rfl;rfl)|(with_reducible refine EQ.mk ?_ ?_)|(first|(with_reducible exact chk_nil)|((with_reducible refine chk_cons ?_ ?_);(focus ((with_reducible apply pl_chk);rfl;rfl))))|(with_reducible refine pl_end ?_)|(show SameA _ _ _;rfl))|((with_reducible apply wl_ldF hs);infer_instance;rfl;(focus with_reducible (repeat first|exact Qh|apply Qk);done);rfl;rfl;(simp only [Uc,Uz]))|((with_reducible apply wl_stF hs);infer_instance;rfl;rfl;(focus with_reducible (repeat first|exact Qh|apply Qk);done);rfl;rfl;rfl;rfl;clear hs;intro w hs)|((with_reducible apply wl_alloc hs);infer_instance;rfl;clear hs;intro w b hs;(simp only [Uc,Uz]))|((with_reducible apply wl_ldSN (k := 0) hs);infer_instance;rfl;assumption;(focus with_reducible (repeat first|exact Qh|apply Qk);done);(exact (Nat.add_zero _).symm);(assumption);(exact Vb rfl);rfl;rfl;(simp only [Uc,Uz]))|((with_reducible apply wl_ia2 hs);infer_instance;infer_instance;rfl;assumption;rfl;(focus with_reducible (repeat first|exact Qh|apply Qk);done);(rfl);(assumption);rfl;(simp only [Uc,Uz]))|((with_reducible apply wl_ia hs);infer_instance;infer_instance;rfl;rfl;(focus with_reducible (repeat first|exact Qh|apply Qk);done);(rfl);(assumption);rfl;intro b off hat;(simp only [Uc,Uz]))|((with_reducible apply wl_len hs);infer_instance;rfl;(focus with_reducible (repeat first|exact Qh|apply Qk);done);rfl;(simp only [Uc,Uz])))|(go_at_call 122;((refine (hA.out).at hs (by (focus with_reducible (repeat first|exact Qh|apply Qb|apply Qk);done)) ?_);clear hs;intro v w hs;(try simp only [emp_mul,mul_assoc'] at hs));(have hg := alv_get hs);(clear hs);(obtain ⟨v1,rfl,hs⟩ := hg);(have hg := ct_get hs);(clear hs);(obtain ⟨d0,e0,d1,e1,d2,e2,d3,e3,d4,e4,rfl,hs⟩ := hg))|(first|((with_reducible refine plt_leaf ?_);(try simp only [List.map_cons,List.map_nil]))|((with_reducible refine plt_one ?_);(try simp only [List.map_cons,List.map_nil]))|((with_reducible refine plt_two ?_);(try simp only [List.map_cons,List.map_nil]))|((with_reducible apply te_eff);rfl)|(with_reducible refine Two.mk ?_ ?_))|((with_reducible refine wp_tree_sat (id := 5) (.two [0,1,2,3,4] 5 [] (.one [6,7,8] 9 [0,1,2,3,4,6,7,8] (.one [] 10 [8] (.leaf [11]))) 9 [0,1,2,3,4] (.one [] 5 [] (.one [6,7,8] 10 [8] (.leaf [11])))) hs rfl ?_ ?_);kernel_rfl;clear hs;intro w hs)))|go_step|(dsimp only)))
   all_goals
    go_roundw
    case rel => exact ⟨n + 1,o',d0,e0,d1,e1,d2,e2,d3,e3,d4,e4,hk2.out,by simp,hN,by ((with_reducible apply Sat.fin hs);(focus with_reducible (repeat first|exact Ql|exact Qh|apply Qb|apply Qk);done))⟩
    case measure => have := hk2.out;simp [intOf];omega
end Go.Proofs.YtegafhhdegnigaaGreat
end
/-
  HazardCell: calls by their points, walked.
-/
section
namespace Go.Proofs.YtegafhhdegnigaaGreat
open Go.RowKit Hp
set_option maxRecDepth 100000
set_option maxHeartbeats 8000000
attribute [local irreducible] Go.Calls Go.wpList
def BpV (cs : List Cll) (u : Value) : SProp := ex fun l : List Cll => pu (l.Perm (cs.filter opB) ∧ SrtP l) * sl 50 9 (l.map Cll.e) u
theorem bpv_mk {O w : World} {F : SProp} {cs l : List Cll} {u : Value} (h : l.Perm (cs.filter opB) ∧ SrtP l) (hs : Sat O w (sl 50 9 (l.map Cll.e) u * F)) : Sat O w (BpV cs u * F) := by
 unfold BpV
 simp only [sat_ex,mul_assoc',sat_pu]
 exact ⟨l,h,hs⟩
theorem bpv_get {O w : World} {F : SProp} {cs : List Cll} {u : Value} (hs : Sat O w (BpV cs u * F)) : ∃ l : List Cll,(l.Perm (cs.filter opB) ∧ SrtP l) ∧ Sat O w (sl 50 9 (l.map Cll.e) u * F) := by
 unfold BpV at hs
 simp only [sat_ex,mul_assoc',sat_pu] at hs
 exact hs
theorem objN_no {o : Int} (h : ¬ (o = 22 ∨ o = 23)) : objN o = 0 := if_neg h
theorem objN_yes {o : Int} (h : o = 22 ∨ o = 23) : objN o = 1 := if_pos h
structure Gap (L : List Cll) (x : Cll) (a : Nat) (B : List Cll) : Prop where
 le : a ≤ L.length
 drop : ∀ z ∈ L.drop a,x.point < z.point
 is : ∃ z,B = L.take a ++ z :: L.drop a
theorem Gap.start {L : List Cll} {x : Cll} : Gap L x L.length (L ++ [x]) := ⟨Nat.le_refl _,by simp,x,by simp⟩
theorem Gap.len {L : List Cll} {x : Cll} {a : Nat} {B : List Cll} (h : Gap L x a B) : B.length = L.length + 1 := by
 obtain ⟨z,rfl⟩ := h.is
 exact ins_len
theorem Gap.put {L : List Cll} {x : Cll} {a : Nat} {B : List Cll} (h : Gap L x a B) : (B.map Cll.e).set a (Cll.e x) = (L.take a ++ x :: L.drop a).map Cll.e := by
 obtain ⟨z,rfl⟩ := h.is
 rw [← List.map_set,ins_put h.le]
theorem Gap.get {L : List Cll} {x : Cll} {a : Nat} {B : List Cll} (h : Gap L x (a + 1) B) : ∃ u,L[a]? = some u ∧ B[a]? = some u ∧ (x.point < u.point → Gap L x a (B.set (a + 1) u)) := by
 have hl := h.le
 obtain ⟨u,hu⟩ : ∃ u,L[a]? = some u := ⟨_,List.getElem?_eq_getElem (by omega)⟩
 obtain ⟨z,rfl⟩ := h.is
 exact ⟨u,hu,ins_get hu,fun hlt => ⟨by omega,ins_drop hu hlt h.drop,u,ins_shift hu⟩⟩
theorem Gap.get1 {L : List Cll} {x : Cll} {a : Nat} {B : List Cll} (h : Gap L x a B) (h1 : 1 ≤ a) : ∃ u,L[a - 1]? = some u ∧ B[a - 1]? = some u ∧ (x.point < u.point → Gap L x (a - 1) (B.set a u)) := by
 obtain ⟨a',rfl⟩ : ∃ a',a = a' + 1 := ⟨a - 1,by omega⟩
 exact h.get
theorem Gap.sorted {L : List Cll} {x : Cll} {a : Nat} {B : List Cll} (h : Gap L x a B) (hs : SrtP L) (h0 : a = 0 ∨ ∃ u,L[a - 1]? = some u ∧ u.point ≤ x.point) : SrtP (L.take a ++ x :: L.drop a) := by
 refine ins_sorted hs h.drop ?_
 rcases h0 with rfl|⟨u,h1,h2⟩
 ·simp
 ·by_cases e : a = 0
  ·subst e;simp
  ·have := ins_le hs h1 h2
   rw [show a - 1 + 1 = a from by omega] at this
   exact this
theorem mod_byp (cs : List Cll) (hl : cs.length < 100000000) (hop : ∀ x ∈ cs,20 ≤ x.op ∧ x.op ≤ 25) (a0 : Option Addr) (c0 : Nat) : Does Tryz.prog 71 #[.slice a0 cs.length c0]
  (sl 50 9 (cs.map Cll.e) (.slice a0 cs.length c0)) (fun u => BpV cs u * sl 50 9 (cs.map Cll.e) (.slice a0 cs.length c0)) := by
 intro O w F hs
 have hs := sl_nil (E := 50) (sz := 9) hs (by omega)
 have hop := Lib.hid hop
 go_enter Tryz.func71,Tryz.ntmps71
 (repeat' (first|(go_big_may;((with_reducible apply wl_len hs);infer_instance;rfl;(focus with_reducible (repeat first|exact Qh|apply Qk);done);rfl;(simp only [Uc,Uz])))|go_step))
 simp only [List.length_map] at hs ⊢
 go_loopw [3,5,6,9] (fun v3 _ _ q wr => ∃ (k : Nat) (L : List Cll) (ab : Option Addr) (nb : Nat),k ≤ cs.length ∧ q = .int .i64 (k : Int) ∧ v3 = .slice ab L.length nb ∧ Hid (L.Perm ((cs.take k).filter opB) ∧ SrtP L ∧ L.length ≤ k) ∧
  Sat O wr (sl 50 9 (L.map Cll.e) (.slice ab L.length nb) * (sl 50 9 (cs.map Cll.e) (.slice a0 cs.length c0) * F))) (fun _ _ _ q _ => cs.length + 1 - (intOf q).toNat)
 case atStart => exact ⟨0,[],none,0,by omega,rfl,rfl,Lib.hid ⟨by simp,List.Pairwise.nil,by simp⟩,by ((with_reducible apply Sat.fin hs);(focus ((repeat (first|with_reducible exact Ql|with_reducible apply Qb|exact Qh));done)))⟩
 case round =>
  obtain ⟨k,L,ab,nb,k1,rfl,rfl,hL,hs⟩ := hrel
  by_cases hkr : k = cs.length
  ·subst hkr
   have hlt : decide ((cs.length : Int) < (cs.length : Int)) = false := by simp
   rw [List.take_length] at hL
   clear hop
   (repeat' (go_step))
   (go_ret)
   refine ⟨_,rfl,?_⟩
   simp only [mul_assoc']
   exact bpv_mk ⟨hL.out.1,hL.out.2.1⟩ (by ((with_reducible apply Sat.fin hs);(focus ((repeat (first|with_reducible exact Ql|with_reducible apply Qb|exact Qh));done))))
  ·have hlt : decide ((k : Int) < (cs.length : Int)) = true := by simp;omega
   have hlt2 : decide (k < cs.length) = true := by simp;omega
   have hln : k < (cs.map Cll.e).length := by simp;omega
   obtain ⟨x,hx⟩ : ∃ x,cs[k]? = some x := ⟨_,List.getElem?_eq_getElem (by omega)⟩
   have hO := Lib.hid (mod_object x.op (hop.out x (List.mem_of_getElem? hx)))
   have hk2 := Lib.hid (show k + 1 ≤ cs.length by omega)
   have hn65 : k < 4294967296 := by omega
   have hLl : L.length < 4294967295 := by have := hL.out.2.2;omega
   have hno := Lib.hid (fun h : opB x = false => filt_no hx h)
   have hye := Lib.hid (fun h : opB x = true => filt_yes hx h)
   by_cases ho : x.op = 22 ∨ x.op = 23
   ·rw [objN_yes ho] at hO
    by_cases hp : 0 ≤ x.point
    ·have hy := Lib.hid (hye.out (by unfold opB;simp [ho,hp]))
     have hgp := Lib.hid (Gap.start (L := L) (x := x))
     have f1 : decide (x.point < 0) = false := by simp;omega
     obtain ⟨x1,x2,x3,x4,x5,x6,x7,x8,x9⟩ := x
     have hgv : (cs.map Cll.e)[k]? = some (Cll.e ⟨x1,x2,x3,x4,x5,x6,x7,x8,x9⟩) := by rw [List.getElem?_map,hx];rfl
     simp only [] at hO f1
     clear hno hye hop ho hp hx hkr
     (repeat' (first|((with_reducible apply wl_pick);((simp only [ev,Ue,Uf]);rfl);((simp only [cond_true,cond_false,ev,Ue,Uf]);rfl);(with_reducible exact want_none);(simp only [Uc,Uz]))|(go_big_may;(first|(first|((with_reducible apply wl_ld hs);infer_instance;rfl;(with_reducible exact Qh);rfl;rfl;(simp only [Uc,Uz]))|((with_reducible apply wl_ldF hs);infer_instance;rfl;(with_reducible exact Qh);rfl;rfl;(simp only [Uc,Uz]))|((with_reducible apply wl_stF hs);infer_instance;rfl;rfl;(with_reducible exact Qh);rfl;rfl;rfl;rfl;clear hs;intro w hs)|((with_reducible apply wl_alloc hs);infer_instance;rfl;clear hs;intro w b hs;(simp only [Uc,Uz]))|((with_reducible apply wl_ldSN (k := 0) hs);infer_instance;rfl;assumption;(focus with_reducible (repeat first|exact Qh|apply Qk);done);(exact (Nat.add_zero _).symm);(assumption);(exact Vb rfl);rfl;rfl;(simp only [Uc,Uz]))|((with_reducible apply wl_ia hs);infer_instance;infer_instance;rfl;rfl;(focus with_reducible (repeat first|exact Qh|apply Qk);done);(rfl);(assumption);rfl;intro b off hat;(simp only [Uc,Uz]))|((with_reducible apply wl_len hs);infer_instance;rfl;(focus with_reducible (repeat first|exact Qh|apply Qk);done);rfl;(simp only [Uc,Uz]))|((with_reducible apply wl_bs hs);infer_instance;infer_instance;rfl;rfl;rfl;rfl;(exact Vb rfl);rfl;clear hs;intro w v hs;(simp only [Uc,Uz]))|((with_reducible apply wl_app hs);infer_instance;infer_instance;rfl;rfl;(focus with_reducible (repeat first|exact Qh|apply Qk);done);(with_reducible exact Qh);(simp only [Wm,Ws,Wa,Wc,Wn,Wr] at *;omega);(exact Vb rfl);rfl;clear hs;intro w v hs;(simp only [Uc,Uz])))|(go_at_call 70;((refine (hO.out).at hs (by (focus ((repeat (with_reducible exact Qn));done))) ?_);clear hs;intro w hs;(try simp only [emp_mul,mul_assoc'] at hs)))))|go_guarded|go_step|(dsimp only)))
     have e9 : List.take 9 (List.drop 0 (Cll.e ⟨x1,x2,x3,x4,x5,x6,x7,x8,x9⟩)) = Cll.e ⟨x1,x2,x3,x4,x5,x6,x7,x8,x9⟩ := rfl
     have e10 : List.map Cll.e L ++ [Cll.e ⟨x1,x2,x3,x4,x5,x6,x7,x8,x9⟩] = (L ++ [(⟨x1,x2,x3,x4,x5,x6,x7,x8,x9⟩ : Cll)]).map Cll.e := by simp
     simp only [e9,List.toList_toArray,e10] at hs
     obtain ⟨ac,nc,rfl⟩ := sl_len (hs.pull (A := sl 50 9 _ v) (by (with_reducible exact Qh)))
     simp only [List.length_append,List.length_map,List.length_cons,List.length_nil,Nat.zero_add] at hs ⊢
     go_loopw [6] (fun q wr => ∃ (a : Nat) (B : List Cll),q = .int .i64 (a : Int) ∧ Hid (Gap L ⟨x1,x2,x3,x4,x5,x6,x7,x8,x9⟩ a B) ∧
      Sat O wr (sl 50 9 (B.map Cll.e) (.slice ac (L.length + 1) nc) * (pt b (.cells #[.int .i64 x1,.int .i64 x2,.int .i64 x3,.int .i64 x4,.int .i64 x5,.int .i64 x6,.int .i64 x7,.int .i64 x8,.int .i64 x9] 50) * (sl 50 9 (cs.map Cll.e) (.slice a0 cs.length c0) * F)))) (fun q _ => (intOf q).toNat)
     case atStart => exact ⟨L.length,_,rfl,hgp,by ((with_reducible apply Sat.fin hs);(focus with_reducible (repeat first|exact Ql|exact Qh|apply Qb|apply Qk);done))⟩
     case round =>
      obtain ⟨a,B,rfl,hG,hs⟩ := hrel
      have hBl := hG.out.len
      have hal : a < B.length := by have := hG.out.le;omega
      have haB : a < (B.map Cll.e).length := by simpa using hal
      obtain ⟨zz,hzz⟩ : ∃ z,B[a]? = some z := ⟨_,List.getElem?_eq_getElem hal⟩
      obtain ⟨z1,z2,z3,z4,z5,z6,z7,z8,z9⟩ := zz
      have hgz : (B.map Cll.e)[a]? = some (Cll.e ⟨z1,z2,z3,z4,z5,z6,z7,z8,z9⟩) := by rw [List.getElem?_map,hzz];rfl
      have ha65 : a < 4294967296 := by have := hG.out.le;omega
      have done : (a = 0 ∨ ∃ u,L[a - 1]? = some u ∧ u.point ≤ x7) → Hid ((L.take a ++ (⟨x1,x2,x3,x4,x5,x6,x7,x8,x9⟩ : Cll) :: L.drop a).Perm ((cs.take (k + 1)).filter opB) ∧ SrtP (L.take a ++ (⟨x1,x2,x3,x4,x5,x6,x7,x8,x9⟩ : Cll) :: L.drop a) ∧ (L.take a ++ (⟨x1,x2,x3,x4,x5,x6,x7,x8,x9⟩ : Cll) :: L.drop a).length ≤ k + 1) := fun h => by
       refine Lib.hid ⟨?_,hG.out.sorted hL.out.2.1 h,by rw [ins_len];have := hL.out.2.2;omega⟩
       rw [hy.out]
       exact (ins_perm L _ a).trans (hL.out.1.append_right _)
      have hput : Hid ((B.map Cll.e).set a [.int .i64 x1,.int .i64 x2,.int .i64 x3,.int .i64 x4,.int .i64 x5,.int .i64 x6,.int .i64 x7,.int .i64 x8,.int .i64 x9] = (L.take a ++ (⟨x1,x2,x3,x4,x5,x6,x7,x8,x9⟩ : Cll) :: L.drop a).map Cll.e) := Lib.hid hG.out.put
      by_cases h0 : a = 0
      ·have hD := done (.inl h0)
       have g0 : decide ((a : Int) > 0) = false := by simp;omega
       have g1 : decide (0 < (a : Int)) = false := by simp;omega
       have g4 : decide (0 < a) = false := by simp;omega
       clear done hzz hal hBl h0
       (repeat' (first|(((with_reducible apply wl_pass2);rfl;rfl;((simp only [ev,Ue,Uf]);rfl);rfl;(simp only [Uc,Uz]));(repeat (fail)))|((with_reducible apply wl_pick);((simp only [ev,Ue,Uf]);rfl);((simp only [cond_true,cond_false,ev,Ue,Uf]);rfl);(with_reducible exact want_none);(simp only [Uc,Uz]))|(go_big_may;(first|(first|(first|(with_reducible refine NQ.mk ?_)|((with_reducible apply pl_neu);rfl;rfl)|(with_reducible refine pl_end ?_))|((with_reducible apply wl_ldF hs);infer_instance;rfl;(focus with_reducible (repeat first|exact Qh|apply Qk);done);rfl;rfl;(simp only [Uc,Uz]))|((with_reducible apply wl_stSN (k := 0) hs);infer_instance;rfl;rfl;assumption;(with_reducible exact Qh);(exact (Nat.add_zero _).symm);(assumption);(exact Vb rfl);rfl;rfl;rfl;rfl;clear hs;intro w hs;simp only [List.take_succ_cons,List.take_zero,List.drop_succ_cons,List.drop_zero,List.cons_append,List.nil_append,List.append_nil] at hs)|((with_reducible apply wl_ia hs);infer_instance;infer_instance;rfl;rfl;(with_reducible exact Qh);(rfl);(assumption);rfl;intro b off hat;(simp only [Uc,Uz])))|((with_reducible refine wp_plan_sat (id := 8) [.neu 0,.neu 1,.neu 2,.neu 3,.neu 4,.neu 5,.neu 6,.neu 7,.neu 8,.neu 9,.neu 10,.neu 11,.neu 12] hs rfl ?_ ?_);kernel_rfl;clear hs;intro w hs)))|go_step))
       go_roundw
       case rel => exact ⟨k + 1,_,ac,nc,hk2.out,by simp,by rw [ins_len],hD,by rw [← hput.out,ins_len];((with_reducible apply Sat.fin hs);(focus with_reducible (repeat first|exact Ql|exact Qh|apply Qb|apply Qk);done))⟩
       case measure => have := hk2.out;simp [intOf];omega
      ·obtain ⟨u,hu,hBu,hnext⟩ := hG.out.get1 (by omega)
       have g0 : decide ((a : Int) > 0) = true := by simp;omega
       have g1 : decide (0 < (a : Int)) = true := by simp;omega
       have g4 : decide (0 < a) = true := by simp;omega
       have hta : ((a : Int) - 1).toNat = a - 1 := by omega
       have hm1 : ((a : Int) - 1).toNat < (B.map Cll.e).length := by simp;omega
       have ha1 : 1 ≤ a := by omega
       by_cases hlt : x7 < u.point
       ·have hN := Lib.hid (hnext hlt)
        obtain ⟨u1,u2,u3,u4,u5,u6,u7,u8,u9⟩ := u
        have hgu : (B.map Cll.e)[a - 1]? = some (Cll.e ⟨u1,u2,u3,u4,u5,u6,u7,u8,u9⟩) := by rw [List.getElem?_map,hBu];rfl
        have hgu2 : (B.map Cll.e)[((a : Int) - 1).toNat]? = some (Cll.e ⟨u1,u2,u3,u4,u5,u6,u7,u8,u9⟩) := by rw [hta];exact hgu
        clear hta
        have g2 : decide (u7 > x7) = true := by simpa using hlt
        have g3 : decide (x7 < u7) = true := by simpa using hlt
        clear done hzz hal hBl h0 hu hBu hnext hlt
        (repeat' (first|((with_reducible apply wl_pick);((simp only [ev,Ue,Uf]);rfl);((simp only [cond_true,cond_false,ev,Ue,Uf]);rfl);(with_reducible exact want_none);(simp only [Uc,Uz]))|(go_big_may;(first|(first|(first|(with_reducible refine NQ.mk ?_)|((with_reducible apply pl_neu);rfl;rfl)|(with_reducible refine pl_end ?_))|((with_reducible apply wl_ld hs);infer_instance;rfl;(focus with_reducible (repeat first|exact Qh|apply Qk);done);rfl;rfl;(simp only [Uc,Uz]))|((with_reducible apply wl_ldS hs);infer_instance;rfl;assumption;(with_reducible exact Qh);rfl;(assumption);rfl;rfl;(simp only [Uc,Uz]))|((with_reducible apply wl_ldSN (k := 0) hs);infer_instance;rfl;assumption;(with_reducible exact Qh);(exact (Nat.add_zero _).symm);(assumption);(exact Vb rfl);rfl;rfl;(simp only [Uc,Uz]))|((with_reducible apply wl_stSN (k := 0) hs);infer_instance;rfl;rfl;assumption;(with_reducible exact Qh);(exact (Nat.add_zero _).symm);(assumption);(exact Vb rfl);rfl;rfl;rfl;rfl;clear hs;intro w hs;simp only [List.take_succ_cons,List.take_zero,List.drop_succ_cons,List.drop_zero,List.cons_append,List.nil_append,List.append_nil] at hs)|((with_reducible apply wl_ia2 hs);infer_instance;infer_instance;rfl;assumption;rfl;(with_reducible exact Qh);(first|rfl|exact (Int.toNat_of_nonneg (by omega)).symm);(assumption);rfl;(simp only [Uc,Uz]))|((with_reducible apply wl_ia hs);infer_instance;infer_instance;rfl;rfl;(with_reducible exact Qh);(exact (Int.toNat_of_nonneg (by omega)).symm);(assumption);rfl;intro b off hat;(simp only [Uc,Uz])))|((with_reducible refine wp_plan_sat (id := 8) [.neu 0,.neu 1,.neu 2,.neu 3,.neu 4,.neu 5,.neu 6,.neu 7,.neu 8,.neu 9,.neu 10,.neu 11,.neu 12] hs rfl ?_ ?_);kernel_rfl;clear hs;intro w hs)))|go_guarded|go_step))
        go_roundw
        case rel => exact ⟨a - 1,_,by simp;omega,hN,by rw [List.map_set];((with_reducible apply Sat.fin hs);(with_reducible exact Ql))⟩
        case measure => simp [intOf];omega
       ·have hD := done (.inr ⟨u,hu,by omega⟩)
        obtain ⟨u1,u2,u3,u4,u5,u6,u7,u8,u9⟩ := u
        have hgu : (B.map Cll.e)[a - 1]? = some (Cll.e ⟨u1,u2,u3,u4,u5,u6,u7,u8,u9⟩) := by rw [List.getElem?_map,hBu];rfl
        have hgu2 : (B.map Cll.e)[((a : Int) - 1).toNat]? = some (Cll.e ⟨u1,u2,u3,u4,u5,u6,u7,u8,u9⟩) := by rw [hta];exact hgu
        clear hta
        have g2 : decide (u7 > x7) = false := by simpa using hlt
        have g3 : decide (x7 < u7) = false := by simpa using hlt
        clear done hzz hal hBl h0 hu hBu hnext hlt
        (repeat' (first|((with_reducible apply wl_pick);((simp only [ev,Ue,Uf]);rfl);((simp only [cond_true,cond_false,ev,Ue,Uf]);rfl);(with_reducible exact want_none);(simp only [Uc,Uz]))|(go_big_may;(first|(first|(first|(with_reducible refine NQ.mk ?_)|((with_reducible apply pl_neu);rfl;rfl)|(with_reducible refine pl_end ?_))|((with_reducible apply wl_ld hs);infer_instance;rfl;(focus with_reducible (repeat first|exact Qh|apply Qk);done);rfl;rfl;(simp only [Uc,Uz]))|((with_reducible apply wl_ldF hs);infer_instance;rfl;(focus with_reducible (repeat first|exact Qh|apply Qk);done);rfl;rfl;(simp only [Uc,Uz]))|((with_reducible apply wl_ldS hs);infer_instance;rfl;assumption;(with_reducible exact Qh);rfl;(assumption);rfl;rfl;(simp only [Uc,Uz]))|((with_reducible apply wl_stSN (k := 0) hs);infer_instance;rfl;rfl;assumption;(with_reducible exact Qh);(exact (Nat.add_zero _).symm);(assumption);(exact Vb rfl);rfl;rfl;rfl;rfl;clear hs;intro w hs;simp only [List.take_succ_cons,List.take_zero,List.drop_succ_cons,List.drop_zero,List.cons_append,List.nil_append,List.append_nil] at hs)|((with_reducible apply wl_ia2 hs);infer_instance;infer_instance;rfl;assumption;rfl;(with_reducible exact Qh);(rfl);(assumption);rfl;(simp only [Uc,Uz]))|((with_reducible apply wl_ia hs);infer_instance;infer_instance;rfl;rfl;(with_reducible exact Qh);(exact (Int.toNat_of_nonneg (by omega)).symm);(assumption);rfl;intro b off hat;(simp only [Uc,Uz])))|((with_reducible refine wp_plan_sat (id := 8) [.neu 0,.neu 1,.neu 2,.neu 3,.neu 4,.neu 5,.neu 6,.neu 7,.neu 8,.neu 9,.neu 10,.neu 11,.neu 12] hs rfl ?_ ?_);kernel_rfl;clear hs;intro w hs)))|go_guarded|go_step))
        go_roundw
        case rel => exact ⟨k + 1,_,ac,nc,hk2.out,by simp,by rw [ins_len],hD,by rw [← hput.out,ins_len];((with_reducible apply Sat.fin hs);(focus with_reducible (repeat first|exact Ql|exact Qh|apply Qb|apply Qk);done))⟩
        case measure => have := hk2.out;simp [intOf];omega
    ·have hL2 := Lib.hid (hno.out (by unfold opB;simp;intro;omega))
     have f1 : decide (x.point < 0) = true := by simp;omega
     obtain ⟨x1,x2,x3,x4,x5,x6,x7,x8,x9⟩ := x
     have hgv : (cs.map Cll.e)[k]? = some (Cll.e ⟨x1,x2,x3,x4,x5,x6,x7,x8,x9⟩) := by rw [List.getElem?_map,hx];rfl
     simp only [] at hO f1
     clear hno hye hop ho hp hx hkr
     (repeat' (first|((with_reducible apply wl_pick);((simp only [ev,Ue,Uf]);rfl);((simp only [cond_true,cond_false,ev,Ue,Uf]);rfl);(with_reducible exact want_none);(simp only [Uc,Uz]))|(go_big_may;(first|(first|((with_reducible apply wl_ld hs);infer_instance;rfl;(with_reducible exact Qh);rfl;rfl;(simp only [Uc,Uz]))|((with_reducible apply wl_stF hs);infer_instance;rfl;rfl;(with_reducible exact Qh);rfl;rfl;rfl;rfl;clear hs;intro w hs)|((with_reducible apply wl_alloc hs);infer_instance;rfl;clear hs;intro w b hs;(simp only [Uc,Uz]))|((with_reducible apply wl_ldSN (k := 0) hs);infer_instance;rfl;assumption;(focus with_reducible (repeat first|exact Qh|apply Qk);done);(exact (Nat.add_zero _).symm);(assumption);(exact Vb rfl);rfl;rfl;(simp only [Uc,Uz]))|((with_reducible apply wl_ia hs);infer_instance;infer_instance;rfl;rfl;(focus with_reducible (repeat first|exact Qh|apply Qk);done);(rfl);(assumption);rfl;intro b off hat;(simp only [Uc,Uz])))|(go_at_call 70;((refine (hO.out).at hs (by (focus ((repeat (with_reducible exact Qn));done))) ?_);clear hs;intro w hs;(try simp only [emp_mul,mul_assoc'] at hs)))))|go_guarded|go_step|(dsimp only)))
     go_roundw
     case rel => exact ⟨k + 1,L,ab,nb,hk2.out,by simp,rfl,Lib.hid (by rw [hL2.out];exact ⟨hL.out.1,hL.out.2.1,by have := hL.out.2.2;omega⟩),by ((with_reducible apply Sat.fin hs);(focus with_reducible (repeat first|exact Ql|exact Qh|apply Qb|apply Qk);done))⟩
     case measure => have := hk2.out;simp [intOf];omega
   ·rw [objN_no ho] at hO
    have hL2 := Lib.hid (hno.out (by unfold opB;simp;intro h;exact absurd h ho))
    obtain ⟨x1,x2,x3,x4,x5,x6,x7,x8,x9⟩ := x
    have hgv : (cs.map Cll.e)[k]? = some (Cll.e ⟨x1,x2,x3,x4,x5,x6,x7,x8,x9⟩) := by rw [List.getElem?_map,hx];rfl
    simp only [] at hO
    clear hno hye hop ho hx hkr
    (repeat' (first|(((with_reducible apply wl_pass2);rfl;rfl;((simp only [ev,Ue,Uf]);rfl);rfl;(simp only [Uc,Uz]));(repeat ((with_reducible apply wl_pass2);rfl;rfl;((simp only [ev,Ue,Uf]);rfl);rfl;(simp only [Uc,Uz]))))|((with_reducible apply wl_pick);((simp only [ev,Ue,Uf]);rfl);((simp only [cond_true,cond_false,ev,Ue,Uf]);rfl);(with_reducible exact want_none);(simp only [Uc,Uz]))|(go_big_may;(first|(first|((with_reducible apply wl_ld hs);infer_instance;rfl;(with_reducible exact Qh);rfl;rfl;(simp only [Uc,Uz]))|((with_reducible apply wl_stF hs);infer_instance;rfl;rfl;(with_reducible exact Qh);rfl;rfl;rfl;rfl;clear hs;intro w hs)|((with_reducible apply wl_alloc hs);infer_instance;rfl;clear hs;intro w b hs;(simp only [Uc,Uz]))|((with_reducible apply wl_ldSN (k := 0) hs);infer_instance;rfl;assumption;(focus with_reducible (repeat first|exact Qh|apply Qk);done);(exact (Nat.add_zero _).symm);(assumption);(exact Vb rfl);rfl;rfl;(simp only [Uc,Uz]))|((with_reducible apply wl_ia hs);infer_instance;infer_instance;rfl;rfl;(focus with_reducible (repeat first|exact Qh|apply Qk);done);(rfl);(assumption);rfl;intro b off hat;(simp only [Uc,Uz])))|(go_at_call 70;((refine (hO.out).at hs (by (focus ((repeat (with_reducible exact Qn));done))) ?_);clear hs;intro w hs;(try simp only [emp_mul,mul_assoc'] at hs)))))|go_step|(dsimp only)))
    go_roundw
    case rel => exact ⟨k + 1,L,ab,nb,hk2.out,by simp,rfl,Lib.hid (by rw [hL2.out];exact ⟨hL.out.1,hL.out.2.1,by have := hL.out.2.2;omega⟩),by ((with_reducible apply Sat.fin hs);(focus with_reducible (repeat first|exact Ql|exact Qh|apply Qb|apply Qk);done))⟩
    case measure => have := hk2.out;simp [intOf];omega
end Go.Proofs.YtegafhhdegnigaaGreat
end
/-
  HazardCell: Linear, walked.
-/
section
namespace Go.Proofs.YtegafhhdegnigaaGreat
open Go.RowKit Hp
set_option maxRecDepth 100000
set_option maxHeartbeats 8000000
attribute [local irreducible] Go.Calls Go.wpList
theorem mod_linear (cs : List Cll) (o : Option Int) (hl : cs.length < 100000000) (hQ : CelQ cs o) (a0 : Option Addr) (c0 : Nat) : Does Tryz.prog 21 #[.slice a0 cs.length c0]
  (sl 50 9 (cs.map Cll.e) (.slice a0 cs.length c0)) (fun u => AlV o u * sl 50 9 (cs.map Cll.e) (.slice a0 cs.length c0)) := by
 intro O w F hs
 have hB := Lib.hid (mod_byp cs hl hQ.op a0 c0)
 replace hQ := Lib.hid hQ
 go_enter Tryz.func21,Tryz.ntmps21
 (repeat' (first|(go_big_may;(first|((with_reducible apply wl_alloc hs);infer_instance;rfl;clear hs;intro w b hs;(simp only [Uc,Uz]))|((with_reducible apply wl_len hs);infer_instance;rfl;(focus with_reducible (repeat first|exact Qh|apply Qk);done);rfl;(simp only [Uc,Uz]))))|go_step))
 simp only [List.length_map] at hs ⊢
 obtain ⟨b2,hb2⟩ : ∃ x,x = b := ⟨_,rfl⟩
 subst hb2
 go_loopw [5,12] (fun _ q wr => ∃ k : Nat,k ≤ cs.length ∧ q = .int .i64 (k : Int) ∧
  Sat O wr (pt b2 (.cells #[.slice none 0 0,.slice none 0 0,.slice none 0 0,.slice none 0 0,.slice none 0 0] 53) * (sl 50 9 (cs.map Cll.e) (.slice a0 cs.length c0) * F))) (fun _ q _ => cs.length + 1 - (intOf q).toNat)
 case atStart => exact ⟨0,by omega,rfl,by ((with_reducible apply Sat.fin hs);(with_reducible exact Ql))⟩
 case round =>
  obtain ⟨k,k1,rfl,hs⟩ := hrel
  by_cases hkr : k = cs.length
  ·subst hkr
   have hlt : decide ((cs.length : Int) < (cs.length : Int)) = false := by simp
   (repeat' (first|(go_big_may;(go_at_call 71;((refine (hB.out).at hs (by (focus with_reducible (repeat first|exact Qh|apply Qk);done)) ?_);clear hs;intro v w hs;(try simp only [emp_mul,mul_assoc'] at hs));(have hg := bpv_get hs);(clear hs);(obtain ⟨l,hl2,hs⟩ := hg);(obtain ⟨a1,c1,rfl⟩ := sl_len hs)))|go_step|(dsimp only)))
   simp only [List.length_map] at hs ⊢
   obtain ⟨q1,q2,q3⟩ := hQ.out.play l hl2.1 hl2.2
   have hll : l.length ≤ cs.length := by rw [hl2.1.length_eq];exact List.length_filter_le ..
   have hll2 : l.length < 100000000 := by omega
   have hPl := Lib.hid (mod_play l o (by omega) ⟨q2,q3⟩ a1 c1)
   replace q1 := Lib.hid q1
   clear hB hQ hl2 q2 q3 hlt hll
   go_loopw [7] (fun q wr => ∃ i : Nat,1 ≤ i ∧ i ≤ l.length + 1 ∧ q = .int .i64 (i : Int) ∧
    Sat O wr (sl 50 9 (l.map Cll.e) (.slice a1 l.length c1) * (pt b2 (.cells #[.slice none 0 0,.slice none 0 0,.slice none 0 0,.slice none 0 0,.slice none 0 0] 53) * (sl 50 9 (cs.map Cll.e) (.slice a0 cs.length c0) * F)))) (fun q _ => l.length + 2 - (intOf q).toNat)
   case atStart => exact ⟨1,by omega,by omega,rfl,by ((with_reducible apply Sat.fin hs);(focus with_reducible (repeat first|exact Ql|exact Qh|apply Qb|apply Qk);done))⟩
   case round =>
    obtain ⟨i,i1,i2,rfl,hs⟩ := hrel
    by_cases hil : i < l.length
    ·have hlt : decide ((i : Int) < (l.length : Int)) = true := by simp;omega
     have hlt2 : decide (i < l.length) = true := by simp;omega
     have hln : i < (l.map Cll.e).length := by simp;omega
     have hln2 : ((i : Int) - 1).toNat < (l.map Cll.e).length := by simp;omega
     have hta : ((i : Int) - 1).toNat = i - 1 := by omega
     obtain ⟨x,hx⟩ : ∃ x,l[i]? = some x := ⟨_,List.getElem?_eq_getElem (by omega)⟩
     obtain ⟨z,hz⟩ : ∃ z,l[i - 1]? = some z := ⟨_,List.getElem?_eq_getElem (by omega)⟩
     have hne : z.point < x.point := by
      obtain ⟨g1,g2⟩ := List.getElem?_eq_some_iff.1 hx
      obtain ⟨g3,g4⟩ := List.getElem?_eq_some_iff.1 hz
      have := (List.pairwise_iff_getElem.1 q1.out) (i - 1) i g3 g1 (by omega)
      rw [g2,g4] at this
      exact this
     have hk2 := Lib.hid (show i + 1 ≤ l.length + 1 by omega)
     have hn65 : i < 4294967296 := by omega
     obtain ⟨x1,x2,x3,x4,x5,x6,x7,x8,x9⟩ := x
     obtain ⟨z1,z2,z3,z4,z5,z6,z7,z8,z9⟩ := z
     have hgv : (l.map Cll.e)[i]? = some (Cll.e ⟨x1,x2,x3,x4,x5,x6,x7,x8,x9⟩) := by rw [List.getElem?_map,hx];rfl
     have hgz : (l.map Cll.e)[i - 1]? = some (Cll.e ⟨z1,z2,z3,z4,z5,z6,z7,z8,z9⟩) := by rw [List.getElem?_map,hz];rfl
     have hgz2 : (l.map Cll.e)[((i : Int) - 1).toNat]? = some (Cll.e ⟨z1,z2,z3,z4,z5,z6,z7,z8,z9⟩) := by rw [hta];exact hgz
     have f1 : (x7 == z7) = false := by simp only [] at hne;simp;omega
     clear hne hx hz hta hil
     (repeat' (first|(go_big_may;(first|(first|(first|(with_reducible refine NQ.mk ?_)|((with_reducible apply pl_neu);rfl;rfl)|(with_reducible refine pl_end ?_))|((with_reducible apply wl_ldS hs);infer_instance;rfl;assumption;(with_reducible exact Qh);rfl;(assumption);rfl;rfl;(simp only [Uc,Uz]))|((with_reducible apply wl_ia2 hs);infer_instance;infer_instance;rfl;assumption;rfl;(with_reducible exact Qh);(exact (Int.toNat_of_nonneg (by omega)).symm);(assumption);rfl;(simp only [Uc,Uz]))|((with_reducible apply wl_ia hs);infer_instance;infer_instance;rfl;rfl;(with_reducible exact Qh);(rfl);(assumption);rfl;intro b off hat;(simp only [Uc,Uz]))|((with_reducible apply wl_len hs);infer_instance;rfl;(with_reducible exact Qh);rfl;(simp only [Uc,Uz])))|((with_reducible refine wp_plan_sat (id := 12) [.neu 0,.neu 1,.neu 2,.neu 3,.neu 4,.neu 5,.neu 6,.neu 7,.neu 8,.neu 9,.neu 10,.neu 11] hs rfl ?_ ?_);kernel_rfl;clear hs;intro w hs)))|go_step))
     go_roundw
     case rel => exact ⟨i + 1,by omega,hk2.out,by simp,by ((with_reducible apply Sat.fin hs);(with_reducible exact Ql))⟩
     case measure => have := hk2.out;simp [intOf];omega
    ·have hlt : decide ((i : Int) < (l.length : Int)) = false := by simp;omega
     have hlt2 : decide (i < l.length) = false := by simp;omega
     clear hil q1
     (repeat' (first|(go_big_may;(first|(first|((with_reducible apply wl_ldF hs);infer_instance;rfl;(with_reducible exact Qh);rfl;rfl;(simp only [Uc,Uz]))|((with_reducible apply wl_stF hs);infer_instance;rfl;rfl;(focus with_reducible (repeat first|exact Qh|apply Qk);done);rfl;rfl;rfl;rfl;clear hs;intro w hs)|((with_reducible apply wl_alloc hs);infer_instance;rfl;clear hs;intro w b hs;(simp only [Uc,Uz]))|((with_reducible apply wl_len hs);infer_instance;rfl;(with_reducible exact Qh);rfl;(simp only [Uc,Uz])))|(go_at_call 72;((refine (hPl.out).at hs (by (with_reducible exact Qh)) ?_);clear hs;intro v w hs;(try simp only [emp_mul,mul_assoc'] at hs));(have hg := plv_get hs);(clear hs);(obtain ⟨v1,rfl,hs⟩ := hg);(have hg := ct_get hs);(clear hs);(obtain ⟨d0,e0,d1,e1,d2,e2,d3,e3,d4,e4,rfl,hs⟩ := hg))))|go_step|(dsimp only)))
     ((try simp only [Exit.inBlock,Exit.then]);(with_reducible apply bodyPost_ret);((with_reducible apply results_ct);rfl;rfl;(with_reducible apply loadF hs);infer_instance;(with_reducible exact Qh);rfl;rfl))
     refine ⟨_,rfl,?_⟩
     simp only [mul_assoc']
     apply alv_mk
     apply ct_mk
     ((with_reducible apply Sat.fin hs);(focus with_reducible (repeat first|exact Ql|exact Qh|apply Qb|apply Qk);done))
  ·have hlt : decide ((k : Int) < (cs.length : Int)) = true := by simp;omega
   have hlt2 : decide (k < cs.length) = true := by simp;omega
   have hln : k < (cs.map Cll.e).length := by simp;omega
   obtain ⟨x,hx⟩ : ∃ x,cs[k]? = some x := ⟨_,List.getElem?_eq_getElem (by omega)⟩
   have hxm := List.mem_of_getElem? hx
   have hO := Lib.hid (mod_object x.op (hQ.out.op x hxm))
   have hfi := hQ.out.fine x hxm
   have hk2 := Lib.hid (show k + 1 ≤ cs.length by omega)
   have hn65 : k < 4294967296 := by omega
   obtain ⟨x1,x2,x3,x4,x5,x6,x7,x8,x9⟩ := x
   have hgv : (cs.map Cll.e)[k]? = some (Cll.e ⟨x1,x2,x3,x4,x5,x6,x7,x8,x9⟩) := by rw [List.getElem?_map,hx];rfl
   simp only [] at hO hfi
   by_cases ho : x2 = 22 ∨ x2 = 23
   ·rw [objN_yes ho] at hO
    obtain ⟨p1,p2⟩ := hfi ho
    by_cases he : 0 ≤ x6
    ·have hp := p1 he
     obtain ⟨p3,p4⟩ := p2 hp
     have p4 := p4 he
     have f1 : decide (x6 ≥ 0) = true := by simpa using he
     have f1' : decide (0 ≤ x6) = true := by simpa using he
     have f2 : decide (x7 < 0) = false := by simp;omega
     have f3 : decide (x7 ≥ 0) = true := by simpa using hp
     have f3' : decide (0 ≤ x7) = true := by simpa using hp
     have f4 : decide (x7 ≤ x5) = false := by simp;omega
     have f5 : decide (x7 > x6) = false := by simp;omega
     have f5' : decide (x6 < x7) = false := by simp;omega
     clear hfi p1 p2 p3 p4 hp he ho hxm hx hkr
     (repeat' (first|((with_reducible apply wl_pick);((simp only [ev,Ue,Uf]);rfl);((simp only [cond_true,cond_false,ev,Ue,Uf]);rfl);(first|(with_reducible exact want_none)|((with_reducible apply want_some);rfl;rfl;(simp only [Ue,Uf])));(simp only [Uc,Uz]))|(go_big_may;(first|(first|((with_reducible apply wl_ld hs);infer_instance;rfl;(with_reducible exact Qh);rfl;rfl;(simp only [Uc,Uz]))|((with_reducible apply wl_stF hs);infer_instance;rfl;rfl;(with_reducible exact Qh);rfl;rfl;rfl;rfl;clear hs;intro w hs)|((with_reducible apply wl_alloc hs);infer_instance;rfl;clear hs;intro w b hs;(simp only [Uc,Uz]))|((with_reducible apply wl_ldSN (k := 0) hs);infer_instance;rfl;assumption;(focus with_reducible (repeat first|exact Qh|apply Qk);done);(exact (Nat.add_zero _).symm);(assumption);(exact Vb rfl);rfl;rfl;(simp only [Uc,Uz]))|((with_reducible apply wl_ia hs);infer_instance;infer_instance;rfl;rfl;(focus with_reducible (repeat first|exact Qh|apply Qk);done);(rfl);(assumption);rfl;intro b off hat;(simp only [Uc,Uz])))|(go_at_call 70;((refine (hO.out).at hs (by (focus ((repeat (with_reducible exact Qn));done))) ?_);clear hs;intro w hs;(try simp only [emp_mul,mul_assoc'] at hs)))))|go_guarded|go_step|(dsimp only)))
     go_roundw
     case rel => exact ⟨k + 1,hk2.out,by simp,by ((with_reducible apply Sat.fin hs);(focus with_reducible (repeat first|exact Ql|exact Qh|apply Qb|apply Qk);done))⟩
     case measure => have := hk2.out;simp [intOf];omega
    ·have f1 : decide (x6 ≥ 0) = false := by simp;omega
     have f1' : decide (0 ≤ x6) = false := by simp;omega
     by_cases hp : 0 ≤ x7
     ·obtain ⟨p3,p4⟩ := p2 hp
      have f3 : decide (x7 ≥ 0) = true := by simpa using hp
      have f3' : decide (0 ≤ x7) = true := by simpa using hp
      have f4 : decide (x7 ≤ x5) = false := by simp;omega
      clear hfi p1 p2 p3 p4 hp he ho hxm hx hkr
      (repeat' (first|(((with_reducible apply wl_pass2);rfl;rfl;((simp only [ev,Ue,Uf]);rfl);rfl;(simp only [Uc,Uz]));(repeat ((with_reducible apply wl_pass2);rfl;rfl;((simp only [ev,Ue,Uf]);rfl);rfl;(simp only [Uc,Uz]))))|((with_reducible apply wl_pick);((simp only [ev,Ue,Uf]);rfl);((simp only [cond_true,cond_false,ev,Ue,Uf]);rfl);(first|(with_reducible exact want_none)|((with_reducible apply want_some);rfl;rfl;(simp only [Ue,Uf])));(simp only [Uc,Uz]))|(go_big_may;(first|(first|((with_reducible apply wl_ld hs);infer_instance;rfl;(with_reducible exact Qh);rfl;rfl;(simp only [Uc,Uz]))|((with_reducible apply wl_stF hs);infer_instance;rfl;rfl;(with_reducible exact Qh);rfl;rfl;rfl;rfl;clear hs;intro w hs)|((with_reducible apply wl_alloc hs);infer_instance;rfl;clear hs;intro w b hs;(simp only [Uc,Uz]))|((with_reducible apply wl_ldSN (k := 0) hs);infer_instance;rfl;assumption;(focus with_reducible (repeat first|exact Qh|apply Qk);done);(exact (Nat.add_zero _).symm);(assumption);(exact Vb rfl);rfl;rfl;(simp only [Uc,Uz]))|((with_reducible apply wl_ia hs);infer_instance;infer_instance;rfl;rfl;(focus with_reducible (repeat first|exact Qh|apply Qk);done);(rfl);(assumption);rfl;intro b off hat;(simp only [Uc,Uz])))|(go_at_call 70;((refine (hO.out).at hs (by (focus ((repeat (with_reducible exact Qn));done))) ?_);clear hs;intro w hs;(try simp only [emp_mul,mul_assoc'] at hs)))))|go_guarded|go_step|(dsimp only)))
      go_roundw
      case rel => exact ⟨k + 1,hk2.out,by simp,by ((with_reducible apply Sat.fin hs);(focus with_reducible (repeat first|exact Ql|exact Qh|apply Qb|apply Qk);done))⟩
      case measure => have := hk2.out;simp [intOf];omega
     ·have f3 : decide (x7 ≥ 0) = false := by simp;omega
      have f3' : decide (0 ≤ x7) = false := by simp;omega
      clear hfi p1 p2 hp he ho hxm hx hkr
      (repeat' (first|(((with_reducible apply wl_pass2);rfl;rfl;((simp only [ev,Ue,Uf]);rfl);rfl;(simp only [Uc,Uz]));(repeat (first|((with_reducible apply wl_pass2);rfl;rfl;((simp only [ev,Ue,Uf]);rfl);rfl;(simp only [Uc,Uz]))|((with_reducible apply wl_pass3);rfl;rfl;(simp only [Ue,Uf]);(simp only [Uc,Uz])))))|((with_reducible apply wl_pick);((simp only [ev,Ue,Uf]);rfl);((simp only [cond_true,cond_false,ev,Ue,Uf]);rfl);(first|(with_reducible exact want_none)|((with_reducible apply want_some);rfl;rfl;(simp only [Ue,Uf])));(simp only [Uc,Uz]))|(go_big_may;(first|(first|((with_reducible apply wl_ld hs);infer_instance;rfl;(with_reducible exact Qh);rfl;rfl;(simp only [Uc,Uz]))|((with_reducible apply wl_stF hs);infer_instance;rfl;rfl;(with_reducible exact Qh);rfl;rfl;rfl;rfl;clear hs;intro w hs)|((with_reducible apply wl_alloc hs);infer_instance;rfl;clear hs;intro w b hs;(simp only [Uc,Uz]))|((with_reducible apply wl_ldSN (k := 0) hs);infer_instance;rfl;assumption;(focus with_reducible (repeat first|exact Qh|apply Qk);done);(exact (Nat.add_zero _).symm);(assumption);(exact Vb rfl);rfl;rfl;(simp only [Uc,Uz]))|((with_reducible apply wl_ia hs);infer_instance;infer_instance;rfl;rfl;(focus with_reducible (repeat first|exact Qh|apply Qk);done);(rfl);(assumption);rfl;intro b off hat;(simp only [Uc,Uz])))|(go_at_call 70;((refine (hO.out).at hs (by (focus ((repeat (with_reducible exact Qn));done))) ?_);clear hs;intro w hs;(try simp only [emp_mul,mul_assoc'] at hs)))))|go_guarded|go_step|(dsimp only)))
      go_roundw
      case rel => exact ⟨k + 1,hk2.out,by simp,by ((with_reducible apply Sat.fin hs);(focus with_reducible (repeat first|exact Ql|exact Qh|apply Qb|apply Qk);done))⟩
      case measure => have := hk2.out;simp [intOf];omega
   ·rw [objN_no ho] at hO
    clear hfi ho hxm hx hkr
    (repeat' (first|(go_big_may;(first|(first|((with_reducible apply wl_ld hs);infer_instance;rfl;(with_reducible exact Qh);rfl;rfl;(simp only [Uc,Uz]))|((with_reducible apply wl_stF hs);infer_instance;rfl;rfl;(with_reducible exact Qh);rfl;rfl;rfl;rfl;clear hs;intro w hs)|((with_reducible apply wl_alloc hs);infer_instance;rfl;clear hs;intro w b hs;(simp only [Uc,Uz]))|((with_reducible apply wl_ldSN (k := 0) hs);infer_instance;rfl;assumption;(focus with_reducible (repeat first|exact Qh|apply Qk);done);(exact (Nat.add_zero _).symm);(assumption);(exact Vb rfl);rfl;rfl;(simp only [Uc,Uz]))|((with_reducible apply wl_ia hs);infer_instance;infer_instance;rfl;rfl;(focus with_reducible (repeat first|exact Qh|apply Qk);done);(rfl);(assumption);rfl;intro b off hat;(simp only [Uc,Uz])))|(go_at_call 70;((refine (hO.out).at hs (by (focus ((repeat (with_reducible exact Qn));done))) ?_);clear hs;intro w hs;(try simp only [emp_mul,mul_assoc'] at hs)))))|go_step|(dsimp only)))
    go_roundw
    case rel => exact ⟨k + 1,hk2.out,by simp,by ((with_reducible apply Sat.fin hs);(focus with_reducible (repeat first|exact Ql|exact Qh|apply Qb|apply Qk);done))⟩
    case measure => have := hk2.out;simp [intOf];omega
end Go.Proofs.YtegafhhdegnigaaGreat
end
