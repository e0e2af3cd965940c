/-
  HazardCell, walked.
-/
import Derived.Test.YtegafhhdegnigaaGreatDCelM5
import Derived.Test.YtegafhhdegnigaaGreatDMay
import Derived.Test.YtegafhhdegnigaaGreatDSame
set_option linter.all false
namespace Go.Proofs.YtegafhhdegnigaaGreat
open Go.RowKit Hp
set_option maxRecDepth 100000
set_option maxHeartbeats 8000000
attribute [local irreducible] Go.Calls Go.wpList
structure CelE (C : Cfg) (ws : List Int) (o : Option Int) (n2 n11 : Nat) : Prop where
 b2 : base C 2 = (n2 : Int)
 b11 : base C 11 = (n11 : Int)
 len : (ws.length : Int) = base C 14
 is : (ws[n2]? = some 0 ∧ o = none) ∨ ∃ (s : Nat) (u : Int),ws[n2]? = some ((s : Int) + 1) ∧ (s : Int) < C.Sl ∧ ws[n11 + s]? = some u ∧ o = some (wrap64 u)
theorem celE {C : Cfg} (hok : C.Ok) {m : Mch} (hl : m.mem.words.length = (base C 14).toNat) (hw : ∀ (k : Nat) (u : Int),m.mem.words[k]? = some u → WOk C k u) : ∃ n2 n11,CelE C m.mem.words (cellV (mv C m)) n2 n11 := by
 have hbs := bases hok
 obtain ⟨b1,b2,b8,b9,b10,b11,b12,b13,b14,rh,rh2⟩ := hbs
 have hS := hok.S1
 have hR := hok.R1
 have e2 := adr_i hok 2 (Int.le_refl 0)
 have h14 : ((base C 14).toNat : Int) = base C 14 := by omega
 refine ⟨(base C 2).toNat,(base C 11).toNat,by omega,by omega,by rw [hl];exact h14,?_⟩
 have ha : adr C 2 0 = (base C 2).toNat := by omega
 have hlt : (base C 2).toNat < m.mem.words.length := by omega
 have hg : m.mem.words[(base C 2).toNat]? = some (mv C m).cell := by
  show _ = some (m.word (adr C 2 0))
  rw [ha]
  unfold Mch.word
  rw [List.getD_eq_getElem?_getD,List.getElem?_eq_getElem hlt];rfl
 have hc := (hw _ _ hg).cell (by omega)
 by_cases h0 : (mv C m).cell = 0
 ·left
  rw [hg,h0]
  exact ⟨rfl,by unfold cellV;rw [if_pos h0]⟩
 ·right
  have hs : (((mv C m).cell - 1).toNat : Int) = (mv C m).cell - 1 := by omega
  refine ⟨((mv C m).cell - 1).toNat,(mv C m).val ((mv C m).cell - 1),by rw [hg,hs];congr 1;omega,by omega,?_,by unfold cellV;rw [if_neg h0]⟩
  have e11 := adr_i hok 11 (i := (mv C m).cell - 1) (by omega)
  have hv : (mv C m).val ((mv C m).cell - 1) = m.word (adr C 11 ((mv C m).cell - 1)) := by
   generalize (mv C m).cell = w at *
   simp only [mv];rw [if_pos (by omega)]
  have hi : adr C 11 ((mv C m).cell - 1) = (base C 11).toNat + ((mv C m).cell - 1).toNat := by omega
  have hlt : (base C 11).toNat + ((mv C m).cell - 1).toNat < m.mem.words.length := by omega
  rw [hv,hi]
  unfold Mch.word
  rw [List.getD_eq_getElem?_getD,List.getElem?_eq_getElem hlt];rfl
theorem haz_cell (c : Cfg) (mvs0 : List Mv) (v0 : Value) (A : SProp) (hRd0 : Rd A 4 (mvs0.map Mv.e) v0) (hw0 : ∀ mv ∈ mvs0,wrap64 mv.arg = mv.arg) :
  Gives Tryz.prog 5 #[c.v,v0] A (.bool true) A := by
 intro O w F hs
 have hok := fitC_ok c
 obtain ⟨y,hB,hK,hA⟩ := ki_ex2 hok (celJ_ok (fitC c) hok) (mvs0.take 65536) (fitM_len mvs0)
 have hPl := Lib.hid (law_play c mvs0 v0 A hRd0 hB)
 obtain ⟨pr,F0,_,J⟩ := hK.ex
 have hQ := celQ hK.ok J (fun x hx => by obtain ⟨mv,h1,h2⟩ := hA x hx;rw [h2];exact hw0 mv (List.mem_of_mem_take h1))
 have hLn := hB.lens (fitM_len mvs0)
 obtain ⟨n2,n11,E⟩ := celE hok hK.pi.core.words hK.pi.core.wok
 have hLi := Lib.hid (fun a0 c0 => mod_linear y.m.calls _ (hLn.l1) hQ a0 c0)
 have hS := Lib.hid (ref_size (fitC c) hok)
 have hB2 := ref_base (fitC c) hok 2 (by omega) (by omega)
 have hB11 := ref_base (fitC c) hok 11 (by omega) (by omega)
 rw [E.b2] at hB2
 rw [E.b11] at hB11
 have hl4 := hLn.l4
 have hlen := E.len
 have his := E.is
 have hne : ((y.m.mem.words.length : Int) != base (fitC c) 14) = false := by rw [hlen];simp
 have hSl := hok.S2
 clear hK hRd0 J hQ hLn E hA hw0
 generalize fitC c = C at *
 generalize cellV (mv C y.m) = o at *
 generalize y.m.calls = cs at *
 generalize y.m.mem.log = lg at *
 generalize y.m.shifts = sh at *
 generalize y.m.mem.words = ws at *
 clear hB hok hlen
 replace hB2 := Lib.hid hB2
 replace hB11 := Lib.hid hB11
 obtain ⟨d1,d2,d3,d4,d5,d6,d7⟩ := c
 have hN2 : n2 < ws.length := by
  rcases his with ⟨hg,_⟩|⟨s,u,hg,_⟩ <;> exact (List.getElem?_eq_some_iff.1 hg).1
 have hn2 : n2 < (ws.map eU).length := by simpa using hN2
 have hn65 : n2 < 4294967296 := by omega
 rcases his with ⟨hg,rfl⟩|⟨s,u,hg,hsl,hu,rfl⟩
 ·have hLk := Lib.hid (ref_linkIndex 0 (by omega))
  have e0 : (0 : Int) % 4294967296 - 1 = -1 := by omega
  rw [e0] at hLk
  have hgv : (ws.map eU)[n2]? = some (eU 0) := by rw [List.getElem?_map,hg];rfl
  clear hg e0 hN2
  obtain ⟨c1,c2,c3,c4,c5,c6,c7⟩ := C
  simp only [] at hSl
  go_enter Tryz.func5,Tryz.ntmps5
  (repeat' (first|((with_reducible apply wl_pick);((simp only [ev,Ue,Uf]);rfl);((simp only [cond_true,cond_false,ev,Ue,Uf]);rfl);(with_reducible exact want_none);(simp only [Uc,Uz]))|(go_big_may;(first|(first|(first|(with_reducible refine NQ.mk ?_)|((with_reducible apply pl_neu);rfl;rfl)|((with_reducible apply pl_eff);rfl)|(with_reducible refine EQ.mk ?_ ?_)|(first|(with_reducible exact chk_nil)|((with_reducible refine chk_cons ?_ ?_);(focus ((with_reducible apply pl_chk);rfl;rfl))))|(with_reducible refine pl_end ?_)|(show SameA _ _ _;rfl))|((with_reducible apply wl_ld hs);infer_instance;rfl;(focus with_reducible (repeat first|exact Qh|apply Qk);done);rfl;rfl;(simp only [Uc,Uz]))|((with_reducible apply wl_ldF hs);infer_instance;rfl;(focus with_reducible (repeat first|exact Qh|apply Qk);done);rfl;rfl;(simp only [Uc,Uz]))|((with_reducible apply wl_stF hs);infer_instance;rfl;rfl;(focus with_reducible (repeat first|exact Qh|apply Qk);done);rfl;rfl;rfl;rfl;clear hs;intro w hs)|((with_reducible apply wl_alloc hs);infer_instance;rfl;clear hs;intro w b hs;(simp only [Uc,Uz]))|((with_reducible apply wl_box hs);rfl;rfl;rfl;clear hs;intro w b hs;(simp only [Uc,Uz]))|((with_reducible apply wl_ldS0 hs);infer_instance;rfl;assumption;(focus with_reducible (repeat first|exact Qh|apply Qk);done);rfl;(assumption);rfl;rfl;(simp only [Uc,Uz]))|((with_reducible apply wl_ia hs);infer_instance;infer_instance;rfl;rfl;(focus with_reducible (repeat first|exact Qh|apply Qk);done);(rfl);(assumption);rfl;intro b off hat;(simp only [Uc,Uz]))|((with_reducible apply wl_len hs);infer_instance;rfl;(focus with_reducible (repeat first|exact Qh|apply Qk);done);rfl;(simp only [Uc,Uz])))|(go_at_call 20;((refine (hPl.out).at hs (by (focus with_reducible (repeat first|exact Qh|apply Qk);done)) ?_);clear hs;intro v w hs;(try simp only [emp_mul,mul_assoc'] at hs));(simp only [sat_ex,mul_assoc',sat_pu] at hs);(obtain ⟨vm,p1,p2,p3,p4,⟨rfl,hRd⟩,hs⟩ := hs);(have hg := runR_get hs);(clear hs hRd);(obtain ⟨a1,k1,a2,k2,a3,k3,a4,k4,hv,hs⟩ := hg);(injection hv with hv);(injection hv with hv);(simp only [List.cons.injEq,and_true] at hv);(obtain ⟨rfl,rfl,rfl,rfl⟩ := hv))|(go_at_call 21;((refine ((hLi.out _ _)).at hs (by (focus with_reducible (repeat first|exact Qh|apply Qk);done)) ?_);clear hs;intro v w hs;(try simp only [emp_mul,mul_assoc'] at hs));(have hg := alv_get hs);(clear hs);(obtain ⟨v1,rfl,hs⟩ := hg);(have hg := ct_get hs);(clear hs);(obtain ⟨e0,m0,e1,m1,e2,m2,e3,m3,e4,m4,rfl,hs⟩ := hg);(simp only [ctL,List.length_cons,List.length_nil] at hs ⊢))|(go_at_call 22;((refine (hS.out).at hs (by (focus ((repeat (with_reducible exact Qn));done))) ?_);clear hs;intro w hs;(try simp only [emp_mul,mul_assoc'] at hs)))|(go_at_call 23;((refine (hB2.out).at hs (by (focus ((repeat (with_reducible exact Qn));done))) ?_);clear hs;intro w hs;(try simp only [emp_mul,mul_assoc'] at hs)))|(go_at_call 24;((refine (hLk.out).at hs (by (focus ((repeat (with_reducible exact Qn));done))) ?_);clear hs;intro w hs;(try simp only [emp_mul,mul_assoc'] at hs)))|((with_reducible refine wp_plan_sat (id := 5) [.neu 0,.neu 1,.neu 2,.neu 3,.neu 4,.neu 5,.neu 6,.eff 7 [3,4,5],.neu 8,.neu 9] hs rfl ?_ ?_);kernel_rfl;clear hs;intro w hs)|((with_reducible refine wp_plan_sat (id := 7) [.neu 0,.neu 1,.neu 2,.eff 3 [0,1],.neu 4,.neu 5,.neu 6] hs rfl ?_ ?_);kernel_rfl;clear hs;intro w hs)))|go_guarded|go_step|(dsimp only)))
  (go_ret)
  exact ⟨rfl,by ((with_reducible apply Sat.fin hs);(focus with_reducible (repeat first|exact Ql|exact Qh|apply Qb|apply Qk);done))⟩
 ·have hLk := Lib.hid (ref_linkIndex ((s : Int) + 1) (by omega))
  have e0 : ((s : Int) + 1) % 4294967296 - 1 = (s : Int) := by omega
  rw [e0] at hLk
  have hgv : (ws.map eU)[n2]? = some (eU ((s : Int) + 1)) := by rw [List.getElem?_map,hg];rfl
  have hls := (List.getElem?_eq_some_iff.1 hu).1
  have hn11 : n11 + s < (ws.map eU).length := by simpa using hls
  have ht : ((n11 : Int) + (s : Int)).toNat = n11 + s := by omega
  have hgu : (ws.map eU)[n11 + s]? = some (eU u) := by rw [List.getElem?_map,hu];rfl
  have hgu2 : (ws.map eU)[((n11 : Int) + (s : Int)).toNat]? = some (eU u) := by rw [ht];exact hgu
  have hn12 : ((n11 : Int) + (s : Int)).toNat < (ws.map eU).length := by rw [ht];exact hn11
  have hs65 : s < 4294967296 := by omega
  have hn66 : n11 < 4294967296 := by omega
  have hc1 : ([eI (wrap64 u)] : List (List Value))[0]? = some (eI (wrap64 u)) := rfl
  have f1 : decide ((s : Int) < 0) = false := by simp
  have f2 : decide ((s : Int) < C.Sl) = true := by simpa using hsl
  have f3 : (wrap64 u == wrap64 u) = true := by simp
  clear hg e0 hN2 hu hls ht hsl
  obtain ⟨c1,c2,c3,c4,c5,c6,c7⟩ := C
  simp only [] at hSl f2
  go_enter Tryz.func5,Tryz.ntmps5
  (repeat' (first|((with_reducible apply wl_pick);((simp only [ev,Ue,Uf]);rfl);((simp only [cond_true,cond_false,ev,Ue,Uf]);rfl);(with_reducible exact want_none);(simp only [Uc,Uz]))|(go_big_may;(first|(first|(first|(with_reducible refine NQ.mk ?_)|((with_reducible apply pl_neu);rfl;rfl)|((with_reducible apply pl_eff);rfl)|(with_reducible refine EQ.mk ?_ ?_)|(first|(with_reducible exact chk_nil)|((with_reducible refine chk_cons ?_ ?_);(focus ((with_reducible apply pl_chk);rfl;rfl))))|(with_reducible refine pl_end ?_)|(show SameA _ _ _;rfl))|((with_reducible apply wl_ld hs);infer_instance;rfl;(focus with_reducible (repeat first|exact Qh|apply Qk);done);rfl;rfl;(simp only [Uc,Uz]))|((with_reducible apply wl_ldF hs);infer_instance;rfl;(focus with_reducible (repeat first|exact Qh|apply Qk);done);rfl;rfl;(simp only [Uc,Uz]))|((with_reducible apply wl_stF hs);infer_instance;rfl;rfl;(focus with_reducible (repeat first|exact Qh|apply Qk);done);rfl;rfl;rfl;rfl;clear hs;intro w hs)|((with_reducible apply wl_alloc hs);infer_instance;rfl;clear hs;intro w b hs;(simp only [Uc,Uz]))|((with_reducible apply wl_box hs);rfl;rfl;rfl;clear hs;intro w b hs;(simp only [Uc,Uz]))|((with_reducible apply wl_ldS0 hs);infer_instance;rfl;assumption;(focus with_reducible (repeat first|exact Qh|apply Qk);done);rfl;(assumption);rfl;rfl;(simp only [Uc,Uz]))|((with_reducible apply wl_ia2 hs);infer_instance;infer_instance;rfl;assumption;rfl;(focus with_reducible (repeat first|exact Qh|apply Qk);done);(rfl);(first|assumption|(simp only [Wm,Ws,Wa,Wc,Wn,Wr] at *;omega));rfl;(simp only [Uc,Uz]))|((with_reducible apply wl_ia hs);infer_instance;infer_instance;rfl;rfl;(focus with_reducible (repeat first|exact Qh|apply Qk);done);(rfl);(first|assumption|(simp only [Wm,Ws,Wa,Wc,Wn,Wr] at *;omega));rfl;intro b off hat;(simp only [Uc,Uz]))|((with_reducible apply wl_len hs);infer_instance;rfl;(focus with_reducible (repeat first|exact Qh|apply Qk);done);rfl;(simp only [Uc,Uz])))|(go_at_call 20;((refine (hPl.out).at hs (by (focus with_reducible (repeat first|exact Qh|apply Qk);done)) ?_);clear hs;intro v w hs;(try simp only [emp_mul,mul_assoc'] at hs));(simp only [sat_ex,mul_assoc',sat_pu] at hs);(obtain ⟨vm,p1,p2,p3,p4,⟨rfl,hRd⟩,hs⟩ := hs);(have hg := runR_get hs);(clear hs hRd);(obtain ⟨a1,k1,a2,k2,a3,k3,a4,k4,hv,hs⟩ := hg);(injection hv with hv);(injection hv with hv);(simp only [List.cons.injEq,and_true] at hv);(obtain ⟨rfl,rfl,rfl,rfl⟩ := hv))|(go_at_call 21;((refine ((hLi.out _ _)).at hs (by (focus with_reducible (repeat first|exact Qh|apply Qk);done)) ?_);clear hs;intro v w hs;(try simp only [emp_mul,mul_assoc'] at hs));(have hg := alv_get hs);(clear hs);(obtain ⟨v1,rfl,hs⟩ := hg);(have hg := ct_get hs);(clear hs);(obtain ⟨e0,m0,e1,m1,e2,m2,e3,m3,e4,m4,rfl,hs⟩ := hg);(simp only [ctL,List.length_cons,List.length_nil] at hs ⊢))|(go_at_call 22;((refine (hS.out).at hs (by (focus ((repeat (with_reducible exact Qn));done))) ?_);clear hs;intro w hs;(try simp only [emp_mul,mul_assoc'] at hs)))|(go_at_call 23;first|((refine (hB2.out).at hs (by (focus ((repeat (with_reducible exact Qn));done))) ?_);clear hs;intro w hs;(try simp only [emp_mul,mul_assoc'] at hs))|((refine (hB11.out).at hs (by (focus ((repeat (with_reducible exact Qn));done))) ?_);clear hs;intro w hs;(try simp only [emp_mul,mul_assoc'] at hs)))|(go_at_call 24;((refine (hLk.out).at hs (by (focus ((repeat (with_reducible exact Qn));done))) ?_);clear hs;intro w hs;(try simp only [emp_mul,mul_assoc'] at hs)))|((with_reducible refine wp_plan_sat (id := 5) [.neu 0,.neu 1,.neu 2,.neu 3,.neu 4,.neu 5,.neu 6,.eff 7 [3,4,5],.neu 8,.neu 9] hs rfl ?_ ?_);kernel_rfl;clear hs;intro w hs)|((with_reducible refine wp_plan_sat (id := 7) [.neu 0,.neu 1,.neu 2,.eff 3 [0,1],.neu 4,.neu 5,.neu 6] hs rfl ?_ ?_);kernel_rfl;clear hs;intro w hs)|((with_reducible refine wp_plan_sat (id := 11) [.neu 0,.neu 1,.neu 2,.neu 3,.neu 4,.neu 5,.neu 6,.neu 7,.neu 8,.neu 9,.neu 10,.neu 11,.neu 12,.neu 13,.neu 14,.neu 15,.neu 16,.neu 17,.neu 19,.eff 18 [11,12,13,14,15,16,19],.neu 20,.neu 21,.neu 22,.neu 23,.neu 24,.neu 25,.neu 26] hs rfl ?_ ?_);kernel_rfl;clear hs;intro w hs)))|go_guarded|go_step|(dsimp only)))
  (go_ret)
  exact ⟨rfl,by ((with_reducible apply Sat.fin hs);(focus with_reducible (repeat first|exact Ql|exact Qh|apply Qb|apply Qk);done))⟩
end Go.Proofs.YtegafhhdegnigaaGreat
