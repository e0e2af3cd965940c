/-
  hazard.Play, by an invariant of the machine's states.
-/
import Derived.Test.YtegafhhdegnigaaGreatDInv
import Derived.Test.YtegafhhdegnigaaGreatDRun
import Derived.Test.YtegafhhdegnigaaGreatDRd
import Derived.Test.YtegafhhdegnigaaGreatDHist
set_option linter.all false
section
namespace Go.Proofs.YtegafhhdegnigaaGreat
open Go.RowKit Hp
set_option maxRecDepth 100000
set_option maxHeartbeats 1000000
attribute [local irreducible] Go.Calls
theorem base14_le {c : Cfg} (h : c.Ok) : base c 14 ≤ 8192 := by
 have e1 : base c 14 = base c 13 + c.Sl := rfl
 have e2 : base c 13 = base c 12 + c.Sl := rfl
 have e3 : base c 12 = base c 11 + c.Sl := rfl
 have e4 : base c 11 = base c 10 + c.Sl := rfl
 have e5 : base c 10 = base c 9 + c.R * c.Hz := rfl
 have e6 : base c 9 = base c 8 + c.R := rfl
 have e7 : base c 8 = base c 7 + c.Bu := rfl
 have e8 : base c 7 = 6 := by simp [base,many]
 have := h.rh.2
 have := h.R2;have := h.B2;have := h.S2
 omega
abbrev HW := Wst (Haz × Are) HTask
def wst0 (c : Cfg) (km : Nat) (vs : Value) : HW := ⟨(haz0 c,are0 c),mch0 c.T.toNat (firstW c 0) (.map (some km)) vs,List.replicate c.T.toNat none⟩
theorem tsk_nones {τ : Type} {R : τ → Value → SProp} {O w : World} {F : SProp} (hs : Sat O w F) : ∀ n,Sat O w (tskR R (List.replicate n none) (List.replicate n sea0) * F)
 | 0 => by simp only [List.replicate_zero,tskR,emp_mul];exact hs
 | n + 1 => by
  simp only [List.replicate_succ,tskR,mul_assoc',sat_pu]
  exact ⟨trivial,tsk_nones hs n⟩
theorem wr0_eq {g ba bx bm : Nat} {CX : SProp} {K : Int → Option Value} {c : Cfg} {km : Nat} {vs : Value} : WR (hzT g ba CX) bx bm K (wst0 c km vs) =
  MchR bx bm (mch0 c.T.toNat (firstW c 0) (.map (some km)) vs) * (mp .i64 K (.map (some km)) * (HazR g ba (haz0 c) * (AreR ba (are0 c) * (CX * tskR (htR g ba) (List.replicate c.T.toNat none) (List.replicate c.T.toNat sea0))))) := by
 unfold WR
 simp only [hzT,mul_assoc',wst0]
 rfl
def playR (J : HW → Prop) (u : Value) : SProp := ex fun x => ex fun v => pu (J x ∧ u = .tuple #[v,.int .i64 0]) * RunR x.m.calls x.m.mem.log x.m.shifts x.m.mem.words v
theorem haz_play_long (c : Cfg) (h : c.Ok) (v : Value) (mvs : List Mv) (hl : 65536 < mvs.length) (A : SProp) (hRd : Rd A 4 (mvs.map Mv.e) v) : Gives Tryz.prog 15 #[c.v,v] A (.tuple #[.agg #[.slice none 0 0,.slice none 0 0,.slice none 0 0,.slice none 0 0],.int .i64 3]) A := by
 intro O w F hs
 have hA := Lib.hid (arena_new c h)
 obtain ⟨a0,c0,rfl⟩ := hRd.len
 simp only [List.length_map] at hRd hs ⊢
 have hRd := Lib.hid hRd
 have n1 : decide ((mvs.length : Int) > 65536) = true := by simp;omega
 go_enter Tryz.func15,Tryz.ntmps15
 go_wp2_with (first|(first|((with_reducible apply wl_ldF hs);infer_instance;rfl;(focus with_reducible (repeat first|exact Qh|apply Qk);done);rfl;rfl;(simp only [Uc,Uz]))|((with_reducible apply wl_stF hs);infer_instance;rfl;rfl;(focus with_reducible (repeat first|exact Qh|apply Qk);done);rfl;rfl;rfl;rfl;clear hs;intro w hs)|((with_reducible apply wl_alloc hs);infer_instance;rfl;clear hs;intro w b hs;(simp only [Uc,Uz]))|((with_reducible apply wl_box hs);rfl;rfl;rfl;clear hs;intro w b hs;(simp only [Uc,Uz])))|(go_at_call 33;((refine (hA.out).at hs (by (focus ((repeat (with_reducible exact Qn));done))) ?_);clear hs;intro v w hs;(try simp only [emp_mul,mul_assoc'] at hs));(simp only [sat_ex,mul_assoc',sat_pu] at hs);(obtain ⟨ba,rfl,hs⟩ := hs)))
 ((try simp only [Exit.inBlock,Exit.then]);(with_reducible apply bodyPost_ret);((with_reducible apply results_ct);rfl;rfl;(with_reducible apply loadF hs);infer_instance;(with_reducible exact Qh);rfl;rfl))
 exact ⟨rfl,by ((with_reducible apply Sat.fin hs);(focus with_reducible (repeat first|exact Ql|exact Qh|apply Qb|apply Qk);done))⟩
set_option maxHeartbeats 4000000 in
theorem haz_playR (c : Cfg) (h : c.Ok) (v : Value) (mvs : List Mv) (hl : mvs.length ≤ 65536) (J : Nat → HW → Prop) (hn : c.T.toNat ≤ 16)
  (J0 : ∀ km vs,J 0 (wst0 c km vs))
  (Jm : ∀ bh ba x k y mv,mvs[k]? = some mv → J k y → MayMove (hzT bh ba (capR bh x)) (KOk c.T.toNat) c.T.toNat y mv)
  (Js : ∀ bh ba x k y mv b y',mvs[k]? = some mv → J k y → MoveTo (hzT bh ba (capR bh x)) (kitFn x) kitTask y mv b y' → J (k + 1) y')
  (Jr : ∀ y,J mvs.length y → y.m.calls.length < 4294967296 ∧ y.m.shifts.length < 4294967296 ∧ y.m.mem.words.length < 4294967296 ∧ y.m.mem.log.length < 4294967295 ∧ 0 < y.m.seats.length) (A : SProp) (hRd : Rd A 4 (mvs.map Mv.e) v) :
  Does Tryz.prog 15 #[c.v,v] A (fun u => playR (J mvs.length) u * A) := by
 intro O w F hs
 have hA := Lib.hid (arena_new c h)
 have hF := Lib.hid (word_first0 c h)
 have hH := Lib.hid (fun ba => hazard_new ba (are0 c) h)
 have hK := Lib.hid (fun bh ba => haz_kit bh ba (haz0 c))
 have hM := machine_new c.T.toNat
 have hT1 := h.T1
 have hT2 := h.T2
 have hTn : ((c.T.toNat : Nat) : Int) = c.T := Int.toNat_of_nonneg (by omega)
 have hbl := base14_le h
 rw [hTn] at hM
 have hM := Lib.hid (fun v km => hM v km (firstW c 0) (by omega) (by omega) (by rw [firstW_len];omega))
 obtain ⟨a0,c0,rfl⟩ := hRd.len
 simp only [List.length_map] at hRd hs ⊢
 have hRd := Lib.hid hRd
 have n1 : decide ((mvs.length : Int) > 65536) = false := by simp;omega
 have J0 := Lib.hid J0
 have Jm := Lib.hid Jm
 have Js := Lib.hid Js
 have Jr := Lib.hid Jr
 go_enter Tryz.func15,Tryz.ntmps15
 go_wp2_with (first|(first|(first|(with_reducible refine NQ.mk ?_)|((with_reducible apply pl_neu);rfl;rfl)|((with_reducible apply pl_eff);rfl)|(with_reducible refine EQ.mk ?_ ?_)|(first|(with_reducible exact chk_nil)|((with_reducible refine chk_cons ?_ ?_);(focus ((with_reducible apply pl_chk);rfl;rfl))))|(with_reducible refine pl_end ?_)|(show SameA _ _ _;rfl))|((with_reducible apply wl_ld hs);infer_instance;rfl;(focus with_reducible (repeat first|exact Qh|apply Qk);done);rfl;rfl;(simp only [Uc,Uz]))|((with_reducible apply wl_ldF hs);infer_instance;rfl;(focus with_reducible (repeat first|exact Qh|apply Qk);done);rfl;rfl;(simp only [Uc,Uz]))|((with_reducible apply wl_alloc hs);infer_instance;rfl;clear hs;intro w b hs;(simp only [Uc,Uz]))|((with_reducible apply wl_box hs);rfl;rfl;rfl;clear hs;intro w b hs;(simp only [Uc,Uz])))|(go_at_call 33;((refine (hA.out).at hs (by (focus ((repeat (with_reducible exact Qn));done))) ?_);clear hs;intro v w hs;(try simp only [emp_mul,mul_assoc'] at hs));(simp only [sat_ex,mul_assoc',sat_pu] at hs);(obtain ⟨ba,rfl,hs⟩ := hs))|(go_at_call 61;((refine (hF.out).at hs (by (focus ((repeat (with_reducible exact Qn));done))) ?_);clear hs;intro v w hs;(try simp only [emp_mul,mul_assoc'] at hs));(simp only [sat_ex,mul_assoc',sat_pu] at hs);(obtain ⟨vw,rfl,hs⟩ := hs))|(go_at_call 37;((refine ((hH.out ba)).at hs (by (focus with_reducible (repeat first|exact Qh|apply Qk);done)) ?_);clear hs;intro g w hs;(try simp only [emp_mul,mul_assoc'] at hs)))|(go_at_call 40;((refine ((hK.out g ba)).at hs (by (focus ((repeat (exact Qh));done))) ?_);clear hs;intro v w hs;(try simp only [emp_mul,mul_assoc'] at hs));(simp only [sat_ex,mul_assoc'] at hs);(obtain ⟨x,hs⟩ := hs);(obtain ⟨km,rfl⟩ := mp_some hs))|(go_at_call 38;((refine ((hM.out vw km)).at hs (by (focus with_reducible (repeat first|exact Qh|apply Qk);done)) ?_);clear hs;intro v w hs;(try simp only [emp_mul,mul_assoc'] at hs));(simp only [sat_ex,mul_assoc',sat_pu] at hs);(obtain ⟨bx,bm,vs,rfl,hs⟩ := hs))|((with_reducible refine wp_plan_sat (id := 7) [.neu 0,.neu 1,.neu 2,.neu 3,.eff 4 [0,1,2],.eff 5 [0,1,2],.eff 6 [],.neu 7,.neu 8,.neu 9,.neu 10,.neu 11] hs rfl ?_ ?_);kernel_rfl;clear hs;intro w hs))
 replace hs := tsk_nones (R := htR g ba) hs c.T.toNat
 have hs2 : Sat O w (WR (hzT g ba (capR g x)) bx bm (kitFn x) (wst0 c km vs) * (pt b (.cells #[.slice none 0 0,.slice none 0 0,.slice none 0 0,.slice none 0 0] 32) * (A * F))) := by
  rw [wr0_eq]
  simp only [mul_assoc']
  ((with_reducible apply Sat.fin hs);(focus with_reducible (repeat first|exact Ql|exact Qh|apply Qb|apply Qk);done))
 clear hs
 have hs := hs2
 clear hs2
 have hGood := Lib.hid (hzT_good g ba (capR g x))
 have hKO := Lib.hid (hzT_kit g ba c.T.toNat x)
 have hJ0 := J0.out km vs
 go_loopw [12,47] (fun _ q wr => ∃ (n : Nat) (y : HW),n ≤ mvs.length ∧ q = .int .i64 (n : Int) ∧ J n y ∧ Sat O wr (WR (hzT g ba (capR g x)) bx bm (kitFn x) y * (pt b (.cells #[.slice none 0 0,.slice none 0 0,.slice none 0 0,.slice none 0 0] 32) * (A * F)))) (fun _ q _ => 65537 - (intOf q).toNat)
 case atStart => exact ⟨0,_,by omega,rfl,hJ0,hs⟩
 case round =>
  obtain ⟨n,y,k1,rfl,hJ,hs⟩ := hrel
  by_cases hkr : n = mvs.length
  ·subst hkr
   obtain ⟨r1,r2,r3,r4,r5⟩ := Jr.out y hJ
   have hR := Lib.hid (mach_run bx bm y.m r5 r1 r2 r3 r4)
   unfold WR at hs
   simp only [mul_assoc'] at hs
   have hlt : decide ((mvs.length : Int) < (mvs.length : Int)) = false := by simp
   have hJ := Lib.hid hJ
   go_wp2_with (first|((with_reducible apply wl_stF hs);infer_instance;rfl;rfl;(focus with_reducible (repeat first|exact Qh|apply Qk);done);rfl;rfl;rfl;rfl;clear hs;intro w hs)|(go_at_call 44;((refine (hR.out).at hs (by (with_reducible exact Qh)) ?_);clear hs;intro v w hs;(try simp only [emp_mul,mul_assoc'] at hs));(unfold RunR at hs);(simp only [sat_ex,mul_assoc',sat_pu] at hs);(obtain ⟨rc,rt,rs,rw_,rfl,hs⟩ := hs);(obtain ⟨_,_,rfl⟩ := sl_len (hs.pull (A := sl 50 9 _ rc) (by (with_reducible exact Qh))));(obtain ⟨_,_,rfl⟩ := sl_len (hs.pull (A := sl 138 7 _ rt) (by (focus with_reducible (repeat first|exact Qh|apply Qk);done))));(obtain ⟨_,_,rfl⟩ := sl_len (hs.pull (A := sl 127 5 _ rs) (by (focus with_reducible (repeat first|exact Qh|apply Qk);done))));(obtain ⟨_,_,rfl⟩ := sl_len (hs.pull (A := sl 57 1 _ rw_) (by (focus with_reducible (repeat first|exact Qh|apply Qk);done))));(simp only [List.length_map] at hs ⊢)))
   ((try simp only [Exit.inBlock,Exit.then]);(with_reducible apply bodyPost_ret);((with_reducible apply results_ct);rfl;rfl;(with_reducible apply loadF hs);infer_instance;(with_reducible exact Qh);rfl;rfl))
   refine ⟨_,rfl,?_⟩
   unfold playR RunR
   simp only [sat_ex,mul_assoc',sat_pu]
   refine ⟨y,_,⟨hJ.out,rfl⟩,_,_,_,_,rfl,?_⟩
   ((with_reducible apply Sat.fin hs);(focus with_reducible (repeat first|exact Ql|exact Qh|apply Qb|apply Qk);done))
  ·have hlt : decide ((n : Int) < (mvs.length : Int)) = true := by simp;omega
   have hlt2 : decide (n < mvs.length) = true := by simp;omega
   have hln : n < (mvs.map Mv.e).length := by simp;omega
   obtain ⟨mv,hmv⟩ : ∃ mv,mvs[n]? = some mv := ⟨_,List.getElem?_eq_getElem (by omega)⟩
   have hgv : (mvs.map Mv.e)[n]? = some (Mv.e mv) := by simp [hmv]
   have hD := Lib.hid (move_any (bx := bx) (bm := bm) hGood.out hKO.out y mv (Jm.out g ba x n y mv hmv hJ))
   have hJ := Lib.hid hJ
   go_wp2_with (first|(first|((with_reducible apply wl_ldF hs);infer_instance;rfl;(with_reducible exact Qh);rfl;rfl;(simp only [Uc,Uz]))|((with_reducible apply wl_stF hs);infer_instance;rfl;rfl;(with_reducible exact Qh);rfl;rfl;rfl;rfl;clear hs;intro w hs)|((with_reducible apply wl_alloc hs);infer_instance;rfl;clear hs;intro w b hs;(simp only [Uc,Uz])))|((with_reducible apply wl_ir hRd.out);infer_instance;infer_instance;rfl;rfl;(rfl);(assumption);rfl;intro ao hat;(simp only [Uc,Uz]))|((with_reducible apply wl_lr hs hRd.out);infer_instance;assumption;rfl;(focus with_reducible (repeat first|exact Qh|apply Qk);done);(assumption);rfl;(simp only [Uc,Uz]))|(go_at_call 41;((refine (hD.out).at hs (by (focus with_reducible (repeat first|exact Qh|apply Qk);done)) ?_);clear hs;intro v w hs;(try simp only [emp_mul,mul_assoc'] at hs));(replace hs := moved_iff.1 hs);(obtain ⟨bb,y',⟨rfl,hmt⟩,hs⟩ := hs)))
   go_roundw
   case rel => exact ⟨n + 1,y',by omega,by simp,Js.out g ba x n y mv bb y' hmv hJ.out hmt,by ((with_reducible apply Sat.fin hs);(focus with_reducible (repeat first|exact Ql|exact Qh|apply Qb|apply Qk);done))⟩
   case measure => simp [intOf];omega
theorem does_sl {P : Program} {f : FuncId} {args : Array Value} {E : TypeId} {sz : Nat} {css : List (List Value)} {v : Value} {B : Value → SProp} (h : ∀ A,Rd A sz css v → Does P f args A (fun u => B u * A)) :
  Does P f args (sl E sz css v) (fun u => B u * sl E sz css v) := by
 intro O w F hs
 obtain ⟨hw,⟨rfl,rfl,hs1⟩|⟨b,off,cap,pre,post,rfl,h1,h2,h3,hs1⟩⟩ := sat_sl.1 hs
 ·have hR : Rd emp sz [] (.slice none 0 0) := ⟨.inl ⟨rfl,rfl⟩,by simp,by simp⟩
  refine (h emp hR O w F (hs1.cast (emp_mul _).symm)).mono ?_
  rintro e w' ⟨u,he,hs'⟩
  refine ⟨u,he,?_⟩
  have hs2 : Sat O w' (B u * F) := hs'.cast (by simp only [mul_emp])
  exact (sl_nil (E := E) hs2 hw.pos).cast (by ac_rfl)
 ·have hR : Rd (pt b (.cells (pre ++ css.flatten ++ post).toArray E)) sz css (.slice (some ⟨b,off,none⟩) css.length cap) := rd_pt rfl h1 (fun c hc => (hw.wf c hc).1) hw.pos h2
  refine (h _ hR O w F hs1).mono ?_
  rintro e w' ⟨u,he,hs'⟩
  refine ⟨u,he,?_⟩
  have hs2 : Sat O w' (pt b (.cells (pre ++ css.flatten ++ post).toArray E) * (B u * F)) := hs'.cast (by ac_rfl)
  exact (sat_sl.2 ⟨hw,.inr ⟨b,off,cap,pre,post,rfl,h1,h2,h3,hs2⟩⟩).cast (by ac_rfl)
end Go.Proofs.YtegafhhdegnigaaGreat
end
/-
  The same: any moves of the machine.
-/
section
namespace Go.Proofs.YtegafhhdegnigaaGreat
open Go.RowKit Hp
set_option maxRecDepth 100000
set_option maxHeartbeats 1000000
attribute [local irreducible] Go.Calls
section
variable {c : Cfg} {L S N : Nat} {h : Haz} {a : Are} {m : Mch}
theorem okr_of {t : Nat} {k : HTask} (C : Core c L S N h a m) (hu : m.used = false) (hL : L < 4294967296) (hS : S < 1000000000) (hN : N < 1000000) (ht : (t : Int) < c.T) (I : TI c t false (h.held.getD t 0) (a.caches.getD t []) k) : htOkr (h,a) m t k := by
 have hz := C.haz hu hL hS hN
 have hc := C.hc
 cases k with
 | pst p => obtain ⟨i1,_⟩ := I;exact ⟨hz,by omega,by rw [hc];omega⟩
 | scn s => obtain ⟨i1,i2,_⟩ := I;obtain ⟨r0,r1,_⟩ := i2 rfl;exact ⟨hz,r0,by rw [hc];exact r1⟩
 | reg r => trivial
 | unr r => trivial
 | rdg r => trivial
 | clr r => trivial
theorem oks_of {t : Nat} {k : HTask} (C : Core c L S N h a m) (hu : m.used = false) (hL : L < 4294967296) (hS : S < 1000000000) (hN : N < 1000000) (ht : (t : Int) < c.T) (I : TI c t true (h.held.getD t 0) (a.caches.getD t []) k) : htOks (h,a) m t k := by
 have hz := C.haz hu hL hS hN
 have hc := C.hc
 have hok := C.ok
 have hS2 := hok.S2
 have hC2 := hok.C2
 cases k with
 | reg r => obtain ⟨i1,i2,i3⟩ := I;exact ⟨hz,by omega,by rw [hc];omega,i2,by rw [hc];exact i3⟩
 | unr u =>
  obtain ⟨i1,i2,i3,i4,i5,i6⟩ := I
  refine ⟨hz,by omega,by rw [hc];omega,by rw [i1];simpa using i2,i3,by rw [hc];exact i4,fun h1 => ?_,fun h2 => ?_⟩
  ·obtain ⟨s,e1,e2,e3⟩ := i5 h1
   have F := scan_core C e2 hN
   have g := F.core.cget (t := u.thread) (by omega) (by omega)
   exact ⟨s,e1,e2.ok C hu hL hS hN,_,g.1,by have := g.2.1;omega⟩
  ·obtain ⟨p,e1,e2,e3,e4⟩ := i6 h2
   have g := C.cget (t := u.thread) (by omega) (by omega)
   exact ⟨p,e1,e2.pok C hu hL hS,e3,_,g.1,by have := g.2.1;omega,by rw [i1];simpa using e4⟩
 | pst p =>
  obtain ⟨i1,i2,i3,_⟩ := I
  obtain ⟨⟨k,hk,k0,k1⟩,j2,j3,j4⟩ := i3 rfl
  refine ⟨k,hz,by omega,by rw [hc];omega,by rw [i1];simpa using i2,hk,j2,fun h0 => ?_,fun h1 => ?_,fun h3 => by rw [hc];exact j3 h3,fun h3 => ?_,fun h4 => ?_⟩
  ·have e := (take_core C (k0 h0)).2.2.1
   show TakeOk a m k ∧ tookSlot (takeStep a m k).2.2.2 ≤ 2147483646 ∧ -1 ≤ tookSlot (takeStep a m k).2.2.2
   exact ⟨(k0 h0).ok C hu hL hS hN,by omega,by omega⟩
  ·have := k1 (by omega)
   rw [hc];exact ⟨this.1,this.2.1⟩
  ·have := k1 (by omega)
   rw [hc];omega
  ·obtain ⟨r,sc,e1,e2,e3,e4⟩ := j4 h4
   exact ⟨r,sc,e1,e2,e3.ok C hu hL hS hN⟩
 | rdg r =>
  obtain ⟨i1,i2,i3,i4⟩ := I
  have hb := bases hok
  have hb9 := (base_le hok 9).1
  refine ⟨hz,i3,by omega,?_,fun h3 => (i4 (by omega)).1,fun h3 => by rw [hc];exact (i4 (by omega)).2⟩
  rw [C.words]
  obtain ⟨b1,b2,b8,b9,b10,b11,b12,b13,b14,rh,rh2⟩ := hb
  have := hok.S1
  omega
 | clr ad =>
  obtain ⟨i1,i2⟩ := I
  have hb := bases hok
  have hl := C.log
  have ha := C.ahead
  refine ⟨hu,?_,by omega,by omega⟩
  rw [C.words]
  obtain ⟨b1,b2,b8,b9,b10,b11,b12,b13,b14,rh,rh2⟩ := hb
  have := hok.S1
  omega
 | scn s => exact (I.2.2 rfl).ok C hu hL hS hN
theorem FrameM.trans {i t : Nat} {cl : Cll} {s : Sea} {m0 m1 m2 : Mch} {z k v : Int} (f : FrameM i t cl s m0 m1) (g : FrameM i t { cl with point := z } { s with kind := k,value := v } m1 m2) : FrameM i t cl s m0 m2 := by
 obtain ⟨z1,hz1⟩ := f.calls
 obtain ⟨k1,v1,hk1⟩ := f.seats
 obtain ⟨z2,hz2⟩ := g.calls
 obtain ⟨k2,v2,hk2⟩ := g.seats
 exact ⟨g.cur.trans f.cur,g.vs.trans f.vs,g.vc.trans f.vc,g.kit.trans f.kit,g.moves.trans f.moves,g.now.trans f.now,g.thread.trans f.thread,
  ⟨z2,by rw [hz2,hz1,List.set_set]⟩,⟨k2,v2,by rw [hk2,hk1,List.set_set]⟩⟩
structure MoreI (c : Cfg) (L S N : Nat) (i t : Nat) (cl : Cll) (se : Sea) (h : Haz) (a : Are) (m : Mch) (r : Bool × (Haz × Are) × Mch × HTask) : Prop extends StI c L S N t h a r where
 frame : FrameM i t cl se m r.2.2.1
theorem rdy_more {bh ba : Nat} {CX : SProp} {i t : Nat} {cl : Cll} {se : Sea} {k : HTask} {now : Int} (C : Core c L S N h a m) (hN : N < 1000000) (ht : (t : Int) < c.T) (hc : m.calls[i]? = some cl) (hs : t < m.seats.length)
  (I : TI c t se.ready (h.held.getD t 0) (a.caches.getD t []) k) :
  MoreI c L (S + 1) N i t cl { se with ready := true } h a (m.prep t i now se) (stepReady (hzT bh ba CX) (h,a) m i t cl se k now) ∧ (stepReady (hzT bh ba CX) (h,a) m i t cl se k now).2.2.1.used = false := by
 have C0 : Core c L S N h a (m.prep t i now se) := C.of rfl rfl rfl rfl
 have hci : CurIn (m.prep t i now se) i t cl { se with ready := true } := ⟨rfl,hc,by simp [Mch.prep,hs]⟩
 unfold stepReady
 split
 ·rename_i hf
  rw [hf] at I
  obtain ⟨⟨e1,e2,e3⟩,e4⟩ := ready_core (i := i) (t := t) (cl := cl) (se := { se with ready := true }) C0 ht I
  exact ⟨⟨⟨e1,e2,e3⟩,(hzT_good bh ba CX).fr _ _ _ _ _ _ _ hci⟩,e4⟩
 ·rename_i hf
  have hf : se.ready = true := by simpa using hf
  rw [hf] at I
  exact ⟨⟨⟨C0.mono (by omega) (by omega) (by omega),.refl ..,fun _ => I⟩,(Same.refl _).frame hci⟩,rfl⟩
theorem more_core {bh ba : Nat} {CX : SProp} {i t : Nat} {cl : Cll} {se : Sea} {k : HTask} {now : Int} (C : Core c L S N h a m) (hN : N < 1000000) (ht : (t : Int) < c.T) (hc : m.calls[i]? = some cl) (hs : t < m.seats.length)
  (I : TI c t se.ready (h.held.getD t 0) (a.caches.getD t []) k) :
  MoreI c (L + 1) (S + 67) (N + 1) i t cl { se with ready := true } h a (m.prep t i now se) (stepMore (hzT bh ba CX) i t (stepReady (hzT bh ba CX) (h,a) m i t cl se k now)) := by
 obtain ⟨⟨⟨r1,r2,r3⟩,r4⟩,_⟩ := rdy_more (bh := bh) (ba := ba) (CX := CX) (now := now) C hN ht hc hs I
 have hci : CurIn (m.prep t i now se) i t cl { se with ready := true } := ⟨rfl,hc,by simp [Mch.prep,hs]⟩
 generalize stepReady (hzT bh ba CX) (h,a) m i t cl se k now = r at r1 r2 r3 r4 ⊢
 unfold stepMore
 split
 ·rename_i hf
  obtain ⟨z,kk,vv,hcc⟩ := r4.curIn hci
  obtain ⟨e1,e2,e3⟩ := step_core (i := i) (t := t) (x := getC r.2.2.1 i) (se := getS r.2.2.1 t) r1 hN ht (r3 hf)
  have fs := (hzT_good bh ba CX).fs r.2.1 _ i t _ _ r.2.2.2 hcc
  rw [← hcc.getC,← hcc.getS] at fs
  refine ⟨⟨e1,⟨fun j hj => (e2.held j hj).trans (r2.held j hj),fun j hj => (e2.caches j hj).trans (r2.caches j hj)⟩,e3⟩,?_⟩
  rw [hcc.getC,hcc.getS] at fs
  have := r4.trans fs
  rw [← hcc.getC,← hcc.getS] at this
  exact this
 ·exact ⟨⟨r1.mono (by omega) (by omega) (by omega),r2,r3⟩,r4⟩
end
structure PI (c : Cfg) (n : Nat) (y : HW) : Prop where
 cur : y.m.cur = none
 moves : y.m.moves = (n : Int)
 core : Core c n (100 * n) n y.s.1 y.s.2 y.m
 tasks : y.tasks.length = c.T.toNat
 seats : y.m.seats.length = c.T.toNat
 calls : y.m.calls.length ≤ n
 task : ∀ (t : Nat) (k : HTask) (se : Sea),y.tasks[t]? = some (some k) → y.m.seats[t]? = some se → (∃ i : Nat,se.last = (i : Int) ∧ i < y.m.calls.length) ∧ TI c t se.ready (y.s.1.held.getD t 0) (y.s.2.caches.getD t []) k
theorem PI.may {c : Cfg} {n : Nat} {y : HW} {bh ba : Nat} {CX : SProp} (P : PI c n y) (hn : n < 65536) (mv : Mv) : MayMove (hzT bh ba CX) (KOk c.T.toNat) c.T.toNat y mv := by
 obtain ⟨p1,p2,p3,p4,p5,p6,p7⟩ := P
 have hok := p3.ok
 have hT1 := hok.T1
 refine ⟨p1,by omega,by omega,by omega,p4,p5,⟨by rw [p3.hc];exact hok,p3.held,fun r hr => by rw [p3.hc];exact (p3.hin r hr).2⟩,by omega,?_⟩
 intro t k se ht hop hk hse
 obtain ⟨⟨i,e1,e2⟩,I⟩ := p7 t k se hk hse
 have hlt := (List.getElem?_eq_some_iff.1 hse).1
 have htT : (t : Int) < c.T := by omega
 have C0 : Core c n (100 * n) n y.s.1 y.s.2 (y.tick.m.prep t i y.m.moves se) := p3.of rfl rfl rfl rfl
 have C1 : Core c n (100 * n) n y.s.1 y.s.2 y.tick.m := p3.of rfl rfl rfl rfl
 refine ⟨i,_,e1,List.getElem?_eq_getElem e2,fun hf => ?_,fun hf => ?_⟩
 ·rw [hf] at I
  exact okr_of C0 rfl (by omega) (by omega) (by omega) htT I
 ·obtain ⟨⟨⟨r1,r2,r3⟩,_⟩,r5⟩ := rdy_more (bh := bh) (ba := ba) (CX := CX) (i := i) (cl := y.m.calls[i]) (now := y.m.moves) C1 (by omega) htT (List.getElem?_eq_getElem e2) hlt I
  exact oks_of r1 r5 (by omega) (by omega) (by omega) htT (r3 hf)
theorem PI.tick {c : Cfg} {n : Nat} {y : HW} (P : PI c n y) : PI c (n + 1) y.tick := by
 obtain ⟨p1,p2,p3,p4,p5,p6,p7⟩ := P
 exact ⟨p1,by simp only [Wst.tick];omega,(p3.mono (by omega) (by omega) (by omega)).of rfl rfl rfl rfl,p4,p5,by simp only [Wst.tick];omega,p7⟩
theorem TI.others {c : Cfg} {t j : Nat} {b : Bool} {h h' : Haz} {a a' : Are} {k : HTask} (hj : j ≠ t) (f : Fr t h h' a a') (I : TI c j b (h.held.getD j 0) (a.caches.getD j []) k) : TI c j b (h'.held.getD j 0) (a'.caches.getD j []) k := by
 rw [List.getD_eq_getElem?_getD,List.getD_eq_getElem?_getD] at I ⊢
 rw [f.held j hj,f.caches j hj]
 exact I
theorem PI.move {c : Cfg} {n : Nat} {y y' : HW} {bh ba : Nat} {CX : SProp} {K : Int → Option Value} {mv : Mv} {b : Bool} (P : PI c n y) (hn : n < 65536) (h : MoveTo (hzT bh ba CX) K kitTask y mv b y') : PI c (n + 1) y' := by
 cases h with
 | out => exact P.tick
 | idle => exact P.tick
 | busy => exact P.tick
 | nokit => exact P.tick
 | refused => exact P.tick
 | step t i cl se k ht hop hk hse hl hc =>
  obtain ⟨p1,p2,p3,p4,p5,p6,p7⟩ := P
  have hok := p3.ok
  have hlt := (List.getElem?_eq_some_iff.1 hse).1
  have htT : (t : Int) < c.T := by omega
  obtain ⟨_,I⟩ := p7 t k se hk hse
  have C1 : Core c n (100 * n) n y.s.1 y.s.2 y.tick.m := p3.of rfl rfl rfl rfl
  have hci : CurIn (y.tick.m.prep t i y.m.moves se) i t cl { se with ready := true } := ⟨rfl,hc,by simp [Mch.prep,Wst.tick,hlt]⟩
  obtain ⟨⟨e1,e2,e3⟩,e4⟩ := more_core (bh := bh) (ba := ba) (CX := CX) (now := y.m.moves) C1 (by omega) htT hc hlt I
  have hsd : y.s = (y.s.1,y.s.2) := rfl
  unfold machStep
  rw [hsd]
  simp only []
  generalize stepMore (hzT bh ba CX) i t (stepReady (hzT bh ba CX) (y.s.1,y.s.2) y.tick.m i t cl se k y.m.moves) = r at e1 e2 e3 e4 ⊢
  obtain ⟨z,kk,vv,hcc⟩ := e4.curIn hci
  obtain ⟨z1,hz1⟩ := e4.calls
  obtain ⟨k1,v1,hk1⟩ := e4.seats
  have hcl : r.2.2.1.calls.length = y.m.calls.length := by rw [hz1];simp [Mch.prep,Wst.tick]
  have hsl : r.2.2.1.seats.length = y.m.seats.length := by rw [hk1];simp [Mch.prep,Wst.tick]
  have hmv : r.2.2.1.moves = y.m.moves + 1 := e4.moves
  have hsS : ∀ j,j ≠ t → r.2.2.1.seats[j]? = y.m.seats[j]? := by
   intro j hj
   rw [hk1,set_ne hj]
   simp only [Mch.prep,Wst.tick]
   rw [set_ne hj]
  rw [hcc.getC,hcc.getS]
  by_cases hb : r.1 = true
  ·simp only [stepEnd,if_pos hb]
   refine ⟨rfl,by show r.2.2.1.moves = _;omega,(e1.mono (by omega) (by omega) (by omega)).of rfl rfl rfl rfl,by simp [p4],by simp [hsl,p5],by simp;omega,?_⟩
   intro j kj sj hkj hsj
   simp only [] at hkj hsj
   by_cases hj : j = t
   ·subst hj
    rw [List.getElem?_set_self (by omega)] at hkj
    simp at hkj
   ·rw [set_ne hj] at hkj hsj
    rw [hsS j hj] at hsj
    obtain ⟨⟨i',q1,q2⟩,q3⟩ := p7 j kj sj hkj hsj
    exact ⟨⟨i',q1,by simp;omega⟩,q3.others hj e2⟩
  ·simp only [stepEnd,if_neg hb]
   refine ⟨rfl,by show r.2.2.1.moves = _;omega,(e1.mono (by omega) (by omega) (by omega)).of rfl rfl rfl rfl,by simp [p4],by simp [hsl,p5],by simp;omega,?_⟩
   intro j kj sj hkj hsj
   simp only [] at hkj hsj
   by_cases hj : j = t
   ·subst hj
    rw [List.getElem?_set_self (by omega)] at hkj
    simp at hkj
    subst hkj
    rw [hcc.seat] at hsj
    cases hsj
    exact ⟨⟨i,hl,by have := (List.getElem?_eq_some_iff.1 hc).1;simp only [];omega⟩,e3 (by simpa using hb)⟩
   ·rw [set_ne hj] at hkj
    rw [hsS j hj] at hsj
    obtain ⟨⟨i',q1,q2⟩,q3⟩ := p7 j kj sj hkj hsj
    exact ⟨⟨i',q1,by simp only [];omega⟩,q3.others hj e2⟩
 | begin_ t k v vc ht hop hk hKn hmk =>
  obtain ⟨p1,p2,p3,p4,p5,p6,p7⟩ := P
  have hlt := (List.getElem?_eq_some_iff.1 hk).1
  have htT : (t : Int) < c.T := by have := p3.ok.T1;omega
  refine ⟨p1,by simp only [machBegin];omega,(p3.mono (by omega) (by omega) (by omega)).of rfl rfl rfl rfl,by simp [p4],by simp [machBegin,p5],by simp [machBegin];omega,?_⟩
  intro j kj sj hkj hsj
  simp only [machBegin] at hkj hsj
  by_cases hj : j = t
  ·subst hj
   rw [List.getElem?_set_self (by omega)] at hkj hsj
   cases hkj
   cases hsj
   exact ⟨⟨_,rfl,by simp [machBegin]⟩,made_inv p3 htT hmk _⟩
  ·rw [set_ne hj] at hkj hsj
   obtain ⟨⟨i',q1,q2⟩,q3⟩ := p7 j kj sj hkj hsj
   exact ⟨⟨i',q1,by simp [machBegin];omega⟩,q3⟩
/-! ## the beginning -/
theorem fill_wok {c : Cfg} (hok : c.Ok) {ws : List Int} (hw : ∀ (k : Nat) (u : Int),ws[k]? = some u → WOk c k u) : ∀ n : Nat,(n : Int) + 1 ≤ c.Sl → ∀ (k : Nat) (u : Int),(fillW ws (base c 10) 0 n)[k]? = some u → WOk c k u
 | 0,_,k,u,h => hw k u h
 | n + 1,hn,k,u,h => by
  simp only [fillW] at h
  have hb := (base_le hok 10).1
  by_cases hk : (base c 10 + ((0 + n : Nat) : Int)).toNat = k
  ·subst hk
   rw [List.getElem?_set_self'] at h
   cases hg : (fillW ws (base c 10) 0 n)[(base c 10 + ((0 + n : Nat) : Int)).toNat]? with
   | none => rw [hg] at h;simp at h
   | some w =>
    rw [hg] at h;simp at h;subst h
    have := wok_next hok (i := ((0 + n : Nat) : Int)) (by omega) (u := ((n : Int) + 2)) ⟨by omega,by omega⟩
    simpa [adr] using this
  ·rw [List.getElem?_set_ne hk] at h
   exact fill_wok hok hw n (by omega) k u h
theorem first_wok {c : Cfg} (hok : c.Ok) (k : Nat) (u : Int) (h : (firstW c 0)[k]? = some u) : WOk c k u := by
 have hS1 := hok.S1
 simp only [firstW] at h
 rw [if_neg (by omega),if_pos (by show ((0 : Nat) : Int) < c.Sl;omega)] at h
 refine fill_wok hok ?_ (c.Sl.toNat - 1 - 0) (by omega) k u h
 intro k u h
 by_cases hk : k = 0
 ·subst hk
  have h0 : u = 1 := by
   rw [List.getElem?_set_self'] at h
   cases hg : (List.replicate (base c 14).toNat (0 : Int))[0]? with
   | none => rw [hg] at h;simp at h
   | some w => rw [hg] at h;simp at h;exact h.symm
  subst h0
  have := wok_head hok (u := 1) ⟨by omega,by omega,by omega⟩
  simpa [adr,base] using this
 ·rw [List.getElem?_set_ne (by omega)] at h
  have h0 : u = 0 := by
   have := List.mem_of_getElem? h
   exact (List.mem_replicate.1 this).2
  subst h0
  exact ⟨fun _ => ⟨by omega,by omega,by omega⟩,fun _ => ⟨by omega,by omega⟩,fun _ _ => ⟨by omega,by omega⟩,fun _ _ => ⟨by omega,by omega⟩⟩
theorem tot_nils : ∀ n,tot (List.replicate n []) = 0
 | 0 => rfl
 | n + 1 => by simp only [List.replicate_succ,tot,tot_nils n,List.length_nil]
theorem PI.start {c : Cfg} (hok : c.Ok) (km : Nat) (vs : Value) : PI c 0 (wst0 c km vs) := by
 have h1 := hok.R1
 have h2 := hok.C1
 refine ⟨rfl,rfl,⟨hok,rfl,rfl,firstW_len c 0,first_wok hok,by simp [wst0,mch0],by simp [wst0,mch0],by simp [wst0,mch0],by simp [wst0,are0],by simp [wst0,haz0],?_,by simp [wst0,haz0],by simp [wst0,haz0,tot_nils],?_,by simp [wst0,are0],?_,?_⟩,by simp [wst0],by simp [wst0,mch0],by simp [wst0,mch0],?_⟩
 ·intro r hr
  have := (List.mem_replicate.1 hr).2
  subst this
  omega
 ·intro l hl z hz
  have := (List.mem_replicate.1 hl).2
  subst this
  simp at hz
 ·intro x hx
  have := (List.mem_replicate.1 hx).2
  subst this
  simpa using h2
 ·intro x hx z hz
  have := (List.mem_replicate.1 hx).2
  subst this
  simp at hz
 ·intro t k se hk
  simp only [wst0,List.getElem?_replicate] at hk
  split at hk <;> simp at hk
end Go.Proofs.YtegafhhdegnigaaGreat
end
