/-
  HazardLists: what is looked at at one time.
-/
import Derived.Test.YtegafhhdegnigaaGreatLSame
set_option linter.all false
namespace Go.Proofs.YtegafhhdegnigaaGreat
open Go.RowKit Hp
set_option maxRecDepth 100000
set_option maxHeartbeats 16000000
attribute [local irreducible] Go.Calls Go.wpList
structure LsQ (C : Cfg) (h : Haz) (a : Are) (m : Mch) (bz : List Bool) : Prop where
 bl : (bz.length : Int) = C.T
 sl : m.seats.length = bz.length
 bs : ∀ (t : Nat) se b,m.seats[t]? = some se → bz[t]? = some b → (b = false ∧ se.task = .nilIface) ∨ (b = true ∧ ∃ ty x,se.task = .iface ty x)
 hl : h.held.length = bz.length
 ln : (h.lists.length : Int) = C.R
 hd : ∀ r ∈ h.held,-1 ≤ r ∧ r < C.R
 inj : ∀ (t t' : Nat) r,h.held[t]? = some r → h.held[t']? = some r → 0 ≤ r → t = t'
 bt : ∀ (t r : Nat) l,h.held[t]? = some (r : Int) → bz[t]? = some false → h.lists[r]? = some l → (l.length : Int) < Bt C
 ls : ∀ l ∈ h.lists,(l.length : Int) ≤ Bt C + (C.R - 1) * Am C
 un : ∀ (r : Nat) l,h.lists[r]? = some l → (r : Int) ∉ h.held → (l.length : Int) ≤ Am C ∧ ∀ k : Nat,(k : Int) < C.Hz → m.mem.words[(base C 9 + (r : Int) * C.Hz + (k : Int)).toNat]? = some 0
 st : ∀ l ∈ h.lists,∀ s ∈ l,0 ≤ s ∧ s < C.Sl ∧ ∃ x,a.slots[s.toNat]? = some x ∧ x.state = 5
 nd : h.lists.flatten.Nodup
 al : h.lists.flatten.length ≤ cntS 5 a.slots
 ai : (∀ b ∈ bz,b = false) → h.lists.flatten.length = cntS 5 a.slots
 sz : (m.mem.words.length : Int) = base C 14
 sl1 : (a.slots.length : Int) = C.Sl
 l1 : m.calls.length < 100000000
 l2 : m.mem.log.length < 100000000
 l3 : m.shifts.length < 100000000
theorem flat_take {ls : List (List Int)} {r : Nat} {l : List Int} (h : ls[r]? = some l) : (ls.take (r + 1)).flatten = (ls.take r).flatten ++ l := by
 rw [List.take_add_one,h,List.flatten_append];simp
theorem flat_split {ls : List (List Int)} {r : Nat} {l : List Int} (h : ls[r]? = some l) : ls.flatten = (ls.take r).flatten ++ l ++ (ls.drop (r + 1)).flatten := by
 conv => lhs;rw [← List.take_append_drop (r + 1) ls,List.flatten_append,flat_take h]
def fldOf (P : Program) (T : TypeId) (i : Nat) : Option (TypeId × Nat) := match P.underlying T with
 | some (.struct fs) => (fs[i]?).map fun f => (f.type,f.offset)
 | _ => none
theorem run_fld {P : Program} {T i ft off : Nat} {cs : Array Value} {v : Value} (hf : fldOf P T i = some (ft,off)) (h1 : OneC P ft) (hv : cs[off]? = some v) (w : World) : (Instr.field T (.agg cs) i).run P w = .ok v w := by
 unfold fldOf at hf
 cases hu : P.underlying T with
 | none => rw [hu] at hf;cases hf
 | some u =>
  rw [hu] at hf
  cases u with
  | struct fs =>
   simp only [] at hf
   cases hfi : fs[i]? with
   | none => rw [hfi] at hf;cases hf
   | some f =>
    rw [hfi] at hf
    simp only [Option.map_some,Option.some.injEq,Prod.mk.injEq] at hf
    obtain ⟨rfl,rfl⟩ := hf
    simp [Instr.field,asAgg,run_underlying hu,hfi,part,run_isAgg h1.agg,hv]
  | _ => cases hf
theorem ge_no {x y : Int} (h : x < y) : decide (x ≥ y) = false ∧ decide (y ≤ x) = false := by simp only [decide_eq_false_iff_not];omega
theorem gt_no {x y : Int} (h : x ≤ y) : decide (x > y) = false ∧ decide (y < x) = false := by simp only [decide_eq_false_iff_not];omega
def HcR (R0 : Nat) (held hc : List Int) : Prop := hc.length = R0 ∧ ∀ (r : Nat) (z : Int),hc[r]? = some z → (z = 0 ∧ (r : Int) ∉ held) ∨ (z = 1 ∧ (r : Int) ∈ held)
theorem hc_skip {R0 : Nat} {held hc : List Int} {t : Nat} {z : Int} (hz : held[t]? = some z) (h : HcR R0 (held.take t) hc) (hn : z < 0) : HcR R0 (held.take (t + 1)) hc := by
 refine ⟨h.1,fun r w hw => ?_⟩
 rw [List.take_add_one,hz]
 rcases h.2 r w hw with ⟨h1,h2⟩|⟨h1,h2⟩
 ·exact .inl ⟨h1,fun hm => by rcases List.mem_append.1 hm with hm|hm;exact h2 hm;simp at hm;omega⟩
 ·exact .inr ⟨h1,List.mem_append_left _ h2⟩
theorem hc_put {R0 : Nat} {held hc : List Int} {t r : Nat} (hz : held[t]? = some (r : Int)) (h : HcR R0 (held.take t) hc) (hr : r < R0) (hinj : ∀ (t t' : Nat) r,held[t]? = some r → held[t']? = some r → 0 ≤ r → t = t') : hc[r]? = some 0 ∧ HcR R0 (held.take (t + 1)) (hc.set r 1) := by
 have hl := h.1
 obtain ⟨w,hw⟩ : ∃ w,hc[r]? = some w := ⟨_,List.getElem?_eq_getElem (by omega)⟩
 have hnin : (r : Int) ∉ held.take t := fun hm => by
  obtain ⟨j,hj⟩ := List.getElem?_of_mem hm
  rw [List.getElem?_take] at hj
  split at hj
  ·have := hinj j t r hj hz (by omega)
   omega
  ·cases hj
 refine ⟨?_,by simp [hl],fun q w' hw' => ?_⟩
 ·rcases h.2 r w hw with ⟨h1,_⟩|⟨_,h2⟩
  ·rw [hw,h1]
  ·exact absurd h2 hnin
 ·rw [List.take_add_one,hz]
  by_cases e : q = r
  ·subst e
   rw [List.getElem?_set_self (by omega)] at hw'
   cases hw'
   exact .inr ⟨rfl,List.mem_append_right _ (by simp)⟩
  ·rw [List.getElem?_set_ne (Ne.symm e)] at hw'
   rcases h.2 q w' hw' with ⟨h1,h2⟩|⟨h1,h2⟩
   ·exact .inl ⟨h1,fun hm => by rcases List.mem_append.1 hm with hm|hm;exact h2 hm;simp at hm;omega⟩
   ·exact .inr ⟨h1,List.mem_append_left _ h2⟩
def SnR (S0 : Nat) (xs : List Int) (sn : List Bool) : Prop := sn.length = S0 ∧ ∀ j : Nat,sn[j]? = some true → (j : Int) ∈ xs
theorem sn_put {S0 : Nat} {xs ys : List Int} {l : List Int} {sn : List Bool} {j i : Nat} (h : SnR S0 (xs ++ l.take j) sn) (hi : l[j]? = some (i : Int)) (hiS : i < S0) (hn : (xs ++ l ++ ys).Nodup) : sn[i]? = some false ∧ SnR S0 (xs ++ l.take (j + 1)) (sn.set i true) := by
 obtain ⟨w,hw⟩ : ∃ w,sn[i]? = some w := ⟨_,List.getElem?_eq_getElem (by have := h.1;omega)⟩
 have hnin : (i : Int) ∉ xs ++ l.take j := fun hm => by
  have hd := (List.nodup_append.1 hn).1
  have e : xs ++ l = (xs ++ l.take j) ++ l.drop j := by rw [List.append_assoc,List.take_append_drop]
  rw [e] at hd
  have h2 := (List.nodup_append.1 hd).2.2
  refine h2 _ hm (i : Int) ?_ rfl
  have hl := (List.getElem?_eq_some_iff.1 hi).1
  rw [List.drop_eq_getElem_cons hl,(List.getElem?_eq_some_iff.1 hi).2]
  exact List.mem_cons_self ..
 refine ⟨?_,by simp [h.1],fun q hq => ?_⟩
 ·cases w with
  | false => exact hw
  | true => exact absurd (h.2 i hw) hnin
 ·rw [List.take_add_one,hi,← List.append_assoc]
  by_cases e : q = i
  ·subst e;exact List.mem_append_right _ (by simp)
  ·rw [List.getElem?_set_ne (Ne.symm e)] at hq
   exact List.mem_append_left _ (h.2 q hq)
theorem law_lists (C : Cfg) (hok : C.Ok) (g ba bx bm : Nat) (h : Haz) (a : Are) (m : Mch) (bz : List Bool) (Q : LsQ C h a m bz) :
  Gives Tryz.prog 59 #[C.v,.pointer (some ⟨ba,0,none⟩),.pointer (some ⟨g,0,none⟩),.pointer (some ⟨bx,0,none⟩)] (MchR bx bm m * (HazR g ba h * AreR ba a)) (.bool true) (MchR bx bm m * (HazR g ba h * AreR ba a)) := by
 intro O w F hs
 simp only [mul_assoc'] at hs ⊢
 have hSz := Lib.hid (ref_size C hok)
 have hLi := Lib.hid (cen_listed C hok)
 have hAd := Lib.hid (fun (r k : Nat) r1 k1 => ref_addr9 C hok r k r1 k1)
 have hb14 := base14_le hok
 have hT1 := hok.T1
 have hT2 := hok.T2
 have hR1 := hok.R1
 have hR2 := hok.R2
 have hS1 := hok.S1
 have hS2 := hok.S2
 have hH1 := hok.H1
 have hH2 := hok.H2
 have hRt1 := hok.Rt1
 have hRt2 := hok.Rt2
 obtain ⟨q1,q2⟩ := hok.rh
 obtain ⟨hb9,hb9'⟩ := base_le hok 9
 obtain ⟨Q1,Q2,Q3,Q4,Q5,Q6,Q7,Q8,Q9,Q10,Q11,Q12,Q13,Q14,Q15,Q16,Q17,Q18,Q19⟩ := Q
 have hRun := Lib.hid (mach_run bx bm m (by omega) (by omega) (by omega) (by omega) (by omega))
 have hCnt := Lib.hid (arena_count ba a 5 (by omega))
 have hSt := Lib.hid (fun (i : Nat) s hi => arena_state ba a i s hi)
 have hBus := Lib.hid (fun (t : Nat) se b h1 h2 => mach_busy bx bm m t se h1 b (Q3 t se b h1 h2))
 have hRec := Lib.hid (fun (t : Nat) r h1 => haz_record g ba h t r h1)
 have hLst := Lib.hid (fun (n : Nat) x h1 h2 => haz_list g ba h n x h1 h2)
 have hBt : Bt C = (if C.Rt ≤ C.R * C.Hz + 1 then C.R * C.Hz + 1 else C.Rt) := rfl
 have hAm : Am C = C.R * C.Hz := rfl
 have hlL : ∀ l ∈ h.lists,(l.length : Int) < 100000 := by
  intro l hl
  have h1 := Q9 l hl
  have h2 : (C.R - 1) * (C.R * C.Hz) ≤ 16 * 128 := Int.mul_le_mul (by omega) q2 q1 (by omega)
  rw [← hAm] at h2
  have h3 : Bt C ≤ 2000 := by rw [hBt];split <;> omega
  omega
 have hfl0 : h.lists.flatten.length ≤ a.slots.length := by
  have := List.countP_le_length (p := fun x : Slt => x.state == 5) (l := a.slots)
  have h2 : cntS 5 a.slots = List.countP (fun x : Slt => x.state == 5) a.slots := rfl
  omega
 obtain ⟨Nc,hNc⟩ : ∃ n,n = cntS 5 a.slots := ⟨_,rfl⟩
 rw [← hNc] at hCnt Q13 Q14
 clear hNc
 obtain ⟨Bw,hBw⟩ : ∃ b,b = Bt C := ⟨_,rfl⟩
 obtain ⟨Lw,hLw⟩ : ∃ b,b = Bt C + (C.R - 1) * Am C := ⟨_,rfl⟩
 have hBw2 : Bw = (if C.Rt ≤ C.R * C.Hz + 1 then C.R * C.Hz + 1 else C.Rt) := by rw [hBw,hBt]
 rw [← hLw] at hLi Q9
 rw [← hBw] at Q8
 rw [hAm] at Q10
 clear hBw hLw hBt hAm
 obtain ⟨T0,hT0⟩ : ∃ T0 : Nat,C.T = (T0 : Int) := ⟨C.T.toNat,by omega⟩
 obtain ⟨R0,hR0⟩ : ∃ R0 : Nat,C.R = (R0 : Int) := ⟨C.R.toNat,by omega⟩
 obtain ⟨S0,hS0⟩ : ∃ S0 : Nat,C.Sl = (S0 : Int) := ⟨C.Sl.toNat,by omega⟩
 obtain ⟨C1,C2,c3,c4,c5,C6,c7⟩ := C
 simp only [] at *
 subst hT0
 subst hR0
 subst hS0
 have Q1 : bz.length = T0 := by omega
 have Q4 : h.held.length = T0 := by omega
 have Q5 : h.lists.length = R0 := by omega
 have Q16 : a.slots.length = S0 := by omega
 have hT16 : T0 ≤ 16 := by omega
 have hR16 : R0 ≤ 16 := by omega
 have hSl : S0 ≤ 1024 := by omega
 have hfl : h.lists.flatten.length ≤ S0 := by omega
 obtain ⟨fl,hfd⟩ : ∃ fl : Nat → Nat,∀ r,fl r = (h.lists.take r).flatten.length := ⟨_,fun _ => rfl⟩
 replace hfd := Lib.hid hfd
 clear hfl0
 have hm128 : (R0 : Int) * c3 ≤ 128 := q2
 have hm0 : 0 ≤ (R0 : Int) * c3 := q1
 replace Q2 := Lib.hid Q2
 replace Q3 := Lib.hid Q3
 replace Q4 := Lib.hid Q4
 replace Q5 := Lib.hid Q5
 replace Q6 := Lib.hid Q6
 replace Q7 := Lib.hid Q7
 replace Q8 := Lib.hid Q8
 replace Q9 := Lib.hid Q9
 replace Q10 := Lib.hid Q10
 replace Q11 := Lib.hid Q11
 replace Q12 := Lib.hid Q12
 replace Q13 := Lib.hid Q13
 replace Q14 := Lib.hid Q14
 replace Q15 := Lib.hid Q15
 replace Q16 := Lib.hid Q16
 replace Q17 := Lib.hid Q17
 replace Q18 := Lib.hid Q18
 replace Q19 := Lib.hid Q19
 replace hlL := Lib.hid hlL
 replace hfl := Lib.hid hfl
 replace hb9 := Lib.hid hb9
 replace hb9' := Lib.hid hb9'
 replace hb14 := Lib.hid hb14
 replace hH2 := Lib.hid hH2
 replace hH1 := Lib.hid hH1
 replace Q1 := Lib.hid Q1
 clear hT1 hT2 hR1 hR2 hS1 hS2 hok
 go_enter Tryz.func59,Tryz.ntmps59
 have hcase : (decide ((R0 : Int) * c3 + 1 > c4) = true ∧ decide (c4 < (R0 : Int) * c3 + 1) = true ∧ Bw = (R0 : Int) * c3 + 1) ∨ (decide ((R0 : Int) * c3 + 1 > c4) = false ∧ decide (c4 < (R0 : Int) * c3 + 1) = false ∧ Bw = c4) := by
  rw [hBw2]
  by_cases hc : c4 < (R0 : Int) * c3 + 1
  ·exact .inl ⟨by simpa using hc,by simpa using hc,by rw [if_pos (by omega)]⟩
  ·refine .inr ⟨by simpa using hc,by simpa using hc,?_⟩
   split <;> omega
 clear hBw2 hRt1 hRt2
 rcases hcase with ⟨k1,k2,k3⟩|⟨k1,k2,k3⟩
 all_goals
  replace k3 := k3.symm
  subst k3
  (repeat' (first|(go_big_may;(first|((show wpList _ _ _ (Oper.mk (some 4) _ _ _ _ _ :: _) _ _);(with_reducible apply wl_box hs);rfl;rfl;rfl;clear hs;intro w bC hs;(simp only [Uc,Uz]))|((with_reducible apply wl_ld hs);infer_instance;rfl;(with_reducible exact Qh);rfl;rfl;(simp only [Uc,Uz]))|((with_reducible apply wl_mk hs);infer_instance;infer_instance;rfl;rfl;rfl;rfl;(rfl);omega;(exact Vb rfl);rfl;clear hs;intro w v hs;(simp only [Uc,Uz]))))|go_step))
  obtain ⟨b8,m8,rfl⟩ := sl_len (hs.pull (A := sl 3 1 _ v) (by (with_reducible exact Qh)))
  simp only [List.length_replicate,Int.toNat_natCast] at hs ⊢
  go_loopw [12,13] (fun i12 q wr => ∃ (t : Nat) (b : Bool) (hc : List Int),t ≤ T0 ∧ i12 = .bool b ∧ q = .int .i64 (t : Int) ∧ Hid (b = true → ∀ x ∈ bz.take t,x = false) ∧ Hid (HcR R0 (h.held.take t) hc) ∧ Sat O wr (sl 3 1 (hc.map eI) (.slice b8 R0 m8) * (pt bC (.cells #[.int .i64 (T0 : Int),.int .i64 (R0 : Int),.int .i64 c3,.int .i64 c4,.int .i64 c5,.int .i64 (S0 : Int),.int .i64 c7] 23) * (MchR bx bm m * (HazR g ba h * (AreR ba a * F)))))) (fun _ q _ => T0 + 1 - (intOf q).toNat)
  case atStart => exact ⟨0,true,List.replicate R0 0,by omega,rfl,rfl,Lib.hid (fun _ x hx => by simp at hx),Lib.hid ⟨by simp,fun r z hz => .inl ⟨(List.mem_replicate.1 (List.mem_of_getElem? hz)).2,by simp⟩⟩,by rw [List.map_replicate];((with_reducible apply Sat.fin hs);(focus ((repeat (first|with_reducible exact Ql|with_reducible apply Qb|exact Qh));done)))⟩
  case round =>
   obtain ⟨t,b,hc,kt,rfl,rfl,hid,hhc,hs⟩ := hrel
   by_cases hkt : t = T0
   ·have hlt : decide ((t : Int) < (T0 : Int)) = false := by simp;omega
    have hlt2 : decide (t < T0) = false := by simp;omega
    have hneq : ((m.mem.words.length : Int) != base ⟨(T0 : Int),(R0 : Int),c3,c4,c5,(S0 : Int),c7⟩ 14) = false := by have := Q15.out;simpa using this
    have hhc : Hid (HcR R0 h.held hc) := Lib.hid (by have := hhc.out;rwa [hkt,← Q4.out,List.take_length] at this)
    rw [hkt] at hid
    clear hkt kt
    (repeat' (first|(go_big_may;(first|((with_reducible apply wl_ld hs);infer_instance;rfl;(focus with_reducible (repeat first|exact Qh|apply Qk);done);rfl;rfl;(simp only [Uc,Uz]))|(go_at_call 44;((refine (hRun.out).at hs (by (focus with_reducible (repeat first|exact Qh|apply Qk);done)) ?_);clear hs;intro v w hs;(try simp only [emp_mul,mul_assoc'] at hs));(have hg := runR_get hs);(clear hs);(obtain ⟨a1,k1,a2,k2,a3,k3,a4,k4,rfl,hs⟩ := hg))))|go_step|(dsimp only)))
    have hfW : ∀ w,(Instr.field 32 (.agg #[.slice a1 m.calls.length k1,.slice a2 m.mem.log.length k2,.slice a3 m.shifts.length k3,.slice a4 m.mem.words.length k4]) 3).run Tryz.prog w = .ok (.slice a4 m.mem.words.length k4) w := fun w => run_fld (ft := 30) (off := 3) (by kernel_rfl) inferInstance rfl w
    rw [hfW]
    (repeat' (first|(go_big_may;(first|(first|((with_reducible apply wl_ld hs);infer_instance;rfl;(focus with_reducible (repeat first|exact Qh|apply Qk);done);rfl;rfl;(simp only [Uc,Uz]))|((with_reducible apply wl_ldF hs);infer_instance;rfl;(focus with_reducible (repeat first|exact Qh|apply Qk);done);rfl;rfl;(simp only [Uc,Uz]))|((with_reducible apply wl_len hs);infer_instance;rfl;(focus with_reducible (repeat first|exact Qh|apply Qk);done);rfl;(simp only [Uc,Uz])))|((with_reducible apply wl_mk hs);infer_instance;infer_instance;rfl;rfl;rfl;rfl;(rfl);omega;(exact Vb rfl);rfl;clear hs;intro w v hs;(simp only [Uc,Uz]))|(go_at_call 22;((refine (hSz.out).at hs (by (focus ((repeat (with_reducible exact Qn));done))) ?_);clear hs;intro w hs;(try simp only [emp_mul,mul_assoc'] at hs)))))|go_step|go_upon|(dsimp only)))
    obtain ⟨b9,m9,rfl⟩ := sl_len (hs.pull (A := sl 4 1 _ v) (by (with_reducible exact Qh)))
    simp only [List.length_replicate,List.length_map,Int.toNat_natCast] at hs ⊢
    go_loopw [17,18] (fun A q wr => ∃ (r : Nat) (sn : List Bool),r ≤ R0 ∧ A = .int .i64 (fl r : Int) ∧ q = .int .i64 (r : Int) ∧ Hid (SnR S0 (h.lists.take r).flatten sn) ∧ Sat O wr (sl 4 1 (sn.map eB) (.slice b9 S0 m9) * (sl 3 1 (hc.map eI) (.slice b8 R0 m8) * (sl 57 1 (m.mem.words.map eU) (.slice a4 m.mem.words.length k4) * (pt bC (.cells #[.int .i64 (T0 : Int),.int .i64 (R0 : Int),.int .i64 c3,.int .i64 c4,.int .i64 c5,.int .i64 (S0 : Int),.int .i64 c7] 23) * (MchR bx bm m * (HazR g ba h * (AreR ba a * F)))))))) (fun _ q _ => R0 + 1 - (intOf q).toNat)
    case atStart => exact ⟨0,List.replicate S0 false,by omega,by rw [hfd.out];rfl,rfl,Lib.hid ⟨by simp,fun j hj => by have := (List.mem_replicate.1 (List.mem_of_getElem? hj)).2;cases this⟩,by rw [List.map_replicate];((with_reducible apply Sat.fin hs);(focus ((repeat (first|with_reducible exact Ql|with_reducible exact Qh|with_reducible apply Qb|exact Qh|with_reducible apply Qk));done)))⟩
    case round =>
     obtain ⟨r,sn,kr,rfl,rfl,hsn,hs⟩ := hrel
     by_cases hkr : r = R0
     ·have hlt : decide ((r : Int) < (R0 : Int)) = false := by simp;omega
      have hlt2 : decide (r < R0) = false := by simp;omega
      have hall : fl r = h.lists.flatten.length := by rw [hfd.out,hkr,← Q5.out,List.take_length]
      have c1 : decide ((fl r : Int) ≤ (Nc : Int)) = true := by have := Q13.out;simp;omega
      have c1' : decide (fl r ≤ Nc) = true := by have := Q13.out;simp;omega
      cases b with
      | false =>
       clear hall hsn hkr
       (repeat' (first|(((with_reducible apply wl_pass2);rfl;rfl;((simp only [ev,Ue,Uf]);rfl);rfl;(simp only [Uc,Uz]));(repeat ((with_reducible apply wl_pass2);rfl;rfl;((simp only [ev,Ue,Uf]);rfl);rfl;(simp only [Uc,Uz]))))|((with_reducible apply wl_pick);((simp only [ev,Ue,Uf]);rfl);((simp only [cond_true,cond_false,ev,Ue,Uf]);rfl);(first|(with_reducible exact want_none)|((with_reducible apply want_some);rfl;rfl;(simp only [Ue,Uf])));(simp only [Uc,Uz]))|(go_big_may;(first|((with_reducible apply wl_ld hs);infer_instance;rfl;(focus with_reducible (repeat first|exact Qh|apply Qk);done);rfl;rfl;(simp only [Uc,Uz]))|(go_at_call 116;((refine (hCnt.out).at hs (by (focus with_reducible (repeat first|exact Qh|apply Qk);done)) ?_);clear hs;intro w hs;(try simp only [emp_mul,mul_assoc'] at hs)))))|go_guarded|go_step|(dsimp only)))
       (go_ret)
       exact ⟨rfl,by ((with_reducible apply Sat.fin hs);(focus with_reducible (repeat first|exact Ql|exact Qh|apply Qb|apply Qk);done))⟩
      | true =>
       have heq := Q14.out (by have := hid.out rfl;rwa [← Q1.out,List.take_length] at this)
       have c2 : ((fl r : Int) == (Nc : Int)) = true := by rw [hall,heq];simp
       clear hall hsn heq hkr
       (repeat' (first|((with_reducible apply wl_pick);((simp only [ev,Ue,Uf]);rfl);((simp only [cond_true,cond_false,ev,Ue,Uf]);rfl);(first|(with_reducible exact want_none)|((with_reducible apply want_some);rfl;rfl;(simp only [Ue,Uf])));(simp only [Uc,Uz]))|(go_big_may;(first|((with_reducible apply wl_ld hs);infer_instance;rfl;(focus with_reducible (repeat first|exact Qh|apply Qk);done);rfl;rfl;(simp only [Uc,Uz]))|(go_at_call 116;((refine (hCnt.out).at hs (by (focus with_reducible (repeat first|exact Qh|apply Qk);done)) ?_);clear hs;intro w hs;(try simp only [emp_mul,mul_assoc'] at hs)))))|go_guarded|go_step|(dsimp only)))
       (go_ret)
       exact ⟨rfl,by ((with_reducible apply Sat.fin hs);(focus with_reducible (repeat first|exact Ql|exact Qh|apply Qb|apply Qk);done))⟩
     ·have hlt : decide ((r : Int) < (R0 : Int)) = true := by simp;omega
      have hlt2 : decide (r < R0) = true := by simp;omega
      have hrL := Lib.hid (show r < R0 by omega)
      obtain ⟨l,hl⟩ : ∃ l,h.lists[r]? = some l := ⟨_,List.getElem?_eq_getElem (by have := Q5.out;omega)⟩
      have hlen := hlL.out l (List.mem_of_getElem? hl)
      have hL1 := Lib.hid (hLst.out r l hl (by omega))
      obtain ⟨d1,d2⟩ := gt_no (Q9.out l (List.mem_of_getElem? hl))
      have hal : (fl (r + 1) : Int) = (fl r : Int) + (l.length : Int) := by rw [hfd.out,hfd.out,flat_take hl,List.length_append];omega
      have hab : fl r + l.length ≤ 1024 := by
       have h1 := hfl.out
       rw [flat_split hl,List.length_append,List.length_append] at h1
       rw [hfd.out];omega
      replace hal := Lib.hid hal
      obtain ⟨w,hw⟩ : ∃ w,hc[r]? = some w := ⟨_,List.getElem?_eq_getElem (by have := hhc.out.1;omega)⟩
      have hwc := hhc.out.2 r w hw
      have hgw : (hc.map eI)[r]? = some (eI w) := by rw [List.getElem?_map,hw];rfl
      have hgl : r < (hc.map eI).length := by have := hhc.out.1;simp;omega
      have hun := Lib.hid (Q10.out r l hl)
      replace hl := Lib.hid hl
      clear hw hkr
      rcases hwc with ⟨rfl,hnm⟩|⟨rfl,_⟩
      ·obtain ⟨u1,u2⟩ := hun.out hnm
       obtain ⟨d3,d4⟩ := gt_no u1
       replace u2 := Lib.hid u2
       clear hun hnm u1
       (repeat' (first|(go_big_may;(first|(first|((with_reducible apply wl_ld hs);infer_instance;rfl;(focus with_reducible (repeat first|exact Qh|apply Qk);done);rfl;rfl;(simp only [Uc,Uz]))|((with_reducible apply wl_ldF hs);infer_instance;rfl;(focus with_reducible (repeat first|exact Qh|apply Qk);done);rfl;rfl;(simp only [Uc,Uz]))|((with_reducible apply wl_ldS0 hs);infer_instance;rfl;assumption;(focus with_reducible (repeat first|exact Qh|apply Qk);done);rfl;(assumption);rfl;rfl;(simp only [Uc,Uz]))|((with_reducible apply wl_ia hs);infer_instance;infer_instance;rfl;rfl;(focus with_reducible (repeat first|exact Qh|apply Qk);done);(rfl);(assumption);rfl;intro b off hat;(simp only [Uc,Uz]))|((with_reducible apply wl_len hs);infer_instance;rfl;(with_reducible exact Qh);rfl;(simp only [Uc,Uz])))|(go_at_call 42;((refine (hL1.out).at hs (by (focus with_reducible (repeat first|exact Qh|apply Qk);done)) ?_);clear hs;intro v w hs;(try simp only [emp_mul,mul_assoc'] at hs));(obtain ⟨b1,n1,rfl⟩ := sl_len (hs.pull (A := sl 3 1 _ v) (by (with_reducible exact Qh))));(simp only [List.length_map] at hs ⊢))|(go_at_call 86;((refine (hLi.out).at hs (by (focus ((repeat (with_reducible exact Qn));done))) ?_);clear hs;intro w hs;(try simp only [emp_mul,mul_assoc'] at hs)))))|go_step|(dsimp only)))
       go_loopw [20] (fun q wr => ∃ k : Nat,(k : Int) ≤ c3 ∧ q = .int .i64 (k : Int) ∧ Sat O wr (sl 3 1 (l.map eI) (.slice b1 l.length n1) * (sl 4 1 (sn.map eB) (.slice b9 S0 m9) * (sl 3 1 (hc.map eI) (.slice b8 R0 m8) * (sl 57 1 (m.mem.words.map eU) (.slice a4 m.mem.words.length k4) * (pt bC (.cells #[.int .i64 (T0 : Int),.int .i64 (R0 : Int),.int .i64 c3,.int .i64 c4,.int .i64 c5,.int .i64 (S0 : Int),.int .i64 c7] 23) * (MchR bx bm m * (HazR g ba h * (AreR ba a * F))))))))) (fun q _ => 9 - (intOf q).toNat)
       case atStart => exact ⟨0,by have := hH1.out;omega,rfl,by ((with_reducible apply Sat.fin hs);(focus with_reducible (repeat first|exact Ql|exact Qh|apply Qb|apply Qk);done))⟩
       case round =>
        obtain ⟨k,kk,rfl,hs⟩ := hrel
        by_cases hk : (k : Int) = c3
        ·have hltk : decide ((k : Int) < c3) = false := by simp;omega
         clear hk
         (repeat' (first|(go_big_may;(first|((with_reducible apply wl_ld hs);infer_instance;rfl;(focus with_reducible (repeat first|exact Qh|apply Qk);done);rfl;rfl;(simp only [Uc,Uz]))|((with_reducible apply wl_len hs);infer_instance;rfl;(with_reducible exact Qh);rfl;(simp only [Uc,Uz]))))|go_step))
         go_loopw [144] (fun q wr => ∃ (j : Nat) (sn : List Bool),j ≤ l.length ∧ q = .int .i64 (j : Int) ∧ Hid (SnR S0 ((h.lists.take r).flatten ++ l.take j) sn) ∧ Sat O wr (sl 3 1 (l.map eI) (.slice b1 l.length n1) * (sl 4 1 (sn.map eB) (.slice b9 S0 m9) * (sl 3 1 (hc.map eI) (.slice b8 R0 m8) * (sl 57 1 (m.mem.words.map eU) (.slice a4 m.mem.words.length k4) * (pt bC (.cells #[.int .i64 (T0 : Int),.int .i64 (R0 : Int),.int .i64 c3,.int .i64 c4,.int .i64 c5,.int .i64 (S0 : Int),.int .i64 c7] 23) * (MchR bx bm m * (HazR g ba h * (AreR ba a * F))))))))) (fun q _ => l.length + 1 - (intOf q).toNat)
         case atStart => exact ⟨0,sn,by omega,rfl,Lib.hid (by rw [List.take_zero,List.append_nil];exact hsn.out),by ((with_reducible apply Sat.fin hs);(with_reducible exact Ql))⟩
         case round =>
          clear hsn
          obtain ⟨j,sn,kj,rfl,hsn,hs⟩ := hrel
          by_cases hkj : j = l.length
          ·have hltj : decide ((j : Int) < (l.length : Int)) = false := by simp;omega
           have hltj2 : decide (j < l.length) = false := by simp;omega
           have hnw : SnR S0 (h.lists.take (r + 1)).flatten sn := by rw [flat_take hl.out];have := hsn.out;rwa [hkj,List.take_length] at this
           replace hnw := Lib.hid hnw
           clear hkj hsn
           (repeat' (go_step))
           go_roundw
           case rel => exact ⟨r + 1,sn,(by have := hrL.out;omega),by rw [hal.out],by simp,hnw,by ((with_reducible apply Sat.fin hs);(focus with_reducible (repeat first|exact Ql|exact Qh|apply Qb|apply Qk);done))⟩
           case measure => have := hrL.out;simp [intOf];omega
          ·have hltj : decide ((j : Int) < (l.length : Int)) = true := by simp;omega
           have hltj2 : decide (j < l.length) = true := by simp;omega
           have hjl := Lib.hid (show j < l.length by omega)
           have hln : j < (l.map eI).length := by simp;omega
           obtain ⟨s,hs0⟩ : ∃ s,l[j]? = some s := ⟨_,List.getElem?_eq_getElem (by omega)⟩
           obtain ⟨z0,z1,x,hx,hx5⟩ := Q11.out l (List.mem_of_getElem? hl.out) s (List.mem_of_getElem? hs0)
           obtain ⟨i,rfl⟩ := Int.eq_ofNat_of_zero_le z0
           simp only [Int.toNat_natCast] at hx
           have hiS : i < S0 := by have z1 : (i : Int) < (S0 : Int) := z1;omega
           obtain ⟨hf,hnw⟩ := sn_put hsn.out hs0 hiS (by rw [← flat_split hl.out];exact Q12.out)
           have hsl := hsn.out.1
           obtain ⟨x1,x2⟩ := x
           simp only [] at hx5
           subst hx5
           have hS1 := Lib.hid (hSt.out i _ hx)
           have hgv : (l.map eI)[j]? = some (eI (i : Int)) := by rw [List.getElem?_map,hs0];rfl
           have hgs : (sn.map eB)[i]? = some (eB false) := by rw [List.getElem?_map,hf];rfl
           have hgsl : i < (sn.map eB).length := by simp;omega
           have e1 : decide ((i : Int) < 0) = false := by simp
           have e2 : decide ((i : Int) ≥ (S0 : Int)) = false := by simp;omega
           have e3 : decide (S0 ≤ i) = false := by simp;omega
           have e4 : decide (i < S0) = true := by simpa using hiS
           replace hnw := Lib.hid hnw
           clear hs0 hx hf hkj hsn hsl z0 z1 hiS
           (repeat' (first|((with_reducible apply wl_pick);((simp only [ev,Ue,Uf]);rfl);((simp only [cond_true,cond_false,ev,Ue,Uf]);rfl);(with_reducible exact want_none);(simp only [Uc,Uz]))|(go_big_may;(first|(first|((with_reducible apply wl_ld hs);infer_instance;rfl;(focus with_reducible (repeat first|exact Qh|apply Qk);done);rfl;rfl;(simp only [Uc,Uz]))|((with_reducible apply wl_ldS0 hs);infer_instance;rfl;assumption;(focus with_reducible (repeat first|exact Qh|apply Qk);done);rfl;(assumption);rfl;rfl;(simp only [Uc,Uz]))|((with_reducible apply wl_stS0 hs);infer_instance;rfl;rfl;assumption;(focus with_reducible (repeat first|exact Qh|apply Qk);done);rfl;(assumption);(exact Vb rfl);(rfl);rfl;clear hs;intro w hs)|((with_reducible apply wl_ia2 hs);infer_instance;infer_instance;rfl;assumption;rfl;(focus with_reducible (repeat first|exact Qh|apply Qk);done);(rfl);(assumption);rfl;(simp only [Uc,Uz]))|((with_reducible apply wl_ia hs);infer_instance;infer_instance;rfl;rfl;(focus with_reducible (repeat first|exact Qh|apply Qk);done);(rfl);(assumption);rfl;intro b off hat;(simp only [Uc,Uz])))|(go_at_call 115;((refine (hS1.out).at hs (by (focus with_reducible (repeat first|exact Qh|apply Qk);done)) ?_);clear hs;intro w hs;(try simp only [emp_mul,mul_assoc'] at hs)))))|go_guarded|go_step|(dsimp only)))
           go_roundw
           case rel => exact ⟨j + 1,sn.set i true,(by have := hjl.out;omega),by simp,hnw,by rw [List.map_set];((with_reducible apply Sat.fin hs);(focus ((repeat (first|with_reducible exact Ql|with_reducible exact Qh|with_reducible apply Qb|exact Qh|with_reducible apply Qk));done)))⟩
           case measure => have := hjl.out;simp [intOf];omega
        ·have hltk : decide ((k : Int) < c3) = true := by simp;omega
         have hk1 : (k : Int) < c3 := by omega
         have hk8 : k ≤ 8 := by have := hH2.out;omega
         have hA1 := hAd.out r k (by have := hrL.out;exact Int.ofNat_lt.2 this) hk1
         have hw0 := u2.out k hk1
         have hn0 : 0 ≤ base ⟨(T0 : Int),(R0 : Int),c3,c4,c5,(S0 : Int),c7⟩ 9 + (r : Int) * c3 + (k : Int) := by
          have h1 := hb9.out
          have h2 : 0 ≤ (r : Int) * c3 := Int.mul_nonneg (by omega) (by omega)
          omega
         rw [← Int.toNat_of_nonneg hn0] at hA1
         generalize (base ⟨(T0 : Int),(R0 : Int),c3,c4,c5,(S0 : Int),c7⟩ 9 + (r : Int) * c3 + (k : Int)).toNat = i at hA1 hw0
         replace hA1 := Lib.hid hA1
         have hgi : (m.mem.words.map eU)[i]? = some (eU 0) := by rw [List.getElem?_map,hw0];rfl
         have hgil : i < (m.mem.words.map eU).length := by simpa using (List.getElem?_eq_some_iff.1 hw0).1
         replace hk1 := Lib.hid hk1
         clear hk hw0 hn0
         (repeat' (first|(go_big_may;(first|(first|((with_reducible apply wl_ld hs);infer_instance;rfl;(focus with_reducible (repeat first|exact Qh|apply Qk);done);rfl;rfl;(simp only [Uc,Uz]))|((with_reducible apply wl_ldF hs);infer_instance;rfl;(focus with_reducible (repeat first|exact Qh|apply Qk);done);rfl;rfl;(simp only [Uc,Uz]))|((with_reducible apply wl_ldS0 hs);infer_instance;rfl;assumption;(focus with_reducible (repeat first|exact Qh|apply Qk);done);rfl;(assumption);rfl;rfl;(simp only [Uc,Uz]))|((with_reducible apply wl_ia hs);infer_instance;infer_instance;rfl;rfl;(focus with_reducible (repeat first|exact Qh|apply Qk);done);(rfl);(assumption);rfl;intro b off hat;(simp only [Uc,Uz])))|(go_at_call 114;((refine (hA1.out).at hs (by (focus ((repeat (with_reducible exact Qn));done))) ?_);clear hs;intro w hs;(try simp only [emp_mul,mul_assoc'] at hs)))))|go_step|(dsimp only)))
         go_roundw
         case rel => exact ⟨k + 1,(by have := hk1.out;omega),by simp,by ((with_reducible apply Sat.fin hs);(with_reducible exact Ql))⟩
         case measure => simp [intOf];omega
      ·clear hun
       (repeat' (first|(go_big_may;(first|(first|((with_reducible apply wl_ld hs);infer_instance;rfl;(focus with_reducible (repeat first|exact Qh|apply Qk);done);rfl;rfl;(simp only [Uc,Uz]))|((with_reducible apply wl_ldF hs);infer_instance;rfl;(focus with_reducible (repeat first|exact Qh|apply Qk);done);rfl;rfl;(simp only [Uc,Uz]))|((with_reducible apply wl_ldS0 hs);infer_instance;rfl;assumption;(focus with_reducible (repeat first|exact Qh|apply Qk);done);rfl;(assumption);rfl;rfl;(simp only [Uc,Uz]))|((with_reducible apply wl_ia hs);infer_instance;infer_instance;rfl;rfl;(focus with_reducible (repeat first|exact Qh|apply Qk);done);(rfl);(assumption);rfl;intro b off hat;(simp only [Uc,Uz]))|((with_reducible apply wl_len hs);infer_instance;rfl;(with_reducible exact Qh);rfl;(simp only [Uc,Uz])))|(go_at_call 42;((refine (hL1.out).at hs (by (focus with_reducible (repeat first|exact Qh|apply Qk);done)) ?_);clear hs;intro v w hs;(try simp only [emp_mul,mul_assoc'] at hs));(obtain ⟨b1,n1,rfl⟩ := sl_len (hs.pull (A := sl 3 1 _ v) (by (with_reducible exact Qh))));(simp only [List.length_map] at hs ⊢))|(go_at_call 86;((refine (hLi.out).at hs (by (focus ((repeat (with_reducible exact Qn));done))) ?_);clear hs;intro w hs;(try simp only [emp_mul,mul_assoc'] at hs)))))|go_step|(dsimp only)))
       go_loopw [144] (fun q wr => ∃ (j : Nat) (sn : List Bool),j ≤ l.length ∧ q = .int .i64 (j : Int) ∧ Hid (SnR S0 ((h.lists.take r).flatten ++ l.take j) sn) ∧ Sat O wr (sl 3 1 (l.map eI) (.slice b1 l.length n1) * (sl 4 1 (sn.map eB) (.slice b9 S0 m9) * (sl 3 1 (hc.map eI) (.slice b8 R0 m8) * (sl 57 1 (m.mem.words.map eU) (.slice a4 m.mem.words.length k4) * (pt bC (.cells #[.int .i64 (T0 : Int),.int .i64 (R0 : Int),.int .i64 c3,.int .i64 c4,.int .i64 c5,.int .i64 (S0 : Int),.int .i64 c7] 23) * (MchR bx bm m * (HazR g ba h * (AreR ba a * F))))))))) (fun q _ => l.length + 1 - (intOf q).toNat)
       case atStart => exact ⟨0,sn,by omega,rfl,Lib.hid (by rw [List.take_zero,List.append_nil];exact hsn.out),by ((with_reducible apply Sat.fin hs);(focus with_reducible (repeat first|exact Ql|exact Qh|apply Qb|apply Qk);done))⟩
       case round =>
        clear hsn
        obtain ⟨j,sn,kj,rfl,hsn,hs⟩ := hrel
        by_cases hkj : j = l.length
        ·have hltj : decide ((j : Int) < (l.length : Int)) = false := by simp;omega
         have hltj2 : decide (j < l.length) = false := by simp;omega
         have hnw : SnR S0 (h.lists.take (r + 1)).flatten sn := by rw [flat_take hl.out];have := hsn.out;rwa [hkj,List.take_length] at this
         replace hnw := Lib.hid hnw
         clear hkj hsn
         (repeat' (go_step))
         go_roundw
         case rel => exact ⟨r + 1,sn,(by have := hrL.out;omega),by rw [hal.out],by simp,hnw,by ((with_reducible apply Sat.fin hs);(focus with_reducible (repeat first|exact Ql|exact Qh|apply Qb|apply Qk);done))⟩
         case measure => have := hrL.out;simp [intOf];omega
        ·have hltj : decide ((j : Int) < (l.length : Int)) = true := by simp;omega
         have hltj2 : decide (j < l.length) = true := by simp;omega
         have hjl := Lib.hid (show j < l.length by omega)
         have hln : j < (l.map eI).length := by simp;omega
         obtain ⟨s,hs0⟩ : ∃ s,l[j]? = some s := ⟨_,List.getElem?_eq_getElem (by omega)⟩
         obtain ⟨z0,z1,x,hx,hx5⟩ := Q11.out l (List.mem_of_getElem? hl.out) s (List.mem_of_getElem? hs0)
         obtain ⟨i,rfl⟩ := Int.eq_ofNat_of_zero_le z0
         simp only [Int.toNat_natCast] at hx
         have hiS : i < S0 := by have z1 : (i : Int) < (S0 : Int) := z1;omega
         obtain ⟨hf,hnw⟩ := sn_put hsn.out hs0 hiS (by rw [← flat_split hl.out];exact Q12.out)
         have hsl := hsn.out.1
         obtain ⟨x1,x2⟩ := x
         simp only [] at hx5
         subst hx5
         have hS1 := Lib.hid (hSt.out i _ hx)
         have hgv : (l.map eI)[j]? = some (eI (i : Int)) := by rw [List.getElem?_map,hs0];rfl
         have hgs : (sn.map eB)[i]? = some (eB false) := by rw [List.getElem?_map,hf];rfl
         have hgsl : i < (sn.map eB).length := by simp;omega
         have e1 : decide ((i : Int) < 0) = false := by simp
         have e2 : decide ((i : Int) ≥ (S0 : Int)) = false := by simp;omega
         have e3 : decide (S0 ≤ i) = false := by simp;omega
         have e4 : decide (i < S0) = true := by simpa using hiS
         replace hnw := Lib.hid hnw
         clear hs0 hx hf hkj hsn hsl z0 z1 hiS
         (repeat' (first|((with_reducible apply wl_pick);((simp only [ev,Ue,Uf]);rfl);((simp only [cond_true,cond_false,ev,Ue,Uf]);rfl);(with_reducible exact want_none);(simp only [Uc,Uz]))|(go_big_may;(first|(first|((with_reducible apply wl_ld hs);infer_instance;rfl;(focus with_reducible (repeat first|exact Qh|apply Qk);done);rfl;rfl;(simp only [Uc,Uz]))|((with_reducible apply wl_ldS0 hs);infer_instance;rfl;assumption;(focus with_reducible (repeat first|exact Qh|apply Qk);done);rfl;(assumption);rfl;rfl;(simp only [Uc,Uz]))|((with_reducible apply wl_stS0 hs);infer_instance;rfl;rfl;assumption;(focus with_reducible (repeat first|exact Qh|apply Qk);done);rfl;(assumption);(exact Vb rfl);(rfl);rfl;clear hs;intro w hs)|((with_reducible apply wl_ia2 hs);infer_instance;infer_instance;rfl;assumption;rfl;(focus with_reducible (repeat first|exact Qh|apply Qk);done);(rfl);(assumption);rfl;(simp only [Uc,Uz]))|((with_reducible apply wl_ia hs);infer_instance;infer_instance;rfl;rfl;(focus with_reducible (repeat first|exact Qh|apply Qk);done);(rfl);(assumption);rfl;intro b off hat;(simp only [Uc,Uz])))|(go_at_call 115;((refine (hS1.out).at hs (by (focus with_reducible (repeat first|exact Qh|apply Qk);done)) ?_);clear hs;intro w hs;(try simp only [emp_mul,mul_assoc'] at hs)))))|go_guarded|go_step|(dsimp only)))
         go_roundw
         case rel => exact ⟨j + 1,sn.set i true,(by have := hjl.out;omega),by simp,hnw,by rw [List.map_set];((with_reducible apply Sat.fin hs);(focus ((repeat (first|with_reducible exact Ql|with_reducible exact Qh|with_reducible apply Qb|exact Qh|with_reducible apply Qk));done)))⟩
         case measure => have := hjl.out;simp [intOf];omega
   ·have hlt : decide ((t : Int) < (T0 : Int)) = true := by simp;omega
    have hlt2 : decide (t < T0) = true := by simp;omega
    have htT := Lib.hid (show t < T0 by omega)
    obtain ⟨z,hz⟩ : ∃ z,h.held[t]? = some z := ⟨_,List.getElem?_eq_getElem (by have := Q4.out;omega)⟩
    obtain ⟨b0,hb0⟩ : ∃ b,bz[t]? = some b := ⟨_,List.getElem?_eq_getElem (by have := Q1.out;omega)⟩
    obtain ⟨se,hse⟩ : ∃ s,m.seats[t]? = some s := ⟨_,List.getElem?_eq_getElem (by have := Q1.out;have := Q2.out;omega)⟩
    have hB1 := hBus.out t se b0 hse hb0
    have hR1 := Lib.hid (hRec.out t z hz)
    obtain ⟨z0,z1⟩ := Q6.out z (List.mem_of_getElem? hz)
    have hidl : ∀ b' : Bool,(b' = true → b = true ∧ b0 = false) → b' = true → ∀ x ∈ bz.take (t + 1),x = false := by
     intro b' h1 h2 x hx
     obtain ⟨h3,h4⟩ := h1 h2
     rw [List.take_add_one,hb0] at hx
     rcases List.mem_append.1 hx with hx|hx
     ·exact hid.out h3 x hx
     ·simp at hx;rw [hx,h4]
    replace hidl := Lib.hid hidl
    by_cases hzn : z < 0
    ·have f1 : decide (z < 0) = true := by simpa using hzn
     have hnw := Lib.hid (hc_skip hz hhc.out hzn)
     clear hz hb0 hse hkt hid hhc hzn z0 z1
     cases b <;> cases b0
     all_goals
      replace hB1 := Lib.hid hB1
      (repeat' (first|(((with_reducible apply wl_pass2);rfl;rfl;((simp only [ev,Ue,Uf]);rfl);rfl;(simp only [Uc,Uz]));(repeat ((with_reducible apply wl_pass2);rfl;rfl;((simp only [ev,Ue,Uf]);rfl);rfl;(simp only [Uc,Uz]))))|((with_reducible apply wl_pick);((simp only [ev,Ue,Uf]);rfl);((simp only [cond_true,cond_false,ev,Ue,Uf]);rfl);(with_reducible exact want_none);(simp only [Uc,Uz]))|(go_big_may;(first|((with_reducible apply wl_ld hs);infer_instance;rfl;(focus with_reducible (repeat first|exact Qh|apply Qk);done);rfl;rfl;(simp only [Uc,Uz]))|(go_at_call 53;((refine (hB1.out).at hs (by (focus with_reducible (repeat first|exact Qh|apply Qk);done)) ?_);clear hs;intro w hs;(try simp only [emp_mul,mul_assoc'] at hs)))|(go_at_call 50;((refine (hR1.out).at hs (by (focus with_reducible (repeat first|exact Qh|apply Qk);done)) ?_);clear hs;intro w hs;(try simp only [emp_mul,mul_assoc'] at hs)))))|go_guarded|go_step|(dsimp only)))
      go_roundw
      case rel => exact ⟨t + 1,_,hc,(by have := htT.out;omega),rfl,by simp,Lib.hid (hidl.out _ (by simp)),hnw,by ((with_reducible apply Sat.fin hs);(focus with_reducible (repeat first|exact Ql|exact Qh|apply Qb|apply Qk);done))⟩
      case measure => have := htT.out;simp [intOf];omega
    ·obtain ⟨r,rfl⟩ := Int.eq_ofNat_of_zero_le (show 0 ≤ z by omega)
     have hrR : r < R0 := by have z1 : (r : Int) < (R0 : Int) := z1;omega
     obtain ⟨g1,g2⟩ := hc_put hz hhc.out hrR Q7.out
     have hhl := hhc.out.1
     have hgw : (hc.map eI)[r]? = some (eI 0) := by rw [List.getElem?_map,g1];rfl
     have hgl : r < (hc.map eI).length := by simp;omega
     have hgw2 : ((hc.map eI).set r (eI 1))[r]? = some (eI 1) := by rw [List.getElem?_set_self hgl]
     have hgl2 : r < ((hc.map eI).set r (eI 1)).length := by simp;omega
     have f1 : decide ((r : Int) < 0) = false := by simp
     have f2 : decide ((r : Int) ≥ (R0 : Int)) = false := by simp;omega
     have f3 : decide (R0 ≤ r) = false := by simp;omega
     have f4 : decide (r < R0) = true := by simpa using hrR
     obtain ⟨l,hl⟩ : ∃ l,h.lists[r]? = some l := ⟨_,List.getElem?_eq_getElem (by have := Q5.out;omega)⟩
     have hlen := hlL.out l (List.mem_of_getElem? hl)
     have hL1 := Lib.hid (hLst.out r l hl (by omega))
     have hbt := Lib.hid (fun hf => ge_no (Q8.out t r l hz hf hl))
     have hnw := Lib.hid g2
     clear hz hse hkt hid hhc z0 z1 g1 g2 hl hrR hzn hhl
     cases b <;> cases b0
     all_goals
      replace hB1 := Lib.hid hB1
      try (have qd := hbt.out hb0;obtain ⟨d1,d2⟩ := qd)
      clear hb0 hbt
      (repeat' (first|(((with_reducible apply wl_pass2);rfl;rfl;((simp only [ev,Ue,Uf]);rfl);rfl;(simp only [Uc,Uz]));(repeat ((with_reducible apply wl_pass2);rfl;rfl;((simp only [ev,Ue,Uf]);rfl);rfl;(simp only [Uc,Uz]))))|((with_reducible apply wl_pick);((simp only [ev,Ue,Uf]);rfl);((simp only [cond_true,cond_false,ev,Ue,Uf]);rfl);(first|(with_reducible exact want_none)|((with_reducible apply want_some);rfl;rfl;(simp only [Ue,Uf])));(simp only [Uc,Uz]))|(go_big_may;(first|(first|((with_reducible apply wl_ld hs);infer_instance;rfl;(focus with_reducible (repeat first|exact Qh|apply Qk);done);rfl;rfl;(simp only [Uc,Uz]))|((with_reducible apply wl_ldS0 hs);infer_instance;rfl;assumption;(focus with_reducible (repeat first|exact Qh|apply Qk);done);rfl;(assumption);rfl;rfl;(simp only [Uc,Uz]))|((with_reducible apply wl_stS0 hs);infer_instance;rfl;rfl;assumption;(focus with_reducible (repeat first|exact Qh|apply Qk);done);rfl;(assumption);(exact Vb rfl);(rfl);rfl;clear hs;intro w hs)|((with_reducible apply wl_ia2 hs);infer_instance;infer_instance;rfl;assumption;rfl;(focus with_reducible (repeat first|exact Qh|apply Qk);done);(rfl);(assumption);rfl;(simp only [Uc,Uz]))|((with_reducible apply wl_ia hs);infer_instance;infer_instance;rfl;rfl;(focus with_reducible (repeat first|exact Qh|apply Qk);done);(rfl);(assumption);rfl;intro b off hat;(simp only [Uc,Uz]))|((with_reducible apply wl_len hs);infer_instance;rfl;(with_reducible exact Qh);rfl;(simp only [Uc,Uz])))|(go_at_call 53;((refine (hB1.out).at hs (by (focus with_reducible (repeat first|exact Qh|apply Qk);done)) ?_);clear hs;intro w hs;(try simp only [emp_mul,mul_assoc'] at hs)))|(go_at_call 50;((refine (hR1.out).at hs (by (focus with_reducible (repeat first|exact Qh|apply Qk);done)) ?_);clear hs;intro w hs;(try simp only [emp_mul,mul_assoc'] at hs)))|(go_at_call 42;((refine (hL1.out).at hs (by (focus with_reducible (repeat first|exact Qh|apply Qk);done)) ?_);clear hs;intro v w hs;(try simp only [emp_mul,mul_assoc'] at hs));(obtain ⟨b1,n1,rfl⟩ := sl_len (hs.pull (A := sl 3 1 _ v) (by (with_reducible exact Qh))));(simp only [List.length_map] at hs ⊢))))|go_guarded|go_step|(dsimp only)))
      go_roundw
      case rel => exact ⟨t + 1,_,hc.set r 1,(by have := htT.out;omega),rfl,by simp,Lib.hid (hidl.out _ (by simp)),hnw,by rw [List.map_set];((with_reducible apply Sat.fin hs);(focus ((repeat (first|with_reducible exact Ql|with_reducible exact Qh|with_reducible apply Qb|exact Qh|with_reducible apply Qk));done)))⟩
      case measure => have := htT.out;simp [intOf];omega
end Go.Proofs.YtegafhhdegnigaaGreat
