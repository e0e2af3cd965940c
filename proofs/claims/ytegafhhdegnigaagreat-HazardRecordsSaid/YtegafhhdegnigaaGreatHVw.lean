/-
  What a script is brought within.
-/
import Derived.Test.YtegafhhdegnigaaGreatHAwk3
import Derived.Test.YtegafhhdegnigaaGreatHHist3
set_option linter.all false
section
namespace Go.Proofs.YtegafhhdegnigaaGreat
open Go.RowKit Hp
set_option maxRecDepth 100000
set_option maxHeartbeats 1000000
attribute [local irreducible] Go.Calls
open Classical in
noncomputable def fitC (c : Cfg) : Cfg := if c.Ok then c else smallC
theorem fitC_ok (c : Cfg) : (fitC c).Ok := by
  unfold fitC
  split
  · assumption
  · exact smallOk
theorem fitM_len (mvs : List Mv) : (mvs.take 65536).length ≤ 65536 := by simp;omega
def fitR (c : Cfg) (mvs : List Mv) (A : SProp) (u : Value) : SProp := ex fun v => pu (u = .tuple #[(fitC c).v,v] ∧ Rd A 4 ((mvs.take 65536).map Mv.e) v) * A
theorem law_fit (c : Cfg) (mvs : List Mv) (v : Value) (A : SProp) (hRd : Rd A 4 (mvs.map Mv.e) v) :
    Does Tryz.prog 30 #[c.v,v] A (fitR c mvs A) := by
  intro O w F hs
  have hS := Lib.hid law_small
  obtain ⟨a0,c0,rfl⟩ := hRd.len
  have hRd' := hRd
  simp only [List.length_map] at hRd hs ⊢
  by_cases hl : 65536 < mvs.length
  · have hR2 : Rd A 4 ((mvs.take 65536).map Mv.e) (.slice a0 65536 c0) := by
      rw [List.map_take]
      have := hRd'.resH (i := 65536) (by simp;omega)
      exact this
    have n1 : decide ((mvs.length : Int) > 65536) = true := by simp;omega
    have n2 : 65536 ≤ (mvs.map Mv.e).length := by simp;omega
    have hRd := Lib.hid hRd
    clear hRd'
    by_cases hok : c.Ok
    · have hC := Lib.hid (ref_conf c hok)
      have e : fitC c = c := by unfold fitC;rw [if_pos hok]
      unfold fitR
      rw [e]
      go_enter Tryz.func30,Tryz.ntmps30
      go_wp2_with (first | (first | ((with_reducible apply wl_ldF hs);infer_instance;rfl;(focus with_reducible (repeat first | exact Qh | apply Qk);done);rfl;rfl;(simp only [Uc,Uz])) | ((with_reducible apply wl_stF hs);infer_instance;rfl;rfl;(with_reducible exact Qh);rfl;rfl;rfl;rfl;clear hs;intro w hs) | ((with_reducible apply wl_alloc hs);infer_instance;rfl;clear hs;intro w b hs;(simp only [Uc,Uz])) | ((with_reducible apply wl_box hs);rfl;rfl;rfl;clear hs;intro w b hs;(simp only [Uc,Uz]))) | (go_at_call 87;((refine (hC.out).at hs (by (focus ((repeat (with_reducible exact Qn));done))) ?_);clear hs;intro w hs;(try simp only [emp_mul,mul_assoc'] at hs))) | ((with_reducible apply rd_reH (i := 65536) hRd.out);infer_instance;infer_instance;rfl;rfl;rfl;assumption;rfl;(simp only [Uc,Uz])))
      ((try simp only [Exit.inBlock,Exit.then]);(with_reducible apply bodyPost_ret);((with_reducible apply results_ct);rfl;rfl;(with_reducible apply loadF hs);infer_instance;(with_reducible exact Qh);rfl;rfl))
      refine ⟨_,rfl,?_⟩
      simp only [sat_ex,mul_assoc',sat_pu]
      exact ⟨_,⟨rfl,hR2⟩,by ((with_reducible apply Sat.fin hs);(focus with_reducible (repeat first | exact Ql | exact Qh | apply Qb | apply Qk);done))⟩
    · have hC := Lib.hid (ref_conf_no c hok)
      have e : fitC c = smallC := by unfold fitC;rw [if_neg hok]
      unfold fitR
      rw [e]
      go_enter Tryz.func30,Tryz.ntmps30
      go_wp2_with (first | (first | ((with_reducible apply wl_ldF hs);infer_instance;rfl;(focus with_reducible (repeat first | exact Qh | apply Qk);done);rfl;rfl;(simp only [Uc,Uz])) | ((with_reducible apply wl_stF hs);infer_instance;rfl;rfl;(focus with_reducible (repeat first | exact Qh | apply Qk);done);rfl;rfl;rfl;rfl;clear hs;intro w hs) | ((with_reducible apply wl_alloc hs);infer_instance;rfl;clear hs;intro w b hs;(simp only [Uc,Uz])) | ((with_reducible apply wl_box hs);rfl;rfl;rfl;clear hs;intro w b hs;(simp only [Uc,Uz]))) | (go_at_call 68;((refine (hS.out).at hs (by (focus ((repeat (with_reducible exact Qn));done))) ?_);clear hs;intro w hs;(try simp only [emp_mul,mul_assoc'] at hs))) | (go_at_call 87;((refine (hC.out).at hs (by (focus ((repeat (with_reducible exact Qn));done))) ?_);clear hs;intro w hs;(try simp only [emp_mul,mul_assoc'] at hs))) | ((with_reducible apply rd_reH (i := 65536) hRd.out);infer_instance;infer_instance;rfl;rfl;rfl;assumption;rfl;(simp only [Uc,Uz])))
      ((try simp only [Exit.inBlock,Exit.then]);(with_reducible apply bodyPost_ret);((with_reducible apply results_ct);rfl;rfl;(with_reducible apply loadF hs);infer_instance;(with_reducible exact Qh);rfl;rfl))
      refine ⟨_,rfl,?_⟩
      simp only [sat_ex,mul_assoc',sat_pu]
      exact ⟨_,⟨rfl,hR2⟩,by ((with_reducible apply Sat.fin hs);(focus with_reducible (repeat first | exact Ql | exact Qh | apply Qb | apply Qk);done))⟩
  · have hR2 : Rd A 4 ((mvs.take 65536).map Mv.e) (.slice a0 mvs.length c0) := by
      rw [List.take_of_length_le (by omega)]
      exact hRd
    have n1 : decide ((mvs.length : Int) > 65536) = false := by simp;omega
    have hRd := Lib.hid hRd
    clear hRd'
    by_cases hok : c.Ok
    · have hC := Lib.hid (ref_conf c hok)
      have e : fitC c = c := by unfold fitC;rw [if_pos hok]
      unfold fitR
      rw [e]
      go_enter Tryz.func30,Tryz.ntmps30
      go_wp2_with (first | (first | ((with_reducible apply wl_ldF hs);infer_instance;rfl;(focus with_reducible (repeat first | exact Qh | apply Qk);done);rfl;rfl;(simp only [Uc,Uz])) | ((with_reducible apply wl_stF hs);infer_instance;rfl;rfl;(with_reducible exact Qh);rfl;rfl;rfl;rfl;clear hs;intro w hs) | ((with_reducible apply wl_alloc hs);infer_instance;rfl;clear hs;intro w b hs;(simp only [Uc,Uz])) | ((with_reducible apply wl_box hs);rfl;rfl;rfl;clear hs;intro w b hs;(simp only [Uc,Uz]))) | (go_at_call 87;((refine (hC.out).at hs (by (focus ((repeat (with_reducible exact Qn));done))) ?_);clear hs;intro w hs;(try simp only [emp_mul,mul_assoc'] at hs))))
      ((try simp only [Exit.inBlock,Exit.then]);(with_reducible apply bodyPost_ret);((with_reducible apply results_ct);rfl;rfl;(with_reducible apply loadF hs);infer_instance;(with_reducible exact Qh);rfl;rfl))
      refine ⟨_,rfl,?_⟩
      simp only [sat_ex,mul_assoc',sat_pu]
      exact ⟨_,⟨rfl,hR2⟩,by ((with_reducible apply Sat.fin hs);(focus with_reducible (repeat first | exact Ql | exact Qh | apply Qb | apply Qk);done))⟩
    · have hC := Lib.hid (ref_conf_no c hok)
      have e : fitC c = smallC := by unfold fitC;rw [if_neg hok]
      unfold fitR
      rw [e]
      go_enter Tryz.func30,Tryz.ntmps30
      go_wp2_with (first | (first | ((with_reducible apply wl_ldF hs);infer_instance;rfl;(focus with_reducible (repeat first | exact Qh | apply Qk);done);rfl;rfl;(simp only [Uc,Uz])) | ((with_reducible apply wl_stF hs);infer_instance;rfl;rfl;(focus with_reducible (repeat first | exact Qh | apply Qk);done);rfl;rfl;rfl;rfl;clear hs;intro w hs) | ((with_reducible apply wl_alloc hs);infer_instance;rfl;clear hs;intro w b hs;(simp only [Uc,Uz])) | ((with_reducible apply wl_box hs);rfl;rfl;rfl;clear hs;intro w b hs;(simp only [Uc,Uz]))) | (go_at_call 68;((refine (hS.out).at hs (by (focus ((repeat (with_reducible exact Qn));done))) ?_);clear hs;intro w hs;(try simp only [emp_mul,mul_assoc'] at hs))) | (go_at_call 87;((refine (hC.out).at hs (by (focus ((repeat (with_reducible exact Qn));done))) ?_);clear hs;intro w hs;(try simp only [emp_mul,mul_assoc'] at hs))))
      ((try simp only [Exit.inBlock,Exit.then]);(with_reducible apply bodyPost_ret);((with_reducible apply results_ct);rfl;rfl;(with_reducible apply loadF hs);infer_instance;(with_reducible exact Qh);rfl;rfl))
      refine ⟨_,rfl,?_⟩
      simp only [sat_ex,mul_assoc',sat_pu]
      exact ⟨_,⟨rfl,hR2⟩,by ((with_reducible apply Sat.fin hs);(focus with_reducible (repeat first | exact Ql | exact Qh | apply Qb | apply Qk);done))⟩
end Go.Proofs.YtegafhhdegnigaaGreat
end
/-
  Every move leads somewhere; what holds of a script's run.
-/
section
namespace Go.Proofs.YtegafhhdegnigaaGreat
open Go.RowKit Hp
set_option maxRecDepth 100000
set_option maxHeartbeats 1000000
attribute [local irreducible] Go.Calls
theorem move_total {c : Cfg} {n : Nat} {y : HW} (P : PI c n y) (bh ba : Nat) (CX : SProp) (x : Caps) (mv : Mv) : ∃ b y',MoveTo (hzT bh ba CX) (kitFn x) kitTask y mv b y' := by
  by_cases hth : mv.thread < 0 ∨ (y.tasks.length : Int) ≤ mv.thread
  · exact ⟨_,_,.out hth⟩
  have hlt : mv.thread.toNat < y.tasks.length := by omega
  have ht : mv.thread = (mv.thread.toNat : Int) := by omega
  generalize mv.thread.toNat = t at hlt ht
  obtain ⟨o,ho⟩ : ∃ o,y.tasks[t]? = some o := ⟨_,List.getElem?_eq_getElem hlt⟩
  have hlt2 : t < y.m.seats.length := by rw [P.seats,← P.tasks];exact hlt
  obtain ⟨se,hse⟩ : ∃ se,y.m.seats[t]? = some se := ⟨_,List.getElem?_eq_getElem hlt2⟩
  cases o with
  | none =>
    by_cases hop : mv.op = 0
    · exact ⟨_,_,.idle t ht hop ho⟩
    · cases hK : kitFn x mv.op with
      | none => exact ⟨_,_,.nokit t ht hop ho hK⟩
      | some u =>
        have hKn : kitFn x mv.op ≠ none := by rw [hK];simp
        cases hmk : kitTask y.s t mv with
        | none => exact ⟨_,_,.refused t ht hop ho hKn hmk⟩
        | some k => exact ⟨_,_,.begin_ t k .nilIface .nilIface ht hop ho hKn hmk⟩
  | some k =>
    by_cases hop : mv.op = 0
    · obtain ⟨⟨i,e1,e2⟩,_⟩ := P.task t k se ho hse
      exact ⟨_,_,.step t i _ se k ht hop ho hse e1 (List.getElem?_eq_getElem e2)⟩
    · exact ⟨_,_,.busy t k ht hop ho⟩
theorem RunOk.start {c : Cfg} (hok : c.Ok) (km : Nat) (vs : Value) : RunOk c 0 (wst0 c km vs) := by
  have hS := hok.S1
  refine ⟨by simp [wst0,mch0],Pw.nil,Pw.nil,Pw.nil,by simp [wst0,mch0],rfl,by simp [wst0,are0];omega,by simp [wst0,mch0],by simp [wst0,mch0],rfl,by simp [wst0,mch0],by simp [wst0,mch0],by simp [wst0,mch0],rfl,by simp [wst0,mch0],by simp [wst0,mch0],?_,by simp [wst0,mch0]⟩
  intro t k se hk _
  simp only [wst0] at hk
  have := (List.mem_replicate.1 (List.mem_of_getElem? hk)).2
  cases this
structure Beh (c : Cfg) (mvs : List Mv) (y : HW) : Prop where
  pi : PI c mvs.length y
  ok : RunOk c mvs.length y
  er : y.er = runE c mvs
theorem Beh.calls {c : Cfg} {mvs : List Mv} {y : HW} (h : Beh c mvs y) : y.m.calls = (runE c mvs).m.calls := by rw [← h.er];rfl
theorem Beh.log {c : Cfg} {mvs : List Mv} {y : HW} (h : Beh c mvs y) : y.m.mem.log = (runE c mvs).m.mem.log := by rw [← h.er];rfl
theorem Beh.shifts {c : Cfg} {mvs : List Mv} {y : HW} (h : Beh c mvs y) : y.m.shifts = (runE c mvs).m.shifts := by rw [← h.er];rfl
theorem Beh.words {c : Cfg} {mvs : List Mv} {y : HW} (h : Beh c mvs y) : y.m.mem.words = (runE c mvs).m.mem.words := by rw [← h.er];rfl
end Go.Proofs.YtegafhhdegnigaaGreat
end
/-
  What memory tells, part by part; counts of slots in lists.
-/
section
namespace Go.Proofs.YtegafhhdegnigaaGreat
open Go.RowKit Hp
set_option maxRecDepth 100000
set_option maxHeartbeats 1000000
attribute [local irreducible] Go.Calls
def cnt2 : List (List Int) → Int → Nat
  | [],_ => 0
  | l :: r,s => l.count s + cnt2 r s
theorem cnt2_set : ∀ {ls : List (List Int)} {i : Nat} {l : List Int} (x : List Int) (s : Int),ls[i]? = some l → cnt2 (ls.set i x) s + l.count s = cnt2 ls s + x.count s
  | [],_,_,_,_,h => by simp at h
  | a :: r,0,l,x,s,h => by simp at h;subst h;simp only [Uz,cnt2];omega
  | a :: r,i + 1,l,x,s,h => by
    simp only [List.getElem?_cons_succ] at h
    have := cnt2_set x s h
    simp only [Uc,cnt2];omega
theorem cnt2_get : ∀ {ls : List (List Int)} {i : Nat} {l : List Int} (s : Int),ls[i]? = some l → l.count s ≤ cnt2 ls s
  | [],_,_,_,h => by simp at h
  | a :: r,0,l,s,h => by simp at h;subst h;simp only [cnt2];omega
  | a :: r,i + 1,l,s,h => by
    simp only [List.getElem?_cons_succ] at h
    have := cnt2_get s h
    simp only [cnt2];omega
theorem cnt2_nils (s : Int) : ∀ n,cnt2 (List.replicate n []) s = 0
  | 0 => rfl
  | n + 1 => by simp only [List.replicate_succ,cnt2,cnt2_nils s n,List.count_nil]
theorem cnt2_mem {ls : List (List Int)} {l : List Int} {s : Int} (h : l ∈ ls) (hs : s ∈ l) : 0 < cnt2 ls s := by
  obtain ⟨i,hi⟩ := List.getElem?_of_mem h
  have := cnt2_get s hi
  have := List.count_pos_iff.2 hs
  omega
theorem cnt2_at {ls : List (List Int)} {i : Nat} {l : List Int} {s : Int} (h : ls[i]? = some l) (hs : s ∈ l) : 0 < cnt2 ls s := cnt2_mem (List.mem_of_getElem? h) hs
structure MV where
  hd : Int
  cell : Int
  nx : Int → Int
  act : Int → Int
  hz : Int → Int
  val : Int → Int
def upd (f : Int → Int) (k z : Int) : Int → Int := fun x => if x = k then z else f x
theorem upd_self (f : Int → Int) (k z : Int) : upd f k z k = z := by simp [upd]
theorem upd_ne (f : Int → Int) {k x : Int} (z : Int) (h : x ≠ k) : upd f k z x = f x := by simp [upd,h]
def mv (c : Cfg) (m : Mch) : MV where
  hd := m.word (adr c 1 0)
  cell := m.word (adr c 2 0)
  nx s := if 0 ≤ s ∧ s < c.Sl then m.word (adr c 10 s) else 0
  act r := if 0 ≤ r ∧ r < c.R then m.word (adr c 8 r) else 0
  hz j := if 0 ≤ j ∧ j < c.R * c.Hz then m.word (adr c 9 j) else 0
  val s := if 0 ≤ s ∧ s < c.Sl then m.word (adr c 11 s) else 0
theorem mv_same {c : Cfg} {m m' : Mch} (h : m'.mem.words = m.mem.words) : mv c m' = mv c m := by
  unfold mv Mch.word;rw [h]
theorem word_set {m m' : Mch} {A : Nat} {z : Int} (h : m'.mem.words = m.mem.words.set A z) (hA : A < m.mem.words.length) (j : Nat) : m'.word j = if j = A then z else m.word j := by
  unfold Mch.word
  rw [h]
  simp only [List.getD_eq_getElem?_getD]
  by_cases e : j = A
  · subst e
    rw [List.getElem?_set_self hA,if_pos rfl];rfl
  · rw [List.getElem?_set_ne (Ne.symm e),if_neg e]
section
variable {c : Cfg} {m m' : Mch} {z : Int}
structure Adrs (c : Cfg) : Prop where
  a1 : ((adr c 1 0 : Nat) : Int) = 0
  a2 : ((adr c 2 0 : Nat) : Int) = 1
  a8 : ∀ i,0 ≤ i → ((adr c 8 i : Nat) : Int) = base c 8 + i
  a9 : ∀ i,0 ≤ i → ((adr c 9 i : Nat) : Int) = base c 9 + i
  a10 : ∀ i,0 ≤ i → ((adr c 10 i : Nat) : Int) = base c 10 + i
  a11 : ∀ i,0 ≤ i → ((adr c 11 i : Nat) : Int) = base c 11 + i
theorem adrs {c : Cfg} (h : c.Ok) : Adrs c := by
  have b := bases h
  refine ⟨?_,?_,fun i hi => adr_i h 8 hi,fun i hi => adr_i h 9 hi,fun i hi => adr_i h 10 hi,fun i hi => adr_i h 11 hi⟩
  · have := adr_i h 1 (Int.le_refl 0);have := b.b1;omega
  · have := adr_i h 2 (Int.le_refl 0);have := b.b2;omega
theorem mv_hd (hok : c.Ok) (h : m'.mem.words = m.mem.words.set (adr c 1 0) z) (hA : adr c 1 0 < m.mem.words.length) : mv c m' = { mv c m with hd := z } := by
  obtain ⟨b1,b2,b8,b9,b10,b11,b12,b13,b14,rh,rh2⟩ := bases hok
  obtain ⟨a1,a2,a8,a9,a10,a11⟩ := adrs hok
  have hS := hok.S1
  have hR := hok.R1
  unfold mv
  simp only [word_set h hA]
  simp only [MV.mk.injEq,if_true,true_and]
  refine ⟨by rw [if_neg (by omega)],?_,?_,?_,?_⟩ <;> funext i <;> split <;> first | rfl | (rename_i hi;rw [if_neg])
  · have := a10 i hi.1;omega
  · have := a8 i hi.1;omega
  · have := a9 i hi.1;omega
  · have := a11 i hi.1;omega
theorem mv_cell (hok : c.Ok) (h : m'.mem.words = m.mem.words.set (adr c 2 0) z) (hA : adr c 2 0 < m.mem.words.length) : mv c m' = { mv c m with cell := z } := by
  obtain ⟨b1,b2,b8,b9,b10,b11,b12,b13,b14,rh,rh2⟩ := bases hok
  obtain ⟨a1,a2,a8,a9,a10,a11⟩ := adrs hok
  have hS := hok.S1
  have hR := hok.R1
  unfold mv
  simp only [word_set h hA]
  simp only [MV.mk.injEq,if_true,true_and]
  refine ⟨by rw [if_neg (by omega)],?_,?_,?_,?_⟩ <;> funext i <;> split <;> first | rfl | (rename_i hi;rw [if_neg])
  · have := a10 i hi.1;omega
  · have := a8 i hi.1;omega
  · have := a9 i hi.1;omega
  · have := a11 i hi.1;omega
theorem mv_nx (hok : c.Ok) {s : Int} (h0 : 0 ≤ s) (h1 : s < c.Sl) (h : m'.mem.words = m.mem.words.set (adr c 10 s) z) (hA : adr c 10 s < m.mem.words.length) : mv c m' = { mv c m with nx := upd (mv c m).nx s z } := by
  obtain ⟨b1,b2,b8,b9,b10,b11,b12,b13,b14,rh,rh2⟩ := bases hok
  obtain ⟨a1,a2,a8,a9,a10,a11⟩ := adrs hok
  have hS := hok.S1
  have hR := hok.R1
  have hs := a10 s h0
  unfold mv
  simp only [word_set h hA]
  simp only [MV.mk.injEq]
  refine ⟨by rw [if_neg (by omega)],by rw [if_neg (by omega)],?_,?_,?_,?_⟩ <;> funext i
  · unfold upd
    by_cases e : i = s
    · subst e;rw [if_pos ⟨h0,h1⟩,if_pos rfl,if_pos rfl]
    · rw [if_neg e]
      by_cases hi : 0 ≤ i ∧ i < c.Sl
      · have := a10 i hi.1
        simp only [if_pos hi];rw [if_neg (by omega)]
      · simp only [if_neg hi]
  all_goals split <;> first | rfl | (rename_i hi;rw [if_neg])
  · have := a8 i hi.1;omega
  · have := a9 i hi.1;omega
  · have := a11 i hi.1;omega
theorem mv_act (hok : c.Ok) {s : Int} (h0 : 0 ≤ s) (h1 : s < c.R) (h : m'.mem.words = m.mem.words.set (adr c 8 s) z) (hA : adr c 8 s < m.mem.words.length) : mv c m' = { mv c m with act := upd (mv c m).act s z } := by
  obtain ⟨b1,b2,b8,b9,b10,b11,b12,b13,b14,rh,rh2⟩ := bases hok
  obtain ⟨a1,a2,a8,a9,a10,a11⟩ := adrs hok
  have hS := hok.S1
  have hR := hok.R1
  have hs := a8 s h0
  unfold mv
  simp only [word_set h hA]
  simp only [MV.mk.injEq]
  refine ⟨by rw [if_neg (by omega)],by rw [if_neg (by omega)],?_,?_,?_,?_⟩ <;> funext i
  · split <;> first | rfl | (rename_i hi;rw [if_neg])
    have := a10 i hi.1;omega
  · unfold upd
    by_cases e : i = s
    · subst e;rw [if_pos ⟨h0,h1⟩,if_pos rfl,if_pos rfl]
    · rw [if_neg e]
      by_cases hi : 0 ≤ i ∧ i < c.R
      · have := a8 i hi.1
        simp only [if_pos hi];rw [if_neg (by omega)]
      · simp only [if_neg hi]
  · split <;> first | rfl | (rename_i hi;rw [if_neg])
    have := a9 i hi.1;omega
  · split <;> first | rfl | (rename_i hi;rw [if_neg])
    have := a11 i hi.1;omega
theorem mv_hz (hok : c.Ok) {s : Int} (h0 : 0 ≤ s) (h1 : s < c.R * c.Hz) (h : m'.mem.words = m.mem.words.set (adr c 9 s) z) (hA : adr c 9 s < m.mem.words.length) : mv c m' = { mv c m with hz := upd (mv c m).hz s z } := by
  obtain ⟨b1,b2,b8,b9,b10,b11,b12,b13,b14,rh,rh2⟩ := bases hok
  obtain ⟨a1,a2,a8,a9,a10,a11⟩ := adrs hok
  have hS := hok.S1
  have hR := hok.R1
  have hs := a9 s h0
  unfold mv
  simp only [word_set h hA]
  simp only [MV.mk.injEq]
  refine ⟨by rw [if_neg (by omega)],by rw [if_neg (by omega)],?_,?_,?_,?_⟩ <;> funext i
  · split <;> first | rfl | (rename_i hi;rw [if_neg])
    have := a10 i hi.1;omega
  · split <;> first | rfl | (rename_i hi;rw [if_neg])
    have := a8 i hi.1;omega
  · unfold upd
    by_cases e : i = s
    · subst e;rw [if_pos ⟨h0,h1⟩,if_pos rfl,if_pos rfl]
    · rw [if_neg e]
      by_cases hi : 0 ≤ i ∧ i < c.R * c.Hz
      · have := a9 i hi.1
        simp only [if_pos hi];rw [if_neg (by omega)]
      · simp only [if_neg hi]
  · split <;> first | rfl | (rename_i hi;rw [if_neg])
    have := a11 i hi.1;omega
theorem mv_val (hok : c.Ok) {s : Int} (h0 : 0 ≤ s) (h1 : s < c.Sl) (h : m'.mem.words = m.mem.words.set (adr c 11 s) z) (hA : adr c 11 s < m.mem.words.length) : mv c m' = { mv c m with val := upd (mv c m).val s z } := by
  obtain ⟨b1,b2,b8,b9,b10,b11,b12,b13,b14,rh,rh2⟩ := bases hok
  obtain ⟨a1,a2,a8,a9,a10,a11⟩ := adrs hok
  have hS := hok.S1
  have hR := hok.R1
  have hs := a11 s h0
  unfold mv
  simp only [word_set h hA]
  simp only [MV.mk.injEq]
  refine ⟨by rw [if_neg (by omega)],by rw [if_neg (by omega)],?_,?_,?_,?_⟩ <;> funext i
  · split <;> first | rfl | (rename_i hi;rw [if_neg])
    have := a10 i hi.1;omega
  · split <;> first | rfl | (rename_i hi;rw [if_neg])
    have := a8 i hi.1;omega
  · split <;> first | rfl | (rename_i hi;rw [if_neg])
    have := a9 i hi.1;omega
  · unfold upd
    by_cases e : i = s
    · subst e;rw [if_pos ⟨h0,h1⟩,if_pos rfl,if_pos rfl]
    · rw [if_neg e]
      by_cases hi : 0 ≤ i ∧ i < c.Sl
      · have := a11 i hi.1
        simp only [if_pos hi];rw [if_neg (by omega)]
      · simp only [if_neg hi]
end
def Chain (nx : Int → Int) : Int → List Int → Prop
  | x,[] => x = 0
  | x,s :: F => x = s + 1 ∧ 0 ≤ s ∧ Chain nx (nx s) F
theorem Chain.upd {nx : Int → Int} {k z : Int} : ∀ {x : Int} {F : List Int},Chain nx x F → k ∉ F → Chain (upd nx k z) x F
  | _,[],h,_ => h
  | _,s :: F,⟨h1,h2,h3⟩,hk => by
    simp only [List.mem_cons,not_or] at hk
    exact ⟨h1,h2,by rw [upd_ne _ _ (Ne.symm hk.1)];exact h3.upd hk.2⟩
def Are.sl (a : Are) (s : Int) : Slt := if 0 ≤ s then a.slots.getD s.toNat ⟨0,0⟩ else ⟨0,0⟩
def updS (f : Int → Slt) (k : Int) (z : Slt) : Int → Slt := fun x => if x = k then z else f x
theorem updS_self (f : Int → Slt) (k : Int) (z : Slt) : updS f k z k = z := by simp [updS]
theorem updS_ne (f : Int → Slt) {k x : Int} (z : Slt) (h : x ≠ k) : updS f k z x = f x := by simp [updS,h]
theorem sl_shift {a : Are} {s th to : Int} (h0 : 0 ≤ s) (h1 : s.toNat < a.slots.length) : (a.shift s.toNat th to).sl = updS a.sl s ⟨to,if to = 0 ∨ to = 3 then -1 else th⟩ := by
  funext i
  unfold Are.sl updS Are.shift
  simp only [List.getD_eq_getElem?_getD]
  by_cases e : i = s
  · subst e
    rw [if_pos h0,if_pos rfl,List.getElem?_set_self h1];rfl
  · rw [if_neg e]
    split
    · rw [List.getElem?_set_ne (by omega)]
    · rfl
end Go.Proofs.YtegafhhdegnigaaGreat
end
