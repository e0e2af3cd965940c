/-
  More arms: regions by plans with two ways.
-/
import Derived.Test.YtegafhhdegnigaaGreatHHaz
import Derived.Test.YtegafhhdegnigaaGreatHTree
import Derived.Test.YtegafhhdegnigaaGreatHLog
import Derived.Test.YtegafhhdegnigaaGreatHAddr2
import Derived.Test.YtegafhhdegnigaaGreatHParts
set_option linter.all false
section
namespace Go.Proofs.YtegafhhdegnigaaGreat
open Go.RowKit
namespace Hp
end Hp
end Go.Proofs.YtegafhhdegnigaaGreat
end
/-
  What a machine tells: Run.
-/
section
namespace Go.Proofs.YtegafhhdegnigaaGreat
open Go.RowKit Hp
set_option maxRecDepth 100000
set_option maxHeartbeats 1000000
attribute [local irreducible] Go.Calls
theorem mem_words (b : Nat) (m : Mem) (hl : m.words.length < 4294967296) :
    Does Tryz.prog 105 #[.pointer (some ⟨b,0,none⟩)] (MemR b m) (fun v => sl 57 1 (m.words.map eU) v * MemR b m) := by
  intro O w F hs
  obtain ⟨vw,vl,va,hs⟩ := memR.1 hs
  have hC := Lib.hid (clone_words vw m.words hl)
  go_enter Tryz.func105,Tryz.ntmps105
  go_wp2_with (first | ((with_reducible apply wl_ld hs);infer_instance;rfl;(with_reducible exact Qh);rfl;rfl;(simp only [Uc,Uz])) | (go_at_call 128;((refine (hC.out).at hs (by (focus with_reducible (repeat first | exact Qh | apply Qk);done)) ?_);clear hs;intro v w hs;(try simp only [emp_mul,mul_assoc'] at hs))))
  (go_ret)
  refine ⟨_,rfl,?_⟩
  simp only [mul_assoc']
  replace hs := memR_mk (hs.fin (by (focus with_reducible (repeat first | exact Ql | exact Qh | apply Qb | apply Qk);done)))
  ((with_reducible apply Sat.fin hs);(focus ((repeat (first | with_reducible exact Ql | with_reducible apply Qb | exact Qh | with_reducible apply Qk));done)))
def logF (b : Nat) (v : Value) : SProp := ex fun t1 => ex fun t2 => pu (v = .func (.func 130) #[] #[.pointer (some ⟨t1,0,none⟩),.pointer (some ⟨t2,0,none⟩)]) *
    (pt t1 (.cells #[.pointer (some ⟨b,0,none⟩)] 162) * pt t2 (.cells #[.int .i64 0] 3))
theorem logF_mk {O w : World} {b t1 t2 : Nat} {F : SProp} (hs : Sat O w (pt t1 (.cells #[.pointer (some ⟨b,0,none⟩)] 162) * (pt t2 (.cells #[.int .i64 0] 3) * F))) :
    Sat O w (logF b (.func (.func 130) #[] #[.pointer (some ⟨t1,0,none⟩),.pointer (some ⟨t2,0,none⟩)]) * F) := by
  unfold logF
  simp only [sat_ex,mul_assoc',sat_pu]
  exact ⟨t1,t2,rfl,hs⟩
theorem logF_get {O w : World} {b : Nat} {v : Value} {F : SProp} (hs : Sat O w (logF b v * F)) : ∃ t1 t2,v = .func (.func 130) #[] #[.pointer (some ⟨t1,0,none⟩),.pointer (some ⟨t2,0,none⟩)] ∧
    Sat O w (pt t1 (.cells #[.pointer (some ⟨b,0,none⟩)] 162) * (pt t2 (.cells #[.int .i64 0] 3) * F)) := by
  unfold logF at hs
  simpa only [sat_ex,mul_assoc',sat_pu] using hs
attribute [irreducible] logF
theorem mem_logf (b : Nat) : Does Tryz.prog 106 #[.pointer (some ⟨b,0,none⟩),.int .i64 0] emp (logF b) := by
  intro O w F hs
  go_enter Tryz.func106,Tryz.ntmps106
  go_wp2_with ((with_reducible apply wl_box hs);rfl;rfl;rfl;clear hs;intro w b hs;(simp only [Uc,Uz]))
  (go_ret)
  refine ⟨_,rfl,?_⟩
  exact logF_mk (hs.fin (by (focus with_reducible (repeat first | exact Ql | exact Qh | apply Qb | apply Qk);done)))
theorem wp_range {P : Program} {g : Operand} {ps : Array Tmp} {assign body : Code} {Q : Exit → Act → World → Prop} {l : List Value} {w O : World} {α : Type} {args : α → Array Value} {el : Nat → α → Prop} {N : Nat} {Z : Nat → SProp} {S0 R : SProp} {f : FuncId} {cap : Array Value}
    (hs : Sat O w (Z 0 * (S0 * R))) (hg : ev l g = some (.func (.func f) #[] cap)) (hf : ∀ args (w : World),(callFunc f args).run P w = .ok (.enter f args) w)
    (hI : ∀ lp (Y : Nat → SProp),(∀ i x,el i x → YieldC P lp (args x) (Y i) (Y (i + 1))) → Gives P f (#[.func (.yield lp) #[] #[]] ++ cap) (Y 0 * S0) (.tuple #[]) (Y N * S0))
    (hB : ∀ fn D lp i x,el i x → YieldC P lp (args x) (pt lp (.loop ⟨.ready,none,fn,l.toArray,ps,assign,body,D⟩) * Z i) (pt lp (.loop ⟨.ready,none,fn,l.toArray,ps,assign,body,D⟩) * Z (i + 1)))
    (k : ∀ D w',Sat O w' (pt D (.deferred (some [])) * (Z N * (S0 * R))) → Q .normal ⟨l.toArray,[{ target := .collected D,args := #[] }]⟩ w') :
    (Code.rangeFunc g ps assign body).wp P Q ⟨l.toArray,[]⟩ w := by
  refine (wpIn_wide (n := 3)).1 (wpIn_rangeFunc (F := Fence.wide) (n := 3) (fun fn _ => ?_))
  have hs1 := hs.alloc (.deferred (some []))
  have hs2 := hs1.alloc (.loop { state := .ready,pending := none,fn,tmps := l.toArray,params := ps,assign,body,defers := w.heap.size })
  have hsz : (w.alloc (.deferred (some []))).heap.size = w.heap.size + 1 := World.size_alloc _ _
  rw [hsz] at hs2
  generalize hW1 : (w.alloc (.deferred (some []))).alloc (.loop { state := .ready,pending := none,fn,tmps := l.toArray,params := ps,assign,body,defers := w.heap.size }) = W1 at hs2
  refine ⟨w.heap.size + 1,[{ target := .collected w.heap.size,args := #[] }],W1,{ target := .fn (.func f) cap,args := #[.func (.yield (w.heap.size + 1)) #[] #[]] },W1,f,#[.func (.yield (w.heap.size + 1)) #[] #[]] ++ cap,W1,hW1 ▸ run_enterLoop_outer fn _ _ _ _,?_,fun _ _ => trivial,?_,(fun h => by cases h),?_⟩
  · have e1 : (Act.mk l.toArray []).eval g = .func (.func f) #[] cap := ev_eval hg
    have e2 : ∀ y,(Act.mk l.toArray []).eval (.const y) = y := fun _ => rfl
    simp [resolve,rangeCall,e1,e2,Deferred.ofValue]
  · show (callFunc f (#[.func (.yield (w.heap.size + 1)) #[] #[]] ++ cap)).run P _ = _
    exact hf _ _
  · refine callsIn_of wide_wide ?_
    have hG := hI (w.heap.size + 1) (fun i => pt (w.heap.size + 1) (.loop ⟨.ready,none,fn,l.toArray,ps,assign,body,w.heap.size⟩) * Z i) (fun i x hx => hB fn w.heap.size (w.heap.size + 1) i x hx)
    refine (hG O _ (pt w.heap.size (.deferred (some [])) * R) (hs2.cast (by ac_rfl))).mono ?_
    rintro e w' ⟨rfl,hs'⟩
    have hs3 : Sat O w' (pt (w.heap.size + 1) (.loop ⟨.ready,none,fn,l.toArray,ps,assign,body,w.heap.size⟩) * (pt w.heap.size (.deferred (some [])) * (Z N * (S0 * R)))) := hs'.cast (by ac_rfl)
    refine ⟨none,_,run_endLoop hs3.block (by simp),?_⟩
    exact k _ _ (sat_putObj hs3).right
def runZ (b : Nat) (v1 v2 v3 : Value) (log : List Acc) : SProp := ex fun vt => pt b (.cells #[v1,vt,v2,v3] 32) * sl 138 7 (log.map Acc.e) vt
theorem runZ_iff {O w : World} {b : Nat} {v1 v2 v3 : Value} {log : List Acc} {F : SProp} : Sat O w (runZ b v1 v2 v3 log * F) ↔ ∃ vt,Sat O w (pt b (.cells #[v1,vt,v2,v3] 32) * (sl 138 7 (log.map Acc.e) vt * F)) := by
  unfold runZ
  simp only [sat_ex,mul_assoc']
attribute [irreducible] runZ
theorem yieldC_mk {P : Program} {lp fn D p1 p2 i1 i2 i3 : Nat} {l : List Value} {v u : Value} {ops1 ops2 : List Oper} {Z Z' : SProp} (hd1 : ops1.all noDefer = true) (hd2 : ops2.all noDefer = true)
    (h : ∀ O w F,Sat O w (Z * F) → wpList P ops1.toArray (Then fun a1 w1 => ∃ Z1,Sat O w1 (Z1 * F) ∧ ∀ F2 w2,Sat O w2 (Z1 * F2) → wpList P ops2.toArray (Then fun _ w3 => Sat O w3 (Z' * F2)) ops2 a1 w2) ops1 ⟨((l.set p1 v).set p2 u).toArray,[]⟩ w) :
    YieldC P lp #[v,u] (pt lp (.loop ⟨.ready,none,fn,l.toArray,#[p1,p2],.region i1 ops1.toArray false,.block i2 (.region i3 ops2.toArray false),D⟩) * Z)
      (pt lp (.loop ⟨.ready,none,fn,l.toArray,#[p1,p2],.region i1 ops1.toArray false,.block i2 (.region i3 ops2.toArray false),D⟩) * Z') := by
  intro O w F hs n
  rw [mul_assoc'] at hs
  refine ⟨_,_,_,_,run_yield hs.block rfl,roundIn_of_wpIn trivial ?_⟩
  have hw := h O w (pt lp (.loop ⟨.ready,none,fn,l.toArray,#[p1,p2],.region i1 ops1.toArray false,.block i2 (.region i3 ops2.toArray false),D⟩) * F) (hs.cast (mul_left _ _ _))
  have e : (Array.foldl (fun (tmps : Array Value) x => tmps.setIfInBounds x.1 x.2) l.toArray (#[p1,p2].zip #[v,u])) = ((l.set p1 v).set p2 u).toArray := by simp
  refine wpIn_region_lit (listIn_all' (wide_round lp) ?_ hd1 (e ▸ hw))
  rintro a1 w1 ⟨Z1,hs1,hk⟩
  have hs1 := hs1.cast (mul_left _ _ _)
  refine ⟨_,run_beginRound hs1.block rfl,?_⟩
  have hs2 := sat_putObj (o' := .loop ⟨.busy,none,fn,l.toArray,#[p1,p2],.region i1 ops1.toArray false,.block i2 (.region i3 ops2.toArray false),D⟩) hs1
  have hk2 := hk _ _ (hs2.cast (mul_left _ _ _))
  refine wpIn_block (wpIn_region_lit (listIn_all' (wide_round lp) ?_ hd2 hk2))
  intro a2 w3 hs3
  have hs3 := hs3.cast (mul_left _ _ _)
  refine ⟨_,_,run_endRound none hs3.block,rfl,?_⟩
  rw [mul_assoc']
  exact sat_putObj hs3
def RunR (cs : List Cll) (log : List Acc) (sh : List Shf) (ws : List Int) (v : Value) : SProp := ex fun vc => ex fun vt => ex fun vs => ex fun vw => pu (v = .agg #[vc,vt,vs,vw]) *
  (sl 50 9 (cs.map Cll.e) vc * (sl 138 7 (log.map Acc.e) vt * (sl 127 5 (sh.map Shf.e) vs * sl 57 1 (ws.map eU) vw)))
set_option maxHeartbeats 4000000 in
theorem mach_run (bx bm : Nat) (m : Mch) (hn : 0 < m.seats.length) (h1 : m.calls.length < 4294967296) (h2 : m.shifts.length < 4294967296) (h3 : m.mem.words.length < 4294967296) (h4 : m.mem.log.length < 4294967295) :
    Does Tryz.prog 44 #[.pointer (some ⟨bx,0,none⟩)] (MchR bx bm m) (fun v => RunR m.calls m.mem.log m.shifts m.mem.words v * MchR bx bm m) := by
  intro O w F hs
  (obtain ⟨vh,call,told,hcur,hs⟩ := mchR.1 hs)
  have hcur := Lib.hid hcur
  have h0' : ((m.seats.length : Int) == 0) = false := by simp;intro e;simp [e] at hn
  have hC1 := Lib.hid (clone_calls m.vc m.calls h1)
  have hC2 := Lib.hid (clone_shifts vh m.shifts h2)
  have hW := Lib.hid (mem_words bm m.mem h3)
  have hLf := Lib.hid (mem_logf bm)
  refine callsIn_wide.1 (callsIn_of_wp_marks (n := 3) Tryz.func44 rfl trivial ?_)
  simp only [Tryz.ntmps44,List.size_toArray,List.length_cons,List.length_nil,Nat.reduceAdd,Nat.reduceSub,Array.replicate_succ,Array.replicate_zero,List.push_toArray,List.append_toArray,List.nil_append,List.cons_append]
  refine (wpIn_wide (n := 3)).2 ?_
  go_wp2_with (first | (first | (first | (with_reducible refine NQ.mk ?_) | ((with_reducible apply pl_neu);rfl;rfl) | (with_reducible refine EQ.mk ?_ ?_) | (first | (with_reducible exact chk_nil) | ((with_reducible refine chk_cons ?_ ?_);(focus ((with_reducible apply pl_chk);rfl;rfl)))) | (with_reducible refine pl_end ?_) | (show SameA _ _ _;rfl)) | ((with_reducible apply wl_ld hs);infer_instance;rfl;(focus with_reducible (repeat first | exact Qh | apply Qk);done);rfl;rfl;(simp only [Uc,Uz])) | ((with_reducible apply wl_stF hs);infer_instance;rfl;rfl;(focus with_reducible (repeat first | exact Qh | apply Qk);done);rfl;rfl;rfl;rfl;clear hs;intro w hs) | ((with_reducible apply wl_alloc hs);infer_instance;rfl;clear hs;intro w b hs;(simp only [Uc,Uz])) | ((with_reducible apply wl_len hs);infer_instance;rfl;(focus with_reducible (repeat first | exact Qh | apply Qk);done);rfl;(simp only [Uc,Uz]))) | (first | ((with_reducible refine plt_leaf ?_);(try simp only [List.map_cons,List.map_nil])) | ((with_reducible refine plt_one ?_);(try simp only [List.map_cons,List.map_nil])) | ((with_reducible refine plt_two ?_);(try simp only [List.map_cons,List.map_nil])) | ((with_reducible apply te_eff);rfl) | (with_reducible refine Two.mk ?_ ?_)) | ((with_reducible refine wp_tree_sat (id := 3) (.two [0,1,2,3,5,6,7,8,9,11,12,13,14,15] 4 [5,6,7,8,9,11,12,13,14,15] (.two [] 10 [11,12,13,14,15] (.two [] 16 [] (.one [17] 18 [0,1,2,3,5,6,7,8,9,11,12,13,14,15,17] (.one [] 19 [] (.leaf []))) 18 [0,1,2,3,5,6,7,8,9,11,12,13,14,15] (.one [] 16 [] (.one [17] 19 [] (.leaf [])))) 18 [0,1,2,3,5,6,7,8,9,11,12,13,14,15] (.one [] 10 [11,12,13,14,15] (.one [] 16 [] (.one [17] 19 [] (.leaf []))))) 18 [0,1,2,3,5,6,7,8,9,11,12,13,14,15] (.one [] 4 [5,6,7,8,9,11,12,13,14,15] (.one [] 10 [11,12,13,14,15] (.one [] 16 [] (.one [17] 19 [] (.leaf [])))))) hs rfl ?_ ?_);kernel_rfl;clear hs;intro w hs) | (go_at_call 103;((refine (hC1.out).at hs (by (focus with_reducible (repeat first | exact Qh | apply Qk);done)) ?_);clear hs;intro v w hs;(try simp only [emp_mul,mul_assoc'] at hs));(obtain ⟨a1,c1,rfl⟩ := sl_len hs)) | (go_at_call 104;((refine (hC2.out).at hs (by (focus with_reducible (repeat first | exact Qh | apply Qk);done)) ?_);clear hs;intro v w hs;(try simp only [emp_mul,mul_assoc'] at hs));(obtain ⟨a2,c2,rfl⟩ := sl_len hs)) | (go_at_call 105;((refine (hW.out).at hs (by (focus with_reducible (repeat first | exact Qh | apply Qk);done)) ?_);clear hs;intro v w hs;(try simp only [emp_mul,mul_assoc'] at hs));(obtain ⟨a3,c3,rfl⟩ := sl_len hs)) | (go_at_call 106;((refine (hLf.out).at hs (by (focus ((repeat (with_reducible exact Qn));done))) ?_);clear hs;intro v w hs;(try simp only [emp_mul,mul_assoc'] at hs));(replace hs := logF_get hs);(obtain ⟨t1,t2,rfl,hs⟩ := hs)))
  all_goals
    have hI := fun lp Y hY => log_iter bm m.mem t1 t2 lp Y hY (by omega)
    obtain ⟨REST,hREST,hs⟩ : ∃ R,Hid (R = _) ∧ Sat O w ((pt b (.cells #[Value.slice a1 m.calls.length c1,Value.slice none 0 0,Value.slice a2 m.shifts.length c2,Value.slice a3 m.mem.words.length c3] 32) * (MemR bm m.mem * (pt t1 (.cells #[.pointer (some ⟨bm,0,none⟩)] 162) * pt t2 (.cells #[.int .i64 0] 3)))) * R) := ⟨_,Lib.hid rfl,hs.pull (by (focus with_reducible (repeat first | exact Qh | apply Qb | apply Qk);done))⟩
    have hz := runZ_iff (log := []).2 ⟨_,(sl_nil (E := 138) (sz := 7) hs (by omega)).fin (T := pt b (.cells #[Value.slice a1 m.calls.length c1,Value.slice none 0 0,Value.slice a2 m.shifts.length c2,Value.slice a3 m.mem.words.length c3] 32) * (sl 138 7 [] (.slice none 0 0) * ((MemR bm m.mem * (pt t1 (.cells #[.pointer (some ⟨bm,0,none⟩)] 162) * pt t2 (.cells #[.int .i64 0] 3))) * REST))) (by simp only [mul_assoc'];(focus with_reducible (repeat first | exact Ql | exact Qh | apply Qb | apply Qk);done))⟩
    clear hs
    refine wp_range (α := Nat × Acc) (args := fun x => #[.int .i64 (x.1 : Int),x.2.v]) (Z := fun i => runZ b (.slice a1 m.calls.length c1) (.slice a2 m.shifts.length c2) (.slice a3 m.mem.words.length c3) (m.mem.log.take i)) (N := m.mem.log.length) (el := fun i x => m.mem.log[i]? = some x.2 ∧ x.1 = i) hz rfl ?_ ?_ ?_ ?_
    · intro args w
      kernel_rfl
    · intro lp Y hY
      exact hI lp Y (fun i a ha => hY i (i,a) ⟨ha,rfl⟩)
    · rintro fn D lp i ⟨i',x⟩ ⟨hx,hxi⟩
      simp only [] at hx hxi
      subst hxi
      clear hz hI hREST
      refine yieldC_mk rfl rfl ?_
      intro O w F hs
      have hil := (List.getElem?_eq_some_iff.1 hx).1
      have HT := Lib.hid (show m.mem.log.take (i' + 1) = m.mem.log.take i' ++ [x] by rw [List.take_add_one,hx];rfl)
      have htl : (m.mem.log.take i').length < 4294967295 := by simp;omega
      generalize m.mem.log.take i' = lg at *
      clear hx
      go_wp2_with (first | ((with_reducible apply wl_alloc hs);infer_instance;rfl;clear hs;intro w b5 hs;(simp only [Uc,Uz])) | ((with_reducible apply wl_stF hs);infer_instance;rfl;rfl;(with_reducible exact Qh);rfl;rfl;rfl;rfl;clear hs;intro w hs))
      simp only [Then]
      refine ⟨_,hs.cast (mul_assoc' _ _ _).symm,?_⟩
      clear hs
      intro F2 w2 hs
      simp only [mul_assoc'] at hs
      obtain ⟨vt,hs⟩ := runZ_iff.1 (hs.pull (A := runZ b _ _ _ _) (by (focus with_reducible (repeat first | exact Qh | apply Qk);done)))
      go_wp2_with (first | ((with_reducible apply wl_ld hs);infer_instance;rfl;(with_reducible exact Qh);rfl;rfl;(simp only [Uc,Uz])) | ((with_reducible apply wl_ldF hs);infer_instance;rfl;(focus with_reducible (repeat first | exact Qh | apply Qk);done);rfl;rfl;(simp only [Uc,Uz])) | ((with_reducible apply wl_st hs);infer_instance;rfl;rfl;(focus with_reducible (repeat first | exact Qh | apply Qk);done);(apply sl_one;apply hs.pull;(with_reducible exact Qh));(exact Vb rfl);rfl;clear hs;intro w hs;simp only [List.setIfInBounds_toArray,Uc,Uz] at hs) | ((with_reducible apply wl_bs hs);infer_instance;infer_instance;rfl;rfl;rfl;rfl;(exact Vb rfl);rfl;clear hs;intro w v hs;(simp only [Uc,Uz])) | ((with_reducible apply wl_app hs);infer_instance;infer_instance;rfl;rfl;(focus with_reducible (repeat first | exact Qh | apply Qk);done);(with_reducible exact Qh);(simp only [Wm,Ws,Wa,Wc,Wn,Wr] at *;omega);(exact Vb rfl);rfl;clear hs;intro w v hs;(simp only [Uc,Uz])))
      simp only [Then]
      rw [HT.out]
      refine runZ_iff.2 ⟨v,?_⟩
      ((try simp only [List.map_append,List.map_cons,List.map_nil,List.map_set,List.set_set]);(try simp only [List.map_append,List.map_cons,List.map_nil,List.map_set,List.set_set] at hs);((with_reducible apply Sat.fin hs);(focus with_reducible (repeat first | exact Ql | exact Qh | apply Qb | apply Qk);done)))
    · intro D w' hs
      rw [List.take_length] at hs
      obtain ⟨vt,hs⟩ := runZ_iff.1 (hs.pull (A := runZ b _ _ _ _) (by (focus with_reducible (repeat first | exact Qh | apply Qk);done)))
      rw [hREST.out] at hs
      clear hz hI hREST
      simp only [mul_assoc'] at hs
      obtain ⟨aT,cT,rfl⟩ := sl_len (hs.pull (A := sl 138 7 _ vt) (by (focus with_reducible (repeat first | exact Qh | apply Qk);done)))
      simp only [Exit.inBlock,Exit.then]
      go_wp2_with (first | ((with_reducible apply wl_ldF hs);infer_instance;rfl;(with_reducible exact Qh);rfl;rfl;(simp only [Uc,Uz])) | ((with_reducible apply wl_stF hs);infer_instance;rfl;rfl;(focus with_reducible (repeat first | exact Qh | apply Qk);done);rfl;rfl;rfl;rfl;clear hs;intro w hs))
      simp only [List.length_map] at hs
      refine leaves_mark (D := D) (hs.pull (A := pt D (.deferred (some []))) (by (focus with_reducible (repeat first | exact Qh | apply Qk);done))) (fun w hs => by
        (with_reducible apply results_c);rfl;rfl;(with_reducible apply loadF hs);infer_instance;(with_reducible exact Qh);rfl) ?_
      clear hs
      intro w hs
      refine ⟨_,rfl,?_⟩
      replace hs := mchR_mk (m := m) hcur.out (hs.fin (by (focus with_reducible (repeat first | exact Ql | exact Qh | apply Qb | apply Qk);done)))
      unfold RunR
      simp only [sat_ex,mul_assoc',sat_pu]
      refine ⟨_,_,_,_,rfl,?_⟩
      ((with_reducible apply Sat.fin hs);(focus with_reducible (repeat first | exact Ql | exact Qh | apply Qb | apply Qk);done))
end Go.Proofs.YtegafhhdegnigaaGreat
end
/-
  word: Size, First; memory.New, machine.New.
-/
section
namespace Go.Proofs.YtegafhhdegnigaaGreat
open Go.RowKit Hp
set_option maxRecDepth 100000
set_option maxHeartbeats 1000000
attribute [local irreducible] Go.Calls
section
end
theorem word_size (c : Cfg) (h : c.Ok) : Gives Tryz.prog 117 #[c.v] emp (.tuple #[.int .i64 (base c 14),.int .i64 0]) emp := by
  intro O w F hs
  have hC := Lib.hid (word_check c h)
  have hM := Lib.hid (word_many c h)
  go_enter Tryz.func117,Tryz.ntmps117
  go_wp2_with (first | (first | ((with_reducible apply wl_ldF hs);infer_instance;rfl;(with_reducible exact Qh);rfl;rfl;(simp only [Uc,Uz])) | ((with_reducible apply wl_box hs);rfl;rfl;rfl;clear hs;intro w b hs;(simp only [Uc,Uz]))) | (go_at_call 88;((refine (hC.out).at hs (by (focus ((repeat (with_reducible exact Qn));done))) ?_);clear hs;intro w hs;(try simp only [emp_mul,mul_assoc'] at hs))))
  (obtain ⟨A,hA,hsn⟩ : ∃ A,Hid (A = _) ∧ Sat O w A := ⟨_,Lib.hid rfl,hs⟩;clear hs;have hs := hsn;clear hsn)
  go_loopw [5,6] (fun a q wr => ∃ k : Nat,1 ≤ k ∧ k ≤ 14 ∧ q = .int .i64 (k : Int) ∧ a = .int .i64 (base c k) ∧ Sat O wr A) (fun _ q _ => 15 - (intOf q).toNat)
  case atStart => exact ⟨1,by omega,by omega,rfl,rfl,hs⟩
  case round =>
    obtain ⟨k,k1,k2,rfl,rfl,hs⟩ := hrel
    have hb := base_le h k
    have hmk := many_le h k
    have e1 := base_succ c _ k1
    by_cases hkr : k = 14
    · subst hkr
      rw [hA.out] at hs
      go_wp2_with (fail)
      (go_ret2)
      exact ⟨rfl,by ((with_reducible apply Sat.fin hs);(focus with_reducible (repeat first | exact Ql | exact Qn | apply Qb | apply Qk);done))⟩
    · have hlt : decide ((k : Int) ≤ 13) = true := by simp;omega
      rw [hA.out] at hs
      go_wp2_with (first | ((with_reducible apply wl_ldF hs);infer_instance;rfl;(with_reducible exact Qh);rfl;rfl;(simp only [Uc,Uz])) | (go_at_call 127;((refine ((hM.out k)).at hs (by (focus ((repeat (with_reducible exact Qn));done))) ?_);clear hs;intro w hs;(try simp only [emp_mul,mul_assoc'] at hs))))
      go_roundw
      case rel => exact ⟨k + 1,by omega,by omega,by simp,by rw [e1],by rw [hA.out];((with_reducible apply Sat.fin hs);(with_reducible exact Ql))⟩
      case measure => simp [intOf];omega
def fillW (ws : List Int) (b : Int) (s : Nat) : Nat → List Int
  | 0 => ws
  | n + 1 => (fillW ws b s n).set (b + ((s + n : Nat) : Int)).toNat ((s + n + 2 : Nat) : Int)
theorem fillW_len (ws : List Int) (b : Int) (s n : Nat) : (fillW ws b s n).length = ws.length := by
  induction n with
  | zero => rfl
  | succ n ih => simp [fillW,ih]
def firstW (c : Cfg) (u : Nat) : List Int :=
  let w0 : List Int := List.replicate (base c 14).toNat 0
  let w1 := if (u : Int) < c.Sl then w0.set 0 ((u + 1 : Nat) : Int) else w0
  let w2 := fillW w1 (base c 10) u (c.Sl.toNat - 1 - u)
  if 0 < u then (w2.set 3 1).set 4 1 else w2
theorem firstW_len (c : Cfg) (u : Nat) : (firstW c u).length = (base c 14).toNat := by
  simp only [firstW]
  split <;> split <;> simp [fillW_len]
theorem base_cells {c : Cfg} (h : c.Ok) : base c 10 + c.Sl + c.Sl + c.Sl + c.Sl = base c 14 ∧ 8 ≤ base c 10 := by
  have e1 : base c 14 = base c 13 + c.Sl := rfl
  have e2 : base c 13 = base c 12 + c.Sl := rfl
  have e3 : base c 12 = base c 11 + c.Sl := rfl
  have e4 : base c 11 = base c 10 + c.Sl := rfl
  have e5 : base c 10 = base c 9 + c.R * c.Hz := rfl
  have e6 : base c 9 = base c 8 + c.R := rfl
  have e7 : base c 8 = base c 7 + c.Bu := rfl
  have e8 : base c 7 = 6 := by simp [base,many]
  have := h.rh.1
  have := h.R1;have := h.B1
  omega
theorem word_first0 (c : Cfg) (h : c.Ok) : Does Tryz.prog 61 #[c.v,.int .i64 0] emp (fun v => ex fun s => pu (v = .tuple #[s,.int .i64 0]) * sl 57 1 ((firstW c 0).map eU) s) := by
  intro O w F hs
  have hS := Lib.hid (word_size c h)
  have hb10 := base_le h 10
  have hA := Lib.hid (word_addr c h 10 (by omega) (by omega) 0 ⟨by omega,by omega,by show 0 < c.Sl;have := h.S1;omega⟩)
  rw [if_neg (by omega)] at hA
  obtain ⟨hc1,hc2⟩ := base_cells h
  have hb14 := base_le h 14
  have hs1 := h.S1
  have hs2 := h.S2
  have n1 : decide (0 > c.Sl) = false := by simp;omega
  have n2 : decide (0 < c.Sl) = true := by simp;omega
  obtain ⟨W0,hW0⟩ : ∃ W0 : List Int,W0 = List.replicate (base c 14).toNat 0 := ⟨_,rfl⟩
  have hrep : List.replicate (base c 14).toNat (Value.int .u64 0).cells.toList = W0.map eU := by rw [hW0,List.map_replicate];rfl
  have hlen : W0.length = (base c 14).toNat := by rw [hW0];simp
  have hl0 : 0 < W0.length := by omega
  have hg0 : W0[0]? = some 0 := by rw [hW0];simp [List.getElem?_replicate];omega
  have hfin : firstW c 0 = fillW (W0.set 0 1) (base c 10) 0 (c.Sl.toNat - 1) := by
    simp only [firstW]
    rw [if_neg (by omega),if_pos (by show (0 : Int) < c.Sl;omega),← hW0]
    rfl
  have hfin := Lib.hid hfin
  have hW0 := Lib.hid hW0
  go_enter Tryz.func61,Tryz.ntmps61
  go_wp2_with (first | (first | ((with_reducible apply wl_ld hs);infer_instance;rfl;(focus with_reducible (repeat first | exact Qh | apply Qk);done);rfl;rfl;(simp only [Uc,Uz])) | ((with_reducible apply wl_ldF hs);infer_instance;rfl;(focus with_reducible (repeat first | exact Qh | apply Qk);done);rfl;rfl;(simp only [Uc,Uz])) | ((with_reducible apply wl_box hs);rfl;rfl;rfl;clear hs;intro w b hs;(simp only [Uc,Uz])) | ((with_reducible apply wl_stS0 hs);infer_instance;rfl;rfl;assumption;(with_reducible exact Qh);rfl;(exact map_get (by assumption));(exact Vb rfl);(rfl);rfl;clear hs;intro w hs) | ((with_reducible apply wl_ia hs);infer_instance;infer_instance;rfl;rfl;(with_reducible exact Qh);(rfl);(simp only [Wm,Ws,Wa,Wc,Wn,Wr] at *;omega);rfl;intro b off hat;(simp only [Uc,Uz]))) | (((with_reducible apply wl_mk hs);infer_instance;infer_instance;rfl;rfl;rfl;rfl;(exact (Int.toNat_of_nonneg (by omega)).symm);omega;(exact Vb rfl);rfl;clear hs;intro w v hs;(simp only [Uc,Uz]));rw [hrep] at hs) | (go_at_call 117;((refine (hS.out).at hs (by (focus ((repeat (with_reducible exact Qn));done))) ?_);clear hs;intro w hs;(try simp only [emp_mul,mul_assoc'] at hs))) | (go_at_call 90;((refine (hA.out).at hs (by (focus ((repeat (with_reducible exact Qn));done))) ?_);clear hs;intro w hs;(try simp only [emp_mul,mul_assoc'] at hs))))
  have e0 : (List.map eU W0).set 0 ((eU 0).set 0 (Value.int IntKind.u64 1)) = (fillW (W0.set 0 1) (base c 10) 0 0).map eU := by simp [fillW,List.map_set]
  rw [e0] at hs
  have hlW : ∀ n,(fillW (W0.set 0 1) (base c 10) 0 n).length = (base c 14).toNat := fun n => by rw [fillW_len,List.length_set,hlen]
  obtain ⟨T,hT,hs⟩ : ∃ T,Hid (T = _) ∧ Sat O w (sl 57 1 ((fillW (W0.set 0 1) (base c 10) 0 0).map eU) v * T) := ⟨_,Lib.hid rfl,hs.pull (by (with_reducible exact Qh))⟩
  clear hg0 hl0 e0 n2
  go_loopw [11] (fun q wr => ∃ n : Nat,(n : Int) + 1 ≤ c.Sl ∧ q = .int .i64 (n : Int) ∧ Sat O wr (sl 57 1 ((fillW (W0.set 0 1) (base c 10) 0 n).map eU) v * T)) (fun q _ => 1025 - (intOf q).toNat)
  case atStart => exact ⟨0,by omega,rfl,hs⟩
  case round =>
    obtain ⟨n,k1,rfl,hs⟩ := hrel
    rw [hT.out] at hs
    have hl := hlW n
    by_cases hkr : (n : Int) + 1 = c.Sl
    · have hlt : decide ((n : Int) < c.Sl - 1) = false := by simp;omega
      go_wp2_with ((with_reducible apply wl_ld hs);infer_instance;rfl;(focus with_reducible (repeat first | exact Qh | apply Qk);done);rfl;rfl;(simp only [Uc,Uz]))
      (go_ret2)
      refine ⟨_,rfl,?_⟩
      simp only [sat_ex,mul_assoc',sat_pu]
      refine ⟨_,rfl,?_⟩
      rw [hfin.out,show c.Sl.toNat - 1 = n by omega]
      ((with_reducible apply Sat.fin hs);(focus ((repeat (first | with_reducible exact Ql | with_reducible apply Qb | exact Qh | with_reducible apply Qk));done)))
    · have hlt : decide ((n : Int) < c.Sl - 1) = true := by simp;omega
      have hix : base c 10 + (n : Int) < ((fillW (W0.set 0 1) (base c 10) 0 n).length : Int) := by rw [hl];omega
      have hi2 : (base c 10 + (n : Int)).toNat < (fillW (W0.set 0 1) (base c 10) 0 n).length := by omega
      obtain ⟨x,hx⟩ : ∃ x,(fillW (W0.set 0 1) (base c 10) 0 n)[(base c 10 + (n : Int)).toNat]? = some x := ⟨_,List.getElem?_eq_getElem hi2⟩
      have hw1 : wrap64 (base c 10 + (n : Int)) = base c 10 + (n : Int) := by unfold wrap64;omega
      have hw2 : wrap64 ((n : Int) + 2) = (n : Int) + 2 := by unfold wrap64;omega
      have hw3 : ((n : Int) + 2) % 18446744073709551616 = (n : Int) + 2 := by omega
      go_wp2_with (first | ((with_reducible apply wl_ld hs);infer_instance;rfl;(focus with_reducible (repeat first | exact Qh | apply Qk);done);rfl;rfl;(simp only [Uc,Uz])) | ((with_reducible apply wl_stS0 hs);infer_instance;rfl;rfl;assumption;(with_reducible exact Qh);rfl;(exact map_get (by assumption));(exact Vb rfl);(rfl);rfl;clear hs;intro w hs) | ((with_reducible apply wl_ia2 hs);infer_instance;infer_instance;rfl;assumption;rfl;(with_reducible exact Qh);(exact (Int.toNat_of_nonneg (by omega)).symm);(simp only [Wm,Ws,Wa,Wc,Wn,Wr] at *;omega);rfl;(simp only [Uc,Uz])))
      have e1 : (List.map eU (fillW (W0.set 0 1) (base c 10) 0 n)).set (base c 10 + (n : Int)).toNat ((eU x).set 0 (Value.int IntKind.u64 ((n : Int) + 2))) = (fillW (W0.set 0 1) (base c 10) 0 (n + 1)).map eU := by simp [fillW,List.map_set]
      rw [e1] at hs
      go_roundw
      case rel => exact ⟨n + 1,by omega,by simp,by rw [hT.out];((with_reducible apply Sat.fin hs);(with_reducible exact Ql))⟩
      case measure => simp [intOf];omega
end Go.Proofs.YtegafhhdegnigaaGreat
end
/-
  memory.New, machine.New.
-/
section
namespace Go.Proofs.YtegafhhdegnigaaGreat
open Go.RowKit Hp
set_option maxRecDepth 100000
set_option maxHeartbeats 1000000
attribute [local irreducible] Go.Calls
theorem memory_new (v : Value) (ws : List Int) (hl : ws.length ≤ 8192) :
    Does Tryz.prog 91 #[v] (sl 57 1 (ws.map eU) v) (fun u => ex fun g => pu (u = .tuple #[.pointer (some ⟨g,0,none⟩),.int .i64 0]) * (MemR g ⟨ws,[],[],0⟩ * sl 57 1 (ws.map eU) v)) := by
  intro O w F hs
  obtain ⟨a0,c0,rfl⟩ := sl_len hs
  have hC := Lib.hid (clone_words (.slice a0 (ws.map eU).length c0) ws (by omega))
  have n1 : decide ((ws.length : Int) > 8192) = false := by simp;omega
  simp only [List.length_map] at hC hs ⊢
  go_enter Tryz.func91,Tryz.ntmps91
  go_wp2_with (first | (first | ((with_reducible apply wl_box hs);rfl;rfl;rfl;clear hs;intro w b hs;(simp only [Uc,Uz])) | ((with_reducible apply wl_len hs);infer_instance;rfl;(with_reducible exact Qh);rfl;(simp only [Uc,Uz]))) | (go_at_call 128;((refine (hC.out).at hs (by (with_reducible exact Qh)) ?_);clear hs;intro v w hs;(try simp only [emp_mul,mul_assoc'] at hs));(obtain ⟨a1,c1,rfl⟩ := sl_len hs)))
  (go_ret2)
  refine ⟨_,rfl,?_⟩
  simp only [sat_ex,mul_assoc',sat_pu]
  refine ⟨_,rfl,?_⟩
  apply memR_mk
  have hs := sl_nil (E := 57) (sz := 1) hs (by omega)
  have hs := sl_nil (E := 138) (sz := 7) hs (by omega)
  simp only [List.map_nil]
  simp only [List.length_map] at hs
  ((with_reducible apply Sat.fin hs);(focus with_reducible (repeat first | exact Ql | exact Qh | apply Qb | apply Qk);done))
abbrev sea0 : Sea := ⟨.nilIface,false,-1,0,0⟩
def mch0 (T : Nat) (ws : List Int) (kit vs : Value) : Mch :=
  { mem := ⟨ws,[],[],0⟩,thread := 0,now := 0,cur := none,used := false,shifts := [],kit,vs,vc := .slice none 0 0,seats := List.replicate T sea0,moves := 0,calls := [] }
theorem machine_new (T : Nat) (v : Value) (km : Nat) (ws : List Int) (hT1 : 1 ≤ T) (hT2 : T ≤ 16) (hl : ws.length ≤ 8192) :
    Does Tryz.prog 38 #[.int .i64 (T : Int),v,.map (some km)] (sl 57 1 (ws.map eU) v) (fun u => ex fun g => ex fun gm => ex fun vs => pu (u = .tuple #[.pointer (some ⟨g,0,none⟩),.int .i64 0]) * (MchR g gm (mch0 T ws (.map (some km)) vs) * sl 57 1 (ws.map eU) v)) := by
  intro O w F hs
  have hM := Lib.hid (memory_new v ws hl)
  have n1 : decide ((T : Int) < 1) = false := by simp;omega
  have n2 : decide ((T : Int) > 16) = false := by simp;omega
  go_enter Tryz.func38,Tryz.ntmps38
  go_wp2_with (first | ((with_reducible apply wl_box hs);rfl;rfl;rfl;clear hs;intro w b hs;(simp only [Uc,Uz])) | (go_at_call 91;((refine (hM.out).at hs (by (with_reducible exact Qh)) ?_);clear hs;intro v w hs;(try simp only [emp_mul,mul_assoc'] at hs));(simp only [sat_ex,mul_assoc',sat_pu] at hs);(obtain ⟨gm,rfl,hs⟩ := hs)))
  have hs := sl_nil (E := 175) (sz := 5) hs (by omega)
  have hs := sl_nil (E := 50) (sz := 9) hs (by omega)
  have hs := sl_nil (E := 127) (sz := 5) hs (by omega)
  go_loopw [31] (fun q wr => ∃ (n : Nat) (vs : Value),n ≤ T ∧ q = .int .i64 (n : Int) ∧ Sat O wr (pt b (.cells #[.pointer (some ⟨gm,0,none⟩),.int .i64 0,.int .i64 0,.pointer none,.pointer none,.bool false,.slice none 0 0,.map (some km),vs,.int .i64 0,.slice none 0 0] 171) *
    (sl 175 5 ((List.replicate n sea0).map Sea.e) vs * (sl 127 5 [] (.slice none 0 0) * (sl 50 9 [] (.slice none 0 0) * (MemR gm ⟨ws,[],[],0⟩ * (sl 57 1 (ws.map eU) v * F))))))) (fun q _ => 17 - (intOf q).toNat)
  case atStart => exact ⟨0,_,by omega,rfl,by simp only [List.replicate_zero,List.map_nil];((with_reducible apply Sat.fin hs);(focus with_reducible (repeat first | exact Ql | exact Qh | apply Qb | apply Qk);done))⟩
  case round =>
    obtain ⟨n,vs,k1,rfl,hs⟩ := hrel
    by_cases hkr : n = T
    · subst hkr
      have hlt : decide ((n : Int) < (n : Int)) = false := by simp
      go_wp2_with (fail)
      (go_ret2)
      refine ⟨_,rfl,?_⟩
      simp only [sat_ex,mul_assoc',sat_pu]
      refine ⟨_,gm,vs,rfl,?_⟩
      refine mchR_mk (vh := .slice none 0 0) (call := .pointer none) (told := .pointer none) ⟨fun _ => ⟨rfl,rfl⟩,fun _ _ h => by simp [mch0] at h⟩ ?_
      simp only [mch0,List.map_nil]
      ((with_reducible apply Sat.fin hs);(focus with_reducible (repeat first | exact Ql | exact Qh | apply Qb | apply Qk);done))
    · have hlt : decide ((n : Int) < (T : Int)) = true := by simp;omega
      have hlr : (List.replicate n sea0).length < 100 := by simp;omega
      obtain ⟨a0,c0,rfl⟩ := sl_len (hs.pull (A := sl 175 5 _ vs) (by (focus with_reducible (repeat first | exact Qh | apply Qk);done)))
      go_wp2_with (first | ((with_reducible apply wl_ld hs);infer_instance;rfl;(with_reducible exact Qh);rfl;rfl;(simp only [Uc,Uz])) | ((with_reducible apply wl_st hs);infer_instance;rfl;rfl;(focus with_reducible (repeat first | exact Qh | apply Qk);done);(apply sl_one;apply hs.pull;(with_reducible exact Qh));(exact Vb rfl);rfl;clear hs;intro w hs;simp only [List.setIfInBounds_toArray,Uc,Uz] at hs) | ((with_reducible apply wl_bs hs);infer_instance;infer_instance;rfl;rfl;rfl;rfl;(exact Vb rfl);rfl;clear hs;intro w v hs;(simp only [Uc,Uz])) | ((with_reducible apply wl_app hs);infer_instance;infer_instance;rfl;rfl;(focus with_reducible (repeat first | exact Qh | apply Qk);done);(with_reducible exact Qh);(simp only [Wm,Ws,Wa,Wc,Wn,Wr] at *;omega);(exact Vb rfl);rfl;clear hs;intro w v hs;(simp only [Uc,Uz])))
      go_roundw
      case rel => exact ⟨n + 1,_,by omega,by simp,by rw [List.replicate_succ',List.map_append];((with_reducible apply Sat.fin hs);(focus ((repeat (first | with_reducible exact Ql | with_reducible exact Qh | with_reducible apply Qb | exact Qh | with_reducible apply Qk));done)))⟩
      case measure => simp [intOf];omega
end Go.Proofs.YtegafhhdegnigaaGreat
end
