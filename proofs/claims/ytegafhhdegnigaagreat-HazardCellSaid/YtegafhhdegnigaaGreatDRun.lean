/-
  What a machine tells: Run.
-/
import Derived.Test.YtegafhhdegnigaaGreatDLog
import Derived.Test.YtegafhhdegnigaaGreatDHaz2
set_option linter.all false
namespace Go.Proofs.YtegafhhdegnigaaGreat
open Go.RowKit Hp
set_option maxRecDepth 100000
set_option maxHeartbeats 1000000
attribute [local irreducible] Go.Calls
theorem mem_words (b : Nat) (m : Mem) (hl : m.words.length < 4294967296) :
  Does Tryz.prog 105 #[.pointer (some ⟨b,0,none⟩)] (MemR b m) (fun v => sl 57 1 (m.words.map eU) v * MemR b m) := by
 intro O w F hs
 obtain ⟨vw,vl,va,hs⟩ := memR.1 hs
 have hC := Lib.hid (clone_words vw m.words hl)
 go_enter Tryz.func105,Tryz.ntmps105
 go_wp2_with (first|((with_reducible apply wl_ld hs);infer_instance;rfl;(with_reducible exact Qh);rfl;rfl;(simp only [Uc,Uz]))|(go_at_call 128;((refine (hC.out).at hs (by (focus with_reducible (repeat first|exact Qh|apply Qk);done)) ?_);clear hs;intro v w hs;(try simp only [emp_mul,mul_assoc'] at hs))))
 (go_ret)
 refine ⟨_,rfl,?_⟩
 simp only [mul_assoc']
 replace hs := memR_mk (hs.fin (by (focus with_reducible (repeat first|exact Ql|exact Qh|apply Qb|apply Qk);done)))
 ((with_reducible apply Sat.fin hs);(focus ((repeat (first|with_reducible exact Ql|with_reducible apply Qb|exact Qh|with_reducible apply Qk));done)))
def logF (b : Nat) (v : Value) : SProp := ex fun t1 => ex fun t2 => pu (v = .func (.func 130) #[] #[.pointer (some ⟨t1,0,none⟩),.pointer (some ⟨t2,0,none⟩)]) *
  (pt t1 (.cells #[.pointer (some ⟨b,0,none⟩)] 162) * pt t2 (.cells #[.int .i64 0] 3))
theorem logF_mk {O w : World} {b t1 t2 : Nat} {F : SProp} (hs : Sat O w (pt t1 (.cells #[.pointer (some ⟨b,0,none⟩)] 162) * (pt t2 (.cells #[.int .i64 0] 3) * F))) :
  Sat O w (logF b (.func (.func 130) #[] #[.pointer (some ⟨t1,0,none⟩),.pointer (some ⟨t2,0,none⟩)]) * F) := by
 unfold logF
 simp only [sat_ex,mul_assoc',sat_pu]
 exact ⟨t1,t2,rfl,hs⟩
theorem logF_get {O w : World} {b : Nat} {v : Value} {F : SProp} (hs : Sat O w (logF b v * F)) : ∃ t1 t2,v = .func (.func 130) #[] #[.pointer (some ⟨t1,0,none⟩),.pointer (some ⟨t2,0,none⟩)] ∧
  Sat O w (pt t1 (.cells #[.pointer (some ⟨b,0,none⟩)] 162) * (pt t2 (.cells #[.int .i64 0] 3) * F)) := by
 unfold logF at hs
 simpa only [sat_ex,mul_assoc',sat_pu] using hs
attribute [irreducible] logF
theorem mem_logf (b : Nat) : Does Tryz.prog 106 #[.pointer (some ⟨b,0,none⟩),.int .i64 0] emp (logF b) := by
 intro O w F hs
 go_enter Tryz.func106,Tryz.ntmps106
 go_wp2_with ((with_reducible apply wl_box hs);rfl;rfl;rfl;clear hs;intro w b hs;(simp only [Uc,Uz]))
 (go_ret)
 refine ⟨_,rfl,?_⟩
 exact logF_mk (hs.fin (by (focus with_reducible (repeat first|exact Ql|exact Qh|apply Qb|apply Qk);done)))
theorem wp_range {P : Program} {g : Operand} {ps : Array Tmp} {assign body : Code} {Q : Exit → Act → World → Prop} {l : List Value} {w O : World} {α : Type} {args : α → Array Value} {el : Nat → α → Prop} {N : Nat} {Z : Nat → SProp} {S0 R : SProp} {f : FuncId} {cap : Array Value}
  (hs : Sat O w (Z 0 * (S0 * R))) (hg : ev l g = some (.func (.func f) #[] cap)) (hf : ∀ args (w : World),(callFunc f args).run P w = .ok (.enter f args) w)
  (hI : ∀ lp (Y : Nat → SProp),(∀ i x,el i x → YieldC P lp (args x) (Y i) (Y (i + 1))) → Gives P f (#[.func (.yield lp) #[] #[]] ++ cap) (Y 0 * S0) (.tuple #[]) (Y N * S0))
  (hB : ∀ fn D lp i x,el i x → YieldC P lp (args x) (pt lp (.loop ⟨.ready,none,fn,l.toArray,ps,assign,body,D⟩) * Z i) (pt lp (.loop ⟨.ready,none,fn,l.toArray,ps,assign,body,D⟩) * Z (i + 1)))
  (k : ∀ D w',Sat O w' (pt D (.deferred (some [])) * (Z N * (S0 * R))) → Q .normal ⟨l.toArray,[{ target := .collected D,args := #[] }]⟩ w') :
  (Code.rangeFunc g ps assign body).wp P Q ⟨l.toArray,[]⟩ w := by
 refine (wpIn_wide (n := 3)).1 (wpIn_rangeFunc (F := Fence.wide) (n := 3) (fun fn _ => ?_))
 have hs1 := hs.alloc (.deferred (some []))
 have hs2 := hs1.alloc (.loop { state := .ready,pending := none,fn,tmps := l.toArray,params := ps,assign,body,defers := w.heap.size })
 have hsz : (w.alloc (.deferred (some []))).heap.size = w.heap.size + 1 := World.size_alloc _ _
 rw [hsz] at hs2
 generalize hW1 : (w.alloc (.deferred (some []))).alloc (.loop { state := .ready,pending := none,fn,tmps := l.toArray,params := ps,assign,body,defers := w.heap.size }) = W1 at hs2
 refine ⟨w.heap.size + 1,[{ target := .collected w.heap.size,args := #[] }],W1,{ target := .fn (.func f) cap,args := #[.func (.yield (w.heap.size + 1)) #[] #[]] },W1,f,#[.func (.yield (w.heap.size + 1)) #[] #[]] ++ cap,W1,hW1 ▸ run_enterLoop_outer fn _ _ _ _,?_,fun _ _ => trivial,?_,(fun h => by cases h),?_⟩
 ·have e1 : (Act.mk l.toArray []).eval g = .func (.func f) #[] cap := ev_eval hg
  have e2 : ∀ y,(Act.mk l.toArray []).eval (.const y) = y := fun _ => rfl
  simp [resolve,rangeCall,e1,e2,Deferred.ofValue]
 ·show (callFunc f (#[.func (.yield (w.heap.size + 1)) #[] #[]] ++ cap)).run P _ = _
  exact hf _ _
 ·refine callsIn_of wide_wide ?_
  have hG := hI (w.heap.size + 1) (fun i => pt (w.heap.size + 1) (.loop ⟨.ready,none,fn,l.toArray,ps,assign,body,w.heap.size⟩) * Z i) (fun i x hx => hB fn w.heap.size (w.heap.size + 1) i x hx)
  refine (hG O _ (pt w.heap.size (.deferred (some [])) * R) (hs2.cast (by ac_rfl))).mono ?_
  rintro e w' ⟨rfl,hs'⟩
  have hs3 : Sat O w' (pt (w.heap.size + 1) (.loop ⟨.ready,none,fn,l.toArray,ps,assign,body,w.heap.size⟩) * (pt w.heap.size (.deferred (some [])) * (Z N * (S0 * R)))) := hs'.cast (by ac_rfl)
  refine ⟨none,_,run_endLoop hs3.block (by simp),?_⟩
  exact k _ _ (sat_putObj hs3).right
def runZ (b : Nat) (v1 v2 v3 : Value) (log : List Acc) : SProp := ex fun vt => pt b (.cells #[v1,vt,v2,v3] 32) * sl 138 7 (log.map Acc.e) vt
theorem runZ_iff {O w : World} {b : Nat} {v1 v2 v3 : Value} {log : List Acc} {F : SProp} : Sat O w (runZ b v1 v2 v3 log * F) ↔ ∃ vt,Sat O w (pt b (.cells #[v1,vt,v2,v3] 32) * (sl 138 7 (log.map Acc.e) vt * F)) := by
 unfold runZ
 simp only [sat_ex,mul_assoc']
attribute [irreducible] runZ
theorem yieldC_mk {P : Program} {lp fn D p1 p2 i1 i2 i3 : Nat} {l : List Value} {v u : Value} {ops1 ops2 : List Oper} {Z Z' : SProp} (hd1 : ops1.all noDefer = true) (hd2 : ops2.all noDefer = true)
  (h : ∀ O w F,Sat O w (Z * F) → wpList P ops1.toArray (Then fun a1 w1 => ∃ Z1,Sat O w1 (Z1 * F) ∧ ∀ F2 w2,Sat O w2 (Z1 * F2) → wpList P ops2.toArray (Then fun _ w3 => Sat O w3 (Z' * F2)) ops2 a1 w2) ops1 ⟨((l.set p1 v).set p2 u).toArray,[]⟩ w) :
  YieldC P lp #[v,u] (pt lp (.loop ⟨.ready,none,fn,l.toArray,#[p1,p2],.region i1 ops1.toArray false,.block i2 (.region i3 ops2.toArray false),D⟩) * Z)
   (pt lp (.loop ⟨.ready,none,fn,l.toArray,#[p1,p2],.region i1 ops1.toArray false,.block i2 (.region i3 ops2.toArray false),D⟩) * Z') := by
 intro O w F hs n
 rw [mul_assoc'] at hs
 refine ⟨_,_,_,_,run_yield hs.block rfl,roundIn_of_wpIn trivial ?_⟩
 have hw := h O w (pt lp (.loop ⟨.ready,none,fn,l.toArray,#[p1,p2],.region i1 ops1.toArray false,.block i2 (.region i3 ops2.toArray false),D⟩) * F) (hs.cast (mul_left _ _ _))
 have e : (Array.foldl (fun (tmps : Array Value) x => tmps.setIfInBounds x.1 x.2) l.toArray (#[p1,p2].zip #[v,u])) = ((l.set p1 v).set p2 u).toArray := by simp
 refine wpIn_region_lit (listIn_all' (wide_round lp) ?_ hd1 (e ▸ hw))
 rintro a1 w1 ⟨Z1,hs1,hk⟩
 have hs1 := hs1.cast (mul_left _ _ _)
 refine ⟨_,run_beginRound hs1.block rfl,?_⟩
 have hs2 := sat_putObj (o' := .loop ⟨.busy,none,fn,l.toArray,#[p1,p2],.region i1 ops1.toArray false,.block i2 (.region i3 ops2.toArray false),D⟩) hs1
 have hk2 := hk _ _ (hs2.cast (mul_left _ _ _))
 refine wpIn_block (wpIn_region_lit (listIn_all' (wide_round lp) ?_ hd2 hk2))
 intro a2 w3 hs3
 have hs3 := hs3.cast (mul_left _ _ _)
 refine ⟨_,_,run_endRound none hs3.block,rfl,?_⟩
 rw [mul_assoc']
 exact sat_putObj hs3
def RunR (cs : List Cll) (log : List Acc) (sh : List Shf) (ws : List Int) (v : Value) : SProp := ex fun vc => ex fun vt => ex fun vs => ex fun vw => pu (v = .agg #[vc,vt,vs,vw]) *
 (sl 50 9 (cs.map Cll.e) vc * (sl 138 7 (log.map Acc.e) vt * (sl 127 5 (sh.map Shf.e) vs * sl 57 1 (ws.map eU) vw)))
set_option maxHeartbeats 4000000 in
theorem mach_run (bx bm : Nat) (m : Mch) (hn : 0 < m.seats.length) (h1 : m.calls.length < 4294967296) (h2 : m.shifts.length < 4294967296) (h3 : m.mem.words.length < 4294967296) (h4 : m.mem.log.length < 4294967295) :
  Does Tryz.prog 44 #[.pointer (some ⟨bx,0,none⟩)] (MchR bx bm m) (fun v => RunR m.calls m.mem.log m.shifts m.mem.words v * MchR bx bm m) := by
 intro O w F hs
 (obtain ⟨vh,call,told,hcur,hs⟩ := mchR.1 hs)
 have hcur := Lib.hid hcur
 have h0' : ((m.seats.length : Int) == 0) = false := by simp;intro e;simp [e] at hn
 have hC1 := Lib.hid (clone_calls m.vc m.calls h1)
 have hC2 := Lib.hid (clone_shifts vh m.shifts h2)
 have hW := Lib.hid (mem_words bm m.mem h3)
 have hLf := Lib.hid (mem_logf bm)
 refine callsIn_wide.1 (callsIn_of_wp_marks (n := 3) Tryz.func44 rfl trivial ?_)
 simp only [Tryz.ntmps44,List.size_toArray,List.length_cons,List.length_nil,Nat.reduceAdd,Nat.reduceSub,Array.replicate_succ,Array.replicate_zero,List.push_toArray,List.append_toArray,List.nil_append,List.cons_append]
 refine (wpIn_wide (n := 3)).2 ?_
 go_wp2_with (first|(first|(first|(with_reducible refine NQ.mk ?_)|((with_reducible apply pl_neu);rfl;rfl)|(with_reducible refine EQ.mk ?_ ?_)|(first|(with_reducible exact chk_nil)|((with_reducible refine chk_cons ?_ ?_);(focus ((with_reducible apply pl_chk);rfl;rfl))))|(with_reducible refine pl_end ?_)|(show SameA _ _ _;rfl))|((with_reducible apply wl_ld hs);infer_instance;rfl;(focus with_reducible (repeat first|exact Qh|apply Qk);done);rfl;rfl;(simp only [Uc,Uz]))|((with_reducible apply wl_stF hs);infer_instance;rfl;rfl;(focus with_reducible (repeat first|exact Qh|apply Qk);done);rfl;rfl;rfl;rfl;clear hs;intro w hs)|((with_reducible apply wl_alloc hs);infer_instance;rfl;clear hs;intro w b hs;(simp only [Uc,Uz]))|((with_reducible apply wl_len hs);infer_instance;rfl;(focus with_reducible (repeat first|exact Qh|apply Qk);done);rfl;(simp only [Uc,Uz])))|(first|((with_reducible refine plt_leaf ?_);(try simp only [List.map_cons,List.map_nil]))|((with_reducible refine plt_one ?_);(try simp only [List.map_cons,List.map_nil]))|((with_reducible refine plt_two ?_);(try simp only [List.map_cons,List.map_nil]))|((with_reducible apply te_eff);rfl)|(with_reducible refine Two.mk ?_ ?_))|((with_reducible refine wp_tree_sat (id := 3) (.two [0,1,2,3,5,6,7,8,9,11,12,13,14,15] 4 [5,6,7,8,9,11,12,13,14,15] (.two [] 10 [11,12,13,14,15] (.two [] 16 [] (.one [17] 18 [0,1,2,3,5,6,7,8,9,11,12,13,14,15,17] (.one [] 19 [] (.leaf []))) 18 [0,1,2,3,5,6,7,8,9,11,12,13,14,15] (.one [] 16 [] (.one [17] 19 [] (.leaf [])))) 18 [0,1,2,3,5,6,7,8,9,11,12,13,14,15] (.one [] 10 [11,12,13,14,15] (.one [] 16 [] (.one [17] 19 [] (.leaf []))))) 18 [0,1,2,3,5,6,7,8,9,11,12,13,14,15] (.one [] 4 [5,6,7,8,9,11,12,13,14,15] (.one [] 10 [11,12,13,14,15] (.one [] 16 [] (.one [17] 19 [] (.leaf [])))))) hs rfl ?_ ?_);kernel_rfl;clear hs;intro w hs)|(go_at_call 103;((refine (hC1.out).at hs (by (focus with_reducible (repeat first|exact Qh|apply Qk);done)) ?_);clear hs;intro v w hs;(try simp only [emp_mul,mul_assoc'] at hs));(obtain ⟨a1,c1,rfl⟩ := sl_len hs))|(go_at_call 104;((refine (hC2.out).at hs (by (focus with_reducible (repeat first|exact Qh|apply Qk);done)) ?_);clear hs;intro v w hs;(try simp only [emp_mul,mul_assoc'] at hs));(obtain ⟨a2,c2,rfl⟩ := sl_len hs))|(go_at_call 105;((refine (hW.out).at hs (by (focus with_reducible (repeat first|exact Qh|apply Qk);done)) ?_);clear hs;intro v w hs;(try simp only [emp_mul,mul_assoc'] at hs));(obtain ⟨a3,c3,rfl⟩ := sl_len hs))|(go_at_call 106;((refine (hLf.out).at hs (by (focus ((repeat (with_reducible exact Qn));done))) ?_);clear hs;intro v w hs;(try simp only [emp_mul,mul_assoc'] at hs));(replace hs := logF_get hs);(obtain ⟨t1,t2,rfl,hs⟩ := hs)))
 all_goals
  have hI := fun lp Y hY => log_iter bm m.mem t1 t2 lp Y hY (by omega)
  obtain ⟨REST,hREST,hs⟩ : ∃ R,Hid (R = _) ∧ Sat O w ((pt b (.cells #[Value.slice a1 m.calls.length c1,Value.slice none 0 0,Value.slice a2 m.shifts.length c2,Value.slice a3 m.mem.words.length c3] 32) * (MemR bm m.mem * (pt t1 (.cells #[.pointer (some ⟨bm,0,none⟩)] 162) * pt t2 (.cells #[.int .i64 0] 3)))) * R) := ⟨_,Lib.hid rfl,hs.pull (by (focus with_reducible (repeat first|exact Qh|apply Qb|apply Qk);done))⟩
  have hz := runZ_iff (log := []).2 ⟨_,(sl_nil (E := 138) (sz := 7) hs (by omega)).fin (T := pt b (.cells #[Value.slice a1 m.calls.length c1,Value.slice none 0 0,Value.slice a2 m.shifts.length c2,Value.slice a3 m.mem.words.length c3] 32) * (sl 138 7 [] (.slice none 0 0) * ((MemR bm m.mem * (pt t1 (.cells #[.pointer (some ⟨bm,0,none⟩)] 162) * pt t2 (.cells #[.int .i64 0] 3))) * REST))) (by simp only [mul_assoc'];(focus with_reducible (repeat first|exact Ql|exact Qh|apply Qb|apply Qk);done))⟩
  clear hs
  refine wp_range (α := Nat × Acc) (args := fun x => #[.int .i64 (x.1 : Int),x.2.v]) (Z := fun i => runZ b (.slice a1 m.calls.length c1) (.slice a2 m.shifts.length c2) (.slice a3 m.mem.words.length c3) (m.mem.log.take i)) (N := m.mem.log.length) (el := fun i x => m.mem.log[i]? = some x.2 ∧ x.1 = i) hz rfl ?_ ?_ ?_ ?_
  ·intro args w
   kernel_rfl
  ·intro lp Y hY
   exact hI lp Y (fun i a ha => hY i (i,a) ⟨ha,rfl⟩)
  ·rintro fn D lp i ⟨i',x⟩ ⟨hx,hxi⟩
   simp only [] at hx hxi
   subst hxi
   clear hz hI hREST
   refine yieldC_mk rfl rfl ?_
   intro O w F hs
   have hil := (List.getElem?_eq_some_iff.1 hx).1
   have HT := Lib.hid (show m.mem.log.take (i' + 1) = m.mem.log.take i' ++ [x] by rw [List.take_add_one,hx];rfl)
   have htl : (m.mem.log.take i').length < 4294967295 := by simp;omega
   generalize m.mem.log.take i' = lg at *
   clear hx
   go_wp2_with (first|((with_reducible apply wl_alloc hs);infer_instance;rfl;clear hs;intro w b5 hs;(simp only [Uc,Uz]))|((with_reducible apply wl_stF hs);infer_instance;rfl;rfl;(with_reducible exact Qh);rfl;rfl;rfl;rfl;clear hs;intro w hs))
   simp only [Then]
   refine ⟨_,hs.cast (mul_assoc' _ _ _).symm,?_⟩
   clear hs
   intro F2 w2 hs
   simp only [mul_assoc'] at hs
   obtain ⟨vt,hs⟩ := runZ_iff.1 (hs.pull (A := runZ b _ _ _ _) (by (focus with_reducible (repeat first|exact Qh|apply Qk);done)))
   go_wp2_with (first|((with_reducible apply wl_ld hs);infer_instance;rfl;(with_reducible exact Qh);rfl;rfl;(simp only [Uc,Uz]))|((with_reducible apply wl_ldF hs);infer_instance;rfl;(focus with_reducible (repeat first|exact Qh|apply Qk);done);rfl;rfl;(simp only [Uc,Uz]))|((with_reducible apply wl_st hs);infer_instance;rfl;rfl;(focus with_reducible (repeat first|exact Qh|apply Qk);done);(apply sl_one;apply hs.pull;(with_reducible exact Qh));(exact Vb rfl);rfl;clear hs;intro w hs;simp only [List.setIfInBounds_toArray,Uc,Uz] at hs)|((with_reducible apply wl_bs hs);infer_instance;infer_instance;rfl;rfl;rfl;rfl;(exact Vb rfl);rfl;clear hs;intro w v hs;(simp only [Uc,Uz]))|((with_reducible apply wl_app hs);infer_instance;infer_instance;rfl;rfl;(focus with_reducible (repeat first|exact Qh|apply Qk);done);(with_reducible exact Qh);(simp only [Wm,Ws,Wa,Wc,Wn,Wr] at *;omega);(exact Vb rfl);rfl;clear hs;intro w v hs;(simp only [Uc,Uz])))
   simp only [Then]
   rw [HT.out]
   refine runZ_iff.2 ⟨v,?_⟩
   ((try simp only [List.map_append,List.map_cons,List.map_nil,List.map_set,List.set_set]);(try simp only [List.map_append,List.map_cons,List.map_nil,List.map_set,List.set_set] at hs);((with_reducible apply Sat.fin hs);(focus with_reducible (repeat first|exact Ql|exact Qh|apply Qb|apply Qk);done)))
  ·intro D w' hs
   rw [List.take_length] at hs
   obtain ⟨vt,hs⟩ := runZ_iff.1 (hs.pull (A := runZ b _ _ _ _) (by (focus with_reducible (repeat first|exact Qh|apply Qk);done)))
   rw [hREST.out] at hs
   clear hz hI hREST
   simp only [mul_assoc'] at hs
   obtain ⟨aT,cT,rfl⟩ := sl_len (hs.pull (A := sl 138 7 _ vt) (by (focus with_reducible (repeat first|exact Qh|apply Qk);done)))
   simp only [Exit.inBlock,Exit.then]
   go_wp2_with (first|((with_reducible apply wl_ldF hs);infer_instance;rfl;(with_reducible exact Qh);rfl;rfl;(simp only [Uc,Uz]))|((with_reducible apply wl_stF hs);infer_instance;rfl;rfl;(focus with_reducible (repeat first|exact Qh|apply Qk);done);rfl;rfl;rfl;rfl;clear hs;intro w hs))
   simp only [List.length_map] at hs
   refine leaves_mark (D := D) (hs.pull (A := pt D (.deferred (some []))) (by (focus with_reducible (repeat first|exact Qh|apply Qk);done))) (fun w hs => by
    (with_reducible apply results_c);rfl;rfl;(with_reducible apply loadF hs);infer_instance;(with_reducible exact Qh);rfl) ?_
   clear hs
   intro w hs
   refine ⟨_,rfl,?_⟩
   replace hs := mchR_mk (m := m) hcur.out (hs.fin (by (focus with_reducible (repeat first|exact Ql|exact Qh|apply Qb|apply Qk);done)))
   unfold RunR
   simp only [sat_ex,mul_assoc',sat_pu]
   refine ⟨_,_,_,_,rfl,?_⟩
   ((with_reducible apply Sat.fin hs);(focus with_reducible (repeat first|exact Ql|exact Qh|apply Qb|apply Qk);done))
end Go.Proofs.YtegafhhdegnigaaGreat
