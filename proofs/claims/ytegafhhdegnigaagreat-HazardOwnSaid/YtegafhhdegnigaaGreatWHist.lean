/-
  Operations that are not wanted are passed over, whatever their slots hold.
-/
import Derived.Test.YtegafhhdegnigaaGreatWRun
import Derived.Test.YtegafhhdegnigaaGreatWLog
import Derived.Test.YtegafhhdegnigaaGreatWHaz
import Derived.Test.YtegafhhdegnigaaGreatWInv4
set_option linter.all false
section
namespace Go.Proofs.YtegafhhdegnigaaGreat
open Go.RowKit
namespace Hp
theorem wl_pass {P : Program} {ops : Array Oper} {Q : Exit → Act → World → Prop} {w : World} {rest : List Oper} {l : List Value} {ds : List Deferred} {d : Nat} {op : Op} {ty : TypeId} {pos : String} {after : Array Edge} {g : Nat × Bool}
    (hw : Region.wanted { dst := some d,op := op,type := ty,pos,after,guard := some g } (yielded ops l.toArray) = false) (kk : wpList P ops Q rest ⟨(l.set d undef).toArray,ds⟩ w) :
    wpList P ops Q ({ dst := some d,op := op,type := ty,pos,after,guard := some g } :: rest) ⟨l.toArray,ds⟩ w := by
  refine wpList_skip hw ?_
  have e : (Act.put ⟨l.toArray,ds⟩ (some d) undef : Act) = ⟨(l.set d undef).toArray,ds⟩ := put_set
  show wpList P ops Q rest (Act.put ⟨l.toArray,ds⟩ (some d) undef) w
  rw [e];exact kk
theorem wl_pass2 {P : Program} {ops : Array Oper} {Q : Exit → Act → World → Prop} {w : World} {rest : List Oper} {l : List Value} {ds : List Deferred} {d : Nat} {op : Op} {ty : TypeId} {pos : String} {after : Array Edge} {i : Nat} {b z : Bool} {o : Oper} {e : Nat}
    (ho : ops[i]? = some o) (hd : o.dst = some e) (hv : l[e]? = some (.bool z)) (hb : (z == b) = false) (kk : wpList P ops Q rest ⟨(l.set d undef).toArray,ds⟩ w) :
    wpList P ops Q ({ dst := some d,op := op,type := ty,pos,after,guard := some (i,b) } :: rest) ⟨l.toArray,ds⟩ w := by
  refine wl_pass ?_ kk
  have hv' : l.toArray[e]? = some (.bool z) := by simpa using hv
  simp only [Region.wanted,yielded,ho,Option.bind_some,hd,hv']
  cases z <;> cases b <;> first | rfl | cases hb
theorem wl_pick {P : Program} {ops : Array Oper} {Q : Exit → Act → World → Prop} {w : World} {rest : List Oper} {l : List Value} {ds : List Deferred} {d : Nat} {c x y : Operand} {ty : TypeId} {pos : String} {after : Array Edge} {gd : Option (Nat × Bool)} {z : Bool} {v : Value}
    (hc : ev l c = some (.bool z)) (hv : ev l (cond z x y) = some v)
    (hg : Region.wanted { dst := some d,op := .pick c x y,type := ty,pos,after,guard := gd } (yielded ops l.toArray) = true)
    (kk : wpList P ops Q rest ⟨(l.set d v).toArray,ds⟩ w) :
    wpList P ops Q ({ dst := some d,op := .pick c x y,type := ty,pos,after,guard := gd } :: rest) ⟨l.toArray,ds⟩ w := by
  refine wl_val (v := v) (w' := w) hg ?_ (put_set ▸ kk)
  have h1 := ev_eval (ds := ds) hc
  have h2 := ev_eval (ds := ds) hv
  cases z <;> simp [execOp,h1,asBool] <;> simpa using h2
theorem want_none {d : Option Nat} {op : Op} {ty : TypeId} {pos : String} {after : Array Edge} {f : Nat → Option Bool} : Region.wanted { dst := d,op := op,type := ty,pos,after,guard := none } f = true := rfl
theorem want_some {ops : Array Oper} {l : List Value} {d : Option Nat} {op : Op} {ty : TypeId} {pos : String} {after : Array Edge} {i : Nat} {b : Bool} {o : Oper} {e : Nat}
    (ho : ops[i]? = some o) (hd : o.dst = some e) (hv : l[e]? = some (.bool b)) : Region.wanted { dst := d,op := op,type := ty,pos,after,guard := some (i,b) } (yielded ops l.toArray) = true := by
  have hv' : l.toArray[e]? = some (.bool b) := by simpa using hv
  simp only [Region.wanted,yielded,ho,Option.bind_some,hd,hv']
  cases b <;> rfl
end Hp
end Go.Proofs.YtegafhhdegnigaaGreat
end
/-
  Lists of numbers: a record's list, and the law's comparison.
-/
section
namespace Go.Proofs.YtegafhhdegnigaaGreat
open Go.RowKit Hp
set_option maxRecDepth 100000
set_option maxHeartbeats 1000000
attribute [local irreducible] Go.Calls
theorem haz_list (b ba : Nat) (h : Haz) (n : Nat) (x : List Int) (hx : h.lists[n]? = some x) (hl : x.length < 4294967296) :
    Does Tryz.prog 42 #[.pointer (some ⟨b,0,none⟩),.int .i64 (n : Int)] (HazR b ba h) (fun v => sl 3 1 (x.map eI) v * HazR b ba h) := by
  intro O w F hs
  have hlt := (List.getElem?_eq_some_iff.1 hx).1
  (replace hs := hs.pull (A := HazR b _ _) (by (with_reducible exact Qh));obtain ⟨vhh,vhl,hus_,hu_,husl,husg,hs⟩ := hazT hs hx)
  have hltu : n < hus_.length := by omega
  have h0 : decide ((n : Int) < 0) = false := by simp
  have h1 : decide ((n : Int) ≥ (hus_.length : Int)) = false := by simp;omega
  have h2 : decide (hus_.length ≤ n) = false := by simp;omega
  have hC := Lib.hid (fun v => clone_ints v x hl)
  go_enter Tryz.func42,Tryz.ntmps42
  go_wp2_with (first | (first | ((with_reducible apply wl_ld hs);infer_instance;rfl;(focus with_reducible (repeat first | exact Qh | apply Qk);done);rfl;rfl;(simp only [Uc,Uz])) | ((with_reducible apply wl_ldS0 hs);infer_instance;rfl;assumption;(focus with_reducible (repeat first | exact Qh | apply Qk);done);rfl;(exact map_get (by assumption));rfl;rfl;(simp only [Uc,Uz])) | ((with_reducible apply wl_ia hs);infer_instance;infer_instance;rfl;rfl;(focus with_reducible (repeat first | exact Qh | apply Qk);done);(rfl);(simp only [Wm,Ws,Wa,Wc,Wn,Wr] at *;omega);rfl;intro b off hat;(simp only [Uc,Uz])) | ((with_reducible apply wl_len hs);infer_instance;rfl;(focus with_reducible (repeat first | exact Qh | apply Qk);done);rfl;(simp only [Uc,Uz]))) | (go_at_call 102;((refine ((hC.out _)).at hs (by (focus with_reducible (repeat first | exact Qh | apply Qk);done)) ?_);clear hs;intro v w hs;(try simp only [emp_mul,mul_assoc'] at hs))))
  (go_ret)
  refine ⟨_,rfl,?_⟩
  (replace hs := hazT_back husl husg hx (hs.fin (by (focus with_reducible (repeat first | exact Ql | exact Qh | apply Qb | apply Qk);done))))
  simp only [mul_assoc']
  ((with_reducible apply Sat.fin hs);(focus ((repeat (first | with_reducible exact Ql | with_reducible apply Qb | exact Qh | with_reducible apply Qk));done)))
theorem law_ints (xs : List Int) (u v : Value) (hl : xs.length < 4294967296) : Gives Tryz.prog 43 #[u,v] (sl 3 1 (xs.map eI) u * sl 3 1 (xs.map eI) v) (.bool true) (sl 3 1 (xs.map eI) u * sl 3 1 (xs.map eI) v) := by
  intro O w F hs
  simp only [mul_assoc'] at hs
  obtain ⟨a0,cap0,rfl⟩ := sl_len (hs.pull (A := sl 3 1 (xs.map eI) u) (by (with_reducible exact Qh)))
  obtain ⟨a1,cap1,rfl⟩ := sl_len (hs.pull (A := sl 3 1 (xs.map eI) v) (by (focus with_reducible (repeat first | exact Qh | apply Qk);done)))
  simp only [List.length_map] at hs ⊢
  have n1 : ((xs.length : Int) != (xs.length : Int)) = false := by simp
  go_enter Tryz.func43,Tryz.ntmps43
  go_wp2_with ((with_reducible apply wl_len hs);infer_instance;rfl;(focus with_reducible (repeat first | exact Qh | apply Qk);done);rfl;(simp only [Uc,Uz]))
  go_loopw [5] (fun q wr => ∃ n : Nat,n ≤ xs.length ∧ q = .int .i64 (n : Int) ∧ Sat O wr (sl 3 1 (xs.map eI) (.slice a0 xs.length cap0) * (sl 3 1 (xs.map eI) (.slice a1 xs.length cap1) * F))) (fun q _ => xs.length + 1 - (intOf q).toNat)
  case atStart => exact ⟨0,by omega,rfl,by ((with_reducible apply Sat.fin hs);(with_reducible exact Ql))⟩
  case round =>
    obtain ⟨n,k1,rfl,hs⟩ := hrel
    by_cases hkr : n = xs.length
    · subst hkr
      have hlt : decide ((xs.length : Int) < (xs.length : Int)) = false := by simp
      go_wp2_with ((with_reducible apply wl_len hs);infer_instance;rfl;(with_reducible exact Qh);rfl;(simp only [Uc,Uz]))
      (go_ret)
      exact ⟨rfl,by simp only [mul_assoc'];((with_reducible apply Sat.fin hs);(with_reducible exact Ql))⟩
    · have hlt : decide ((n : Int) < (xs.length : Int)) = true := by simp;omega
      have hlt2 : decide (n < xs.length) = true := by simp;omega
      have hln : n < (xs.map eI).length := by simp;omega
      obtain ⟨x,hx⟩ : ∃ x,xs[n]? = some x := ⟨_,List.getElem?_eq_getElem (by omega)⟩
      have hw : wrap64 ((n : Int) + 1) = (n : Int) + 1 := by unfold wrap64;omega
      have hgv : (xs.map eI)[n]? = some (eI x) := by rw [List.getElem?_map,hx];rfl
      go_wp2_with (first | (first | (first | (with_reducible refine NQ.mk ?_) | ((with_reducible apply pl_neu);rfl;rfl) | (with_reducible refine pl_end ?_)) | ((with_reducible apply wl_ldS0 hs);infer_instance;rfl;assumption;(focus with_reducible (repeat first | exact Qh | apply Qk);done);rfl;(assumption);rfl;rfl;(simp only [Uc,Uz])) | ((with_reducible apply wl_ia hs);infer_instance;infer_instance;rfl;rfl;(focus with_reducible (repeat first | exact Qh | apply Qk);done);(rfl);(assumption);rfl;intro b off hat;(simp only [Uc,Uz])) | ((with_reducible apply wl_len hs);infer_instance;rfl;(with_reducible exact Qh);rfl;(simp only [Uc,Uz]))) | ((with_reducible refine wp_plan_sat (id := 6) [.neu 0,.neu 1,.neu 2,.neu 3,.neu 4,.neu 5,.neu 6,.neu 7,.neu 8] hs rfl ?_ ?_);kernel_rfl;clear hs;intro w hs))
      go_roundw
      case rel => exact ⟨n + 1,by omega,by simp,by ((with_reducible apply Sat.fin hs);(with_reducible exact Ql))⟩
      case measure => simp [intOf];omega
end Go.Proofs.YtegafhhdegnigaaGreat
end
/-
  What a run records goes together: one access a step; shifts that follow the slots' states.
-/
section
namespace Go.Proofs.YtegafhhdegnigaaGreat
open Go.RowKit Hp
set_option maxRecDepth 100000
set_option maxHeartbeats 1000000
attribute [local irreducible] Go.Calls
abbrev St3 := Haz × Are × Mch
inductive Evo (i t : Nat) : St3 → St3 → Prop where
  | refl (x : St3) : Evo i t x x
  | trans {x y z : St3} : Evo i t x y → Evo i t y z → Evo i t x z
  | load {h : Haz} {a : Are} {m : Mch} (j : Nat) : m.used = false → j < m.mem.words.length → Evo i t (h,a,m) (h,a,m.load j (m.word j))
  | store {h : Haz} {a : Are} {m : Mch} (j : Nat) (z : Int) : m.used = false → j < m.mem.words.length → Evo i t (h,a,m) (h,a,m.store j (m.word j) z)
  | swap {h : Haz} {a : Are} {m : Mch} (j : Nat) (o z : Int) : m.used = false → j < m.mem.words.length → Evo i t (h,a,m) (h,a,m.swap j (m.word j) o z)
  | shift {h : Haz} {a : Are} {m : Mch} (s to : Int) : 0 ≤ s → s < a.c.Sl → 0 ≤ to → to ≤ 5 → Evo i t (h,a,m) (h,a.shift s.toNat m.thread to,m.shift s (a.slots.getD s.toNat ⟨0,0⟩).state to)
  | point {h : Haz} {a : Are} {m : Mch} (cl : Cll) (z : Int) : m.calls[i]? = some cl → cl.begin_ < z → z ≤ m.now → Evo i t (h,a,m) (h,a,m.point i cl z)
  | answer {h : Haz} {a : Are} {m : Mch} (se : Sea) (k v : Int) : m.seats[t]? = some se → 1 ≤ k → k ≤ 6 → (k ≠ 2 → v = 0) → Evo i t (h,a,m) (h,a,m.answer t se k v)
  | haz {h : Haz} (h' : Haz) {a : Are} {m : Mch} : Evo i t (h,a,m) (h',a,m)
  | cache {h : Haz} {a : Are} {m : Mch} (cs : List (List Int)) : Evo i t (h,a,m) (h,{ a with caches := cs },m)
section
variable {i t : Nat} {c : Cfg} {L S N : Nat} {h : Haz} {a : Are} {m : Mch}
theorem Core.lt (k : Core c L S N h a m) {j : Nat} (hj : (j : Int) < base c 14) : j < m.mem.words.length := by rw [k.words];omega
theorem adr_lt' {c : Cfg} (hc : c.Ok) {r : Nat} {z n : Int} (h1 : r = 8 ∧ n = c.R ∨ (r = 10 ∨ r = 11) ∧ n = c.Sl) (h0 : 0 ≤ z) (hz : z < n) : ((adr c r z : Nat) : Int) < base c 14 := by
  have e := adr_i hc r h0
  obtain ⟨b1,b2,b8,b9,b10,b11,b12,b13,b14,rh,rh2⟩ := bases hc
  have := hc.S1
  rcases h1 with ⟨rfl,rfl⟩ | ⟨rfl | rfl,rfl⟩ <;> omega
theorem evo_push {p : Psh} (k : Core c L S N h a m) (P : PInv c p) (hu : m.used = false) : Evo i t (h,a,m) (h,(pushStep a m p).2.1,(pushStep a m p).2.2.1) := by
  obtain ⟨p1,p2,p3,p4⟩ := P
  have hac := k.ac
  have h1 := k.lt (adr_lt14 k.ok).1
  have h2 := k.lt (adr_lt' k.ok (.inr ⟨.inl rfl,rfl⟩) p1 p2)
  unfold pushStep
  rw [hac]
  split
  · exact .load _ hu h1
  · split
    · exact .store _ _ hu h2
    · simp only []
      split
      · exact (Evo.swap _ _ _ hu h1).trans (Evo.shift (m := m.swap _ _ _ _) _ _ p1 (by rw [hac];exact p2) (by omega) (by omega))
      · exact .swap _ _ _ hu h1
theorem evo_give {p : Psh} (hac : a.c = c) (s0 : 0 ≤ p.slot) (s1 : p.slot < c.Sl) : Evo i t (h,a,m) (h,(giveReady a m p).2.1,(giveReady a m p).2.2.1) := by
  unfold giveReady
  split
  · exact .refl _
  · exact (Evo.cache _).trans (Evo.shift (a := { a with caches := _ }) _ _ s0 (by rw [← hac] at s1;exact s1) (by omega) (by omega))
theorem give_c (a : Are) (m : Mch) (p : Psh) : (giveReady a m p).2.1.c = a.c := by
  unfold giveReady;split <;> rfl
theorem evo_free (th : Int) : ∀ (pend : List Int) (g : Option Psh) (a : Are) (m : Mch),a.c = c → (∀ z ∈ pend,0 ≤ z ∧ z < c.Sl) → Evo i t (h,a,m) (h,(freeLoop th pend g a m).2.2.2.1,(freeLoop th pend g a m).2.2.2.2)
  | [],g,a,m,_,_ => .refl _
  | s :: r,g,a,m,hac,hin => by
    have hs := hin s (List.mem_cons_self ..)
    have hg := evo_give (i := i) (t := t) (h := h) (m := m) (p := ⟨s,1,0,th⟩) hac hs.1 hs.2
    unfold freeLoop
    split
    · exact hg.trans (evo_free th r _ _ _ (by rw [give_c];exact hac) (fun z hz => hin z (List.mem_cons_of_mem _ hz)))
    · exact hg
theorem evo_scan {s : Scn} (k : Core c L S N h a m) (I : ScI c s) (hu : m.used = false) : Evo i t (h,a,m) ((scanStep h a m s).2.1,(scanStep h a m s).2.2.1,(scanStep h a m s).2.2.2.1) := by
  have hok := k.ok
  have hac := k.ac
  have hb := bases hok
  obtain rfl := k.hc
  obtain ⟨i1,i2,i3,i4,i5,i6,i7,i8,i9⟩ := I
  unfold scanStep
  by_cases s0 : s.stage = 0
  · rw [if_pos s0]
    obtain ⟨a0,a1,a2⟩ := i6 (by omega)
    have h1 := k.lt (adr_lt' hok (.inl ⟨rfl,rfl⟩) a0 a1)
    unfold scanTry
    simp only []
    split <;> exact .load _ hu h1
  rw [if_neg s0]
  by_cases s1 : s.stage = 1
  · rw [if_pos s1]
    obtain ⟨a0,a1,a2⟩ := i6 (by omega)
    have h1 := k.lt (adr_lt' hok (.inl ⟨rfl,rfl⟩) a0 a1)
    unfold scanTake
    simp only []
    split
    · exact (Evo.swap _ _ _ hu h1).trans (.haz _)
    · exact .swap _ _ _ hu h1
  rw [if_neg s1]
  by_cases s2 : s.stage = 2
  · rw [if_pos s2]
    obtain ⟨a0,a1,a2⟩ := i6 (by omega)
    have h1 := k.lt (adr_lt' hok (.inl ⟨rfl,rfl⟩) a0 a1)
    exact .store _ _ hu h1
  rw [if_neg s2]
  by_cases s3 : s.stage = 3
  · rw [if_pos s3]
    obtain ⟨⟨a0,a1⟩,a2,a3⟩ := i8 s3
    have hp := i7 (by omega)
    have hb9 := (base_le hok 9).1
    have h1 : (base h.c 9 + s.at_).toNat < m.mem.words.length := k.lt (by have := hb.b10;have := hb.b11;have := hb.b12;have := hb.b13;have := hb.b14;have := hok.S1;omega)
    obtain ⟨e1,e2,e3⟩ := k.lget i1 i2
    unfold scanLook
    dsimp only
    split
    · exact .load _ hu h1
    · simp only [scanLook1,scanSplit,hp,List.nil_append]
      refine (Evo.load _ hu h1).trans ((Evo.haz { h with lists := h.lists.set s.record.toNat ((h.lists.getD s.record.toNat []).filter (isNamed (addName s.named (m.word (base h.c 9 + s.at_).toNat - 1)))) }).trans ?_)
      exact evo_free (c := h.c) _ _ _ _ _ hac (fun z hz => e3 z (List.mem_filter.1 hz).1)
  rw [if_neg s3]
  obtain ⟨p,p1,p2,p3,p4⟩ := i9 (by omega)
  rw [p1]
  simp only []
  have hq := evo_push (i := i) (t := t) k p2 hu
  have hc := (push_core k p2).1.ac
  unfold scanGive
  simp only []
  split
  · exact hq.trans (evo_free (c := h.c) _ _ _ _ _ hc p3)
  · exact hq
theorem evo_retire {r : Ret} (k : Core c L S N h a m) (s0 : 0 ≤ r.slot) (s1 : r.slot < c.Sl) : Evo i t (h,a,m) ((retireReady h a m r).2.1,(retireReady h a m r).2.2.1,(retireReady h a m r).2.2.2.1) := by
  have hac := k.ac
  unfold retireReady
  simp only []
  split <;> exact (Evo.shift _ _ s0 (by rw [hac];exact s1) (by omega) (by omega)).trans (.haz _)
theorem evo_takeReady {k : Tak} (C : Core c L S N h a m) (t0 : 0 ≤ k.thread) (t1 : k.thread < c.T) : Evo i t (h,a,m) (h,(takeReady a m k).2.1,(takeReady a m k).2.2.1) := by
  obtain rfl := C.ac
  obtain ⟨g1,g2,g3⟩ := C.cget t0 t1
  unfold takeReady
  simp only []
  split
  · exact .refl _
  · rename_i h0
    generalize a.caches.getD k.thread.toNat [] = x at g1 g2 g3 h0 ⊢
    have hlt : x.length - 1 < x.length := by omega
    have hm : x.getD (x.length - 1) 0 ∈ x := by
      rw [List.getD_eq_getElem?_getD,List.getElem?_eq_getElem hlt];simp
    obtain ⟨q1,q2⟩ := g3 _ hm
    exact (Evo.cache _).trans (Evo.shift (a := { a with caches := _ }) _ _ q1 q2 (by omega) (by omega))
theorem evo_take {k : Tak} (C : Core c L S N h a m) (T : TkI c k) (hu : m.used = false) : Evo i t (h,a,m) (h,(takeStep a m k).2.1,(takeStep a m k).2.2.1) := by
  have hok := C.ok
  have hac := C.ac
  obtain ⟨t1,t2,t3,t4⟩ := T
  have h1 := C.lt (adr_lt14 hok).1
  unfold takeStep
  rw [hac]
  split
  · exact .load _ hu h1
  · rename_i hn
    obtain ⟨h3,h4,h5⟩ := t3 hn
    have h2 := C.lt (adr_lt' hok (r := 10) (z := k.head % 4294967296 - 1) (.inr ⟨.inl rfl,rfl⟩) (by omega) (by omega))
    split
    · exact .load _ hu h2
    · simp only []
      split
      · exact (Evo.swap _ _ _ hu h1).trans (Evo.shift (m := m.swap _ _ _ _) _ _ (by omega) (by rw [hac];omega) (by omega) (by omega))
      · exact .swap _ _ _ hu h1
theorem evo_reg {se : Sea} {r : Reg} (C : Core c L S N h a m) (hse : m.seats[t]? = some se) (i0 : 0 ≤ r.i) (i1 : r.i < c.R) (hu : m.used = false) : Evo i t (h,a,m) ((regStep h m t se r).2.1,a,(regStep h m t se r).2.2.1) := by
  have hok := C.ok
  obtain rfl := C.hc
  have h1 := C.lt (adr_lt' hok (.inl ⟨rfl,rfl⟩) i0 i1)
  have hN : ∀ m',m'.seats[t]? = some se → Evo i t (h,a,m') ((regNext h m' t se r).2.1,a,(regNext h m' t se r).2.2.1) := by
    intro m' hs
    unfold regNext
    split
    · exact .refl _
    · exact .answer _ _ _ hs (by omega) (by omega) (fun _ => rfl)
  unfold regStep
  simp only []
  split
  · split
    · exact (Evo.load _ hu h1).trans (hN _ hse)
    · exact .load _ hu h1
  · split
    · exact (Evo.swap _ _ _ hu h1).trans ((Evo.answer (m := m.swap _ _ _ _) se 2 r.i hse (by omega) (by omega) (fun hf => absurd rfl hf)).trans (.haz _))
    · exact (Evo.swap _ _ _ hu h1).trans (hN _ hse)
theorem evo_flush {p : Psh} (k : Core c L S N h a m) (P : PInv c p) (hu : m.used = false) : Evo i t (h,a,m) (h,(flushStep a m p).2.1,(flushStep a m p).2.2.1) := by
  have hq := evo_push (i := i) (t := t) k P hu
  unfold flushStep
  split
  · exact hq
  · simp only []
    split <;> exact hq.trans (.cache _)
theorem evo_unr {u : Unr} (C : Core c L S N h a m) (ht : (t : Int) < c.T) (hu' : u.thread = (t : Int)) (hd : 0 ≤ h.held.getD t 0) (I : UnI c (a.caches.getD t []) u) (hu : m.used = false) :
    Evo i t (h,a,m) ((unregStep h a m u).2.1,(unregStep h a m u).2.2.1,(unregStep h a m u).2.2.2.1) := by
  have hok := C.ok
  obtain rfl := C.hc
  obtain ⟨r1,_⟩ := C.hget ht
  obtain ⟨i1,i2,i3,i4⟩ := I
  unfold unregStep
  have e : u.thread.toNat = t := by omega
  simp only [e]
  by_cases s0 : u.stage = 0
  · rw [if_pos s0]
    obtain ⟨k0,k1⟩ := i2 s0
    have hz := hz_adr hok hd r1 k0 k1
    have hb := (base_le hok 9).1
    have h1 : (base h.c 9 + h.held.getD t 0 * h.c.Hz + u.k).toNat < m.mem.words.length := C.lt (by have hb := bases hok;have := hb.b11;have := hb.b12;have := hb.b13;have := hb.b14;have := hok.S1;omega)
    split
    · exact .store _ _ hu h1
    · split <;> exact .store _ _ hu h1
  rw [if_neg s0]
  by_cases s1 : u.stage = 1
  · rw [if_pos s1]
    obtain ⟨s,e1,e2,e3⟩ := i3 s1
    rw [e1]
    simp only []
    have F := evo_scan (i := i) (t := t) C e2 hu
    split <;> exact F
  rw [if_neg s1]
  by_cases s2 : u.stage = 2
  · rw [if_pos s2]
    obtain ⟨p,e1,e2,e3,e4⟩ := i4 s2
    rw [e1]
    exact evo_flush C e2 hu
  rw [if_neg s2]
  exact (Evo.store _ _ hu (C.lt (adr_lt' hok (.inl ⟨rfl,rfl⟩) hd r1))).trans (.haz _)
theorem evo_read {cl : Cll} {se : Sea} {r : Rdg} (C : Core c L S N h a m) (I : RdI c r) (hcl : m.calls[i]? = some cl) (hse : m.seats[t]? = some se) (hb : cl.begin_ < m.now) (hp : r.stage = 3 → cl.begin_ < r.point ∧ r.point ≤ m.now) (hu : m.used = false) :
    Evo i t (h,a,m) (h,a,(readStep h m i t cl se r).2.1) := by
  have hok := C.ok
  have hc := C.hc
  obtain ⟨i1,i2,i3,i4⟩ := I
  have hb9 := (base_le hok 9).1
  have hbs := bases hok
  have h1 := C.lt (adr_lt14 hok).2
  have h2 : r.addr.toNat < m.mem.words.length := C.lt (by have := hbs.b11;have := hbs.b12;have := hbs.b13;have := hbs.b14;have := hok.S1;omega)
  have hS : ∀ m' u,m'.calls = m.calls → m'.seats = m.seats → m'.now = m.now → Evo i t (h,a,m') (h,a,(readSaw m' i t cl se r u).2.1) := by
    intro m' u e1 e2 e3
    unfold readSaw
    split
    · exact (Evo.point cl _ (by rw [e1];exact hcl) (by rw [e3];exact hb) (Int.le_refl _)).trans (Evo.answer (m := m'.point _ _ _) se 3 0 (by rw [← e2] at hse;exact hse) (by omega) (by omega) (fun _ => rfl))
    · exact .refl _
  unfold readStep
  rw [hc]
  simp only []
  split
  · exact (Evo.load _ hu h1).trans (hS _ _ rfl rfl rfl)
  · rename_i s0
    have hw2 := i4 s0
    split
    · exact .store _ _ hu h2
    · rename_i s1
      split
      · split
        · exact .load _ hu h1
        · exact (Evo.load _ hu h1).trans (hS _ _ rfl rfl rfl)
      · rename_i s2
        obtain ⟨q1,q2⟩ := hp (by omega)
        have h3 := C.lt (adr_lt' hok (r := 11) (z := r.w - 1) (.inr ⟨.inr rfl,rfl⟩) (by omega) (by omega))
        exact (Evo.load _ hu h3).trans ((Evo.point (m := m.load _ _) cl r.point hcl q1 q2).trans (Evo.answer (m := (m.load _ _).point _ _ _) se 2 _ hse (by omega) (by omega) (fun hf => absurd rfl hf)))
theorem evo_took {cl : Cll} {se : Sea} {p : Pst} {k : Tak} {m' : Mch} (hcl : m'.calls[i]? = some cl) (hse : m'.seats[t]? = some se) (hb : cl.begin_ < m'.now) : Evo i t (h,a,m') (h,a,(postTook m' i t cl se p k).2.1) := by
  unfold postTook
  split
  · exact (Evo.point cl _ hcl hb (Int.le_refl _)).trans (Evo.answer (m := m'.point _ _ _) se 4 0 hse (by omega) (by omega) (fun _ => rfl))
  · exact .refl _
theorem evo_done {cl : Cll} {se : Sea} {p : Pst} {k : Tak} {sl0 : Int} (C : Core c L S N h a m) (hs : p.saw ≤ c.Sl) (q0 : 0 ≤ sl0) (q1 : sl0 < c.Sl) (hcl : m.calls[i]? = some cl) (hse : m.seats[t]? = some se) (hb : cl.begin_ < m.now) :
    Evo i t (h,a,m) ((postDone h a m i t cl se p sl0).2.1,(postDone h a m i t cl se p sl0).2.2.1,(postDone h a m i t cl se p sl0).2.2.2.1) := by
  have hac := C.ac
  unfold postDone
  simp only []
  have E1 : Evo i t (h,a,m) (h,a.shift sl0.toNat m.thread 3,((m.point i cl m.now).answer t se 1 0).shift sl0 (a.slots.getD sl0.toNat ⟨0,0⟩).state 3) :=
    (Evo.point cl _ hcl hb (Int.le_refl _)).trans ((Evo.answer (m := m.point _ _ _) se 1 0 hse (by omega) (by omega) (fun _ => rfl)).trans (Evo.shift (m := (m.point _ _ _).answer _ _ _ _) sl0 3 q0 (by rw [hac];exact q1) (by omega) (by omega)))
  have C1 := (((C.point i cl m.now).answer t se 1 0).ashift sl0.toNat m.thread 3).mshift sl0 (a.slots.getD sl0.toNat ⟨0,0⟩).state 3
  split
  · exact E1
  · rename_i hn
    have E2 : Evo i t (h,a.shift sl0.toNat m.thread 3,((m.point i cl m.now).answer t se 1 0).shift sl0 (a.slots.getD sl0.toNat ⟨0,0⟩).state 3) _ := Evo.shift (p.saw - 1) 4 (by omega) (by show p.saw - 1 < a.c.Sl;rw [hac];omega) (by omega) (by omega)
    have C2 := (C1.ashift (p.saw - 1).toNat m.thread 4).mshift (p.saw - 1) ((a.shift sl0.toNat m.thread 3).slots.getD (p.saw - 1).toNat ⟨0,0⟩).state 4
    have R := evo_retire (i := i) (t := t) (r := ⟨p.thread,p.saw - 1,none⟩) C2 (by simp only [];omega) (by simp only [];omega)
    exact E1.trans (E2.trans R)
theorem evo_post {cl : Cll} {se : Sea} {p : Pst} (C : Core c L S N h a m) (I : PoI c p) (hcl : m.calls[i]? = some cl) (hse : m.seats[t]? = some se) (hb : cl.begin_ < m.now) (hu : m.used = false) :
    Evo i t (h,a,m) ((postStep h a m i t cl se p).2.1,(postStep h a m i t cl se p).2.2.1,(postStep h a m i t cl se p).2.2.2.1) := by
  have hok := C.ok
  have hc := C.hc
  obtain ⟨⟨k,hk,k0,k1⟩,i2,i3,i4⟩ := I
  have h1 := C.lt (adr_lt14 hok).2
  unfold postStep
  rw [hk,hc]
  simp only []
  by_cases s0 : p.stage = 0
  · rw [if_pos s0]
    have E := evo_take (i := i) (t := t) C (k0 s0) hu
    have Sm := same_take a m k
    split
    · exact E.trans (evo_took (by rw [Sm.calls];exact hcl) (by rw [Sm.seats];exact hse) (by rw [Sm.now];exact hb))
    · exact E
  rw [if_neg s0]
  by_cases s1 : p.stage = 1
  · rw [if_pos s1]
    obtain ⟨g1,g2,g3⟩ := k1 (.inl s1)
    exact .store _ _ hu (C.lt (adr_lt' hok (r := 11) (.inr ⟨.inr rfl,rfl⟩) g1 g2))
  rw [if_neg s1]
  by_cases s2 : p.stage = 2
  · rw [if_pos s2]
    exact .load _ hu h1
  rw [if_neg s2]
  by_cases s3 : p.stage = 3
  · rw [if_pos s3]
    obtain ⟨g1,g2,g3⟩ := k1 (.inr (.inr s3))
    have hz : WOk c (adr c 2 0) p.link := wok_cell hok (by omega)
    have hsw := i3 s3
    split
    · exact (Evo.swap _ _ _ hu h1).trans (evo_done (k := k) (C.swap (adr c 2 0) (m.word (adr c 2 0)) p.saw p.link hz) hsw.2 g1 g2 hcl hse hb)
    · exact .swap _ _ _ hu h1
  rw [if_neg s3]
  have s4 : p.stage = 4 := by rcases i2 with h | h | h | h | h <;> first | exact absurd h s0 | exact absurd h s1 | exact absurd h s2 | exact absurd h s3 | exact h
  obtain ⟨r,sc,e1,e2,e3,e4⟩ := i4 s4
  rw [e1]
  simp only [e2]
  exact evo_scan C e3 hu
theorem evo_postReady {cl : Cll} {se : Sea} {p : Pst} (C : Core c L S N h a m) (t0 : 0 ≤ p.thread) (t1 : p.thread < c.T) (hcl : m.calls[i]? = some cl) (hse : m.seats[t]? = some se) (hb : cl.begin_ < m.now) :
    Evo i t (h,a,m) (h,(postReady a m i t cl se p).2.1,(postReady a m i t cl se p).2.2.1) := by
  have E := evo_takeReady (i := i) (t := t) (k := ⟨p.thread,1,0,0,0,false⟩) C t0 t1
  have Sm := same_takeReady a m ⟨p.thread,1,0,0,0,false⟩
  unfold postReady
  simp only []
  split
  · exact E.trans (evo_took (by rw [Sm.calls];exact hcl) (by rw [Sm.seats];exact hse) (by rw [Sm.now];exact hb))
  · exact E
theorem evo_rdy {cl : Cll} {se : Sea} {k : HTask} (C : Core c L S N h a m) (ht : (t : Int) < c.T) (I : TI c t false (h.held.getD t 0) (a.caches.getD t []) k) (hcl : m.calls[i]? = some cl) (hse : m.seats[t]? = some se) (hb : cl.begin_ < m.now) :
    Evo i t (h,a,m) ((htReady (h,a) m i t cl se k).2.1.1,(htReady (h,a) m i t cl se k).2.1.2,(htReady (h,a) m i t cl se k).2.2.1) := by
  cases k with
  | pst p => exact evo_postReady C (by rw [I.1];omega) (by rw [I.1];exact ht) hcl hse hb
  | scn s => exact .refl _
  | reg r => exact .refl _
  | unr u => exact .refl _
  | rdg r => exact .refl _
  | clr ad => exact .refl _
def RdP (b now : Int) : HTask → Prop
  | .rdg r => r.stage = 3 → b < r.point ∧ r.point ≤ now
  | _ => True
theorem evo_stp {cl : Cll} {se : Sea} {k : HTask} (C : Core c L S N h a m) (ht : (t : Int) < c.T) (I : TI c t true (h.held.getD t 0) (a.caches.getD t []) k) (hcl : m.calls[i]? = some cl) (hse : m.seats[t]? = some se) (hb : cl.begin_ < m.now) (hp : RdP cl.begin_ m.now k) (hu : m.used = false) :
    Evo i t (h,a,m) ((htStep (h,a) m i t cl se k).2.1.1,(htStep (h,a) m i t cl se k).2.1.2,(htStep (h,a) m i t cl se k).2.2.1) := by
  have hok := C.ok
  cases k with
  | reg r =>
    obtain ⟨i1,i2,i3⟩ := I
    exact evo_reg C hse i2 i3 hu
  | unr u =>
    obtain ⟨i1,i2,i3⟩ := I
    exact evo_unr C ht i1 i2 i3 hu
  | rdg r => exact evo_read C I hcl hse hb hp hu
  | clr ad =>
    obtain ⟨i1,i2⟩ := I
    exact .store _ _ hu (C.lt (by have hb := bases hok;have := hb.b11;have := hb.b12;have := hb.b13;have := hb.b14;have := hok.S1;omega))
  | scn s => exact evo_scan C (I.2.2 rfl) hu
  | pst p => exact evo_post C (I.2.2.1 rfl) hcl hse hb hu
theorem rdp_stp {cl cl' : Cll} {se : Sea} {k : HTask} (hb : cl.begin_ < m.now) (hp : RdP cl.begin_ m.now k) : RdP cl.begin_ m.now (htStep (h,a) m i t cl' se k).2.2.2 := by
  cases k with
  | rdg r =>
    simp only [htStep,RdP,readStep] at hp ⊢
    split
    · unfold readSaw;split <;> simp
    · split
      · simp
      · split
        · split
          · simp only [];exact fun _ => ⟨hb,Int.le_refl _⟩
          · unfold readSaw;split <;> simp
        · exact hp
  | _ => exact trivial
theorem rdp_rdy {cl cl' : Cll} {se : Sea} {k : HTask} {b now : Int} (hp : RdP b now k) : RdP b now (htReady (h,a) m i t cl' se k).2.2.2 := by
  cases k with
  | rdg r => exact hp
  | _ => exact trivial
end
end Go.Proofs.YtegafhhdegnigaaGreat
end
