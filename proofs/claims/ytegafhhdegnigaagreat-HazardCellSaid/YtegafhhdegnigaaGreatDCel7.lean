/-
  HazardCell: calls by their points are a cell, along runs: a posting's step; all moves.
-/
import Derived.Test.YtegafhhdegnigaaGreatDCel5
set_option linter.all false
section
namespace Go.Proofs.YtegafhhdegnigaaGreat
open Go.RowKit Hp
set_option maxRecDepth 100000
set_option maxHeartbeats 2000000
attribute [local irreducible] Go.Calls
section
variable {c : Cfg} {n : Nat} {y y' : HW}
variable {pr : Int → Prop} {F : List Int} {t i : Nat} {cl : Cll} {se : Sea} {k : HTask} {Z Y : Int → Nat} {r1 : RT} {pr1 : Int → Prop} {F1 : List Int} {r2 : RT} {pr2 : Int → Prop} {F2 : List Int}
theorem pst_half {p : Pst} (P : PI c n y) (SO : StepO c n pr F y t i cl se (.pst p) Z Y r1 pr1 F1 r2 pr2 F2) :
  ((mv c r1.2.2.1).cell = (mv c y.m).cell ∧ ∀ s,(mv c r1.2.2.1).val s = (mv c y.m).val s) ∧
  ((r1.1 = true ∧ p.stage ≠ 4 ∧ r1.2.2.1.calls = y.m.calls.set i { cl with point := n } ∧ r1.2.2.1.seats = y.m.seats.set t { se with ready := true,kind := 4,value := 0 }) ∨
   (r1.1 = false ∧ ∃ p1,r1.2.2.2 = .pst p1 ∧ p1.value = p.value ∧ (p1.stage = 4 ↔ p.stage = 4) ∧ r1.2.2.1.calls = y.m.calls ∧ r1.2.2.1.seats = y.m.seats.set t { se with ready := true })) := by
 have hok := P.core.ok
 have hmvM : mv c (stepM y t i se) = mv c y.m := mv_same rfl
 rcases SO.rdy with ⟨hf,w⟩|⟨hf,w,_⟩
 ·obtain ⟨i1,i2,i3,i4⟩ := (SO.i0 : TI c t se.ready _ _ (.pst p))
  obtain ⟨_,s0,_⟩ := i4 hf
  have hO := pso_ready (t := t) (i := i) (a := y.s.2) (m := stepM y t i se) (cl := cl) (se := { se with ready := true }) hok s0
  have w : r1 = ((postReady y.s.2 (stepM y t i se) i t cl { se with ready := true } p).1,(y.s.1,(postReady y.s.2 (stepM y t i se) i t cl { se with ready := true } p).2.1),(postReady y.s.2 (stepM y t i se) i t cl { se with ready := true } p).2.2.1,.pst (postReady y.s.2 (stepM y t i se) i t cl { se with ready := true } p).2.2.2) := w
  generalize postReady y.s.2 (stepM y t i se) i t cl { se with ready := true } p = x at w hO
  obtain ⟨b,a2,m2,p1⟩ := x
  subst w
  cases hO with
  | on h1 h2 h3 h4 h5 h6 h7 =>
   simp only [] at h1 h2 h3 h4 h5 h6 h7 ⊢
   rw [hmvM] at h1 h2
   refine ⟨⟨h1,fun s => ?_⟩,.inr ⟨?_,p1,rfl,h5,?_,h3,h4⟩⟩
   ·rcases h2 s with e|⟨e,_⟩
    ·exact e
    ·omega
   ·cases b
    ·rfl
    ·have := h7 rfl;omega
   ·cases b
    ·exact h6 rfl
    ·have := h7 rfl;omega
  | full h0 h1 h2 h3 h4 h5 =>
   simp only [] at h0 h1 h2 h3 h4 h5 ⊢
   rw [hmvM] at h2 h3
   have hnow : (stepM y t i se).now = n := P.moves
   refine ⟨⟨h2,h3⟩,.inl ⟨h1,by omega,by rw [h4,hnow];rfl,?_⟩⟩
   rw [h5]
   show (y.m.seats.set t _).set t _ = _
   rw [List.set_set]
  | post h0 => omega
 ·subst w
  exact ⟨⟨by rw [hmvM],fun s => by rw [hmvM]⟩,.inr ⟨rfl,p,rfl,rfl,Iff.rfl,rfl,rfl⟩⟩
theorem pst_prot {p p1 : Pst} (P : PI c n y) (D : DI c pr F n y) (SO : StepO c n pr F y t i cl se (.pst p) Z Y r1 pr1 F1 r2 pr2 F2) (hb : r1.1 = false) (hp : r1.2.2.2 = .pst p1) (h1 : p1.stage = 1) (hc : (mv c r1.2.2.1).cell = (mv c y.m).cell) (h0 : 0 ≤ p1.link - 1) :
  (∀ (t' : Nat) (r' : Rdg),t' ≠ t → y.tasks[t']? = some (some (.rdg r')) → r'.stage = 3 → r'.w - 1 ≠ p1.link - 1) ∧ ((mv c y.m).cell ≠ 0 → (mv c y.m).cell - 1 ≠ p1.link - 1) := by
 have hok := P.core.ok
 have hT := SO.h1.td hb
 rw [hp] at hT
 have hsl : (rsx pr1 c r1).sl (p1.link - 1) = ⟨2,(t : Int)⟩ := hT.own _ (by simp only [hO];rw [if_pos (.inl h1)];simp)
 refine ⟨fun t' r' hj hk h3 e => ?_,fun h e => ?_⟩
 ·have hx0 : sx pr c y.s.1 y.s.2 (stepM y t i se) = sx pr c y.s.1 y.s.2 y.m := sx_words rfl
  obtain ⟨o1,_,o3⟩ := (D.td t' _ hk).rd r' rfl
  obtain ⟨o3,o4⟩ := o3 h3
  rw [← hx0] at o1 o3 o4
  have hn : ¬ OwW c t (sx pr c y.s.1 y.s.2 (stepM y t i se)) (stepM y t i se).mem.log r1.2.2.1.mem.log (r'.addr - base c 9) := fun h => hj (own_two SO.g0 hok h.1 o1)
  obtain ⟨a1,a2⟩ := SO.rl1.hz _ hn
  obtain ⟨_,_,g3⟩ := SO.h1.gd.pr1 _ (a2 o3)
  rw [a1,o4,e,hsl] at g3
  simp only [] at g3
  omega
 ·have := SO.h1.gd.stX (p1.link - 1) h0 (by show (mv c r1.2.2.1).cell = _;omega)
  rw [hsl] at this
  simp only [] at this
  omega
theorem celJ_pst {p : Pst} (P : PI c n y) (R : RunOk c n y) (D : DI c pr F n y) (J : CelJ c n y) (SO : StepO c n pr F y t i cl se (.pst p) Z Y r1 pr1 F1 r2 pr2 F2) (hop : cl.op = 22) : CelJ c ((n + 1 : Nat) : Int) (stepY y t i r2) := by
 have hok := P.core.ok
 obtain ⟨z,q,v,c1,c2,c3,c4,c5,c6⟩ := SO.call
 have hlt := (List.getElem?_eq_some_iff.1 SO.hc).1
 have hst := (List.getElem?_eq_some_iff.1 SO.hse).1
 have htk := (List.getElem?_eq_some_iff.1 SO.hk).1
 obtain ⟨T,_⟩ := J.tk t i _ se cl SO.hk SO.hse SO.hl SO.hc
 obtain ⟨T1,T2,T3,T4⟩ := T p rfl
 have hOc : IsO cl := .inl hop
 have hcl := R.cl cl (List.mem_of_getElem? SO.hc)
 have hk0 : cl.kind = 0 ∧ cl.value = 0 := by
  have h0 := hcl.b0
  have h1 := SO.end_
  rcases hcl.e with ⟨_,h,h'⟩|⟨h,_⟩
  ·exact ⟨h,h'⟩
  ·omega
 obtain ⟨hk0,hv0⟩ := hk0
 have hpl := pt_lt R (List.mem_of_getElem? SO.hc)
 have e1 : ((n + 1 : Nat) : Int) = (n : Int) + 1 := by omega
 have fresh : ∀ w : Int,w = n → ((∀ z ∈ y.m.calls,IsO z → z.point ≠ w) ∧ ∀ (t' : Nat) (r' : Rdg),t' ≠ t → y.tasks[t']? = some (some (.rdg r')) → r'.stage = 3 → r'.point ≠ w) := fun w hw =>
  ⟨fun x hx _ => by have := pt_lt R hx;omega,fun t' r2 _ g1 g2 => by have := (J.pnd P R g1 g2).2.1;omega⟩
 have hself : ∀ k',(stepY y t i r2).tasks[t]? = some (some k') → r2.1 = false ∧ k' = r2.2.2.2 := by
  intro k' h
  simp only [stepY] at h
  rw [List.getElem?_set_self htk] at h
  split at h
  ·cases h
  ·rename_i hb
   cases h;exact ⟨by simpa using hb,rfl⟩
 have core : ∀ cl' : Cll,(stepY y t i r2).m.calls = y.m.calls.set i cl' → cl'.op = cl.op → cl'.arg = cl.arg →
   (∀ (t' : Nat) (r' : Rdg),t' ≠ t → y.tasks[t']? = some (some (.rdg r')) → r'.stage = 3 → (mv c r2.2.2.1).val (r'.w - 1) = (mv c y.m).val (r'.w - 1)) →
   cl'.point ≤ n → (0 ≤ cl'.end_ → 0 ≤ cl'.point) → (cl'.point = cl.point ∨ cl'.point = n) → ((IsP cl' ∧ IsP cl ∧ cl'.point = cl.point) ∨ (¬ IsP cl ∧ (¬ IsP cl' ∨ cl'.point = n))) →
   (0 ≤ cl'.point → (cl'.kind = 0 ∨ cl'.kind = 1 ∨ cl'.kind = 4) ∧ cl'.value = 0) → CellAt (y.m.calls.set i cl') ((n : Int) + 1) (cellV (mv c r2.2.2.1)) →
   (r2.1 = false → ∃ p2,r2.2.2.2 = .pst p2 ∧ p2.value = p.value ∧ q = 1 ∧ v = 0 ∧ (p2.stage = 4 ∧ 0 ≤ cl'.point ∨ p2.stage ≠ 4 ∧ cl'.point = -1)) → CelJ c ((n + 1 : Nat) : Int) (stepY y t i r2) := by
  intro cl' d1 d2 d3 d4 d5 d6 d7 d8 d9 d10 d11
  refine J.next (t := t) R SO.hc d1 d2 d3 (fun t' i' k' se' cl2 hj h1 h2 h3 h4 => SO.other R hj h1 h2 h3 h4) (fun t' k' hj h => by simp only [stepY] at h;rw [set_ne hj] at h;exact h) (fun k' se' h1 h2 => by rw [hop];exact SO.self h1 h2) (fun t' r' hj g1 g2 => by rw [c6];exact d4 t' r' hj g1 g2)
   d5 (fun _ => d6) (fun _ => d7.imp_right (fresh _)) d8 (fun h => by omega) (fun _ => d9) (by rw [e1,d1,c6];exact d10) ?_ ?_
  ·intro k' se' cl2 i' h1 h2 h3 h4
   obtain ⟨hb,rfl⟩ := hself k' h1
   obtain ⟨p2,f1,f2,f3,f4,f5⟩ := d11 hb
   have hse' : se' = { se with ready := true,kind := q,value := v } := by
    rw [(c5 hb).2,List.getElem?_set_self hst] at h2
    cases h2;rfl
   subst hse'
   have hi : i' = i := by
    have h3 : se.last = (i' : Int) := h3
    have := SO.hl;omega
   subst hi
   have hcl2 : cl2 = cl' := by
    rw [d1,List.getElem?_set_self hlt] at h4
    cases h4;rfl
   subst hcl2
   refine ⟨fun p3 hp => ?_,fun r hr => (by rw [f1] at hr;cases hr)⟩
   rw [f1] at hp;cases hp
   exact ⟨by rw [d3,f2];exact T1,f3,f4,f5⟩
  ·intro r3 t' r4 hj h1 h3 h4 h5
   obtain ⟨hb,hk⟩ := hself _ h1
   obtain ⟨p2,f1,_⟩ := d11 hb
   rw [f1] at hk;cases hk
 have hnow := CellAt.next J.now fun x hx _ => pt_lt R hx
 have hsame : ∀ {m2 : Mch},m2.calls = y.m.calls → m2 = r2.2.2.1 → z = cl.point := by
  intro m2 h2 hm
  subst hm
  rw [c1] at h2
  have h3 : (y.m.calls.set i { cl with point := z })[i]? = y.m.calls[i]? := by rw [h2]
  rw [List.getElem?_set_self hlt,SO.hc] at h3
  injection h3 with h3
  rw [← h3]
 
 have ended : r2.1 = true → z = n → q = 4 → v = 0 → p.stage ≠ 4 → (mv c r2.2.2.1).cell = (mv c y.m).cell → (∀ s,(mv c r2.2.2.1).val s = (mv c y.m).val s) → CelJ c ((n + 1 : Nat) : Int) (stepY y t i r2) := by
  intro hb hz hq hv hs m1 m2
  have hP : ¬ IsP cl := fun h => by have := h.2.2;omega
  have hP' : ¬ IsP { cl with point := z,end_ := y.m.moves,kind := q,value := v } := fun h => h.2.1 hq
  refine core _ (c4 hb) rfl rfl (fun _ _ _ _ _ => m2 _) (by show z ≤ _;omega) (fun _ => by show 0 ≤ z;omega) (.inr hz) (.inr ⟨hP,.inl hP'⟩) (fun _ => ⟨.inr (.inr hq),hv⟩) ?_ (fun h => by rw [hb] at h;cases h)
  rw [cellV_eq m1 (fun _ => m2 _)]
  exact hnow.set SO.hc (.inr ⟨hP,.inl hP'⟩)
 obtain ⟨⟨m1,m2⟩,hh⟩ := pst_half P SO
 rcases hh with ⟨b1,b2,b3,b4⟩|⟨b1,p1,b2,b3,b4,b5,b6⟩
 ·rcases SO.stp with ⟨_,w,_⟩|⟨w,_⟩
  ·subst w
   rw [c1] at b3
   rw [c3] at b4
   obtain ⟨g1,g2⟩ := set_kind hst b4
   exact ended b1 (set_point hlt b3) g1 g2 b2 m1 m2
  ·rw [b1] at w;cases w
 ·rcases SO.stp with ⟨w,_⟩|⟨_,w⟩
  ·rw [b1] at w;cases w
  have hti := SO.h1.ti b1
  rw [b2] at hti
  have I : PoI c p1 := hti.2.2.1 rfl
  have hC : getC r1.2.2.1 i = cl := getC_of (by rw [b5];exact SO.hc)
  have hS : getS r1.2.2.1 t = { se with ready := true } := getS_of (by rw [b6,List.getElem?_set_self hst])
  have hO := pso_post (i := i) (t := t) (cl := cl) (se := { se with ready := true }) SO.h1.core I
  rw [b2,hC,hS] at w
  have w : r2 = ((postStep r1.2.1.1 r1.2.1.2 r1.2.2.1 i t cl { se with ready := true } p1).1,((postStep r1.2.1.1 r1.2.1.2 r1.2.2.1 i t cl { se with ready := true } p1).2.1,(postStep r1.2.1.1 r1.2.1.2 r1.2.2.1 i t cl { se with ready := true } p1).2.2.1),(postStep r1.2.1.1 r1.2.1.2 r1.2.2.1 i t cl { se with ready := true } p1).2.2.2.1,.pst (postStep r1.2.1.1 r1.2.1.2 r1.2.2.1 i t cl { se with ready := true } p1).2.2.2.2) := w
  generalize postStep r1.2.1.1 r1.2.1.2 r1.2.2.1 i t cl { se with ready := true } p1 = x at w hO
  obtain ⟨b,h2,a2,m3,p2⟩ := x
  simp only [] at w hO
  have hr3 : r2.2.2.1 = m3 := by rw [w]
  have hr4 : r2.1 = b := by rw [w]
  have hr5 : r2.2.2.2 = .pst p2 := by rw [w]
  rw [hr3] at c1 c3
  have hnw : r1.2.2.1.now = n := SO.h1.now
  cases hO with
  | on h1 h2 h3 h4 h5 h6 h7 =>
   rw [b5] at h3
   rw [b6,c3] at h4
   have hz := hsame h3 hr3.symm
   obtain ⟨hq,hv⟩ : q = se.kind ∧ v = se.value := set_kind (a := q) (b := se.kind) (u := v) (v := se.value) hst h4
   have hval : (∀ (t' : Nat) (r' : Rdg),t' ≠ t → y.tasks[t']? = some (some (.rdg r')) → r'.stage = 3 → (mv c m3).val (r'.w - 1) = (mv c y.m).val (r'.w - 1)) ∧ ((mv c y.m).cell ≠ 0 → (mv c m3).val ((mv c y.m).cell - 1) = (mv c y.m).val ((mv c y.m).cell - 1)) := by
    by_cases s1 : p1.stage = 1
    ·obtain ⟨k1,k2,k3,k4⟩ := I.take
     have hlk := (k4 (.inl s1))
     obtain ⟨f1,f2⟩ := pst_prot P D SO b1 b2 s1 m1 (by omega)
     refine ⟨fun t' r' hj g1 g2 => ?_,fun hc => ?_⟩
     ·rcases h2 (r'.w - 1) with e|⟨_,e⟩
      ·rw [e,m2]
      ·exact absurd e (f1 t' r' hj g1 g2)
     ·rcases h2 ((mv c y.m).cell - 1) with e|⟨_,e⟩
      ·rw [e,m2]
      ·exact absurd e (f2 hc)
    ·have hh : ∀ s,(mv c m3).val s = (mv c y.m).val s := fun s => by
      rcases h2 s with e|⟨e,_⟩
      ·rw [e,m2]
      ·exact absurd e s1
     exact ⟨fun _ _ _ _ _ => hh _,fun _ => hh _⟩
   have hcv : cellV (mv c m3) = cellV (mv c y.m) := cellV_eq (h1.trans m1) hval.2
   cases b with
   | false =>
    have h6 := h6 rfl
    have hP : IsP { cl with point := z } ↔ IsP cl := by unfold IsP;rw [hz]
    refine core _ (c5 hr4).1 rfl rfl (by rw [hr3];exact hval.1) (by show z ≤ _;omega) (fun h => by have h : 0 ≤ cl.end_ := h;have := SO.end_;omega) (.inl hz) ?_ (fun _ => ⟨.inl hk0,hv0⟩) ?_ (fun _ => ⟨p2,hr5,h5.trans b3,by omega,by omega,?_⟩)
    ·by_cases e : IsP cl
     ·exact .inl ⟨hP.2 e,e,hz⟩
     ·exact .inr ⟨e,.inl fun h => e (hP.1 h)⟩
    ·rw [hr3,hcv]
     refine hnow.set SO.hc ?_
     by_cases e : IsP cl
     ·exact .inl ⟨hP.2 e,e,hz,rfl⟩
     ·exact .inr ⟨e,.inl fun h => e (hP.1 h)⟩
    ·show p2.stage = 4 ∧ 0 ≤ z ∨ p2.stage ≠ 4 ∧ z = -1
     omega
   | true =>
    have s4 := h7 rfl
    have hp0 : 0 ≤ cl.point := by omega
    have hP : IsP cl := ⟨hop,by omega,hp0⟩
    have hP' : IsP { cl with point := z,end_ := y.m.moves,kind := q,value := v } := ⟨hop,by show q ≠ 4;omega,by show 0 ≤ z;omega⟩
    refine core _ (c4 hr4) rfl rfl (by rw [hr3];exact hval.1) (by show z ≤ _;omega) (fun _ => by show 0 ≤ z;omega) (.inl hz) (.inl ⟨hP',hP,hz⟩) (fun _ => ⟨.inr (.inl (by show q = 1;omega)),by show v = 0;omega⟩) ?_ (fun h => by rw [hr4] at h;cases h)
    rw [hr3,hcv]
    exact hnow.set SO.hc (.inl ⟨hP',hP,hz,rfl⟩)
  | full h0 h1 h2 h3 h4 h5 =>
   rw [b5,c1,hnw] at h4
   rw [b6,c3,List.set_set] at h5
   obtain ⟨g1,g2⟩ := set_kind hst h5
   exact ended (hr4.trans h1) (set_point hlt h4) g1 g2 (by omega) (by rw [hr3];exact h2.trans m1) (fun s => by rw [hr3];exact (h3 s).trans (m2 s))
  | post h0 h2 h3 h4 h5 h6 h7 =>
   rw [b5,c1,hnw] at h4
   rw [b6,c3,List.set_set] at h5
   obtain ⟨hq,hv⟩ := set_kind hst h5
   have hz := set_point hlt h4
   have hT := SO.h1.td b1
   rw [b2] at hT
   have hvv : (mv c r1.2.2.1).val (p1.link - 1) = p1.value % 18446744073709551616 := hT.val p1 rfl (.inr h0)
   obtain ⟨k1,k2,k3,k4⟩ := I.take
   have hlk := (k4 (.inr (.inr h0)))
   have hcv : cellV (mv c m3) = some (wrap64 cl.arg) := by
    unfold cellV
    rw [h2,if_neg (by omega),h3,hvv,wrap64_mod,T1,b3]
   have hP : ¬ IsP cl := fun h => by have := h.2.2;omega
   have hval : ∀ s,(mv c r2.2.2.1).val s = (mv c y.m).val s := fun s => by rw [hr3];exact (h3 s).trans (m2 s)
   cases b with
   | false =>
    have hP' : IsP { cl with point := z } := ⟨hop,by show cl.kind ≠ 4;omega,by show 0 ≤ z;omega⟩
    refine core _ (c5 hr4).1 rfl rfl (fun _ _ _ _ _ => hval _) (by show z ≤ _;omega) (fun h => by show 0 ≤ z;omega) (.inr hz) (.inr ⟨hP,.inr hz⟩) (fun _ => ⟨.inl hk0,hv0⟩) ?_ (fun _ => ⟨p2,hr5,h6.trans b3,hq,hv,.inl ⟨h7 rfl,by show 0 ≤ z;omega⟩⟩)
    rw [hr3,hcv]
    exact CellAt.post (cl' := { cl with point := z }) SO.hc hP' hz fun x hx _ => pt_lt R hx
   | true =>
    have hP' : IsP { cl with point := z,end_ := y.m.moves,kind := q,value := v } := ⟨hop,by show q ≠ 4;omega,by show 0 ≤ z;omega⟩
    refine core _ (c4 hr4) rfl rfl (fun _ _ _ _ _ => hval _) (by show z ≤ _;omega) (fun _ => by show 0 ≤ z;omega) (.inr hz) (.inr ⟨hP,.inr hz⟩) (fun _ => ⟨.inr (.inl hq),hv⟩) ?_ (fun h => by rw [hr4] at h;cases h)
    rw [hr3,hcv]
    exact CellAt.post (cl' := { cl with point := z,end_ := y.m.moves,kind := q,value := v }) SO.hc hP' hz fun x hx _ => pt_lt R hx
end
theorem celJ_ok (c : Cfg) (hok : c.Ok) : JOk2 c (fun n _ y => CelJ c n y) := by
 refine ⟨fun km vs => ?_,fun n pr y hn P R D J => celJ_tick R J,
  fun n pr y mv t k v vc hn P R D J ht htT hop hk hK hmk => celJ_beg P R J ht hk hK hmk,
  fun n pr F y t i cl se k Z Y r1 pr1 F1 r2 pr2 F2 hn P R D SO R' J => ?_⟩
 ·obtain ⟨w1,w2,_⟩ := mv0 hok (m := (wst0 c km vs).m) rfl
  have hno : ∀ (t : Nat) (k : HTask),(wst0 c km vs).tasks[t]? ≠ some (some k) := by
   intro t k hk
   have hk : (List.replicate c.T.toNat (none : Option HTask))[t]? = some (some k) := hk
   have := (List.mem_replicate.1 (List.mem_of_getElem? hk)).2
   cases this
  have hnc : ∀ x,x ∉ (wst0 c km vs).m.calls := fun x hx => by
   have hx : x ∈ ([] : List Cll) := hx
   simp at hx
  refine ⟨fun x hx => absurd hx (hnc x),fun x hx => absurd hx (hnc x),fun i j x z _ hx => absurd (List.mem_of_getElem? hx) (hnc x),fun x hx => absurd hx (hnc x),fun x hx => absurd hx (hnc x),?_,fun t i k se cl hk => absurd hk (hno t k),fun t i k se cl hk => absurd hk (hno t k),fun t t' r r' _ hk => absurd hk (hno t _)⟩
  unfold cellV
  rw [if_pos w2]
  exact fun x hx => absurd hx (hnc x)
 ·have hop := J.top t i k se cl SO.hk SO.hse SO.hl SO.hc
  cases k with
  | pst p => exact celJ_pst P R D J SO hop
  | rdg r => exact celJ_rdg P R J SO hop
  | reg r => exact celJ_oth P R J SO hop (by simp [kd]) (by simp [kd])
  | unr r => exact celJ_oth P R J SO hop (by simp [kd]) (by simp [kd])
  | clr r => exact celJ_oth P R J SO hop (by simp [kd]) (by simp [kd])
  | scn r => exact celJ_oth P R J SO hop (by simp [kd]) (by simp [kd])
end Go.Proofs.YtegafhhdegnigaaGreat
end
/-
  HazardCell: calls by their points are a cell: what the walk wants to know.
-/
section
namespace Go.Proofs.YtegafhhdegnigaaGreat
open Go.RowKit Hp
set_option maxRecDepth 100000
set_option maxHeartbeats 1000000
attribute [local irreducible] Go.Calls
def opB (x : Cll) : Bool := decide ((x.op = 22 ∨ x.op = 23) ∧ 0 ≤ x.point)
def nextO (o : Option Int) (x : Cll) : Option Int := if x.op = 22 ∧ x.kind ≠ 4 then some x.arg else o
def OkO (o : Option Int) (x : Cll) : Prop := (x.op = 22 ∧ (x.kind = 0 ∨ x.kind = 1 ∨ x.kind = 4) ∧ x.value = 0) ∨ (x.op = 23 ∧ ((x.kind = 3 ∧ x.value = 0 ∧ o = none) ∨ (x.kind = 2 ∧ o = some x.value)))
def runO (o : Option Int) (l : List Cll) : Option Int := l.foldl nextO o
def PlayOk : Option Int → List Cll → Prop
 | _,[] => True
 | o,x :: r => OkO o x ∧ PlayOk (nextO o x) r
abbrev SrtP (l : List Cll) : Prop := l.Pairwise (fun a b => a.point ≤ b.point)
theorem runO_app (o : Option Int) (a b : List Cll) : runO o (a ++ b) = runO (runO o a) b := List.foldl_append ..
theorem playOk_split : ∀ {l : List Cll} {o : Option Int},(∀ pre x post,l = pre ++ x :: post → OkO (runO o pre) x) → PlayOk o l
 | [],_,_ => trivial
 | x :: r,o,h => ⟨h [] x r rfl,playOk_split fun pre z post e => h (x :: pre) z post (by rw [e];rfl)⟩
theorem CellAt.one {cs : List Cll} {p : Int} {a b : Option Int} (hu : ∀ (i j : Nat) (x z : Cll),i ≠ j → cs[i]? = some x → cs[j]? = some z → IsO x → IsO z → 0 ≤ x.point → x.point ≠ z.point) (h1 : CellAt cs p a) (h2 : CellAt cs p b) : a = b := by
 cases a with
 | none =>
  cases b with
  | none => rfl
  | some v =>
   obtain ⟨x,x1,x2,x3,_⟩ := h2
   have := h1 x x1 x2;omega
 | some u =>
  obtain ⟨x,x1,x2,x3,x4,x5⟩ := h1
  cases b with
  | none => have := h2 x x1 x2;omega
  | some v =>
   obtain ⟨z,z1,z2,z3,z4,z5⟩ := h2
   have e : x.point = z.point := by have := x5 z z1 z2 z3;have := z5 x x1 x2 x3;omega
   obtain ⟨i,hi⟩ := List.getElem?_of_mem x1
   obtain ⟨j,hj⟩ := List.getElem?_of_mem z1
   by_cases hij : i = j
   ·subst hij
    rw [hi] at hj;cases hj
    rw [← x4,← z4]
   ·exact absurd e (hu i j x z hij hi hj (.inl x2.1) (.inl z2.1) x2.2.2)
theorem run_cell {cs l : List Cll} (hm : ∀ x,x ∈ l ↔ x ∈ cs ∧ opB x = true) (hs : SrtP l) (ha : ∀ x ∈ cs,wrap64 x.arg = x.arg) {p : Int} : ∀ (pre post : List Cll),l = pre ++ post → (∀ z ∈ pre,z.point < p) → (∀ z ∈ post,IsP z → p ≤ z.point) → CellAt cs p (runO none pre) := by
 have hin : ∀ {z : Cll},z ∈ cs → IsP z → z ∈ l := fun h1 h2 => (hm _).2 ⟨h1,by unfold opB;simp only [decide_eq_true_eq];exact ⟨.inl h2.1,h2.2.2⟩⟩
 intro pre
 induction hn : pre.length generalizing pre with
 | zero =>
  intro post e _ h2
  have : pre = [] := List.length_eq_zero_iff.1 hn
  subst this
  intro x hx hp
  have := hin hx hp
  rw [e] at this
  exact h2 x (by simpa using this) hp
 | succ n ih =>
  intro post e h1 h2
  obtain ⟨q,x,rfl⟩ : ∃ q x,pre = q ++ [x] := ⟨pre.dropLast,pre.getLast (fun h => by rw [h] at hn;cases hn),(List.dropLast_concat_getLast _).symm⟩
  have hx : x ∈ cs ∧ opB x = true := (hm x).1 (by rw [e];simp)
  rw [runO_app]
  show CellAt cs p (nextO (runO none q) x)
  unfold nextO
  split
  ·rename_i h
   have hp : IsP x := ⟨h.1,h.2,by have := hx.2;unfold opB at this;simp only [decide_eq_true_eq] at this;exact this.2⟩
   refine ⟨x,hx.1,hp,h1 x (by simp),ha x hx.1,fun z hz hzp hl => ?_⟩
   have hzl := hin hz hzp
   rw [e] at hzl
   rcases List.mem_append.1 hzl with h3|h3
   ·rcases List.mem_append.1 h3 with h4|h4
    ·have : (q ++ ([x] ++ post)).Pairwise (fun a b : Cll => a.point ≤ b.point) := by rw [← List.append_assoc,← e];exact hs
     rw [List.pairwise_append] at this
     exact this.2.2 z h4 x (by simp)
    ·simp at h4;subst h4;exact Int.le_refl _
   ·have := h2 z h3 hzp;omega
  ·rename_i h
   have hp : ¬ IsP x := fun hp => h ⟨hp.1,hp.2.1⟩
   refine ih q (by simpa using hn) (x :: post) (by rw [e];simp) (fun z hz => h1 z (by simp [hz])) (fun z hz hzp => ?_)
   rcases List.mem_cons.1 hz with rfl|hz
   ·exact absurd hzp hp
   ·exact h2 z hz hzp
structure CelQ (cs : List Cll) (o : Option Int) : Prop where
 op : ∀ x ∈ cs,20 ≤ x.op ∧ x.op ≤ 25
 fine : ∀ x ∈ cs,x.op = 22 ∨ x.op = 23 → (x.end_ ≥ 0 → 0 ≤ x.point) ∧ (0 ≤ x.point → x.begin_ < x.point ∧ (x.end_ ≥ 0 → x.point ≤ x.end_))
 play : ∀ l : List Cll,l.Perm (cs.filter opB) → SrtP l → l.Pairwise (fun a b => a.point < b.point) ∧ PlayOk none l ∧ runO none l = o
theorem pw_ne {cs : List Cll} (hu : ∀ (i j : Nat) (x z : Cll),i ≠ j → cs[i]? = some x → cs[j]? = some z → IsO x → IsO z → 0 ≤ x.point → x.point ≠ z.point) : (cs.filter opB).Pairwise (fun a b => a.point ≠ b.point) := by
 have h0 : cs.Pairwise (fun a b => opB a = true → opB b = true → a.point ≠ b.point) := by
  rw [List.pairwise_iff_getElem]
  intro i j hi hj hij h1 h2
  unfold opB at h1 h2
  simp only [decide_eq_true_eq] at h1 h2
  exact hu i j _ _ (by omega) (List.getElem?_eq_getElem hi) (List.getElem?_eq_getElem hj) h1.1 h2.1 h1.2
 rw [List.pairwise_filter]
 exact h0
theorem celQ {c : Cfg} {n : Nat} {y : HW} (R : RunOk c n y) (J : CelJ c n y) (ha : ∀ x ∈ y.m.calls,wrap64 x.arg = x.arg) : CelQ y.m.calls (cellV (mv c y.m)) := by
 refine ⟨J.op,fun x hx ho => ?_,fun l hl hs => ?_⟩
 ·have h1 := J.fin x hx ho
  have h2 := (R.cl x hx).p
  have h3 := (R.cl x hx).e
  omega
 ·have hm : ∀ x,x ∈ l ↔ x ∈ y.m.calls ∧ opB x = true := fun x => by rw [hl.mem_iff,List.mem_filter]
  have hstrict : l.Pairwise (fun a b => a.point < b.point) := by
   have h1 : l.Pairwise (fun a b => a.point ≠ b.point) := (hl.pairwise_iff (fun h e => h e.symm)).2 (pw_ne J.uniq)
   exact (hs.and h1).imp fun ⟨h,h'⟩ => by omega
  have hpt : ∀ x ∈ l,(x.op = 22 ∨ x.op = 23) ∧ 0 ≤ x.point := fun x hx => by
   have := ((hm x).1 hx).2
   unfold opB at this
   simpa only [decide_eq_true_eq] using this
  refine ⟨hstrict,playOk_split fun pre x post e => ?_,?_⟩
  ·have hxl : x ∈ l := by rw [e];simp
   have hx := ((hm x).1 hxl).1
   obtain ⟨ho,h0⟩ := hpt x hxl
   have hst := hstrict
   rw [e,List.pairwise_append] at hst
   obtain ⟨_,hst2,hst3⟩ := hst
   have hC : CellAt y.m.calls x.point (runO none pre) := run_cell hm hs ha pre (x :: post) e (fun z hz => hst3 z hz x (by simp)) (fun z hz _ => by
    rcases List.mem_cons.1 hz with rfl|hz
    ·exact Int.le_refl _
    ·have := (List.pairwise_cons.1 hst2).1 z hz;omega)
   rcases ho with ho|ho
   ·exact .inl ⟨ho,J.ps x hx ho h0⟩
   ·rcases J.rd x hx ho h0 with ⟨a,b,d⟩|⟨a,d⟩
    ·exact .inr ⟨ho,.inl ⟨a,b,CellAt.one J.uniq hC d⟩⟩
    ·exact .inr ⟨ho,.inr ⟨a,CellAt.one J.uniq hC d⟩⟩
  ·exact CellAt.one J.uniq (run_cell hm hs ha l [] (by simp) (fun z hz => pt_lt R ((hm z).1 hz).1) (fun z hz => by simp at hz)) J.now
theorem ins_perm (L : List Cll) (x : Cll) (a : Nat) : (L.take a ++ x :: L.drop a).Perm (L ++ [x]) := by
 have h : (L.take a ++ x :: L.drop a).Perm (x :: (L.take a ++ L.drop a)) := List.perm_middle
 rw [List.take_append_drop] at h
 exact h.trans (List.perm_append_singleton x L).symm
theorem ins_sorted {L : List Cll} {x : Cll} {a : Nat} (hs : SrtP L) (h1 : ∀ z ∈ L.drop a,x.point < z.point) (h2 : ∀ z ∈ L.take a,z.point ≤ x.point) : SrtP (L.take a ++ x :: L.drop a) := by
 unfold SrtP
 rw [List.pairwise_append]
 refine ⟨hs.sublist (List.take_sublist ..),List.pairwise_cons.2 ⟨fun z hz => by have := h1 z hz;omega,hs.sublist (List.drop_sublist ..)⟩,fun u hu v hv => ?_⟩
 have := h2 u hu
 rcases List.mem_cons.1 hv with rfl|hv
 ·exact this
 ·have := h1 v hv;omega
theorem ins_le {L : List Cll} {x u : Cll} {a : Nat} (hs : SrtP L) (hu : L[a]? = some u) (h : u.point ≤ x.point) : ∀ z ∈ L.take (a + 1),z.point ≤ x.point := by
 intro z hz
 obtain ⟨j,hj⟩ := List.getElem?_of_mem hz
 have hja := (List.getElem?_eq_some_iff.1 hj).1
 simp only [List.length_take] at hja
 rw [List.getElem?_take,if_pos (by omega)] at hj
 by_cases e : j = a
 ·subst e
  rw [hu] at hj;cases hj;exact h
 ·obtain ⟨q1,q2⟩ := List.getElem?_eq_some_iff.1 hj
  obtain ⟨q3,q4⟩ := List.getElem?_eq_some_iff.1 hu
  have := (List.pairwise_iff_getElem.1 hs) j a q1 q3 (by omega)
  rw [q2,q4] at this
  omega
theorem ins_shift {L : List Cll} {u z : Cll} {a : Nat} (hu : L[a]? = some u) : (L.take (a + 1) ++ z :: L.drop (a + 1)).set (a + 1) u = L.take a ++ u :: L.drop a := by
 obtain ⟨q1,q2⟩ := List.getElem?_eq_some_iff.1 hu
 have hl : (L.take (a + 1)).length = a + 1 := by simp;omega
 rw [List.set_append_right _ _ (by omega),hl,Nat.sub_self,Uz,List.drop_eq_getElem_cons q1,q2,List.take_add_one,hu]
 simp
theorem ins_put {L : List Cll} {x z : Cll} {a : Nat} (ha : a ≤ L.length) : (L.take a ++ z :: L.drop a).set a x = L.take a ++ x :: L.drop a := by
 have hl : (L.take a).length = a := by simp;omega
 rw [List.set_append_right _ _ (by omega),hl,Nat.sub_self,Uz]
theorem ins_len {L : List Cll} {z : Cll} {a : Nat} : (L.take a ++ z :: L.drop a).length = L.length + 1 := by
 have : (L.take a ++ z :: L.drop a).length = (L.take a).length + ((L.drop a).length + 1) := by simp
 rw [this,List.length_take,List.length_drop];omega
theorem ins_get {L : List Cll} {u z : Cll} {a : Nat} (hu : L[a]? = some u) : (L.take (a + 1) ++ z :: L.drop (a + 1))[a]? = some u := by
 obtain ⟨q1,q2⟩ := List.getElem?_eq_some_iff.1 hu
 rw [List.getElem?_append_left (by simp;omega),List.getElem?_take,if_pos (by omega),hu]
theorem ins_drop {L : List Cll} {x u : Cll} {a : Nat} (hu : L[a]? = some u) (hlt : x.point < u.point) (h1 : ∀ z ∈ L.drop (a + 1),x.point < z.point) : ∀ z ∈ L.drop a,x.point < z.point := by
 obtain ⟨q1,q2⟩ := List.getElem?_eq_some_iff.1 hu
 intro z hz
 rw [List.drop_eq_getElem_cons q1,q2] at hz
 rcases List.mem_cons.1 hz with rfl|hz
 ·exact hlt
 ·exact h1 z hz
theorem filt_yes {cs : List Cll} {k : Nat} {x : Cll} (hx : cs[k]? = some x) (h : opB x = true) : (cs.take (k + 1)).filter opB = (cs.take k).filter opB ++ [x] := by
 rw [List.take_add_one,hx,List.filter_append]
 simp [h]
theorem filt_no {cs : List Cll} {k : Nat} {x : Cll} (hx : cs[k]? = some x) (h : opB x = false) : (cs.take (k + 1)).filter opB = (cs.take k).filter opB := by
 rw [List.take_add_one,hx,List.filter_append]
 simp [h]
end Go.Proofs.YtegafhhdegnigaaGreat
end
