/-
  HazardLists, the plain law: along every run the lists are as long as they may be.
-/
import Derived.Test.YtegafhhdegnigaaGreatLLst2
import Derived.Test.YtegafhhdegnigaaGreatLLsw
set_option linter.all false
section
namespace Go.Proofs.YtegafhhdegnigaaGreat
open Go.RowKit Hp
set_option maxRecDepth 100000
set_option maxHeartbeats 1000000
attribute [local irreducible] Go.Calls
structure LenJ (c : Cfg) (n : Nat) (y : HW) : Prop where
 un : LqS c y.s.1 y.m
 th : ∀ (t : Nat) (r : Int),y.s.1.held[t]? = some r → 0 ≤ r → (y.tasks[t]? = some none → ll y.s.1 r < Bt c) ∧ ∀ k se,y.tasks[t]? = some (some k) → y.m.seats[t]? = some se → LenT c se.ready (ll y.s.1 r) (zr c y.m r) k
 sc : ∀ x ∈ y.m.calls,x.op = 25 → x.end_ + 1 = n → ∀ (t : Nat) (r : Int),x.thread = (t : Int) → y.s.1.held[t]? = some r → 0 ≤ r → ll y.s.1 r ≤ Am c
 se : ∀ (t : Nat) (s : Sea),y.m.seats[t]? = some s → s.last < 0 ∨ ∃ (i : Nat) (x : Cll),s.last = (i : Int) ∧ y.m.calls[i]? = some x ∧ x.thread = (t : Int)
section
variable {c : Cfg} {n : Nat} {y y' : HW}
theorem LenT.mono {b : Bool} {l : Int} {Z Z' : Int → Prop} {k : HTask} (h : LenT c b l Z k) (hz : ∀ q,0 ≤ q → q < c.Hz → Z q → Z' q) (hu : ∀ u,k = .unr u → u.stage = 0 → u.k ≤ c.Hz) : LenT c b l Z' k := by
 cases k with
 | unr u =>
  obtain ⟨h1,h2,h3⟩ := h
  refine ⟨fun hs => ⟨(h1 hs).1,fun q q0 q1 => hz q q0 (by have := hu u rfl hs;omega) ((h1 hs).2 q q0 q1)⟩,fun hs => ⟨(h2 hs).1,fun q q0 q1 => hz q q0 q1 ((h2 hs).2 q q0 q1)⟩,fun hs => ⟨(h3 hs).1,fun q q0 q1 => hz q q0 q1 ((h3 hs).2 q q0 q1)⟩⟩
 | reg r => exact h
 | pst p => exact h
 | rdg r => exact h
 | clr ad => exact h
 | scn s => exact h
theorem LenT.mono2 {b : Bool} {l : Int} {Z Z' : Int → Prop} {k : HTask} (h : LenT c b l Z k) (hz : ∀ q,Z q → Z' q) : LenT c b l Z' k := by
 cases k with
 | unr u =>
  obtain ⟨h1,h2,h3⟩ := h
  exact ⟨fun hs => ⟨(h1 hs).1,fun q q0 q1 => hz q ((h1 hs).2 q q0 q1)⟩,fun hs => ⟨(h2 hs).1,fun q q0 q1 => hz q ((h2 hs).2 q q0 q1)⟩,fun hs => ⟨(h3 hs).1,fun q q0 q1 => hz q ((h3 hs).2 q q0 q1)⟩⟩
 | reg r => exact h
 | pst p => exact h
 | rdg r => exact h
 | clr ad => exact h
 | scn s => exact h
theorem lst_rdy {h : Haz} {a : Are} {m : Mch} {L S N t i : Nat} {cl : Cll} {se : Sea} {k : HTask} (C : Core c L S N h a m) (I : TI c t false (h.held.getD t 0) (a.caches.getD t []) k) (ht : (t : Int) < c.T) (hrec : ∀ s,k = .scn s → h.held[t]? = some s.record)
  (Lq : LqS c h m) (Lt : ∀ rc,h.held[t]? = some rc → 0 ≤ rc → LenT c false (ll h rc) (zr c m rc) k) : LtP c t k (htReady (h,a) m i t cl se k) := by
 have hok := C.ok
 have hBt := bt_le c
 have base : ∀ m' b k',m'.mem.words = m.mem.words → (∀ rc,h.held[t]? = some rc → 0 ≤ rc → LenT c true (ll h rc) (zr c m rc) k' ∧ ll h rc < Bt c ∧ (b = true → kd k ≠ 25)) → LtP c t k (b,(h,a),m',k') := by
  intro m' b k' hm hk
  have hmv := mv_same (c := c) hm
  refine ⟨fun q q0 q1 hq => ?_,fun rc hrc h0 _ => ?_,fun rc hrc h0 hb => ?_⟩
  ·obtain ⟨h1,h2⟩ := Lq q q0 q1 hq
   refine ⟨h1,fun k k0 k1 => ?_⟩
   unfold zr
   rw [hmv];exact h2 k k0 k1
  ·exact (hk rc hrc h0).1.mono2 fun q hz => by unfold zr at hz ⊢;rw [hmv];exact hz
  ·obtain ⟨_,h2,h3⟩ := hk rc hrc h0
   exact ⟨h2,fun hf => absurd hf (h3 hb)⟩
 cases k with
 | reg r => exact base m false _ rfl fun rc hrc h0 => ⟨Lt rc hrc h0,Lt rc hrc h0,fun h => (by cases h)⟩
 | rdg r => exact base m false _ rfl fun rc hrc h0 => ⟨Lt rc hrc h0,Lt rc hrc h0,fun h => (by cases h)⟩
 | clr ad => exact base m false _ rfl fun rc hrc h0 => ⟨Lt rc hrc h0,Lt rc hrc h0,fun h => (by cases h)⟩
 | unr u =>
  refine ⟨fun q q0 q1 hq => Lq q q0 q1 hq,fun rc hrc h0 _ => Lt rc hrc h0,fun rc hrc h0 hb => (by cases hb)⟩
 | pst p =>
  obtain ⟨_,_,_,i4⟩ := I
  obtain ⟨_,p2,_⟩ := i4 rfl
  simp only [htReady]
  have hw : (postReady a m i t cl se p).2.2.1.mem.words = m.mem.words ∧ (postReady a m i t cl se p).2.2.2.stage ≠ 4 := by
   have e1 : (takeReady a m ⟨p.thread,1,0,0,0,false⟩).2.2.1.mem.words = m.mem.words := by
    unfold takeReady
    simp only []
    split <;> rfl
   unfold postReady
   simp only []
   split
   ·unfold postTook
    split
    ·exact ⟨e1,by simp only [p2];omega⟩
    ·exact ⟨e1,by simp⟩
   ·exact ⟨e1,by simp only [p2];omega⟩
  generalize postReady a m i t cl se p = r at hw ⊢
  have hmv := mv_same (c := c) hw.1
  have hl : ∀ rc,h.held[t]? = some rc → 0 ≤ rc → ll h rc < Bt c := fun rc hrc h0 => (Lt rc hrc h0).1 (by omega)
  refine ⟨fun q q0 q1 hq => ?_,fun rc hrc h0 _ => ⟨fun _ => hl rc hrc h0,fun hf => absurd hf hw.2⟩,fun rc hrc h0 hb => ⟨hl rc hrc h0,fun hf => by simp only [kd] at hf;omega⟩⟩
  obtain ⟨h1,h2⟩ := Lq q q0 q1 hq
  refine ⟨h1,fun k k0 k1 => ?_⟩
  unfold zr
  simp only []
  rw [hmv];exact h2 k k0 k1
 | scn s =>
  obtain ⟨_,i2,_⟩ := I
  obtain ⟨r0,r1,_⟩ := i2 rfl
  have hrc0 := hrec s rfl
  have hb : ll h s.record < Bt c := by simpa [LenT] using Lt s.record hrc0 r0
  obtain ⟨R1,R2⟩ := ready_ls (h := h) hok C.hc (s := s) r0 r1 (by omega)
  refine ⟨fun q q0 q1 hq => Lq q q0 q1 hq,fun rc hrc h0 hf => ?_,fun rc hrc h0 hb' => ?_⟩
  ·have hrc : h.held[t]? = some rc := hrc
   rw [hrc0] at hrc
   injection hrc with hrc
   subst hrc
   exact R1
  ·have hrc : h.held[t]? = some rc := hrc
   rw [hrc0] at hrc
   injection hrc with hrc
   subst hrc
   exact ⟨hb,fun _ => R2 hb'⟩
theorem lenJ_ok (c : Cfg) (hok : c.Ok) : JOk c (fun n _ y => RcJ c n y ∧ LenJ c n y) := by
 have hR := hok.R1
 have RK := rcJ_ok c hok
 have hBt := bt_le c
 have hA := am_nn hok
 refine ⟨?_,?_,?_,?_⟩
 ·intro km vs
  refine ⟨RK.start km vs,?_,?_,?_,fun t s h => Or.inl ?_⟩
  ·intro q q0 q1 _
   obtain ⟨_,_,_,_,_,w6⟩ := mv0 hok (m := (wst0 c km vs).m) rfl
   refine ⟨?_,fun k _ _ => w6 _⟩
   have e : (List.replicate c.R.toNat ([] : List Int)).getD q.toNat [] = [] := by
    rw [List.getD_eq_getElem?_getD,List.getElem?_replicate];split <;> rfl
   show (((List.replicate c.R.toNat ([] : List Int)).getD q.toNat []).length : Int) ≤ _
   rw [e];exact hA
  ·intro t r h h0
   have : r = -1 := (List.mem_replicate.1 (List.mem_of_getElem? h)).2
   omega
  ·intro x hx
   exact absurd hx (List.not_mem_nil)
  ·have : s = sea0 := (List.mem_replicate.1 (List.mem_of_getElem? h)).2
   subst this
   show (-1 : Int) < 0
   omega
 ·intro n pr y hn P R D J
  refine ⟨RK.tick n pr y hn P R D J.1,J.2.un,J.2.th,fun x hx _ he => ?_,J.2.se⟩
  have := clok_end (R.cl x hx)
  omega
 ·intro n pr y mv t k v vc hn P R D J ht htT hop hk hK hmk
  refine ⟨RK.beg n pr y mv t k v vc hn P R D J.1 ht htT hop hk hK hmk,J.2.un,?_,?_,?_⟩
  ·have hlt := (List.getElem?_eq_some_iff.1 hk).1
   have hs : t < y.m.seats.length := by rw [P.seats,← P.tasks];exact hlt
   intro t' r hr h0
   by_cases et : t' = t
   ·subst et
    have hl := (J.2.th t' r hr h0).1 hk
    refine ⟨fun hf => ?_,fun k' se hk' hse => ?_⟩
    ·simp only [] at hf
     rw [List.getElem?_set_self hlt] at hf
     cases hf
    ·simp only [machBegin] at hk' hse
     rw [List.getElem?_set_self hlt] at hk'
     rw [List.getElem?_set_self hs] at hse
     cases hk';cases hse
     have hmk' : kitTask (y.s.1,y.s.2) t' mv = some k := hmk
     unfold kitTask at hmk'
     simp only [] at hmk'
     repeat' (split at hmk')
     all_goals first
      | (cases hmk';done)
      | (cases hmk';exact hl)
      | (cases hmk';exact ⟨fun _ => ⟨hl,fun q q0 q1 => by simp only [] at q1;omega⟩,fun hf => by simp at hf,fun hf => by simp at hf⟩)
      | (cases hmk';exact ⟨fun _ => hl,fun hf => by simp at hf⟩)
   ·obtain ⟨h1,h2⟩ := J.2.th t' r hr h0
    refine ⟨fun hf => ?_,fun k' se hk' hse => ?_⟩
    ·simp only [] at hf
     rw [set_ne et] at hf
     exact h1 hf
    ·simp only [machBegin] at hk' hse
     rw [set_ne et] at hk' hse
     exact h2 k' se hk' hse
  ·intro x hx hop' he
   simp only [machBegin] at hx
   rcases List.mem_append.1 hx with hx|hx
   ·have := clok_end (R.cl x hx)
    omega
   ·simp at hx;subst hx
    simp only [] at he
    omega
  ·intro t' s hse
   have hs : t < y.m.seats.length := by rw [P.seats,← P.tasks];exact (List.getElem?_eq_some_iff.1 hk).1
   simp only [machBegin] at hse ⊢
   by_cases et : t' = t
   ·subst et
    rw [List.getElem?_set_self hs] at hse
    cases hse
    exact Or.inr ⟨_,_,rfl,by rw [List.getElem?_append_right (Nat.le_refl _),Nat.sub_self];rfl,ht⟩
   ·rw [set_ne et] at hse
    rcases J.2.se t' s hse with h|⟨i,x,h1,h2,h3⟩
    ·exact Or.inl h
    ·exact Or.inr ⟨i,x,h1,by rw [List.getElem?_append_left (List.getElem?_eq_some_iff.1 h2).1];exact h2,h3⟩
 ·intro n pr F y t i cl se k Z Y r1 pr1 F1 r2 pr2 F2 hn P R SO R' J
  obtain ⟨Jr,J⟩ := J
  refine ⟨RK.step n pr F y t i cl se k Z Y r1 pr1 F1 r2 pr2 F2 hn P R SO R' Jr,?_⟩
  have hlt : t < y.s.1.held.length := by rw [P.core.held];have := SO.htT;omega
  have e0 : (stepM y t i se).mem.words = y.m.mem.words := rfl
  have hmv0 := mv_same (c := c) e0
  have Lq0 : LqS c y.s.1 (stepM y t i se) := by
   intro q q0 q1 hq
   obtain ⟨h1,h2⟩ := J.un q q0 q1 hq
   refine ⟨h1,fun k k0 k1 => ?_⟩
   unfold zr
   rw [hmv0];exact h2 k k0 k1
  have Lt0 : ∀ rc,y.s.1.held[t]? = some rc → 0 ≤ rc → LenT c se.ready (ll y.s.1 rc) (zr c (stepM y t i se) rc) k := by
   intro rc hrc h0
   refine ((J.th t rc hrc h0).2 k se SO.hk SO.hse).mono2 fun q hz => ?_
   unfold zr at hz ⊢
   rw [hmv0];exact hz
  have hkd1 : kd r1.2.2.2 = kd k := SO.h1.kd
  have L1 : LtP c t k r1 := by
   rcases SO.rdy with ⟨hf,e1⟩|⟨hf,e1,_,_⟩
   ·have hI := SO.i0
    rw [hf] at hI Lt0
    rw [e1]
    refine lst_rdy SO.c0 hI SO.htT (fun s hs => ?_) Lq0 Lt0
    exact (SO.d0.scan s (by rw [hs];rfl)).rcd
   ·rw [e1]
    rw [hf] at Lt0
    exact ⟨Lq0,fun rc hrc h0 _ => Lt0 rc hrc h0,fun rc hrc h0 hb => (by cases hb)⟩
  have L2 : LtP c t k r2 := by
   rcases SO.stp with ⟨_,e1,_,_⟩|⟨hf,e1⟩
   ·rw [e1];exact L1
   ·have G := SO.h1.gd
    have hI := SO.h1.ti hf
    have D := SO.h1.td hf
    have hrS : rS r1 = hS r1.2.2.2 := by unfold rS;rw [if_neg (by simp [hf])]
    have hrL : rL r1 = hL r1.2.2.2 := by unfold rL;rw [if_neg (by simp [hf])]
    rw [hrS,hrL] at G
    have X := lst_stp (i := i) (cl := getC r1.2.2.1 i) (se := getS r1.2.2.1 t) (k := r1.2.2.2) SO.h1.core SO.htT hI G D L1.un (fun rc hrc h0 => L1.go rc hrc h0 hf) (fun j hj => ?_) (fun hw j j0 j1 => ?_)
    ·have e2 : htStep (r1.2.1.1,r1.2.1.2) r1.2.2.1 i t (getC r1.2.2.1 i) (getS r1.2.2.1 t) r1.2.2.2 = r2 := e1.symm
     rw [e2] at X
     exact ⟨X.un,X.go,fun rc hrc h0 hb => by have := X.fin rc hrc h0 hb;rw [hkd1] at this;exact this⟩
    ·have e2 : htStep (r1.2.1.1,r1.2.1.2) r1.2.2.1 i t (getC r1.2.2.1 i) (getS r1.2.2.1 t) r1.2.2.2 = r2 := e1.symm
     rw [e2]
     exact (SO.rl2.hz j fun h => hj h.1).1
    ·have E := evp_stp (i := i) (cl := getC r1.2.2.1 i) (se := getS r1.2.2.1 t) (k := r1.2.2.2) (Q := fun _ => True) (P := fun s0 => ∀ j,pr1 j → (mv c r1.2.2.1).hz j ≠ s0 + 1) (B := fun _ => True) SO.h1.core SO.htT SO.h1.thread hI G D (fun _ _ => trivial) (fun _ _ _ => trivial) (fun _ _ _ => trivial) (fun _ h => h) (fun _ _ => trivial)
     exact evp_hz hok E hw j0 j1
  
  have hb0 : (stepY y t i r2).s = r2.2.1 := rfl
  have hwd : (stepY y t i r2).m.mem.words = r2.2.2.1.mem.words := by
   show (stepEnd _ _ _ _ _ _ _).mem.words = _
   unfold stepEnd;split <;> rfl
  have hmv2 := mv_same (c := c) hwd
  obtain ⟨z,g1,g2,g3,g4⟩ := SO.h2.getC SO.hc
  obtain ⟨q,v,s1,s2,s3,s4⟩ := SO.h2.getS SO.hse
  have htlt := (List.getElem?_eq_some_iff.1 SO.hse).1
  have htk := (List.getElem?_eq_some_iff.1 SO.hk).1
  have hcs : (stepY y t i r2).m.calls = y.m.calls.set i (if r2.1 = true then { cl with point := z,end_ := y.m.moves,kind := q,value := v } else { cl with point := z }) := by
   show (stepEnd _ _ _ _ _ _ _).calls = _
   unfold stepEnd
   by_cases hb : r2.1 = true
   ·rw [if_pos hb,if_pos hb]
    simp only [g1,s1,g2,List.set_set]
   ·rw [if_neg hb,if_neg hb]
    exact g2
  refine ⟨?_,?_,?_,?_⟩
  ·intro q q0 q1 hq
   obtain ⟨h1,h2⟩ := L2.un q q0 q1 hq
   refine ⟨h1,fun k k0 k1 => ?_⟩
   unfold zr
   rw [hmv2];exact h2 k k0 k1
  ·intro t' r hr h0
   have hr : r2.2.1.1.held[t']? = some r := hr
   by_cases et : t' = t
   ·subst et
    refine ⟨fun hf => ?_,fun k' se' hk' hse' => ?_⟩
    ·have hf : (y.tasks.set t' (if r2.1 = true then none else some r2.2.2.2))[t']? = some none := hf
     rw [List.getElem?_set_self htk] at hf
     by_cases hb : r2.1 = true
     ·exact (L2.fin r hr h0 hb).1
     ·rw [if_neg hb] at hf;cases hf
    ·have hk' : (y.tasks.set t' (if r2.1 = true then none else some r2.2.2.2))[t']? = some (some k') := hk'
     rw [List.getElem?_set_self htk] at hk'
     by_cases hb : r2.1 = true
     ·rw [if_pos hb] at hk';cases hk'
     ·rw [if_neg hb] at hk'
      injection hk' with hk'
      injection hk' with hk'
      subst hk'
      have hse2 : (stepEnd r2.2.2.1 t' i y.m.moves (getC r2.2.2.1 i) (getS r2.2.2.1 t') r2.1).seats[t']? = some se' := hse'
      unfold stepEnd at hse2
      rw [if_neg hb] at hse2
      have hse2 : r2.2.2.1.seats[t']? = some se' := hse2
      rw [s3] at hse2
      injection hse2 with hse2
      subst hse2
      refine (L2.go r hr h0 (by simpa using hb)).mono2 fun q hz => ?_
      unfold zr at hz ⊢
      rw [hmv2];exact hz
   ·have hr1 : r1.2.1.1.held[t']? = some r := by
     have := SO.rl2.he t' et
     have this : r2.2.1.1.held[t']? = r1.2.1.1.held[t']? := this
     rw [← this];exact hr
    have hr0 : y.s.1.held[t']? = some r := by rw [← SO.he1];exact hr1
    have hl1 : r1.2.1.1.lists.getD r.toNat [] = y.s.1.lists.getD r.toNat [] := SO.rl1.li t' r et hr0 h0
    have hl2 : r2.2.1.1.lists.getD r.toNat [] = r1.2.1.1.lists.getD r.toNat [] := SO.rl2.li t' r et hr1 h0
    have hll : ll r2.2.1.1 r = ll y.s.1 r := by unfold ll;rw [hl2,hl1]
    have hrR : r < c.R := by
     have := P.core.hin r (List.mem_of_getElem? hr0)
     omega
    have hzz : ∀ q,0 ≤ q → q < c.Hz → (mv c r2.2.2.1).hz (r * c.Hz + q) = (mv c y.m).hz (r * c.Hz + q) := by
     intro q q0 q1
     have a1 : (mv c r2.2.2.1).hz (r * c.Hz + q) = (mv c r1.2.2.1).hz (r * c.Hz + q) := by
      refine (SO.rl2.hz _ fun h => ?_).1
      have ho : Own c t' (rsx pr1 c r1) (r * c.Hz + q) := ⟨r,hr1,h0,hrR,by omega,by omega⟩
      exact et (own_two SO.h1.gd hok h.1 ho)
     have a2 : (mv c r1.2.2.1).hz (r * c.Hz + q) = (mv c (stepM y t i se)).hz (r * c.Hz + q) := by
      refine (SO.rl1.hz _ fun h => ?_).1
      have ho : Own c t' (sx pr c y.s.1 y.s.2 (stepM y t i se)) (r * c.Hz + q) := ⟨r,hr0,h0,hrR,by omega,by omega⟩
      exact et (own_two SO.g0 hok h.1 ho)
     rw [a1,a2,hmv0]
    obtain ⟨h1,h2⟩ := J.th t' r hr0 h0
    have htk' : (y.tasks.set t (if r2.1 = true then none else some r2.2.2.2))[t']? = y.tasks[t']? := set_ne et
    have hst' : (stepY y t i r2).m.seats[t']? = y.m.seats[t']? := by
     show (stepEnd r2.2.2.1 t i y.m.moves (getC r2.2.2.1 i) (getS r2.2.2.1 t) r2.1).seats[t']? = _
     unfold stepEnd
     split
     ·simp only []
      rw [set_ne et,s2,set_ne et]
     ·rw [s2,set_ne et]
    refine ⟨fun hf => ?_,fun k' se' hk' hse' => ?_⟩
    ·have hf : (y.tasks.set t (if r2.1 = true then none else some r2.2.2.2))[t']? = some none := hf
     rw [htk'] at hf
     show ll r2.2.1.1 r < _
     rw [hll];exact h1 hf
    ·have hk' : (y.tasks.set t (if r2.1 = true then none else some r2.2.2.2))[t']? = some (some k') := hk'
     rw [htk'] at hk'
     rw [hst'] at hse'
     have hT := h2 k' se' hk' hse'
     show LenT c se'.ready (ll r2.2.1.1 r) _ k'
     rw [hll]
     refine hT.mono (fun q q0 q1 hz => ?_) (fun u hu h0 => ?_)
     ·unfold zr at hz ⊢
      rw [hmv2,hzz q q0 q1];exact hz
     ·subst hu
      obtain ⟨_,I⟩ := P.task t' (.unr u) se' hk' hse'
      obtain ⟨_,_,I⟩ := I
      have := (I.k h0).2;omega
  ·intro x hx hop he t' r hxt hr h0
   rw [hcs] at hx
   rcases mem_set_or hx with rfl|⟨j,hj,hx⟩
   ·by_cases hb : r2.1 = true
    ·rw [if_pos hb] at hop hxt
     have hop : cl.op = 25 := hop
     have hxt : cl.thread = (t' : Int) := hxt
     have hopk := Jr.op t i k se cl SO.hk SO.hse SO.hl SO.hc
     have ett : t' = t := by have := SO.thr;omega
     subst ett
     exact (L2.fin r hr h0 hb).2 (by omega)
    ·rw [if_neg hb] at he
     have he : cl.end_ + 1 = ((n + 1 : Nat) : Int) := he
     have := SO.end_
     omega
   ·have := clok_end (R.cl x (List.mem_of_getElem? hx))
    omega
  ·intro t' s' hse'
   rw [hcs]
   have hil := (List.getElem?_eq_some_iff.1 SO.hc).1
   have key : ∀ s0 : Sea,y.m.seats[t']? = some s0 → s0.last < 0 ∨ ∃ (i' : Nat) (x : Cll),s0.last = (i' : Int) ∧ (y.m.calls.set i (if r2.1 = true then { cl with point := z,end_ := y.m.moves,kind := q,value := v } else { cl with point := z }))[i']? = some x ∧ x.thread = (t' : Int) := by
    intro s0 h0
    rcases J.se t' s0 h0 with h|⟨i',x,h1,h2,h3⟩
    ·exact Or.inl h
    ·refine Or.inr ⟨i',?_⟩
     by_cases ei : i' = i
     ·subst ei
      rw [SO.hc] at h2
      cases h2
      refine ⟨_,h1,List.getElem?_set_self hil,?_⟩
      split <;> exact h3
     ·exact ⟨x,h1,by rw [set_ne ei];exact h2,h3⟩
   by_cases et : t' = t
   ·subst et
    have hl : s'.last = se.last := by
     have hse2 : (stepEnd r2.2.2.1 t' i y.m.moves (getC r2.2.2.1 i) (getS r2.2.2.1 t') r2.1).seats[t']? = some s' := hse'
     unfold stepEnd at hse2
     split at hse2
     ·simp only [] at hse2
      rw [s2,List.set_set,List.getElem?_set_self htlt,s1] at hse2
      cases hse2;rfl
     ·have hse2 : r2.2.2.1.seats[t']? = some s' := hse2
      rw [s3] at hse2
      cases hse2;rfl
    rw [hl]
    exact key se SO.hse
   ·have hst' : (stepY y t i r2).m.seats[t']? = y.m.seats[t']? := by
     show (stepEnd r2.2.2.1 t i y.m.moves (getC r2.2.2.1 i) (getS r2.2.2.1 t) r2.1).seats[t']? = _
     unfold stepEnd
     split
     ·simp only []
      rw [set_ne et,s2,set_ne et]
     ·rw [s2,set_ne et]
    rw [hst'] at hse'
    exact key s' hse'
end
end Go.Proofs.YtegafhhdegnigaaGreat
end
/-
  HazardLists: what the invariants say of the lists at one time.
-/
section
namespace Go.Proofs.YtegafhhdegnigaaGreat
open Go.RowKit Hp
set_option maxRecDepth 100000
set_option maxHeartbeats 1000000
attribute [local irreducible] Go.Calls
theorem cnt2_flat : ∀ (ls : List (List Int)) (s : Int),ls.flatten.count s = cnt2 ls s
 | [],s => rfl
 | l :: r,s => by simp only [List.flatten_cons,List.count_append,cnt2,cnt2_flat r s]
theorem countP_range (p : Slt → Bool) (sl : List Slt) : sl.countP p = ((List.range sl.length).filter (fun i => p (sl.getD i ⟨0,0⟩))).length := by
 have e : sl = (List.range sl.length).map (fun i => sl.getD i ⟨0,0⟩) := by
  apply List.ext_getElem
  ·simp
  ·intro i h1 h2
   simp [List.getD_eq_getElem?_getD,h1]
 conv => lhs;rw [e]
 rw [List.countP_map,List.countP_eq_length_filter]
 rfl
theorem nodup_len' {α : Type} [DecidableEq α] : ∀ {l w : List α},l.Nodup → (∀ z ∈ l,z ∈ w) → l.length ≤ w.length
 | [],w,_,_ => Nat.zero_le _
 | a :: r,w,hn,hs => by
  obtain ⟨n1,n2⟩ := List.nodup_cons.1 hn
  have ha := hs a (List.mem_cons_self ..)
  have h := nodup_len' (w := w.erase a) n2 fun z hz => by
   have : z ≠ a := fun e => n1 (e ▸ hz)
   exact (List.mem_erase_of_ne this).2 (hs z (List.mem_cons_of_mem _ hz))
  have h2 := List.length_erase_of_mem ha
  have h3 : 0 < w.length := List.length_pos_of_mem ha
  simp only [List.length_cons]
  omega
section
variable {c : Cfg} {n : Nat} {y : HW} {pr : Int → Prop} {F : List Int}
theorem ls_bound (hok : c.Ok) {s : Scn} (I : ScI c s) {l : Int} (H : LsS c s l) : l ≤ Bt c + (c.R - 1) * Am c := by
 have hA := am_nn hok
 have hR := hok.R1
 have h0 := am_mono hok (show 0 ≤ c.R - 1 by omega)
 rw [Int.zero_mul] at h0
 have hB := (bt_le c).1
 obtain ⟨i1,i2,_,_,i5,i6,_⟩ := I
 have hk : s.stage ≤ 2 → hlp s.record s.at_ + 1 ≤ c.R - 1 ∨ hlp s.record s.at_ ≤ c.R - 1 := by
  intro h
  obtain ⟨a0,a1,a2⟩ := i6 h
  right;unfold hlp;split <;> omega
 rcases i5 with h|h|h|h|h
 ·have h1 := H.try_ (.inl h)
  obtain ⟨a0,a1,a2⟩ := i6 (by omega)
  have h2 := am_mono hok (show hlp s.record s.at_ ≤ c.R - 1 by unfold hlp;split <;> omega)
  omega
 ·have h1 := H.try_ (.inr h)
  obtain ⟨a0,a1,a2⟩ := i6 (by omega)
  have h2 := am_mono hok (show hlp s.record s.at_ ≤ c.R - 1 by unfold hlp;split <;> omega)
  omega
 ·have h1 := H.lv h
  obtain ⟨a0,a1,a2⟩ := i6 (by omega)
  have h2 := am_mono hok (show hlp s.record s.at_ + 1 ≤ c.R - 1 by unfold hlp;split <;> omega)
  omega
 ·exact (H.look h).1
 ·have h1 := H.done (.inl h)
  omega
theorem lt_bound (hok : c.Ok) {t : Nat} {b : Bool} {hd : Int} {ca : List Int} {k : HTask} {l : Int} {Zr : Int → Prop} (I : TI c t b hd ca k) (H : LenT c b l Zr k) : l ≤ Bt c + (c.R - 1) * Am c := by
 have hA := am_nn hok
 have hR := hok.R1
 have h0 := am_mono hok (show 0 ≤ c.R - 1 by omega)
 rw [Int.zero_mul] at h0
 have hB := (bt_le c).1
 cases k with
 | reg r => have H : l < Bt c := H;omega
 | rdg r => have H : l < Bt c := H;omega
 | clr r => have H : l < Bt c := H;omega
 | scn s =>
  cases b with
  | false =>
   have H : l < Bt c := by simpa [LenT] using H
   omega
  | true => exact ls_bound hok (I.2.2 rfl) H
 | unr u =>
  obtain ⟨_,_,j1,_,j3,_⟩ := I
  obtain ⟨h1,h2,h3⟩ := H
  rcases j1 with h|h|h|h
  ·have := (h1 h).1;omega
  ·obtain ⟨s,e1,e2,_⟩ := j3 h
   exact ls_bound hok e2 ((h2 h).1 s e1)
  ·have := (h3 (.inl h)).1;omega
  ·have := (h3 (.inr h)).1;omega
 | pst p =>
  obtain ⟨_,_,j1,j2⟩ := I
  obtain ⟨h1,h2⟩ := H
  by_cases h4 : p.stage = 4
  ·cases b with
   | false => have := (j2 rfl).2.1;omega
   | true =>
    obtain ⟨r,s,e1,e2,e3,_⟩ := (j1 rfl).ret h4
    exact ls_bound hok e3 (h2 h4 r s e1 e2)
  ·have := h1 h4;omega
theorem lsQ (hok : c.Ok) (hn : n ≤ 65536) (P : PI c n y) (R : RunOk c n y) (D : DI c pr F n y) (J : LenJ c n y)
  (hW : ∀ (t : Nat) se,y.m.seats[t]? = some se → (y.tasks[t]? = some none → se.task = .nilIface) ∧ (∀ k,y.tasks[t]? = some (some k) → ∃ ty x,se.task = .iface ty x)) :
  LsQ c y.s.1 y.s.2 y.m (y.tasks.map Option.isSome) := by
 have C := P.core
 have G := D.gd
 have hT1 := hok.T1
 have hR1 := hok.R1
 have hS1 := hok.S1
 have hA := am_nn hok
 have hb14 := (base_le hok 14).1
 have hBA := (bt_le c).1
 have h0 := am_mono hok (show 0 ≤ c.R - 1 by omega)
 rw [Int.zero_mul] at h0
 have hgetl : ∀ (r : Nat) l,y.s.1.lists[r]? = some l → ll y.s.1 (r : Int) = (l.length : Int) ∧ (r : Int) < c.R := by
  intro r l hl
  have h1 := (List.getElem?_eq_some_iff.1 hl).1
  refine ⟨?_,by have := C.lists;omega⟩
  unfold ll
  rw [Int.toNat_natCast,List.getD_eq_getElem?_getD,hl];rfl
 have hstate : ∀ l ∈ y.s.1.lists,∀ s ∈ l,0 ≤ s ∧ s < c.Sl ∧ ∃ x,y.s.2.slots[s.toNat]? = some x ∧ x.state = 5 := by
  intro l hl s hs
  obtain ⟨s0,s1⟩ := C.ins l hl s hs
  have h5 := G.stL l hl s hs
  have h5 : (y.s.2.sl s).state = 5 := h5
  have hlt : s.toNat < y.s.2.slots.length := by rw [C.slots];omega
  refine ⟨s0,s1,_,List.getElem?_eq_getElem hlt,?_⟩
  unfold Are.sl at h5
  rw [if_pos s0,List.getD_eq_getElem?_getD,List.getElem?_eq_getElem hlt] at h5
  exact h5
 have hnd : y.s.1.lists.flatten.Nodup := List.nodup_iff_count.2 fun s => by
  rw [cnt2_flat]
  have h1 := G.le s
  have h2 : (sx pr c y.s.1 y.s.2 y.m).lists = y.s.1.lists := rfl
  rw [h2] at h1
  omega
 have hids : cntS 5 y.s.2.slots = ((List.range y.s.2.slots.length).filter (fun i => (y.s.2.slots.getD i ⟨0,0⟩).state == 5)).length := countP_range _ _
 have hmapnd : (y.s.1.lists.flatten.map Int.toNat).Nodup := by
  refine List.pairwise_map.2 (hnd.imp_of_mem ?_)
  intro a b ha hb hab e
  obtain ⟨la,h1,h2⟩ := List.mem_flatten.1 ha
  obtain ⟨lb,h3,h4⟩ := List.mem_flatten.1 hb
  have := (hstate la h1 a h2).1
  have := (hstate lb h3 b h4).1
  exact hab (by omega)
 have hin : ∀ z ∈ y.s.1.lists.flatten.map Int.toNat,z ∈ (List.range y.s.2.slots.length).filter (fun i => (y.s.2.slots.getD i ⟨0,0⟩).state == 5) := by
  intro z hz
  obtain ⟨s,hs,rfl⟩ := List.mem_map.1 hz
  obtain ⟨l,h1,h2⟩ := List.mem_flatten.1 hs
  obtain ⟨s0,s1,x,hx,h5⟩ := hstate l h1 s h2
  refine List.mem_filter.2 ⟨List.mem_range.2 (List.getElem?_eq_some_iff.1 hx).1,?_⟩
  rw [List.getD_eq_getElem?_getD,hx]
  simpa using h5
 refine ⟨?_,?_,?_,?_,?_,C.hin,?_,?_,?_,?_,hstate,hnd,?_,?_,?_,?_,?_,?_,?_⟩
 ·rw [List.length_map,P.tasks];omega
 ·rw [List.length_map,P.tasks,P.seats]
 ·intro t se b hse hb
  rw [List.getElem?_map] at hb
  cases ho : y.tasks[t]? with
  | none => rw [ho] at hb;cases hb
  | some o =>
   rw [ho] at hb
   simp only [Option.map_some,Option.some.injEq] at hb
   obtain ⟨h1,h2⟩ := hW t se hse
   cases o with
   | none => exact .inl ⟨hb.symm,h1 ho⟩
   | some k => exact .inr ⟨hb.symm,h2 k ho⟩
 ·rw [List.length_map,P.tasks,C.held]
 ·rw [C.lists];omega
 ·intro t t' r h1 h2 r0
  have hr := C.hin r (List.mem_of_getElem? h1)
  exact G.alone r0 hr.2 h2 h1
 ·intro t r l h1 hb hl
  rw [List.getElem?_map] at hb
  cases ho : y.tasks[t]? with
  | none => rw [ho] at hb;cases hb
  | some o =>
   rw [ho] at hb
   cases o with
   | some k => cases hb
   | none =>
    have := (J.th t r h1 (by omega)).1 ho
    rw [(hgetl r l hl).1] at this
    exact this
 ·intro l hl
  obtain ⟨r,hr⟩ := List.getElem?_of_mem hl
  obtain ⟨e1,e2⟩ := hgetl r l hr
  rw [← e1]
  by_cases hu : Unh y.s.1 (r : Int)
  ·have := (J.un r (by omega) e2 hu).1
   omega
  ·obtain ⟨t,ht⟩ : ∃ t : Nat,y.s.1.held[t]? = some (r : Int) := Classical.byContradiction fun hf => hu fun t e => hf ⟨t,e⟩
   have htl := (List.getElem?_eq_some_iff.1 ht).1
   obtain ⟨h1,h2⟩ := J.th t r ht (by omega)
   obtain ⟨o,ho⟩ : ∃ o,y.tasks[t]? = some o := ⟨_,List.getElem?_eq_getElem (by rw [P.tasks,← C.held];exact htl)⟩
   obtain ⟨se,hse⟩ : ∃ o,y.m.seats[t]? = some o := ⟨_,List.getElem?_eq_getElem (by rw [P.seats,← C.held];exact htl)⟩
   cases o with
   | none => have := h1 ho;omega
   | some k => exact lt_bound hok (P.task t k se ho hse).2 (h2 k se ho hse)
 ·intro r l hl hnm
  obtain ⟨e1,e2⟩ := hgetl r l hl
  have hu : Unh y.s.1 (r : Int) := fun t e => hnm (List.mem_of_getElem? e)
  obtain ⟨h1,h2⟩ := J.un r (by omega) e2 hu
  refine ⟨by rw [← e1];exact h1,fun k k1 => ?_⟩
  have hz := h2 k (by omega) k1
  unfold zr at hz
  obtain ⟨j0,j1⟩ := idx_rng hok (show (0 : Int) ≤ (r : Int) by omega) e2 (show (0 : Int) ≤ (k : Int) by omega) k1
  rw [hz_at j0 j1] at hz
  have hlt : adr c 9 ((r : Int) * c.Hz + k) < y.m.mem.words.length := C.lt (by have hbs := bases hok;have := adr_i hok 9 j0;have := hbs.b10;have := hbs.b11;have := hbs.b12;have := hbs.b13;have := hbs.b14;have := hok.S1;omega)
  have e : (base c 9 + (r : Int) * c.Hz + (k : Int)).toNat = adr c 9 ((r : Int) * c.Hz + k) := by unfold adr;congr 1;omega
  rw [e,List.getElem?_eq_getElem hlt]
  unfold Mch.word at hz
  rw [List.getD_eq_getElem?_getD,List.getElem?_eq_getElem hlt] at hz
  exact congrArg some hz
 ·have := nodup_len' hmapnd hin
  rw [List.length_map] at this
  omega
 ·intro hall
  have h1 := nodup_len' hmapnd hin
  rw [List.length_map] at h1
  have hZ : ∀ s,cnt2 (y.tasks.map tS) s = 0 := by
   intro s
   cases hz : cnt2 (y.tasks.map tS) s with
   | zero => rfl
   | succ m =>
    obtain ⟨i,l,h1,h2⟩ := cnt2_pos (ls := y.tasks.map tS) (s := s) (by omega)
    rw [List.getElem?_map] at h1
    cases ho : y.tasks[i]? with
    | none => rw [ho] at h1;cases h1
    | some o =>
     rw [ho] at h1
     cases o with
     | none => cases h1;simp [tS] at h2
     | some k =>
      have := hall true (List.mem_map.2 ⟨some k,List.mem_of_getElem? ho,rfl⟩)
      cases this
  have h2 : ((List.range y.s.2.slots.length).filter (fun i => (y.s.2.slots.getD i ⟨0,0⟩).state == 5)).length ≤ (y.s.1.lists.flatten.map Int.toNat).length := by
   refine nodup_len' (List.Sublist.nodup List.filter_sublist List.nodup_range) fun z hz => ?_
   obtain ⟨z1,z2⟩ := List.mem_filter.1 hz
   have z1 := List.mem_range.1 z1
   have z2 : (y.s.2.slots.getD z ⟨0,0⟩).state = 5 := by simpa using z2
   have hzS : (z : Int) < c.Sl := by have := C.slots;omega
   have hsl : y.s.2.sl (z : Int) = y.s.2.slots.getD z ⟨0,0⟩ := by unfold Are.sl;rw [if_pos (by omega),Int.toNat_natCast]
   have ht := G.tot (z : Int)
   rw [hZ,ind_pos (show 0 ≤ (z : Int) ∧ (z : Int) < c.Sl from ⟨by omega,hzS⟩)] at ht
   have a1 : F.count (z : Int) = 0 := by
    rcases Nat.eq_zero_or_pos (F.count (z : Int)) with h|h
    ·exact h
    ·have := G.stF _ (List.count_pos_iff.1 h)
     have this : (y.s.2.sl (z : Int)).state = 0 := this
     rw [hsl,z2] at this;omega
   have a2 : cnt2 (sx pr c y.s.1 y.s.2 y.m).caches (z : Int) = 0 := by
    rcases Nat.eq_zero_or_pos (cnt2 (sx pr c y.s.1 y.s.2 y.m).caches (z : Int)) with h|h
    ·exact h
    ·obtain ⟨i,l,b1,b2⟩ := cnt2_pos h
     have := G.stC i l b1 _ b2
     have this : y.s.2.sl (z : Int) = ⟨1,(i : Int)⟩ := this
     rw [hsl] at this
     rw [this] at z2
     simp at z2
   have a3 : ind (0 ≤ (z : Int) ∧ (sx pr c y.s.1 y.s.2 y.m).V.cell = (z : Int) + 1) = 0 := by
    refine ind_neg fun ⟨b1,b2⟩ => ?_
    have := G.stX _ b1 b2
    have this : (y.s.2.sl (z : Int)).state = 3 := this
    rw [hsl,z2] at this;omega
   rw [a1,a2,a3] at ht
   have a4 : 0 < cnt2 y.s.1.lists (z : Int) := by
    have : cnt2 (sx pr c y.s.1 y.s.2 y.m).lists (z : Int) = cnt2 y.s.1.lists (z : Int) := rfl
    simp only [List.count_nil] at ht
    omega
   rw [← cnt2_flat] at a4
   exact List.mem_map.2 ⟨(z : Int),List.count_pos_iff.1 a4,Int.toNat_natCast z⟩
  rw [List.length_map] at h2
  omega
 ·rw [C.words];omega
 ·rw [C.slots];omega
 ·have := P.calls;omega
 ·have := C.log;omega
 ·have := C.shifts;omega
end
end Go.Proofs.YtegafhhdegnigaaGreat
end
