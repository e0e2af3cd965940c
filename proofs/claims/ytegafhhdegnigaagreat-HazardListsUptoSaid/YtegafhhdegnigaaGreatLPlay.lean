/-
  Lists that are only read, wherever they lie.
-/
import Derived.Test.YtegafhhdegnigaaGreatLWord1
import Derived.Test.YtegafhhdegnigaaGreatLMove
import Derived.Test.YtegafhhdegnigaaGreatLRun
set_option linter.all false
section
namespace Go.Proofs.YtegafhhdegnigaaGreat
open Go.RowKit
namespace Hp
structure Rd (A : SProp) (sz : Nat) (css : List (List Value)) (v : Value) : Prop where
 at_ : (css = [] ∧ v = .slice none 0 0) ∨ ∃ a cap,css.length ≤ cap ∧ v = .slice (some a) css.length cap
 wf : ∀ c ∈ css,c.length = sz
 get : ∀ (O w : World) (F : SProp),Sat O w (A * F) → ∀ a n cap,v = .slice (some a) n cap → ∀ i c,css[i]? = some c → ∀ j x,c[j]? = some x → w.cell? ((a.add (i * sz)).add j) = some x
structure RAt (v : Value) (a : Addr) : Prop where
 is : ∃ n cap,v = .slice (some a) n cap
section
variable {P : Program} {ops : Array Oper} {Q : Exit → Act → World → Prop} {w : World} {rest : List Oper} {O : World} {S R A : SProp}
variable {l : List Value} {ds : List Deferred} {T ty E : TypeId} {pos : String} {after : Array Edge} {gd : Option (Nat × Bool)} {d : Nat} {x y : Operand} {i sz n : Nat} {css : List (List Value)} {c : List Value} {v : Value} {a : Addr}
theorem Rd.len (h : Rd A sz css v) : ∃ a cap,v = .slice a css.length cap := by
 rcases h.at_ with ⟨h1,h2⟩|⟨a,cap,_,h1⟩
 ·subst h1;exact ⟨none,0,h2⟩
 ·exact ⟨_,_,h1⟩
theorem wl_ir {kd : IntKind} {z : Int} {by_ : Nat} (hr : Rd A sz css v) (h : SlcC P T E) (hE : ElC P E sz by_) (hx : ev l x = some v) (hy : ev l y = some (.int kd z)) (hz : z = (i : Int)) (hi : i < css.length)
  (hg : Region.wanted { dst := some d,op := .indexAddr T x y,type := ty,pos,after,guard := gd } (yielded ops l.toArray) = true)
  (kk : ∀ a,RAt v a → wpList P ops Q rest ⟨(l.set d (.pointer (some (a.add (i * sz))))).toArray,ds⟩ w) :
  wpList P ops Q ({ dst := some d,op := .indexAddr T x y,type := ty,pos,after,guard := gd } :: rest) ⟨l.toArray,ds⟩ w := by
 rcases hr.at_ with ⟨h1,_⟩|⟨a,cap,_,e⟩
 ·subst h1;simp at hi
 refine wl_val (v := .pointer (some (a.add (i * sz)))) hg ?_ (put_set ▸ kk a ⟨_,_,e⟩)
 have h1 : (0 : Int) ≤ z ∧ z < (css.length : Int) := by omega
 have h2 : z.toNat = i := by omega
 subst e
 simp only [execOp,ev_eval hx,ev_eval hy,Instr.indexAt,asIntOf,Sem.run_bind,Sem.run_pure,Result.andThen_ok,run_underlying h.is,if_pos h1,h2,run_sizeOf hE.size]
theorem wl_lr (hs : Sat O w S) (hr : Rd A sz css v) (h : AggC P T sz) (ha : RAt v a) (hx : ev l x = some (.pointer (some (a.add (i * sz))))) (hp : Pull S A R) (hi : css[i]? = some c)
  (hg : Region.wanted { dst := some d,op := .load T x,type := ty,pos,after,guard := gd } (yielded ops l.toArray) = true)
  (kk : wpList P ops Q rest ⟨(l.set d (.agg c.toArray)).toArray,ds⟩ w) : wpList P ops Q ({ dst := some d,op := .load T x,type := ty,pos,after,guard := gd } :: rest) ⟨l.toArray,ds⟩ w := by
 refine wl_val (v := .agg c.toArray) hg ?_ (put_set ▸ kk)
 obtain ⟨n,cap,e⟩ := ha.is
 have hl := hr.wf c (List.mem_of_getElem? hi)
 have := run_loadCells_list (P := P) (w := w) (a.add (i * sz)) c (fun j x hj => hr.get O w R (hs.pull hp) a n cap e i c hi j x hj)
 rw [hl] at this
 simp only [execOp,ev_eval hx,Instr.loadAt,Instr.sureAddr,loadVar,Sem.run_bind,Sem.run_pure,Result.andThen_ok,run_isAgg h.agg,run_sizeOf h.size,if_true,this]
theorem rd_reH {kd : IntKind} {zz : Int} {by_ : Nat} (hr : Rd A sz css v) (h : SlcC P T E) (hE : ElC P E sz by_) (hx : ev l x = some v) (hy : ev l y = some (.int kd zz)) (hz : zz = (i : Int)) (hi : i ≤ css.length)
  (hg : Region.wanted { dst := some d,op := .slice T x none (some y) none,type := ty,pos,after,guard := gd } (yielded ops l.toArray) = true)
  (kk : wpList P ops Q rest ⟨(l.set d (resH v i)).toArray,ds⟩ w) :
  wpList P ops Q ({ dst := some d,op := .slice T x none (some y) none,type := ty,pos,after,guard := gd } :: rest) ⟨l.toArray,ds⟩ w := by
 refine wl_val (v := resH v i) hg ?_ (put_set ▸ kk)
 have h2 : zz.toNat = i := by omega
 rcases hr.at_ with ⟨hc,hv⟩|⟨a,cap,g2,hv⟩
 ·subst hv;subst hc
  have hi0 : i = 0 := by simpa using hi
  have hz0 : zz = 0 := by omega
  subst hi0;subst hz0
  simp [execOp,ev_eval hx,ev_eval hy,Instr.sliceAt,Instr.slice,Instr.sliceBounds,Instr.sliceBound,asIntOf,run_underlying h.is,run_sizeOf hE.size,resH]
 ·subst hv
  have h1 : (0 : Int) ≤ zz ∧ zz ≤ (cap : Int) := by omega
  simp [execOp,ev_eval hx,ev_eval hy,Instr.sliceAt,Instr.slice,Instr.sliceBounds,Instr.sliceBound,asIntOf,run_underlying h.is,run_sizeOf hE.size,resH,h1,h2,Addr.add]
theorem Rd.resH (h : Rd A sz css v) (hi : i ≤ css.length) : Rd A sz (css.take i) (Hp.resH v i) := by
 have hl : (css.take i).length = i := by simp;omega
 refine ⟨?_,fun c hc => h.wf c (List.mem_of_mem_take hc),?_⟩
 ·rcases h.at_ with ⟨h1,h2⟩|⟨a,cap,hc,h1⟩
  ·subst h1;subst h2
   have : i = 0 := by simpa using hi
   subst this
   exact .inl ⟨rfl,rfl⟩
  ·subst h1
   exact .inr ⟨a,cap,by rw [hl];omega,by rw [hl];rfl⟩
 ·intro O w F hs a n cap e j c hj
  rcases h.at_ with ⟨h1,h2⟩|⟨a',cap',hc,h1⟩
  ·subst h1;simp at hj
  ·subst h1
   injection e with e _ _
   injection e with e
   subst e
   refine h.get O w F hs a' _ _ rfl j c ?_
   rw [List.getElem?_take] at hj
   split at hj
   ·exact hj
   ·cases hj
end
theorem rd_pt {b off cap : Nat} {cs : List Value} {E : TypeId} {fr : Nat × Nat} {sz : Nat} {css : List (List Value)} {pre post : List Value} (hcs : cs = pre ++ css.flatten ++ post) (hpre : pre.length = off) (hw : ∀ c ∈ css,c.length = sz) (hpos : 0 < sz) (hcap : css.length ≤ cap) :
  Rd (pt b (.cells cs.toArray E fr)) sz css (.slice (some ⟨b,off,none⟩) css.length cap) := by
 refine ⟨.inr ⟨_,_,hcap,rfl⟩,hw,?_⟩
 intro O w F hs a n cap' e i c hi j x hj
 injection e with e1 e2 e3
 injection e1 with e1
 subst e1
 have hb := hs.block
 have hflen : ∀ css : List (List Value),(∀ c ∈ css,c.length = sz) → ∀ i c,css[i]? = some c → ∃ L Rr,css.flatten = L ++ c ++ Rr ∧ L.length = i * sz := by
  intro css hw i c hi
  obtain ⟨h1,h2⟩ := split_at hi
  refine ⟨(css.take i).flatten,(css.drop (i + 1)).flatten,?_,?_⟩
  ·conv => lhs;rw [h1]
   simp
  ·have : ∀ l : List (List Value),(∀ c ∈ l,c.length = sz) → l.flatten.length = l.length * sz := by
    intro l hl
    induction l with
    | nil => simp
    | cons c r ih =>
     simp only [List.flatten_cons,List.length_append,List.length_cons,Nat.add_mul,Nat.one_mul]
     rw [ih (fun x hx => hl x (by simp [hx])),hl c (by simp)];omega
   rw [this _ (fun c hc => hw c (List.mem_of_mem_take hc)),h2]
 obtain ⟨L,Rr,g1,g2⟩ := hflen css hw i c hi
 have hjl := (List.getElem?_eq_some_iff.1 hj).1
 rw [Addr.add_lit,Addr.add_mid]
 rw [cell_of_row w b (off + i * sz + j) cs.toArray E fr hb]
 have e2 : cs = (pre ++ L) ++ (c ++ (Rr ++ post)) := by rw [hcs,g1];simp
 show cs.toArray[off + i * sz + j]? = some x
 rw [List.getElem?_toArray,e2,List.getElem?_append_right (by simp [hpre,g2]),List.getElem?_append_left (by simp [hpre,g2];omega)]
 have : off + i * sz + j - (pre ++ L).length = j := by simp [hpre,g2]
 rw [this];exact hj
end Hp
end Go.Proofs.YtegafhhdegnigaaGreat
end
/-
  hazard.Play, by an invariant of the machine's states.
-/
section
namespace Go.Proofs.YtegafhhdegnigaaGreat
open Go.RowKit Hp
set_option maxRecDepth 100000
set_option maxHeartbeats 1000000
attribute [local irreducible] Go.Calls
theorem base14_le {c : Cfg} (h : c.Ok) : base c 14 ≤ 8192 := by
 have e1 : base c 14 = base c 13 + c.Sl := rfl
 have e2 : base c 13 = base c 12 + c.Sl := rfl
 have e3 : base c 12 = base c 11 + c.Sl := rfl
 have e4 : base c 11 = base c 10 + c.Sl := rfl
 have e5 : base c 10 = base c 9 + c.R * c.Hz := rfl
 have e6 : base c 9 = base c 8 + c.R := rfl
 have e7 : base c 8 = base c 7 + c.Bu := rfl
 have e8 : base c 7 = 6 := by simp [base,many]
 have := h.rh.2
 have := h.R2;have := h.B2;have := h.S2
 omega
abbrev HW := Wst (Haz × Are) HTask
def wst0 (c : Cfg) (km : Nat) (vs : Value) : HW := ⟨(haz0 c,are0 c),mch0 c.T.toNat (firstW c 0) (.map (some km)) vs,List.replicate c.T.toNat none⟩
theorem tsk_nones {τ : Type} {R : τ → Value → SProp} {O w : World} {F : SProp} (hs : Sat O w F) : ∀ n,Sat O w (tskR R (List.replicate n none) (List.replicate n sea0) * F)
 | 0 => by simp only [List.replicate_zero,tskR,emp_mul];exact hs
 | n + 1 => by
  simp only [List.replicate_succ,tskR,mul_assoc',sat_pu]
  exact ⟨trivial,tsk_nones hs n⟩
theorem wr0_eq {g ba bx bm : Nat} {CX : SProp} {K : Int → Option Value} {c : Cfg} {km : Nat} {vs : Value} : WR (hzT g ba CX) bx bm K (wst0 c km vs) =
  MchR bx bm (mch0 c.T.toNat (firstW c 0) (.map (some km)) vs) * (mp .i64 K (.map (some km)) * (HazR g ba (haz0 c) * (AreR ba (are0 c) * (CX * tskR (htR g ba) (List.replicate c.T.toNat none) (List.replicate c.T.toNat sea0))))) := by
 unfold WR
 simp only [hzT,mul_assoc',wst0]
 rfl
def playR (J : HW → Prop) (u : Value) : SProp := ex fun x => ex fun v => pu (J x ∧ u = .tuple #[v,.int .i64 0]) * RunR x.m.calls x.m.mem.log x.m.shifts x.m.mem.words v
theorem haz_play_long (c : Cfg) (h : c.Ok) (v : Value) (mvs : List Mv) (hl : 65536 < mvs.length) (A : SProp) (hRd : Rd A 4 (mvs.map Mv.e) v) : Gives Tryz.prog 15 #[c.v,v] A (.tuple #[.agg #[.slice none 0 0,.slice none 0 0,.slice none 0 0,.slice none 0 0],.int .i64 3]) A := by
 intro O w F hs
 have hA := Lib.hid (arena_new c h)
 obtain ⟨a0,c0,rfl⟩ := hRd.len
 simp only [List.length_map] at hRd hs ⊢
 have hRd := Lib.hid hRd
 have n1 : decide ((mvs.length : Int) > 65536) = true := by simp;omega
 go_enter Tryz.func15,Tryz.ntmps15
 go_wp2_with (first|(first|((with_reducible apply wl_ldF hs);infer_instance;rfl;(focus with_reducible (repeat first|exact Qh|apply Qk);done);rfl;rfl;(simp only [Uc,Uz]))|((with_reducible apply wl_stF hs);infer_instance;rfl;rfl;(focus with_reducible (repeat first|exact Qh|apply Qk);done);rfl;rfl;rfl;rfl;clear hs;intro w hs)|((with_reducible apply wl_alloc hs);infer_instance;rfl;clear hs;intro w b hs;(simp only [Uc,Uz]))|((with_reducible apply wl_box hs);rfl;rfl;rfl;clear hs;intro w b hs;(simp only [Uc,Uz])))|(go_at_call 33;((refine (hA.out).at hs (by (focus ((repeat (with_reducible exact Qn));done))) ?_);clear hs;intro v w hs;(try simp only [emp_mul,mul_assoc'] at hs));(simp only [sat_ex,mul_assoc',sat_pu] at hs);(obtain ⟨ba,rfl,hs⟩ := hs)))
 ((try simp only [Exit.inBlock,Exit.then]);(with_reducible apply bodyPost_ret);((with_reducible apply results_ct);rfl;rfl;(with_reducible apply loadF hs);infer_instance;(with_reducible exact Qh);rfl;rfl))
 exact ⟨rfl,by ((with_reducible apply Sat.fin hs);(focus with_reducible (repeat first|exact Ql|exact Qh|apply Qb|apply Qk);done))⟩
set_option maxHeartbeats 4000000 in
theorem haz_playR (c : Cfg) (h : c.Ok) (v : Value) (mvs : List Mv) (hl : mvs.length ≤ 65536) (J : Nat → HW → Prop) (hn : c.T.toNat ≤ 16)
  (J0 : ∀ km vs,J 0 (wst0 c km vs))
  (Jm : ∀ bh ba x k y mv,mvs[k]? = some mv → J k y → MayMove (hzT bh ba (capR bh x)) (KOk c.T.toNat) c.T.toNat y mv)
  (Js : ∀ bh ba x k y mv b y',mvs[k]? = some mv → J k y → MoveTo (hzT bh ba (capR bh x)) (kitFn x) kitTask y mv b y' → J (k + 1) y')
  (Jr : ∀ y,J mvs.length y → y.m.calls.length < 4294967296 ∧ y.m.shifts.length < 4294967296 ∧ y.m.mem.words.length < 4294967296 ∧ y.m.mem.log.length < 4294967295 ∧ 0 < y.m.seats.length) (A : SProp) (hRd : Rd A 4 (mvs.map Mv.e) v) :
  Does Tryz.prog 15 #[c.v,v] A (fun u => playR (J mvs.length) u * A) := by
 intro O w F hs
 have hA := Lib.hid (arena_new c h)
 have hF := Lib.hid (word_first0 c h)
 have hH := Lib.hid (fun ba => hazard_new ba (are0 c) h)
 have hK := Lib.hid (fun bh ba => haz_kit bh ba (haz0 c))
 have hM := machine_new c.T.toNat
 have hT1 := h.T1
 have hT2 := h.T2
 have hTn : ((c.T.toNat : Nat) : Int) = c.T := Int.toNat_of_nonneg (by omega)
 have hbl := base14_le h
 rw [hTn] at hM
 have hM := Lib.hid (fun v km => hM v km (firstW c 0) (by omega) (by omega) (by rw [firstW_len];omega))
 obtain ⟨a0,c0,rfl⟩ := hRd.len
 simp only [List.length_map] at hRd hs ⊢
 have hRd := Lib.hid hRd
 have n1 : decide ((mvs.length : Int) > 65536) = false := by simp;omega
 have J0 := Lib.hid J0
 have Jm := Lib.hid Jm
 have Js := Lib.hid Js
 have Jr := Lib.hid Jr
 go_enter Tryz.func15,Tryz.ntmps15
 go_wp2_with (first|(first|(first|(with_reducible refine NQ.mk ?_)|((with_reducible apply pl_neu);rfl;rfl)|((with_reducible apply pl_eff);rfl)|(with_reducible refine EQ.mk ?_ ?_)|(first|(with_reducible exact chk_nil)|((with_reducible refine chk_cons ?_ ?_);(focus ((with_reducible apply pl_chk);rfl;rfl))))|(with_reducible refine pl_end ?_)|(show SameA _ _ _;rfl))|((with_reducible apply wl_ld hs);infer_instance;rfl;(focus with_reducible (repeat first|exact Qh|apply Qk);done);rfl;rfl;(simp only [Uc,Uz]))|((with_reducible apply wl_ldF hs);infer_instance;rfl;(focus with_reducible (repeat first|exact Qh|apply Qk);done);rfl;rfl;(simp only [Uc,Uz]))|((with_reducible apply wl_alloc hs);infer_instance;rfl;clear hs;intro w b hs;(simp only [Uc,Uz]))|((with_reducible apply wl_box hs);rfl;rfl;rfl;clear hs;intro w b hs;(simp only [Uc,Uz])))|(go_at_call 33;((refine (hA.out).at hs (by (focus ((repeat (with_reducible exact Qn));done))) ?_);clear hs;intro v w hs;(try simp only [emp_mul,mul_assoc'] at hs));(simp only [sat_ex,mul_assoc',sat_pu] at hs);(obtain ⟨ba,rfl,hs⟩ := hs))|(go_at_call 61;((refine (hF.out).at hs (by (focus ((repeat (with_reducible exact Qn));done))) ?_);clear hs;intro v w hs;(try simp only [emp_mul,mul_assoc'] at hs));(simp only [sat_ex,mul_assoc',sat_pu] at hs);(obtain ⟨vw,rfl,hs⟩ := hs))|(go_at_call 37;((refine ((hH.out ba)).at hs (by (focus with_reducible (repeat first|exact Qh|apply Qk);done)) ?_);clear hs;intro g w hs;(try simp only [emp_mul,mul_assoc'] at hs)))|(go_at_call 40;((refine ((hK.out g ba)).at hs (by (focus ((repeat (exact Qh));done))) ?_);clear hs;intro v w hs;(try simp only [emp_mul,mul_assoc'] at hs));(simp only [sat_ex,mul_assoc'] at hs);(obtain ⟨x,hs⟩ := hs);(obtain ⟨km,rfl⟩ := mp_some hs))|(go_at_call 38;((refine ((hM.out vw km)).at hs (by (focus with_reducible (repeat first|exact Qh|apply Qk);done)) ?_);clear hs;intro v w hs;(try simp only [emp_mul,mul_assoc'] at hs));(simp only [sat_ex,mul_assoc',sat_pu] at hs);(obtain ⟨bx,bm,vs,rfl,hs⟩ := hs))|((with_reducible refine wp_plan_sat (id := 7) [.neu 0,.neu 1,.neu 2,.neu 3,.eff 4 [0,1,2],.eff 5 [0,1,2],.eff 6 [],.neu 7,.neu 8,.neu 9,.neu 10,.neu 11] hs rfl ?_ ?_);kernel_rfl;clear hs;intro w hs))
 replace hs := tsk_nones (R := htR g ba) hs c.T.toNat
 have hs2 : Sat O w (WR (hzT g ba (capR g x)) bx bm (kitFn x) (wst0 c km vs) * (pt b (.cells #[.slice none 0 0,.slice none 0 0,.slice none 0 0,.slice none 0 0] 32) * (A * F))) := by
  rw [wr0_eq]
  simp only [mul_assoc']
  ((with_reducible apply Sat.fin hs);(focus with_reducible (repeat first|exact Ql|exact Qh|apply Qb|apply Qk);done))
 clear hs
 have hs := hs2
 clear hs2
 have hGood := Lib.hid (hzT_good g ba (capR g x))
 have hKO := Lib.hid (hzT_kit g ba c.T.toNat x)
 have hJ0 := J0.out km vs
 go_loopw [12,47] (fun _ q wr => ∃ (n : Nat) (y : HW),n ≤ mvs.length ∧ q = .int .i64 (n : Int) ∧ J n y ∧ Sat O wr (WR (hzT g ba (capR g x)) bx bm (kitFn x) y * (pt b (.cells #[.slice none 0 0,.slice none 0 0,.slice none 0 0,.slice none 0 0] 32) * (A * F)))) (fun _ q _ => 65537 - (intOf q).toNat)
 case atStart => exact ⟨0,_,by omega,rfl,hJ0,hs⟩
 case round =>
  obtain ⟨n,y,k1,rfl,hJ,hs⟩ := hrel
  by_cases hkr : n = mvs.length
  ·subst hkr
   obtain ⟨r1,r2,r3,r4,r5⟩ := Jr.out y hJ
   have hR := Lib.hid (mach_run bx bm y.m r5 r1 r2 r3 r4)
   unfold WR at hs
   simp only [mul_assoc'] at hs
   have hlt : decide ((mvs.length : Int) < (mvs.length : Int)) = false := by simp
   have hJ := Lib.hid hJ
   go_wp2_with (first|((with_reducible apply wl_stF hs);infer_instance;rfl;rfl;(focus with_reducible (repeat first|exact Qh|apply Qk);done);rfl;rfl;rfl;rfl;clear hs;intro w hs)|(go_at_call 44;((refine (hR.out).at hs (by (with_reducible exact Qh)) ?_);clear hs;intro v w hs;(try simp only [emp_mul,mul_assoc'] at hs));(unfold RunR at hs);(simp only [sat_ex,mul_assoc',sat_pu] at hs);(obtain ⟨rc,rt,rs,rw_,rfl,hs⟩ := hs);(obtain ⟨_,_,rfl⟩ := sl_len (hs.pull (A := sl 50 9 _ rc) (by (with_reducible exact Qh))));(obtain ⟨_,_,rfl⟩ := sl_len (hs.pull (A := sl 138 7 _ rt) (by (focus with_reducible (repeat first|exact Qh|apply Qk);done))));(obtain ⟨_,_,rfl⟩ := sl_len (hs.pull (A := sl 127 5 _ rs) (by (focus with_reducible (repeat first|exact Qh|apply Qk);done))));(obtain ⟨_,_,rfl⟩ := sl_len (hs.pull (A := sl 57 1 _ rw_) (by (focus with_reducible (repeat first|exact Qh|apply Qk);done))));(simp only [List.length_map] at hs ⊢)))
   ((try simp only [Exit.inBlock,Exit.then]);(with_reducible apply bodyPost_ret);((with_reducible apply results_ct);rfl;rfl;(with_reducible apply loadF hs);infer_instance;(with_reducible exact Qh);rfl;rfl))
   refine ⟨_,rfl,?_⟩
   unfold playR RunR
   simp only [sat_ex,mul_assoc',sat_pu]
   refine ⟨y,_,⟨hJ.out,rfl⟩,_,_,_,_,rfl,?_⟩
   ((with_reducible apply Sat.fin hs);(focus with_reducible (repeat first|exact Ql|exact Qh|apply Qb|apply Qk);done))
  ·have hlt : decide ((n : Int) < (mvs.length : Int)) = true := by simp;omega
   have hlt2 : decide (n < mvs.length) = true := by simp;omega
   have hln : n < (mvs.map Mv.e).length := by simp;omega
   obtain ⟨mv,hmv⟩ : ∃ mv,mvs[n]? = some mv := ⟨_,List.getElem?_eq_getElem (by omega)⟩
   have hgv : (mvs.map Mv.e)[n]? = some (Mv.e mv) := by simp [hmv]
   have hD := Lib.hid (move_any (bx := bx) (bm := bm) hGood.out hKO.out y mv (Jm.out g ba x n y mv hmv hJ))
   have hJ := Lib.hid hJ
   go_wp2_with (first|(first|((with_reducible apply wl_ldF hs);infer_instance;rfl;(with_reducible exact Qh);rfl;rfl;(simp only [Uc,Uz]))|((with_reducible apply wl_stF hs);infer_instance;rfl;rfl;(with_reducible exact Qh);rfl;rfl;rfl;rfl;clear hs;intro w hs)|((with_reducible apply wl_alloc hs);infer_instance;rfl;clear hs;intro w b hs;(simp only [Uc,Uz])))|((with_reducible apply wl_ir hRd.out);infer_instance;infer_instance;rfl;rfl;(rfl);(assumption);rfl;intro ao hat;(simp only [Uc,Uz]))|((with_reducible apply wl_lr hs hRd.out);infer_instance;assumption;rfl;(focus with_reducible (repeat first|exact Qh|apply Qk);done);(assumption);rfl;(simp only [Uc,Uz]))|(go_at_call 41;((refine (hD.out).at hs (by (focus with_reducible (repeat first|exact Qh|apply Qk);done)) ?_);clear hs;intro v w hs;(try simp only [emp_mul,mul_assoc'] at hs));(replace hs := moved_iff.1 hs);(obtain ⟨bb,y',⟨rfl,hmt⟩,hs⟩ := hs)))
   go_roundw
   case rel => exact ⟨n + 1,y',by omega,by simp,Js.out g ba x n y mv bb y' hmv hJ.out hmt,by ((with_reducible apply Sat.fin hs);(focus with_reducible (repeat first|exact Ql|exact Qh|apply Qb|apply Qk);done))⟩
   case measure => simp [intOf];omega
theorem does_sl {P : Program} {f : FuncId} {args : Array Value} {E : TypeId} {sz : Nat} {css : List (List Value)} {v : Value} {B : Value → SProp} (h : ∀ A,Rd A sz css v → Does P f args A (fun u => B u * A)) :
  Does P f args (sl E sz css v) (fun u => B u * sl E sz css v) := by
 intro O w F hs
 obtain ⟨hw,⟨rfl,rfl,hs1⟩|⟨b,off,cap,pre,post,rfl,h1,h2,h3,hs1⟩⟩ := sat_sl.1 hs
 ·have hR : Rd emp sz [] (.slice none 0 0) := ⟨.inl ⟨rfl,rfl⟩,by simp,by simp⟩
  refine (h emp hR O w F (hs1.cast (emp_mul _).symm)).mono ?_
  rintro e w' ⟨u,he,hs'⟩
  refine ⟨u,he,?_⟩
  have hs2 : Sat O w' (B u * F) := hs'.cast (by simp only [mul_emp])
  exact (sl_nil (E := E) hs2 hw.pos).cast (by ac_rfl)
 ·have hR : Rd (pt b (.cells (pre ++ css.flatten ++ post).toArray E)) sz css (.slice (some ⟨b,off,none⟩) css.length cap) := rd_pt rfl h1 (fun c hc => (hw.wf c hc).1) hw.pos h2
  refine (h _ hR O w F hs1).mono ?_
  rintro e w' ⟨u,he,hs'⟩
  refine ⟨u,he,?_⟩
  have hs2 : Sat O w' (pt b (.cells (pre ++ css.flatten ++ post).toArray E) * (B u * F)) := hs'.cast (by ac_rfl)
  exact (sat_sl.2 ⟨hw,.inr ⟨b,off,cap,pre,post,rfl,h1,h2,h3,hs2⟩⟩).cast (by ac_rfl)
end Go.Proofs.YtegafhhdegnigaaGreat
end
