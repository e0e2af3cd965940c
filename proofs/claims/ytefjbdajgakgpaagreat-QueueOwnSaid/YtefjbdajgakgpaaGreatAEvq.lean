/-
  queue.Play, by an invariant of the machine's states.
-/
import Derived.Test.YtefjbdajgakgpaaGreatAQueK
import Derived.Test.YtefjbdajgakgpaaGreatANew3
import Derived.Test.YtefjbdajgakgpaaGreatAInv5
import Derived.Test.YtefjbdajgakgpaaGreatANewQ2
set_option linter.all false
namespace Go.Proofs.YtefjbdajgakgpaaGreat
open Go.RowKit Hp
set_option maxRecDepth 100000
set_option maxHeartbeats 1000000
section
attribute [local irreducible] Go.Calls Go.wpList
def gsq0 (c:Cfg)(km:Nat)(vs:Value):GW Qe:=⟨(haz0 c,are1 c),mch0 c.T.toNat (Ja c 1) (.map (some km)) vs,List.replicate c.T.toNat none⟩
theorem gwq0_eq {g ba bx bm:Nat}{CX:Zb}{K:Int→Option Value}{c:Cfg}{km:Nat}{vs:Value}:WR (qkT g ba c CX) bx bm K (gsq0 c km vs) =
  MchR bx bm (mch0 c.T.toNat (Ja c 1) (.map (some km)) vs)*(mp .i64 K (.map (some km))*(HazR g ba (haz0 c)*(AreR ba (are1 c)*(CX*tskR (quR g ba c) (List.replicate c.T.toNat none) (List.replicate c.T.toNat sea0))))):=by
 unfold WR
 simp only[qkT,Ma,gsq0]
 rfl
/-! ## the beginning: one slot linked, Head and Tail name it -/
theorem fill_wok1 {c:Cfg}(hok:c.Ok){ws:List Int}(hw:∀(k:Nat) (u:Int),ws[k]? = some u→WOk c k u)(u0:Nat):∀n:Nat,(n:Int)+u0+1≤c.Sl→∀(k:Nat) (u:Int),(QU ws (base c 10) u0 n)[k]? = some u→WOk c k u
 | 0,_,k,u,h=>hw k u h
 | n+1,hn,k,u,h=>by
  simp only[QU]at h
  have hb:=(ZB hok 10).1
  by_cases hk:(base c 10+((u0+n:Nat):Int)).toNat=k
  ·subst hk
   rw[List.getElem?_set_self']at h
   cases hg:(QU ws (base c 10) u0 n)[(base c 10+((u0+n:Nat):Int)).toNat]? with
   | none=>rw[hg]at h;simp at h
   | some w=>
    rw[hg]at h;simp at h;subst h
    have:=wok_next hok (i:=((u0+n:Nat):Int)) (by omega) (by omega) (u:=((u0+n:Nat):Int)+2) ⟨by omega,by omega⟩
    simpa[adr] using this
  ·rw[Yf hk]at h
   exact fill_wok1 hok hw u0 n (by omega) k u h
theorem first_wok1 {c:Cfg}(hok:c.Ok)(k:Nat)(u:Int)(h:(Ja c 1)[k]? = some u):WOk c k u:=by
 have hS1:=hok.S1
 have e4:=Jc hok 4 (Int.le_refl 0)
 have e5:=Jc hok 5 (Int.le_refl 0)
 obtain⟨q4,q5⟩:=base45 c
 have a4:adr c 4 0=3:=by omega
 have a5:adr c 5 0=4:=by omega
 simp only[Ja]at h
 rw[if_pos (by omega)]at h
 have h0:∀(k:Nat) (u:Int),(List.replicate (base c 14).toNat (0:Int))[k]? = some u→WOk c k u:=by
  intro k u h
  have h0:u=0:=by
   have:=Yc h
   exact(List.mem_replicate.1 this).2
  subst h0
  exact⟨fun _=>⟨by omega,by omega,by omega⟩,fun _=>⟨by omega,by omega⟩,fun _ _=>⟨by omega,by omega⟩,fun _ _=>⟨by omega,by omega⟩,fun _=>⟨by omega,by omega⟩,fun _ _=>⟨by omega,by omega⟩⟩
 by_cases hk4:k=4
 ·subst hk4
  have:=wok_q5 hok u
  rw[a5]at this
  exact this
 rw[Yf (by omega)]at h
 by_cases hk3:k=3
 ·subst hk3
  have:=wok_q4 hok u
  rw[a4]at this
  exact this
 rw[Yf (by omega)]at h
 by_cases hs:c.Sl.toNat-1-1=0
 ·rw[hs]at h
  simp only[QU]at h
  split at h
  ·rename_i hl
   by_cases hk:k=0
   ·subst hk
    rw[List.getElem?_set_self']at h
    have hu:u=2:=by
     cases hg:(List.replicate (base c 14).toNat (0:Int))[0]? with
     | none=>rw[hg]at h;simp at h
     | some w=>rw[hg]at h;simp at h;exact h.symm
    subst hu
    have:=wok_head hok (u:=2) ⟨by omega,by omega,by omega⟩
    simpa[adr,base] using this
   ·rw[Yf (by omega)]at h
    exact h0 k u h
  ·exact h0 k u h
 ·refine fill_wok1 hok ?_ 1 (c.Sl.toNat-1-1) (by omega) k u h
  intro k u h
  rw[if_pos (by omega)]at h
  by_cases hk:k=0
  ·subst hk
   have hu:u=2:=by
    rw[List.getElem?_set_self']at h
    cases hg:(List.replicate (base c 14).toNat (0:Int))[0]? with
    | none=>rw[hg]at h;simp at h
    | some w=>rw[hg]at h;simp at h;exact h.symm
   subst hu
   have:=wok_head hok (u:=2) ⟨by omega,by omega,by omega⟩
   simpa[adr,base] using this
  ·rw[Yf (by omega)]at h
   exact h0 k u h
theorem first_qm {c:Cfg}(hok:c.Ok):QM c (Ja c 1):=by
 have hS1:=hok.S1
 have e4:=Jc hok 4 (Int.le_refl 0)
 have e5:=Jc hok 5 (Int.le_refl 0)
 obtain⟨q4,q5⟩:=base45 c
 have a4:adr c 4 0=3:=by omega
 have a5:adr c 5 0=4:=by omega
 have hl:=firstW_len c 1
 have hb:14≤base c 14:=by
  obtain⟨b1,b2,b8,b9,b10,b11,b12,b13,b14,rh,rh2,b3⟩:=bases hok
  have:=hok.R1
  omega
 have w3:(Ja c 1).getD 3 0=1:=by
  have hl':=hl
  simp only[Ja]at hl' ⊢
  rw[if_pos (by omega)]at hl' ⊢
  simp only[List.length_set]at hl'
  rw[Yb,Yf (by omega),Ye (by omega)]
  rfl
 have w4:(Ja c 1).getD 4 0=1:=by
  have hl':=hl
  simp only[Ja]at hl' ⊢
  rw[if_pos (by omega)]at hl' ⊢
  simp only[List.length_set]at hl'
  rw[Yb,Ye (by simp only[List.length_set];omega)]
  rfl
 unfold QM
 rw[a4,a5,w3,w4]
 omega
theorem PM.start {c:Cfg}(hok:c.Ok)(km:Nat)(vs:Value):PM (QM c) (QI c) c 0 (gsq0 c km vs):=by
 obtain⟨p1,p2,p3,p4,p5,p6,p7⟩:=PI.start hok km vs
 have C:=p3
 refine⟨rfl,rfl,⟨⟨C.ok,rfl,rfl,firstW_len c 1,first_wok1 hok,C.log,C.ahead,C.shifts,?_,C.held,C.hin,C.lists,C.tot,C.ins,C.caches,C.clens,C.cins⟩,first_qm hok⟩,by simp[gsq0],p5,p6,?_⟩
 ·have:=C.slots
  simp[gsq0,are1]
 ·intro t k se hk
  simp only[gsq0,List.getElem?_replicate]at hk
  split at hk<;>simp at hk
def gplayR {τ:Type}(J:GW τ→Prop)(u:Value):Zb:=ex fun x=>ex fun v=>pu (J x∧u=.tuple #[v,.int .i64 0])*RunR x.m.calls x.m.mem.log x.m.shifts x.m.mem.words v
set_option maxHeartbeats 4000000 in
theorem que_playR (c:Cfg)(h:c.Ok)(v:Value)(mvs:List Mv)(hl:mvs.length≤65536)(J:Nat→GW Qe→Prop)
  (J0:∀km vs,J 0 (gsq0 c km vs))
  (Jm:∀CX bh ba k y mv,mvs[k]? = some mv→J k y→MayMove (qkT bh ba c CX) (KOkQ c c.T.toNat) c.T.toNat y mv)
  (Js:∀CX bh ba x z k y mv b y',mvs[k]? = some mv→J k y→MoveTo (qkT bh ba c CX) (jFnQ x z) qTask y mv b y'→J (k+1) y')
  (Jr:∀y,J mvs.length y→y.m.calls.length<4294967296∧y.m.shifts.length<4294967296∧y.m.mem.words.length<4294967296∧y.m.mem.log.length<4294967295∧0<y.m.seats.length) (A:Zb) (hRd:Rd A 4 (mvs.map Mv.e) v) :
  Does Tryz.prog 21 #[c.v,v] A (fun u=>gplayR (J mvs.length) u*A):=by
 intro O w F hs
 have hA:=Lh (arena_new1 c h)
 have hF:=Lh (word_first1 c h)
 have hH:=Lh (fun ba=>hazard_new ba (are1 c) h)
 have hK:=Lh (fun bh ba=>haz_kit bh ba (haz0 c))
 have hK2:=Lh (fun bh ba=>que_kit bh ba (haz0 c) (are1 c) h)
 have hM:=machine_new c.T.toNat
 have hT1:=h.T1
 have hT2:=h.T2
 have hS1:=h.S1
 have hTn:((c.T.toNat:Nat):Int)=c.T:=Int.toNat_of_nonneg (by omega)
 have hbl:=base14_le h
 rw[hTn]at hM
 have hM:=Lh (fun v km=>hM v km (Ja c 1) (by omega) (by omega) (by rw[firstW_len];omega))
 obtain⟨a0,c0,rfl⟩:=hRd.len
 simp only[List.length_map]at hRd hs ⊢
 have hRd:=Lh hRd
 have n1:decide ((mvs.length:Int)>65536)=false:=by simp;omega
 have m1:max c.Sl 0=c.Sl:=by omega
 have m2:min 1 c.Sl=1:=by omega
 have J0:=Lh J0
 have Jm:=Lh Jm
 have Js:=Lh Js
 have Jr:=Lh Jr
 go_enter Tryz.func21,Tryz.ntmps21
 (repeat'(first|(go_big_may;(first|(first|(first|(with_reducible refine NQ.mk ?_)|((with_reducible apply Zd);rfl;rfl)|((with_reducible apply Zm);rfl)|(with_reducible refine EQ.mk ?_ ?_)|(first|(with_reducible exact Zf)|((with_reducible refine Zl ?_ ?_);(focus((with_reducible apply ZC);rfl;rfl))))|(with_reducible refine Ze ?_)|(show ZW _ _ _;rfl))|((with_reducible apply Za hs);exact Ii;rfl;(with_reducible repeat first|exact Qh|apply Qk);rfl;rfl;(simp only[Uc,Uz]))|((with_reducible apply Qg hs);exact Ii;rfl;(with_reducible repeat first|exact Qh|apply Qk);rfl;rfl;(simp only[Uc,Uz]))|((with_reducible apply Zu hs);exact Ii;rfl;clear hs;intro w b hs;(simp only[Uc,Uz]))|((with_reducible apply Zo hs);rfl;rfl;rfl;clear hs;intro w b hs;(simp only[Uc,Uz])))|(go_at_call 53;((refine(hA.out).at hs (by (focus((repeat(with_reducible exact Qn));done))) ?_);clear hs;intro v w hs;(try simp only[Em,Ma]at hs));(simp only[ZA,Ma,Zw]at hs);(obtain⟨ba,rfl,hs⟩:=hs))|(go_at_call 55;((refine(hF.out).at hs (by (focus((repeat(with_reducible exact Qn));done))) ?_);clear hs;intro v w hs;(try simp only[Em,Ma]at hs));(simp only[ZA,Ma,Zw]at hs);(obtain⟨vw,rfl,hs⟩:=hs))|(go_at_call 54;((refine((hH.out ba)).at hs (by (with_reducible exact Qh)) ?_);clear hs;intro g w hs;(try simp only[Em,Ma]at hs)))|(go_at_call 58;((refine((hK.out g ba)).at hs (by (focus((repeat(first|exact Qh|with_reducible apply Qk));done))) ?_);clear hs;intro v w hs;(try simp only[Em,Ma]at hs));(simp only[ZA,Ma]at hs);(obtain⟨x,hs⟩:=hs);(obtain⟨km1,rfl⟩:=mp_some hs))|(go_at_call 27;((refine((hK2.out g ba)).at hs (by (with_reducible repeat first|exact Qh|apply Qb|apply Qk)) ?_);clear hs;intro v w hs;(try simp only[Em,Ma]at hs));(simp only[ZA,Ma]at hs);(obtain⟨z,hs⟩:=hs);(obtain⟨km2,rfl⟩:=mp_some hs))|((with_reducible apply wl_bs2 hs);exact Ii;exact Ii;rfl;rfl;rfl;rfl;rfl;rfl;rfl;clear hs;intro w b2 hs;(simp only[Uc,Uz]))|(go_at_call 57;((refine((machine_join (.map (some km1)) (.map (some km2)) _ (kitFn x) (queFn z))).at hs (by (with_reducible repeat first|exact Qh|apply Qb|apply Qk)) ?_);clear hs;intro v w hs;(try simp only[Em,Ma]at hs));(obtain⟨km,rfl⟩:=mp_some hs))|(go_at_call 56;((refine((hM.out vw km)).at hs (by (with_reducible repeat first|exact Qh|apply Qk)) ?_);clear hs;intro v w hs;(try simp only[Em,Ma]at hs));(simp only[ZA,Ma,Zw]at hs);(obtain⟨bx,bm,vs,rfl,hs⟩:=hs))|((with_reducible refine Wp (id:=8) [.neu 0,.neu 1,.neu 2,.neu 3,.neu 5,.eff 4 [0,1,2,5],.eff 6 [0,1,2],.eff 7 [0,1,2],.eff 8 [0,1,2],.eff 9 [],.neu 10,.neu 11,.neu 12,.neu 13,.neu 14] hs rfl ?_ ?_);kernel_rfl;clear hs;intro w hs)))|go_step|(dsimp only)))
 replace hs:=tsk_nones (R:=quR g ba c) hs c.T.toNat
 have hs2:Sat O w (WR (qkT g ba c (capR g x*qcapR g c z)) bx bm (jFnQ x z) (gsq0 c km vs)*(pt b (.cells #[.slice none 0 0,.slice none 0 0,.slice none 0 0,.slice none 0 0] 30)*(A*F))):=by
  rw[gwq0_eq]
  unfold jFnQ
  simp only[Ma]
  ((with_reducible apply Sat.fin hs);(focus((repeat(first|with_reducible exact Ql|with_reducible exact Qh|with_reducible apply Qb|exact Qh|with_reducible apply Qk));done)))
 clear hs
 have hs:=hs2
 clear hs2
 have hGood:=Lh (qkT_good g ba c (capR g x*qcapR g c z))
 have hKO:=Lh (qkT_kit g ba c c.T.toNat x z)
 have hJ0:=J0.out km vs
 go_loopw [13,57] (fun _ q wr=>∃(n:Nat) (y:GW Qe),n≤mvs.length∧q=.int .i64 (n:Int)∧J n y∧Sat O wr (WR (qkT g ba c (capR g x*qcapR g c z)) bx bm (jFnQ x z) y*(pt b (.cells #[.slice none 0 0,.slice none 0 0,.slice none 0 0,.slice none 0 0] 30)*(A*F)))) (fun _ q _=>65537-(intOf q).toNat)
 case atStart=>exact⟨0,_,by omega,rfl,hJ0,hs⟩
 case round=>
  obtain⟨n,y,k1,rfl,hJ,hs⟩:=hrel
  by_cases hkr:n=mvs.length
  ·subst hkr
   obtain⟨r1,r2,r3,r4,r5⟩:=Jr.out y hJ
   have hR:=Lh (mach_run bx bm y.m r5 r1 r2 r3 r4)
   unfold WR at hs
   simp only[Ma]at hs
   have hlt:decide ((mvs.length:Int)<(mvs.length:Int))=false:=by simp
   have hJ:=Lh hJ
   go_wp2_with (first|((with_reducible apply ZJ hs);exact Ii;rfl;rfl;(with_reducible repeat first|exact Qh|apply Qk);rfl;rfl;rfl;rfl;clear hs;intro w hs)|(go_at_call 60;((refine(hR.out).at hs (by (with_reducible exact Qh)) ?_);clear hs;intro v w hs;(try simp only[Em,Ma]at hs));(unfold RunR at hs);(simp only[ZA,Ma,Zw]at hs);(obtain⟨rc,rt,rs,rw_,rfl,hs⟩:=hs);(obtain⟨_,_,rfl⟩:=ZQ (hs.pull (A:=sl 59 9 _ rc) (by (with_reducible exact Qh))));(obtain⟨_,_,rfl⟩:=ZQ (hs.pull (A:=sl 87 7 _ rt) (by (with_reducible repeat first|exact Qh|apply Qk))));(obtain⟨_,_,rfl⟩:=ZQ (hs.pull (A:=sl 102 5 _ rs) (by (with_reducible repeat first|exact Qh|apply Qk))));(obtain⟨_,_,rfl⟩:=ZQ (hs.pull (A:=sl 79 1 _ rw_) (by (with_reducible repeat first|exact Qh|apply Qk))));(simp only[List.length_map]at hs ⊢)))
   ((try simp only[Exit.inBlock,Exit.then]);(with_reducible apply bodyPost_ret);((with_reducible apply results_ct);rfl;rfl;(with_reducible apply loadF hs);exact Ii;(with_reducible exact Qh);rfl;rfl))
   refine⟨_,rfl,?_⟩
   unfold gplayR RunR
   simp only[ZA,Ma,Zw]
   refine⟨y,_,⟨hJ.out,rfl⟩,_,_,_,_,rfl,?_⟩
   ((with_reducible apply Sat.fin hs);(with_reducible repeat first|exact Ql|exact Qh|apply Qb|apply Qk))
  ·have hlt:decide ((n:Int)<(mvs.length:Int))=true:=by simp;omega
   have hlt2:decide (n<mvs.length)=true:=by simp;omega
   have hln:n<(mvs.map Mv.e).length:=by simp;omega
   obtain⟨mv,hmv⟩:∃mv,mvs[n]? = some mv:=⟨_,Yd (by omega)⟩
   have hgv:(mvs.map Mv.e)[n]? = some (Mv.e mv):=by simp[hmv]
   have hD:=Lh (move_any (bx:=bx) (bm:=bm) hGood.out hKO.out y mv (Jm.out _ g ba n y mv hmv hJ))
   have hJ:=Lh hJ
   go_wp2_with (first|(first|((with_reducible apply Qg hs);exact Ii;rfl;(with_reducible exact Qh);rfl;rfl;(simp only[Uc,Uz]))|((with_reducible apply ZJ hs);exact Ii;rfl;rfl;(with_reducible exact Qh);rfl;rfl;rfl;rfl;clear hs;intro w hs)|((with_reducible apply Zu hs);exact Ii;rfl;clear hs;intro w b hs;(simp only[Uc,Uz])))|((with_reducible apply wl_ir hRd.out);exact Ii;exact Ii;rfl;rfl;(rfl);(assumption);rfl;intro ao hat;(simp only[Uc,Uz]))|((with_reducible apply wl_lr hs hRd.out);exact Ii;assumption;rfl;(with_reducible repeat first|exact Qh|apply Qk);(assumption);rfl;(simp only[Uc,Uz]))|(go_at_call 59;((refine(hD.out).at hs (by (with_reducible repeat first|exact Qh|apply Qk)) ?_);clear hs;intro v w hs;(try simp only[Em,Ma]at hs));(replace hs:=moved_iff.1 hs);(obtain⟨bb,y',⟨rfl,hmt⟩,hs⟩:=hs)))
   go_roundw
   case rel=>exact⟨n+1,y',by omega,by simp,Js.out _ g ba x z n y mv bb y' hmv hJ.out hmt,by ((with_reducible apply Sat.fin hs);(with_reducible repeat first|exact Ql|exact Qh|apply Qb|apply Qk))⟩
   case measure=>simp[intOf];omega
end
section
attribute [local irreducible] Go.Calls
abbrev St3:=Haz×Are×Mch
inductive EvQ (Q:Nat→Prop) (i t:Nat):St3→St3→Prop where
 | refl (x:St3):EvQ Q i t x x
 | trans {x y z:St3}:EvQ Q i t x y→EvQ Q i t y z→EvQ Q i t x z
 | load {h:Haz} {a:Are} {m:Mch} (j:Nat):m.used=false→j<m.mem.words.length∧Q j→EvQ Q i t (h,a,m) (h,a,m.load j (m.word j))
 | store {h:Haz} {a:Are} {m:Mch} (j:Nat) (z:Int):m.used=false→j<m.mem.words.length∧Q j→EvQ Q i t (h,a,m) (h,a,m.store j (m.word j) z)
 | swap {h:Haz} {a:Are} {m:Mch} (j:Nat) (o z:Int):m.used=false→j<m.mem.words.length∧Q j→EvQ Q i t (h,a,m) (h,a,m.swap j (m.word j) o z)
 | shift {h:Haz} {a:Are} {m:Mch} (s to:Int):0≤s→s<a.c.Sl→0≤to→to≤5→EvQ Q i t (h,a,m) (h,a.shift s.toNat m.thread to,m.shift s (a.slots.getD s.toNat ⟨0,0⟩).state to)
 | point {h:Haz} {a:Are} {m:Mch} (cl:Cll) (z:Int):m.calls[i]? = some cl→cl.begin_<z→z≤m.now→EvQ Q i t (h,a,m) (h,a,m.point i cl z)
 | answer {h:Haz} {a:Are} {m:Mch} (se:Sea) (k v:Int):m.seats[t]? = some se→1≤k→k≤6→(k≠2→v=0)→EvQ Q i t (h,a,m) (h,a,m.answer t se k v)
 | haz {h:Haz} (h':Haz) {a:Are} {m:Mch}:EvQ Q i t (h,a,m) (h',a,m)
 | cache {h:Haz} {a:Are} {m:Mch} (cs:List (List Int)):EvQ Q i t (h,a,m) (h,{ a with caches:=cs },m)
def HzA (c:Cfg)(j:Nat):Prop:=(j:Int)<base c 11∧((j:Int)<base c 3∨base c 8≤(j:Int))
class QOk (c:Cfg) (Q:Nat→Prop):Prop where
 q:∀j,HzA c j→Q j
section
variable {i t:Nat}{c:Cfg}{L S N:Nat}{h:Haz}{a:Are}{m:Mch}{Q:Nat→Prop}[QOk c Q]
theorem Core.lq (k:Core c L S N h a m){j:Nat}(hj:HzA c j):j<m.mem.words.length∧Q j:=by
 have hb:=bases k.ok
 have:=k.ok.S1
 refine⟨?_,QOk.q (c:=c) j hj⟩
 rw[k.words]
 have:=hj.1
 obtain⟨b1,b2,b8,b9,b10,b11,b12,b13,b14,rh,rh2,b3⟩:=hb
 omega
theorem adr_lq14 {c:Cfg}(hc:c.Ok):HzA c (adr c 1 0)∧HzA c (adr c 2 0):=by
 have e:=Jc hc 1 (Int.le_refl 0)
 have e2:=Jc hc 2 (Int.le_refl 0)
 have:=hc.R1
 have:=hc.S1
 obtain⟨b1,b2,b8,b9,b10,b11,b12,b13,b14,rh,rh2,b3⟩:=bases hc
 refine⟨⟨?_,?_⟩,?_,?_⟩<;>omega
theorem adr_lq' {c:Cfg}(hc:c.Ok){r:Nat}{z n:Int}(h1:r=8∧n=c.R∨r=10∧n=c.Sl)(h0:0≤z)(hz:z<n):HzA c (adr c r z):=by
 have e:=Jc hc r h0
 obtain⟨b1,b2,b8,b9,b10,b11,b12,b13,b14,rh,rh2,b3⟩:=bases hc
 have:=hc.S1
 have:=hc.R1
 refine⟨?_,?_⟩
 ·rcases h1 with⟨rfl,rfl⟩|⟨rfl,rfl⟩<;>omega
 ·rcases h1 with⟨rfl,rfl⟩|⟨rfl,rfl⟩<;>omega
theorem Core.l11 (k:Core c L S N h a m){z:Int}(h0:0≤z)(hz:z<c.Sl):adr c 11 z<m.mem.words.length:=by
 have e:=Jc k.ok 11 h0
 have hb:=bases k.ok
 have:=k.ok.S1
 rw[k.words]
 obtain⟨b1,b2,b8,b9,b10,b11,b12,b13,b14,rh,rh2,b3⟩:=hb
 omega
theorem hz_lq {c:Cfg}(hc:c.Ok){z:Int}(h0:base c 9≤z)(h1:z<base c 10):HzA c z.toNat:=by
 have hb9:=(ZB hc 9).1
 have:=hc.S1
 have:=hc.R1
 obtain⟨b1,b2,b8,b9,b10,b11,b12,b13,b14,rh,rh2,b3⟩:=bases hc
 refine⟨?_,?_⟩<;>omega
theorem evq_push {p:Psh}(k:Core c L S N h a m)(P:PInv c p)(hu:m.used=false):EvQ Q i t (h,a,m) (h,(Zi a m p).2.1,(Zi a m p).2.2.1):=by
 obtain⟨p1,p2,p3,p4⟩:=P
 have hac:=k.ac
 have h1:=k.lq (Q:=Q) (adr_lq14 k.ok).1
 have h2:=k.lq (Q:=Q) (adr_lq' k.ok (.inr ⟨rfl,rfl⟩) p1 p2)
 unfold Zi
 rw[hac]
 split
 ·exact .load _ hu h1
 ·split
  ·exact .store _ _ hu h2
  ·simp only[]
   split
   ·exact(EvQ.swap _ _ _ hu h1).trans (EvQ.shift (m:=m.swap _ _ _ _) _ _ p1 (by rw[hac];exact p2) (by omega) (by omega))
   ·exact .swap _ _ _ hu h1
theorem evq_give {p:Psh}(hac:a.c=c)(s0:0≤p.slot)(s1:p.slot<c.Sl):EvQ Q i t (h,a,m) (h,(Zr a m p).2.1,(Zr a m p).2.2.1):=by
 unfold Zr
 split
 ·exact .refl _
 ·exact(EvQ.cache _).trans (EvQ.shift (a:={ a with caches:=_ }) _ _ s0 (by rw[←hac]at s1;exact s1) (by omega) (by omega))
theorem give_c (a:Are)(m:Mch)(p:Psh):(Zr a m p).2.1.c=a.c:=by
 unfold Zr;split<;>rfl
theorem evq_free (th:Int):∀(pend:List Int) (g:Option Psh) (a:Are) (m:Mch),a.c=c→(∀z∈pend,0≤z∧z<c.Sl)→EvQ Q i t (h,a,m) (h,(ZG th pend g a m).2.2.2.1,(ZG th pend g a m).2.2.2.2)
 | [],g,a,m,_,_=>.refl _
 | s::r,g,a,m,hac,hin=>by
  have hs:=hin s (List.mem_cons_self ..)
  have hg:=evq_give (Q:=Q) (i:=i) (t:=t) (h:=h) (m:=m) (p:=⟨s,1,0,th⟩) hac hs.1 hs.2
  unfold ZG
  split
  ·exact hg.trans (evq_free th r _ _ _ (by rw[give_c];exact hac) (fun z hz=>hin z (List.mem_cons_of_mem _ hz)))
  ·exact hg
theorem evq_scan {s:Scn}(k:Core c L S N h a m)(I:ScI c s)(hu:m.used=false):EvQ Q i t (h,a,m) ((Zq h a m s).2.1,(Zq h a m s).2.2.1,(Zq h a m s).2.2.2.1):=by
 have hok:=k.ok
 have hac:=k.ac
 have hb:=bases hok
 obtain rfl:=k.hc
 obtain⟨i1,i2,i3,i4,i5,i6,i7,i8,i9⟩:=I
 unfold Zq
 by_cases s0:s.stage=0
 ·rw[if_pos s0]
  obtain⟨a0,a1,a2⟩:=i6 (by omega)
  have h1:=k.lq (Q:=Q) (adr_lq' hok (.inl ⟨rfl,rfl⟩) a0 a1)
  unfold scanTry
  simp only[]
  split<;>exact .load _ hu h1
 rw[if_neg s0]
 by_cases s1:s.stage=1
 ·rw[if_pos s1]
  obtain⟨a0,a1,a2⟩:=i6 (by omega)
  have h1:=k.lq (Q:=Q) (adr_lq' hok (.inl ⟨rfl,rfl⟩) a0 a1)
  unfold Qw
  simp only[]
  split
  ·exact(EvQ.swap _ _ _ hu h1).trans (.haz _)
  ·exact .swap _ _ _ hu h1
 rw[if_neg s1]
 by_cases s2:s.stage=2
 ·rw[if_pos s2]
  obtain⟨a0,a1,a2⟩:=i6 (by omega)
  have h1:=k.lq (Q:=Q) (adr_lq' hok (.inl ⟨rfl,rfl⟩) a0 a1)
  exact .store _ _ hu h1
 rw[if_neg s2]
 by_cases s3:s.stage=3
 ·rw[if_pos s3]
  obtain⟨⟨a0,a1⟩,a2,a3⟩:=i8 s3
  have hp:=i7 (by omega)
  have hb9:=(ZB hok 9).1
  have h1:(base h.c 9+s.at_).toNat<m.mem.words.length∧Q (base h.c 9+s.at_).toNat:=k.lq (Q:=Q) (hz_lq hok (by omega) (by have:=hb.b10;omega))
  obtain⟨e1,e2,e3⟩:=k.lget i1 i2
  unfold QT
  dsimp only
  split
  ·exact .load _ hu h1
  ·simp only[Jf,QJ,hp,List.nil_append]
   refine(EvQ.load _ hu h1).trans ((EvQ.haz { h with lists:=h.lists.set s.record.toNat ((h.lists.getD s.record.toNat []).filter (QL (Qm s.named (m.word (base h.c 9+s.at_).toNat-1)))) }).trans ?_)
   exact evq_free (c:=h.c) _ _ _ _ _ hac (fun z hz=>e3 z (List.mem_filter.1 hz).1)
 rw[if_neg s3]
 obtain⟨p,p1,p2,p3,p4⟩:=i9 (by omega)
 rw[p1]
 simp only[]
 have hq:=evq_push (Q:=Q) (i:=i) (t:=t) k p2 hu
 have hc:=(push_core k p2).1.ac
 unfold Qx
 simp only[]
 split
 ·exact hq.trans (evq_free (c:=h.c) _ _ _ _ _ hc p3)
 ·exact hq
theorem evq_retire {r:Ret}(k:Core c L S N h a m)(s0:0≤r.slot)(s1:r.slot<c.Sl):EvQ Q i t (h,a,m) ((Zv h a m r).2.1,(Zv h a m r).2.2.1,(Zv h a m r).2.2.2.1):=by
 have hac:=k.ac
 unfold Zv
 simp only[]
 split<;>exact(EvQ.shift _ _ s0 (by rw[hac];exact s1) (by omega) (by omega)).trans (.haz _)
theorem evq_take {k:Tak}(C:Core c L S N h a m)(T:TkI c k)(hu:m.used=false):EvQ Q i t (h,a,m) (h,(Zp a m k).2.1,(Zp a m k).2.2.1):=by
 have hok:=C.ok
 have hac:=C.ac
 obtain⟨t1,t2,t3,t4⟩:=T
 have h1:=C.lq (Q:=Q) (adr_lq14 hok).1
 unfold Zp
 rw[hac]
 split
 ·exact .load _ hu h1
 ·rename_i hn
  obtain⟨h3,h4,h5⟩:=t3 hn
  have h2:=C.lq (Q:=Q) (adr_lq' hok (r:=10) (z:=k.head%4294967296-1) (.inr ⟨rfl,rfl⟩) (by omega) (by omega))
  split
  ·exact .load _ hu h2
  ·simp only[]
   split
   ·exact(EvQ.swap _ _ _ hu h1).trans (EvQ.shift (m:=m.swap _ _ _ _) _ _ (by omega) (by rw[hac];omega) (by omega) (by omega))
   ·exact .swap _ _ _ hu h1
theorem evq_reg {se:Sea}{r:Reg}(C:Core c L S N h a m)(hse:m.seats[t]? = some se)(i0:0≤r.i)(i1:r.i<c.R)(hu:m.used=false):EvQ Q i t (h,a,m) ((Z3 h m t se r).2.1,a,(Z3 h m t se r).2.2.1):=by
 have hok:=C.ok
 obtain rfl:=C.hc
 have h1:=C.lq (Q:=Q) (adr_lq' hok (.inl ⟨rfl,rfl⟩) i0 i1)
 have hN:∀m',m'.seats[t]? = some se→EvQ Q i t (h,a,m') ((QK h m' t se r).2.1,a,(QK h m' t se r).2.2.1):=by
  intro m' hs
  unfold QK
  split
  ·exact .refl _
  ·exact .answer _ _ _ hs (by omega) (by omega) (fun _=>rfl)
 unfold Z3
 simp only[]
 split
 ·split
  ·exact(EvQ.load _ hu h1).trans (hN _ hse)
  ·exact .load _ hu h1
 ·split
  ·exact(EvQ.swap _ _ _ hu h1).trans ((EvQ.answer (m:=m.swap _ _ _ _) se 2 r.i hse (by omega) (by omega) (fun hf=>absurd rfl hf)).trans (.haz _))
  ·exact(EvQ.swap _ _ _ hu h1).trans (hN _ hse)
theorem evq_flush {p:Psh}(k:Core c L S N h a m)(P:PInv c p)(hu:m.used=false):EvQ Q i t (h,a,m) (h,(ZF a m p).2.1,(ZF a m p).2.2.1):=by
 have hq:=evq_push (Q:=Q) (i:=i) (t:=t) k P hu
 unfold ZF
 split
 ·exact hq
 ·simp only[]
  split<;>exact hq.trans (.cache _)
theorem evq_unr {u:Unr}(C:Core c L S N h a m)(ht:(t:Int)<c.T)(hu':u.thread=(t:Int))(hd:0≤h.held.getD t 0)(I:UnI c (a.caches.getD t []) u)(hu:m.used=false) :
  EvQ Q i t (h,a,m) ((Zz h a m u).2.1,(Zz h a m u).2.2.1,(Zz h a m u).2.2.2.1):=by
 have hok:=C.ok
 obtain rfl:=C.hc
 obtain⟨r1,_⟩:=C.hget ht
 obtain⟨i1,i2,i3,i4⟩:=I
 unfold Zz
 have e:u.thread.toNat=t:=by omega
 simp only[e]
 by_cases s0:u.stage=0
 ·rw[if_pos s0]
  obtain⟨k0,k1⟩:=i2 s0
  have hz:=hz_adr hok hd r1 k0 k1
  have hb:=(ZB hok 9).1
  have h1:(base h.c 9+h.held.getD t 0*h.c.Hz+u.k).toNat<m.mem.words.length∧Q (base h.c 9+h.held.getD t 0*h.c.Hz+u.k).toNat:=C.lq (Q:=Q) (hz_lq hok (by omega) (by omega))
  split
  ·exact .store _ _ hu h1
  ·split<;>exact .store _ _ hu h1
 rw[if_neg s0]
 by_cases s1:u.stage=1
 ·rw[if_pos s1]
  obtain⟨s,e1,e2,e3⟩:=i3 s1
  rw[e1]
  simp only[]
  have F:=evq_scan (Q:=Q) (i:=i) (t:=t) C e2 hu
  split<;>exact F
 rw[if_neg s1]
 by_cases s2:u.stage=2
 ·rw[if_pos s2]
  obtain⟨p,e1,e2,e3,e4⟩:=i4 s2
  rw[e1]
  exact evq_flush C e2 hu
 rw[if_neg s2]
 exact(EvQ.store _ _ hu (C.lq (Q:=Q) (adr_lq' hok (.inl ⟨rfl,rfl⟩) hd r1))).trans (.haz _)
theorem evq_read {cl:Cll}{se:Sea}{r:Rdg}(C:Core c L S N h a m)(I:RdI c r)(hR:r.stage=3→Q (adr c 11 (r.w-1)))(hcl:m.calls[i]? = some cl)(hse:m.seats[t]? = some se)(hb:cl.begin_<m.now)(hp:r.stage=3→cl.begin_<r.point∧r.point≤m.now)(hu:m.used=false) :
  EvQ Q i t (h,a,m) (h,a,(Z5 h m i t cl se r).2.1):=by
 have hok:=C.ok
 have hc:=C.hc
 obtain⟨i1,i2,i3,i4⟩:=I
 have hb9:=(ZB hok 9).1
 have hbs:=bases hok
 have h1:=C.lq (Q:=Q) (adr_lq14 hok).2
 have h2:r.addr.toNat<m.mem.words.length∧Q r.addr.toNat:=C.lq (Q:=Q) (hz_lq hok (by omega) (by omega))
 have hS:∀m' u,m'.calls=m.calls→m'.seats=m.seats→m'.now=m.now→EvQ Q i t (h,a,m') (h,a,(Qy m' i t cl se r u).2.1):=by
  intro m' u e1 e2 e3
  unfold Qy
  split
  ·exact(EvQ.point cl _ (by rw[e1];exact hcl) (by rw[e3];exact hb) (Int.le_refl _)).trans (EvQ.answer (m:=m'.point _ _ _) se 3 0 (by rw[←e2]at hse;exact hse) (by omega) (by omega) (fun _=>rfl))
  ·exact .refl _
 unfold Z5
 rw[hc]
 simp only[]
 split
 ·exact(EvQ.load _ hu h1).trans (hS _ _ rfl rfl rfl)
 ·rename_i s0
  have hw2:=i4 s0
  split
  ·exact .store _ _ hu h2
  ·rename_i s1
   split
   ·split
    ·exact .load _ hu h1
    ·exact(EvQ.load _ hu h1).trans (hS _ _ rfl rfl rfl)
   ·rename_i s2
    obtain⟨q1,q2⟩:=hp (by omega)
    have h3:adr c 11 (r.w-1)<m.mem.words.length∧Q (adr c 11 (r.w-1)):=⟨C.l11 (by omega) (by omega),hR (by omega)⟩
    exact(EvQ.load _ hu h3).trans ((EvQ.point (m:=m.load _ _) cl r.point hcl q1 q2).trans (EvQ.answer (m:=(m.load _ _).point _ _ _) se 2 _ hse (by omega) (by omega) (fun hf=>absurd rfl hf)))
theorem evq_took {cl:Cll}{se:Sea}{p:Pst}{k:Tak}{m':Mch}(hcl:m'.calls[i]? = some cl)(hse:m'.seats[t]? = some se)(hb:cl.begin_<m'.now):EvQ Q i t (h,a,m') (h,a,(ZS m' i t cl se p k).2.1):=by
 unfold ZS
 split
 ·exact(EvQ.point cl _ hcl hb (Int.le_refl _)).trans (EvQ.answer (m:=m'.point _ _ _) se 4 0 hse (by omega) (by omega) (fun _=>rfl))
 ·exact .refl _
theorem evq_done {cl:Cll}{se:Sea}{p:Pst}{k:Tak}{sl0:Int}(C:Core c L S N h a m)(hs:p.saw≤c.Sl)(q0:0≤sl0)(q1:sl0<c.Sl)(hcl:m.calls[i]? = some cl)(hse:m.seats[t]? = some se)(hb:cl.begin_<m.now) :
  EvQ Q i t (h,a,m) ((Ji h a m i t cl se p sl0).2.1,(Ji h a m i t cl se p sl0).2.2.1,(Ji h a m i t cl se p sl0).2.2.2.1):=by
 have hac:=C.ac
 unfold Ji
 simp only[]
 have E1:EvQ Q i t (h,a,m) (h,a.shift sl0.toNat m.thread 3,((m.point i cl m.now).answer t se 1 0).shift sl0 (a.slots.getD sl0.toNat ⟨0,0⟩).state 3):=
  (EvQ.point cl _ hcl hb (Int.le_refl _)).trans ((EvQ.answer (m:=m.point _ _ _) se 1 0 hse (by omega) (by omega) (fun _=>rfl)).trans (EvQ.shift (m:=(m.point _ _ _).answer _ _ _ _) sl0 3 q0 (by rw[hac];exact q1) (by omega) (by omega)))
 have C1:=(((C.point i cl m.now).answer t se 1 0).ashift sl0.toNat m.thread 3).mshift sl0 (a.slots.getD sl0.toNat ⟨0,0⟩).state 3
 split
 ·exact E1
 ·rename_i hn
  have E2:EvQ Q i t (h,a.shift sl0.toNat m.thread 3,((m.point i cl m.now).answer t se 1 0).shift sl0 (a.slots.getD sl0.toNat ⟨0,0⟩).state 3) _:=EvQ.shift (p.saw-1) 4 (by omega) (by show p.saw-1<a.c.Sl;rw[hac];omega) (by omega) (by omega)
  have C2:=(C1.ashift (p.saw-1).toNat m.thread 4).mshift (p.saw-1) ((a.shift sl0.toNat m.thread 3).slots.getD (p.saw-1).toNat ⟨0,0⟩).state 4
  have R:=evq_retire (Q:=Q) (i:=i) (t:=t) (r:=⟨p.thread,p.saw-1,none⟩) C2 (by simp only[];omega) (by simp only[];omega)
  exact E1.trans (E2.trans R)
theorem evq_post {cl:Cll}{se:Sea}{p:Pst}(C:Core c L S N h a m)(I:PoI c p)(hV:p.stage=1→Q (adr c 11 (p.link-1)))(hcl:m.calls[i]? = some cl)(hse:m.seats[t]? = some se)(hb:cl.begin_<m.now)(hu:m.used=false) :
  EvQ Q i t (h,a,m) ((ZT h a m i t cl se p).2.1,(ZT h a m i t cl se p).2.2.1,(ZT h a m i t cl se p).2.2.2.1):=by
 have hok:=C.ok
 have hc:=C.hc
 obtain⟨⟨k,hk,k0,k1⟩,i2,i3,i4⟩:=I
 have h1:=C.lq (Q:=Q) (adr_lq14 hok).2
 unfold ZT
 rw[hk,hc]
 simp only[]
 by_cases s0:p.stage=0
 ·rw[if_pos s0]
  have E:=evq_take (Q:=Q) (i:=i) (t:=t) C (k0 s0) hu
  have Sm:=same_take a m k
  split
  ·exact E.trans (evq_took (by rw[Sm.calls];exact hcl) (by rw[Sm.seats];exact hse) (by rw[Sm.now];exact hb))
  ·exact E
 rw[if_neg s0]
 by_cases s1:p.stage=1
 ·rw[if_pos s1]
  obtain⟨g1,g2,g3⟩:=k1 (.inl s1)
  exact .store _ _ hu ⟨C.l11 g1 g2,by rw[show Zg k=p.link-1 by omega];exact hV s1⟩
 rw[if_neg s1]
 by_cases s2:p.stage=2
 ·rw[if_pos s2]
  exact .load _ hu h1
 rw[if_neg s2]
 by_cases s3:p.stage=3
 ·rw[if_pos s3]
  obtain⟨g1,g2,g3⟩:=k1 (.inr (.inr s3))
  have hz:WOk c (adr c 2 0) p.link:=wok_cell hok (by omega)
  have hsw:=i3 s3
  split
  ·exact(EvQ.swap _ _ _ hu h1).trans (evq_done (k:=k) (C.swap (adr c 2 0) (m.word (adr c 2 0)) p.saw p.link hz) hsw.2 g1 g2 hcl hse hb)
  ·exact .swap _ _ _ hu h1
 rw[if_neg s3]
 have s4:p.stage=4:=by rcases i2 with h|h|h|h|h<;>first|exact absurd h s0|exact absurd h s1|exact absurd h s2|exact absurd h s3|exact h
 obtain⟨r,sc,e1,e2,e3,e4⟩:=i4 s4
 rw[e1]
 simp only[e2]
 exact evq_scan C e3 hu
def RdP (b now:Int):Q3→Prop
 | .rdg r=>r.stage=3→b<r.point∧r.point≤now
 | _=>True
theorem evq_stp {cl:Cll}{se:Sea}{k:Q3}(C:Core c L S N h a m)(ht:(t:Int)<c.T)(I:TI c t true (h.held.getD t 0) (a.caches.getD t []) k)(hcl:m.calls[i]? = some cl)(hse:m.seats[t]? = some se)(hb:cl.begin_<m.now)(hp:RdP cl.begin_ m.now k)(hu:m.used=false)
  (hR:∀r,k=.rdg r→r.stage=3→Q (adr c 11 (r.w-1))) (hV:∀p,k=.pst p→p.stage=1→Q (adr c 11 (p.link-1))) :
  EvQ Q i t (h,a,m) ((QA (h,a) m i t cl se k).2.1.1,(QA (h,a) m i t cl se k).2.1.2,(QA (h,a) m i t cl se k).2.2.1):=by
 have hok:=C.ok
 cases k with
 | reg r=>
  obtain⟨i1,i2,i3⟩:=I
  exact evq_reg C hse i2 i3 hu
 | unr u=>
  obtain⟨i1,i2,i3⟩:=I
  exact evq_unr C ht i1 i2 i3 hu
 | rdg r=>exact evq_read C I (hR r rfl) hcl hse hb hp hu
 | clr ad=>
  obtain⟨i1,i2⟩:=I
  have hq:=hz_lq (z:=(ad:Int)) hok i1 i2
  rw[Yo]at hq
  exact .store _ _ hu (C.lq hq)
 | scn s=>exact evq_scan C (I.2.2 rfl) hu
 | pst p=>exact evq_post C (I.2.2.1 rfl) (hV p rfl) hcl hse hb hu
theorem rdp_stp {cl cl':Cll}{se:Sea}{k:Q3}(hb:cl.begin_<m.now)(hp:RdP cl.begin_ m.now k):RdP cl.begin_ m.now (QA (h,a) m i t cl' se k).2.2.2:=by
 cases k with
 | rdg r=>
  simp only[QA,RdP,Z5]at hp ⊢
  split
  ·unfold Qy;split<;>simp
  ·split
   ·simp
   ·split
    ·split
     ·simp only[];exact fun _=>⟨hb,Int.le_refl _⟩
     ·unfold Qy;split<;>simp
    ·exact hp
 | _=>exact trivial
theorem rdp_rdy {cl cl':Cll}{se:Sea}{k:Q3}{b now:Int}(hp:RdP b now k):RdP b now (Qz (h,a) m i t cl' se k).2.2.2:=by
 cases k with
 | rdg r=>exact hp
 | _=>exact trivial
end
end
end Go.Proofs.YtefjbdajgakgpaaGreat
