import Derived.Test.YtefjbdajgakgpaaGreatDNewQ2
set_option linter.all false
namespace Go.Proofs.YtefjbdajgakgpaaGreat
open Go.RowKit Hp
set_option maxRecDepth 100000
set_option maxHeartbeats 1000000
section
attribute [local irreducible] Go.Calls Go.wpList
def gsq0 (c:Cfg)(km:Nat)(vs:Value):GW Zx:=⟨(haz0 c,are1 c),mch0 c.T.toNat (Q9 c 1) (.map (some km)) vs,List.replicate c.T.toNat none⟩
theorem gwq0_eq {g ba bx bm:Nat}{CX:Zc}{K:Int→Option Value}{c:Cfg}{km:Nat}{vs:Value}:WR (qkT g ba c CX) bx bm K (gsq0 c km vs) =
  MchR bx bm (mch0 c.T.toNat (Q9 c 1) (.map (some km)) vs)*(mp .i64 K (.map (some km))*(HazR g ba (haz0 c)*(AreR ba (are1 c)*(CX*tskR (quR g ba c) (List.replicate c.T.toNat none) (List.replicate c.T.toNat sea0))))):=by
 unfold WR
 simp only[qkT,Ma,gsq0]
 rfl
/-! ## the beginning: one slot linked, Head and Tail name it -/
theorem fill_wok1 {c:Cfg}(hok:c.Ok){ws:List Int}(hw:∀(k:Nat) (u:Int),ws[k]? = some u→WOk c k u)(u0:Nat):∀n:Nat,(n:Int)+u0+1≤c.Sl→∀(k:Nat) (u:Int),(QR ws (base c 10) u0 n)[k]? = some u→WOk c k u
 | 0,_,k,u,h=>hw k u h
 | n+1,hn,k,u,h=>by
  simp only[QR]at h
  have hb:=(ZD hok 10).1
  by_cases hk:(base c 10+((u0+n:Nat):Int)).toNat=k
  ·subst hk
   rw[List.getElem?_set_self']at h
   cases hg:(QR ws (base c 10) u0 n)[(base c 10+((u0+n:Nat):Int)).toNat]? with
   | none=>rw[hg]at h;simp at h
   | some w=>
    rw[hg]at h;simp at h;subst h
    have:=wok_next hok (i:=((u0+n:Nat):Int)) (by omega) (by omega) (u:=((u0+n:Nat):Int)+2) ⟨by omega,by omega⟩
    simpa[adr] using this
  ·rw[Yf hk]at h
   exact fill_wok1 hok hw u0 n (by omega) k u h
theorem first_wok1 {c:Cfg}(hok:c.Ok)(k:Nat)(u:Int)(h:(Q9 c 1)[k]? = some u):WOk c k u:=by
 have hS1:=hok.S1
 have e4:=ZY hok 4 (Int.le_refl 0)
 have e5:=ZY hok 5 (Int.le_refl 0)
 obtain⟨q4,q5⟩:=base45 c
 have a4:adr c 4 0=3:=by omega
 have a5:adr c 5 0=4:=by omega
 simp only[Q9]at h
 rw[if_pos (by omega)]at h
 have h0:∀(k:Nat) (u:Int),(List.replicate (base c 14).toNat (0:Int))[k]? = some u→WOk c k u:=by
  intro k u h
  have h0:u=0:=by
   have:=Yc h
   exact(List.mem_replicate.1 this).2
  subst h0
  exact⟨fun _=>⟨by omega,by omega,by omega⟩,fun _=>⟨by omega,by omega⟩,fun _ _=>⟨by omega,by omega⟩,fun _ _=>⟨by omega,by omega⟩,fun _=>⟨by omega,by omega⟩,fun _ _=>⟨by omega,by omega⟩⟩
 by_cases hk4:k=4
 ·subst hk4
  have:=wok_q5 hok u
  rw[a5]at this
  exact this
 rw[Yf (by omega)]at h
 by_cases hk3:k=3
 ·subst hk3
  have:=wok_q4 hok u
  rw[a4]at this
  exact this
 rw[Yf (by omega)]at h
 by_cases hs:c.Sl.toNat-1-1=0
 ·rw[hs]at h
  simp only[QR]at h
  split at h
  ·rename_i hl
   by_cases hk:k=0
   ·subst hk
    rw[List.getElem?_set_self']at h
    have hu:u=2:=by
     cases hg:(List.replicate (base c 14).toNat (0:Int))[0]? with
     | none=>rw[hg]at h;simp at h
     | some w=>rw[hg]at h;simp at h;exact h.symm
    subst hu
    have:=wok_head hok (u:=2) ⟨by omega,by omega,by omega⟩
    simpa[adr,base] using this
   ·rw[Yf (by omega)]at h
    exact h0 k u h
  ·exact h0 k u h
 ·refine fill_wok1 hok ?_ 1 (c.Sl.toNat-1-1) (by omega) k u h
  intro k u h
  rw[if_pos (by omega)]at h
  by_cases hk:k=0
  ·subst hk
   have hu:u=2:=by
    rw[List.getElem?_set_self']at h
    cases hg:(List.replicate (base c 14).toNat (0:Int))[0]? with
    | none=>rw[hg]at h;simp at h
    | some w=>rw[hg]at h;simp at h;exact h.symm
   subst hu
   have:=wok_head hok (u:=2) ⟨by omega,by omega,by omega⟩
   simpa[adr,base] using this
  ·rw[Yf (by omega)]at h
   exact h0 k u h
theorem first_qm {c:Cfg}(hok:c.Ok):QM c (Q9 c 1):=by
 have hS1:=hok.S1
 have e4:=ZY hok 4 (Int.le_refl 0)
 have e5:=ZY hok 5 (Int.le_refl 0)
 obtain⟨q4,q5⟩:=base45 c
 have a4:adr c 4 0=3:=by omega
 have a5:adr c 5 0=4:=by omega
 have hl:=firstW_len c 1
 have hb:14≤base c 14:=by
  obtain⟨b1,b2,b8,b9,b10,b11,b12,b13,b14,rh,rh2,b3⟩:=Qg hok
  have:=hok.R1
  omega
 have w3:(Q9 c 1).getD 3 0=1:=by
  have hl':=hl
  simp only[Q9]at hl' ⊢
  rw[if_pos (by omega)]at hl' ⊢
  simp only[List.length_set]at hl'
  rw[Yb,Yf (by omega),Ye (by omega)]
  rfl
 have w4:(Q9 c 1).getD 4 0=1:=by
  have hl':=hl
  simp only[Q9]at hl' ⊢
  rw[if_pos (by omega)]at hl' ⊢
  simp only[List.length_set]at hl'
  rw[Yb,Ye (by simp only[List.length_set];omega)]
  rfl
 unfold QM
 rw[a4,a5,w3,w4]
 omega
theorem PM.start {c:Cfg}(hok:c.Ok)(km:Nat)(vs:Value):PM (QM c) (QI c) c 0 (gsq0 c km vs):=by
 obtain⟨p1,p2,p3,p4,p5,p6,p7⟩:=PI.start hok km vs
 have C:=p3
 refine⟨rfl,rfl,⟨⟨C.ok,rfl,rfl,firstW_len c 1,first_wok1 hok,C.log,C.ahead,C.shifts,?_,C.held,C.hin,C.lists,C.tot,C.ins,C.caches,C.clens,C.cins⟩,first_qm hok⟩,by simp[gsq0],p5,p6,?_⟩
 ·have:=C.slots
  simp[gsq0,are1]
 ·intro t k se hk
  simp only[gsq0,List.getElem?_replicate]at hk
  split at hk<;>simp at hk
def gplayR {τ:Type}(J:GW τ→Prop)(u:Value):Zc:=ex fun x=>ex fun v=>pu (J x∧u=.tuple #[v,.int .i64 0])*RunR x.m.calls x.m.mem.log x.m.shifts x.m.mem.words v
set_option maxHeartbeats 4000000 in
theorem que_playR (c:Cfg)(h:c.Ok)(v:Value)(mvs:List Mv)(hl:mvs.length≤65536)(J:Nat→GW Zx→Prop)
  (J0:∀km vs,J 0 (gsq0 c km vs))
  (Jm:∀CX bh ba k y mv,mvs[k]? = some mv→J k y→MayMove (qkT bh ba c CX) (KOkQ c c.T.toNat) c.T.toNat y mv)
  (Js:∀CX bh ba x z k y mv b y',mvs[k]? = some mv→J k y→Jy (qkT bh ba c CX) (jFnQ x z) qTask y mv b y'→J (k+1) y')
  (Jr:∀y,J mvs.length y→y.m.calls.length<4294967296∧y.m.shifts.length<4294967296∧y.m.mem.words.length<4294967296∧y.m.mem.log.length<4294967295∧0<y.m.seats.length) (A:Zc) (hRd:Rd A 4 (mvs.map Mv.e) v) :
  Does Tryz.prog 21 #[c.v,v] A (fun u=>gplayR (J mvs.length) u*A):=by
 intro O w F hs
 have hA:=Lh (arena_new1 c h)
 have hF:=Lh (word_first1 c h)
 have hH:=Lh (fun ba=>hazard_new ba (are1 c) h)
 have hK:=Lh (fun bh ba=>haz_kit bh ba (haz0 c))
 have hK2:=Lh (fun bh ba=>que_kit bh ba (haz0 c) (are1 c) h)
 have hM:=machine_new c.T.toNat
 have hT1:=h.T1
 have hT2:=h.T2
 have hS1:=h.S1
 have hTn:((c.T.toNat:Nat):Int)=c.T:=Int.toNat_of_nonneg (by omega)
 have hbl:=base14_le h
 rw[hTn]at hM
 have hM:=Lh (fun v km=>hM v km (Q9 c 1) (by omega) (by omega) (by rw[firstW_len];omega))
 obtain⟨a0,c0,rfl⟩:=hRd.len
 simp only[List.length_map]at hRd hs ⊢
 have hRd:=Lh hRd
 have n1:decide ((mvs.length:Int)>65536)=false:=by simp;omega
 have m1:max c.Sl 0=c.Sl:=by omega
 have m2:min 1 c.Sl=1:=by omega
 have J0:=Lh J0
 have Jm:=Lh Jm
 have Js:=Lh Js
 have Jr:=Lh Jr
 go_enter Tryz.func21,Tryz.ntmps21
 (repeat'(first|(go_big_may;(first|(with_reducible first|apply NQ.mk|apply EQ.mk|exact Zg|apply Zj)|((with_reducible apply Zi);rfl;rfl)|((with_reducible apply Zo);rfl)|((with_reducible refine Zn ?_ ?_);focus((with_reducible apply ZI);rfl;rfl))|(show Qd _ _ _;rfl)|((with_reducible apply Zb hs);exact Ii;rfl;(with_reducible repeat first|exact Qh|apply Qk);rfl;rfl;simp only[Uc,Uz])|((with_reducible apply Qy hs);exact Ii;rfl;(with_reducible repeat first|exact Qh|apply Qk);rfl;rfl;simp only[Uc,Uz])|((with_reducible apply Zw hs);exact Ii;rfl;clear hs;intro w b hs;simp only[Uc,Uz])|((with_reducible apply Zt hs);rfl;rfl;rfl;clear hs;intro w b hs;simp only[Uc,Uz])|(go_at_call 53;((refine(hA.out).at hs (by (focus((repeat(with_reducible exact Qn));done))) ?_);clear hs;intro v w hs;(try simp only[Em,Ma]at hs));(simp only[ZG,Ma,Zz]at hs);(obtain⟨ba,rfl,hs⟩:=hs))|(go_at_call 55;((refine(hF.out).at hs (by (focus((repeat(with_reducible exact Qn));done))) ?_);clear hs;intro v w hs;(try simp only[Em,Ma]at hs));(simp only[ZG,Ma,Zz]at hs);(obtain⟨vw,rfl,hs⟩:=hs))|(go_at_call 54;((refine((hH.out ba)).at hs (by (with_reducible exact Qh)) ?_);clear hs;intro g w hs;(try simp only[Em,Ma]at hs)))|(go_at_call 58;((refine((hK.out g ba)).at hs (by (focus((repeat(first|exact Qh|with_reducible apply Qk));done))) ?_);clear hs;intro v w hs;(try simp only[Em,Ma]at hs));(simp only[ZG,Ma]at hs);(obtain⟨x,hs⟩:=hs);(obtain⟨km1,rfl⟩:=mp_some hs))|(go_at_call 27;((refine((hK2.out g ba)).at hs (by (with_reducible repeat first|exact Qh|apply Qb|apply Qk)) ?_);clear hs;intro v w hs;(try simp only[Em,Ma]at hs));(simp only[ZG,Ma]at hs);(obtain⟨z,hs⟩:=hs);(obtain⟨km2,rfl⟩:=mp_some hs))|((with_reducible apply wl_bs2 hs);exact Ii;exact Ii;rfl;rfl;rfl;rfl;rfl;rfl;rfl;clear hs;intro w b2 hs;simp only[Uc,Uz])|(go_at_call 57;((refine((machine_join (.map (some km1)) (.map (some km2)) _ (kitFn x) (queFn z))).at hs (by (with_reducible repeat first|exact Qh|apply Qb|apply Qk)) ?_);clear hs;intro v w hs;(try simp only[Em,Ma]at hs));(obtain⟨km,rfl⟩:=mp_some hs))|(go_at_call 56;((refine((hM.out vw km)).at hs (by (with_reducible repeat first|exact Qh|apply Qk)) ?_);clear hs;intro v w hs;(try simp only[Em,Ma]at hs));(simp only[ZG,Ma,Zz]at hs);(obtain⟨bx,bm,vs,rfl,hs⟩:=hs))|((with_reducible refine Wp (id:=8) [.neu 0,.neu 1,.neu 2,.neu 3,.neu 5,.eff 4 [0,1,2,5],.eff 6 [0,1,2],.eff 7 [0,1,2],.eff 8 [0,1,2],.eff 9 [],.neu 10,.neu 11,.neu 12,.neu 13,.neu 14] hs rfl ?_ ?_);kernel_rfl;clear hs;intro w hs)))|go_step|(dsimp only)))
 replace hs:=tsk_nones (R:=quR g ba c) hs c.T.toNat
 have hs2:Sat O w (WR (qkT g ba c (capR g x*qcapR g c z)) bx bm (jFnQ x z) (gsq0 c km vs)*(pt b (.cells #[.slice none 0 0,.slice none 0 0,.slice none 0 0,.slice none 0 0] 30)*(A*F))):=by
  rw[gwq0_eq]
  unfold jFnQ
  simp only[Ma]
  ((with_reducible apply Sat.fin hs);(focus((repeat(first|with_reducible exact Ql|with_reducible exact Qh|with_reducible apply Qb|exact Qh|with_reducible apply Qk));done)))
 clear hs
 have hs:=hs2
 clear hs2
 have hGood:=Lh (qkT_good g ba c (capR g x*qcapR g c z))
 have hKO:=Lh (qkT_kit g ba c c.T.toNat x z)
 have hJ0:=J0.out km vs
 go_loopw [13,57] (fun _ q wr=>∃(n:Nat) (y:GW Zx),n≤mvs.length∧q=.int .i64 (n:Int)∧J n y∧Sat O wr (WR (qkT g ba c (capR g x*qcapR g c z)) bx bm (jFnQ x z) y*(pt b (.cells #[.slice none 0 0,.slice none 0 0,.slice none 0 0,.slice none 0 0] 30)*(A*F)))) (fun _ q _=>65537-(intOf q).toNat)
 case atStart=>exact⟨0,_,by omega,rfl,hJ0,hs⟩
 case round=>
  obtain⟨n,y,k1,rfl,hJ,hs⟩:=hrel
  by_cases hkr:n=mvs.length
  ·subst hkr
   obtain⟨r1,r2,r3,r4,r5⟩:=Jr.out y hJ
   have hR:=Lh (mach_run bx bm y.m r5 r1 r2 r3 r4)
   unfold WR at hs
   simp only[Ma]at hs
   have hlt:decide ((mvs.length:Int)<(mvs.length:Int))=false:=by simp
   have hJ:=Lh hJ
   go_wp2_with (first|((with_reducible apply ZN hs);exact Ii;rfl;rfl;(with_reducible repeat first|exact Qh|apply Qk);rfl;rfl;rfl;rfl;clear hs;intro w hs)|(go_at_call 60;((refine(hR.out).at hs (by (with_reducible exact Qh)) ?_);clear hs;intro v w hs;(try simp only[Em,Ma]at hs));(unfold RunR at hs);(simp only[ZG,Ma,Zz]at hs);(obtain⟨rc,rt,rs,rw_,rfl,hs⟩:=hs);(obtain⟨_,_,rfl⟩:=QY (hs.pull (A:=sl 59 9 _ rc) (by (with_reducible exact Qh))));(obtain⟨_,_,rfl⟩:=QY (hs.pull (A:=sl 87 7 _ rt) (by (with_reducible repeat first|exact Qh|apply Qk))));(obtain⟨_,_,rfl⟩:=QY (hs.pull (A:=sl 102 5 _ rs) (by (with_reducible repeat first|exact Qh|apply Qk))));(obtain⟨_,_,rfl⟩:=QY (hs.pull (A:=sl 79 1 _ rw_) (by (with_reducible repeat first|exact Qh|apply Qk))));(simp only[List.length_map]at hs ⊢)))
   ((try simp only[Exit.inBlock,Exit.then]);(with_reducible apply bodyPost_ret);((with_reducible apply results_ct);rfl;rfl;(with_reducible apply loadF hs);exact Ii;(with_reducible exact Qh);rfl;rfl))
   refine⟨_,rfl,?_⟩
   unfold gplayR RunR
   simp only[ZG,Ma,Zz]
   refine⟨y,_,⟨hJ.out,rfl⟩,_,_,_,_,rfl,?_⟩
   (with_reducible apply Sat.fin hs;repeat first|exact Ql|exact Qh|apply Qb|apply Qk)
  ·have hlt:decide ((n:Int)<(mvs.length:Int))=true:=by simp;omega
   have hlt2:decide (n<mvs.length)=true:=by simp;omega
   have hln:n<(mvs.map Mv.e).length:=by simp;omega
   obtain⟨mv,hmv⟩:∃mv,mvs[n]? = some mv:=⟨_,Yd (by omega)⟩
   have hgv:(mvs.map Mv.e)[n]? = some (Mv.e mv):=by simp[hmv]
   have hD:=Lh (move_any (bx:=bx) (bm:=bm) hGood.out hKO.out y mv (Jm.out _ g ba n y mv hmv hJ))
   have hJ:=Lh hJ
   go_wp2_with (first|((with_reducible apply Qy hs);exact Ii;rfl;(with_reducible exact Qh);rfl;rfl;simp only[Uc,Uz])|((with_reducible apply ZN hs);exact Ii;rfl;rfl;(with_reducible exact Qh);rfl;rfl;rfl;rfl;clear hs;intro w hs)|((with_reducible apply Zw hs);exact Ii;rfl;clear hs;intro w b hs;simp only[Uc,Uz])|((with_reducible apply wl_ir hRd.out);exact Ii;exact Ii;rfl;rfl;rfl;(assumption);rfl;intro ao hat;simp only[Uc,Uz])|((with_reducible apply wl_lr hs hRd.out);exact Ii;assumption;rfl;(with_reducible repeat first|exact Qh|apply Qk);(assumption);rfl;simp only[Uc,Uz])|(go_at_call 59;(refine(hD.out).at hs (by with_reducible repeat first|exact Qh|apply Qk) ?_;clear hs;intro v w hs;(try simp only[Em,Ma]at hs));(replace hs:=moved_iff.1 hs);(obtain⟨bb,y',⟨rfl,hmt⟩,hs⟩:=hs)))
   go_roundw
   case rel=>exact⟨n+1,y',by omega,by simp,Js.out _ g ba x z n y mv bb y' hmv hJ.out hmt,by (with_reducible apply Sat.fin hs;repeat first|exact Ql|exact Qh|apply Qb|apply Qk)⟩
   case measure=>simp[intOf];omega
end
section
attribute [local irreducible] Go.Calls
def begQ (n:Int)(_:Nat)(cl:Cll)(_:Sea)(k:Zx):Prop:=cl.begin_<n∧hzQ cl.begin_ n k
theorem begQ_mono {n n':Int}(hn:n≤n')(t:Nat)(cl:Cll)(se:Sea)(k:Zx)(h:begQ n t cl se k):begQ n' t cl se k:=⟨by have:=h.1;omega,hzQ_mono h.2 hn⟩
section
variable {τ:Type}{y:GW τ}
theorem RunG.mono {B B':Nat→Cll→Sea→τ→Prop}{E:Cll→Prop}(R:RunG B E y)(h:∀t cl se k,B t cl se k→B' t cl se k):RunG B' E y:=by
 refine⟨fun t k se hk hse => ?_,R.ended⟩
 obtain⟨i,cl,a1,a2,a3,a4,a5⟩:=R.busy t k se hk hse
 exact⟨i,cl,a1,a2,a3,a4,h _ _ _ _ a5⟩
end
theorem hzQ_rdy {h:Haz}{a:Are}{m:Mch}{i t:Nat}{cl cl':Cll}{se:Sea}{k:Zx}(hp:hzQ cl.begin_ m.now k):hzQ cl.begin_ m.now (Q6 (h,a) m i t cl' se k).2.2.2:=by
 cases k with
 | hz k=>exact rdp_rdy (cl:=cl) hp
 | _=>trivial
theorem hzQ_stp {h:Haz}{a:Are}{m:Mch}{i t:Nat}{cl cl':Cll}{se:Sea}{k:Zx}(hb:cl.begin_<m.now)(hp:hzQ cl.begin_ m.now k):hzQ cl.begin_ m.now (Q5 (h,a) m i t cl' se k).2.2.2:=by
 cases k with
 | hz k=>exact rdp_stp hb hp
 | _=>trivial
structure QB (n:Nat)(y:GW Zx):Prop where
 run:RunG (begQ n) (fun _=>True) y
structure QStp (c:Cfg)(T:JH (Haz×Are) Zx)(n:Nat)(y:GW Zx)(t i:Nat)(cl:Cll)(se:Sea)(k:Zx)(r1 r2:GR Zx):Prop where
 beg:cl.begin_<n
 hp:hzQ cl.begin_ n k
 hp1:hzQ cl.begin_ n r1.2.2.2
 hp2:hzQ cl.begin_ n r2.2.2.2
 end1:cl.end_ = -1
 thr:cl.thread=(t:Int)
 ci:ZX (ZO y t i se) i t cl { se with ready:=true }
 now0:(ZO y t i se).now=(n:Int)
 now1:r1.2.2.1.now=(n:Int)
section
variable {c:Cfg}{bh ba:Nat}{CX:Zc}{n:Nat}{y:GW Zx}{t i:Nat}{cl:Cll}{se:Sea}{k:Zx}{r1 r2:GR Zx}
theorem QB.stp (R:QB n y)(P:PM (QM c) (QI c) c n y)(G:GStepM (QM c) (qkT bh ba c CX) (QI c) c n y t i cl se k r1 r2):QStp c (qkT bh ba c CX) n y t i cl se k r1 r2:=by
 obtain⟨i0,cl0,a1,a2,a3,a4,hb,hp⟩:=R.run.busy t k se G.hk G.hse
 have hi0:i0=i:=by have:=G.hl;omega
 subst hi0
 have hcl:cl0=cl:=by have:=G.hc;rw[a2]at this;cases this;rfl
 subst hcl
 have hlt:=(List.getElem?_eq_some_iff.1 G.hse).1
 have hci:ZX (ZO y t i0 se) i0 t cl0 { se with ready:=true }:=⟨rfl,G.hc,by simp[ZO,Mch.prep,Wst.tick,hlt]⟩
 have hmv:y.m.moves=(n:Int):=P.moves
 have hnow0:(ZO y t i0 se).now=(n:Int):=hmv
 have hnow1:r1.2.2.1.now=(n:Int):=by rw[G.h1.frame.now];exact hmv
 have H1:hzQ cl0.begin_ n r1.2.2.2:=by
  rcases G.rdy with⟨hf,e⟩|⟨_,e⟩
  ·have e':r1=Q6 (y.s.1,y.s.2) (ZO y t i0 se) i0 t cl0 { se with ready:=true } k:=e
   rw[e',←hnow0]
   exact hzQ_rdy (by rw[hnow0];exact hp)
  ·rw[e];exact hp
 have H2:hzQ cl0.begin_ n r2.2.2.2:=by
  rcases G.stp with⟨hb1,e⟩|⟨hb1,z1,q1,v1,hcu,e⟩
  ·rw[e];exact H1
  ·have e':r2=Q5 (r1.2.1.1,r1.2.1.2) r1.2.2.1 i0 t { cl0 with point:=z1 } { se with ready:=true,kind:=q1,value:=v1 } r1.2.2.2:=e
   rw[e',←hnow1]
   exact hzQ_stp (cl:=cl0) (by rw[hnow1];exact hb) (by rw[hnow1];exact H1)
 exact⟨hb,hp,H1,H2,a4,a3,hci,hnow0,hnow1⟩
theorem QB.step (R:QB n y)(P:PM (QM c) (QI c) c n y)(G:GStepM (QM c) (qkT bh ba c CX) (QI c) c n y t i cl se k r1 r2):QB (n+1) (Qj y t i r2):=by
 obtain⟨z,q,v,O⟩:=G.out P
 have S:=R.stp P G
 refine⟨(R.run.mono (begQ_mono (n':=((n+1:Nat):Int)) (by omega))).stepM P G O (fun _ => ?_) (fun _=>trivial)⟩
 exact⟨by have:=S.beg;simp only[];omega,hzQ_mono S.hp2 (by omega)⟩
theorem QB.mw (R:QB n y)(hn:n<65536)(P:PM (QM c) (QI c) c n y)(G:GStepM (QM c) (qkT bh ba c CX) (QI c) c n y t i cl se k r1 r2):QM c (Qj y t i r2).m.mem.words:=by
 obtain⟨z,q,v,O⟩:=G.out P
 have S:=R.stp P G
 rw[O.mem]
 rcases G.stp with⟨hb1,e⟩|⟨hb1,z1,q1,v1,hcu,e⟩
 ·rw[e];exact G.h1.core.mw
 ·have e':r2=Q5 (r1.2.1.1,r1.2.1.2) r1.2.2.1 i t { cl with point:=z1 } { se with ready:=true,kind:=q1,value:=v1 } r1.2.2.2:=e
  rw[e']
  exact qm_stp (i:=i) (cl:={ cl with point:=z1 }) (se:={ se with ready:=true,kind:=q1,value:=v1 }) G.h1.core (by omega) G.htT (G.h1.fin hb1) hcu (by rw[S.now1];exact S.beg) (by rw[S.now1];exact S.hp1) G.used1
end
def qOps (o:Int):Prop:=(20≤o∧o≤25)∨o=40∨o=41
structure JW (c:Cfg)(T:JH (Haz×Are) Zx)(J:Nat→GW Zx→Prop):Prop where
 tick:∀n y,n<65536→PM (QM c) (QI c) c n y→QB n y→J n y→J (n+1) y.tick
 beg:∀n y mv t k v vc,n<65536→PM (QM c) (QI c) c n y→QB n y→J n y→mv.thread=((t:Nat):Int)→(t:Int)<c.T→qOps mv.op→y.tasks[t]? = some none→qTask y.s t mv=some k→J (n+1) ⟨y.s,ZB y.m t mv v vc,y.tasks.set t (some k)⟩
 step:∀n y t i cl se k r1 r2,n<65536→PM (QM c) (QI c) c n y→QB n y→GStepM (QM c) T (QI c) c n y t i cl se k r1 r2→PM (QM c) (QI c) c (n+1) (Qj y t i r2)→QB (n+1) (Qj y t i r2)→J n y→J (n+1) (Qj y t i r2)
theorem JW.jm {c:Cfg}{bh ba:Nat}{CX:Zc}{J:Nat→GW Zx→Prop}(hJ:JW c (qkT bh ba c CX) J):JM (QM c) (qkT bh ba c CX) qTask (QI c) c qOps (fun n y=>QB n y∧J n y) where
 tick:=fun n y hn P j=>⟨⟨(j.1.run.mono (begQ_mono (by omega))).tick⟩,hJ.tick n y hn P j.1 j.2⟩
 beg:=by
  intro n y mv t k v vc hn P j ht htT hop hk hm
  have hmv:y.m.moves=(n:Int):=P.moves
  exact⟨⟨(j.1.run.mono (begQ_mono (by omega))).begin ht hk (P.tasks.trans P.seats.symm) ⟨by simp only[];omega,hzQ_made hm⟩⟩,hJ.beg n y mv t k v vc hn P j.1 j.2 ht htT hop hk hm⟩
 mw:=fun n y t i cl se k r1 r2 hn P G j=>j.1.mw hn P G
 step:=fun n y t i cl se k r1 r2 hn P G P' j=>⟨j.1.step P G,hJ.step n y t i cl se k r1 r2 hn P j.1 G P' (j.1.step P G) j.2⟩
theorem QB.start (c:Cfg)(km:Nat)(vs:Value):QB 0 (gsq0 c km vs):=by
 have hk:∀(t:Nat) (k:Zx),(gsq0 c km vs).tasks[t]? = some (some k)→False:=by
  intro t k hk
  simp only[gsq0,List.getElem?_replicate]at hk
  split at hk<;>simp at hk
 exact⟨⟨fun t k se h _=>(hk t k h).elim,fun cl hcl=>by simp[gsq0,mch0]at hcl⟩⟩
theorem jw_true (c:Cfg)(T:JH (Haz×Are) Zx):JW c T (fun _ _=>True):=⟨fun _ _ _ _ _ _=>trivial,fun _ _ _ _ _ _ _ _ _ _ _ _ _ _ _ _=>trivial,fun _ _ _ _ _ _ _ _ _ _ _ _ _ _ _ _=>trivial⟩
theorem que_playJ (c:Cfg)(h:c.Ok)(v:Value)(mvs:List Mv)(hl:mvs.length≤65536)(J:Nat→GW Zx→Prop)(J0:∀km vs,J 0 (gsq0 c km vs))
  (hJ:∀CX bh ba x z k y mv b y',mvs[k]? = some mv→PM (QM c) (QI c) c k y∧QB k y→J k y→Jy (qkT bh ba c CX) (jFnQ x z) qTask y mv b y'→J (k+1) y') (A:Zc) (hRd:Rd A 4 (mvs.map Mv.e) v) :
  Does Tryz.prog 21 #[c.v,v] A (fun u=>gplayR (fun y=>(PM (QM c) (QI c) c mvs.length y∧QB mvs.length y)∧J mvs.length y) u*A):=by
 have hT2:=h.T2
 refine que_playR c h v mvs hl (fun k y=>(PM (QM c) (QI c) c k y∧QB k y)∧J k y) (fun km vs=>⟨⟨PM.start h km vs,QB.start c km vs⟩,J0 km vs⟩) ?_ ?_ ?_ A hRd
 ·intro CX bh ba k y mv hmv hj
  have:=(List.getElem?_eq_some_iff.1 hmv).1
  exact hj.1.1.may core_kokQ (qkT_good bh ba c CX) (qk_inv c _ _) (by omega) mv
 ·intro CX bh ba x z k y mv b y' hmv hj hm
  have:=(List.getElem?_eq_some_iff.1 hmv).1
  have M:=(jw_true c (qkT bh ba c CX)).jm.moves (qkT_good bh ba c CX) (qk_inv c _ _) (fun o=>(jFnQ_known x z o).1) hj.1.1 ⟨hj.1.2,trivial⟩ (by omega) hm
  exact⟨⟨M.1,M.2.1⟩,hJ CX bh ba x z k y mv b y' hmv hj.1 hj.2 hm⟩
 ·intro y hj
  obtain⟨p1,p2,p3,p4,p5,p6,p7⟩:=hj.1.1
  have:=p3.log
  have:=p3.shifts
  have:=p3.words
  have:=base14_le h
  have:=h.T1
  omega
end
section
attribute [local irreducible] Go.Calls
def K0:Zx→Prop
 | .hz k=>hS k=[]∧hL k=[]
 | .put p=>p.stage=0
 | .get p=>p.stage=0∧p.got=false
theorem K0.nil {k:Zx}(h:K0 k):kS k=[]∧kL k=[]:=by
 cases k with
 | hz k=>exact h
 | put p=>have h:p.stage=0:=h;exact⟨kS_put0 (by unfold pS;omega),rfl⟩
 | get p=>have h:p.stage=0∧p.got=false:=h;exact⟨(Q7 (p:=p) (Jk (by omega)) (by omega)).1,(Q7 (p:=p) (Jk (by omega)) (by omega)).2.1⟩
structure DK (c:Cfg)(stk:List Int)(pr:Int→Prop)(F:List Int)(n:Int)(y:GW Zx):Prop where
 gd:Gd c n (cnt2 (y.tasks.map kSo)) (cnt2 (y.tasks.map kLo)) F (sx stk pr c y.s.1 y.s.2 y.m) [] []
 td:∀(j:Nat) (k:Zx),y.tasks[j]? = some (some k)→KD c j (sx stk pr c y.s.1 y.s.2 y.m) (tlw c y.m) k
 fresh:∀(j:Nat) (k:Zx) (se:Sea),y.tasks[j]? = some (some k)→y.m.seats[j]? = some se→se.ready=false→K0 k
 tli:TlI stk (tlw c y.m)
section
variable {c:Cfg}{Lg S N:Nat}{h:Haz}{a:Are}{m:Mch}
variable {n:Int}{Z Y:Int→Nat}{F stk:List Int}{pr:Int→Prop}{K L:List Int}{t:Nat}{W:Int→Prop}
theorem kcount {tasks:List (Option Zx)}(f:Option Zx→List Int)(f0:f none=[]){t:Nat}{o:Option Zx}(h:tasks[t]? = some o)(s:Int) :
  cnt2 (tasks.map f) s=cnt2 ((tasks.set t none).map f) s+(f o).count s:=by
 have h1:(tasks.map f)[t]? = some (f o):=by rw[Ym,h];rfl
 have:=cnt2_set [] s h1
 rw[Yk,f0]
 simp only[List.count_nil]at this
 omega
theorem Gd.kfocus {x:Sx}{tasks:List (Option Zx)}{t:Nat}{o:Option Zx}(G:Gd c n (cnt2 (tasks.map kSo)) (cnt2 (tasks.map kLo)) F x [] [])(h:tasks[t]? = some o) :
  Gd c n (cnt2 ((tasks.set t none).map kSo)) (cnt2 ((tasks.set t none).map kLo)) F x (kSo o) (kLo o):=by
 refine⟨fun s => ?_,G.stF,G.stC,G.stX,G.stL,fun s hs=>G.stZ s ?_,G.chain,G.hd0,G.tag,fun r r0 r1 => ?_,G.act1,G.pr1,G.pr2,G.stK,G.lk⟩
 ·have:=G.tot s
  rw[kcount kSo rfl h s]at this
  simp only[List.count_nil]at this
  omega
 ·rw[kcount kSo rfl h s];omega
 ·have:=G.rcd r r0 r1
  rw[kcount kLo rfl h r]at this
  simp only[List.count_nil]at this
  omega
theorem Gd.kunfocus {x:Sx}{tasks:List (Option Zx)}{t:Nat}{o:Option Zx}(h:t<tasks.length)(G:Gd c n (cnt2 ((tasks.set t none).map kSo)) (cnt2 ((tasks.set t none).map kLo)) F x (kSo o) (kLo o))
  (hst:∀s∈kSo o,(x.sl s).state=2∨(x.sl s).state=4∨(x.sl s).state=5):Gd c n (cnt2 ((tasks.set t o).map kSo)) (cnt2 ((tasks.set t o).map kLo)) F x [] []:=by
 have ht:(tasks.set t o)[t]? = some o:=Ye h
 have e1:=kcount kSo rfl ht
 have e2:=kcount kLo rfl ht
 rw[Yl]at e1 e2
 refine⟨fun s => ?_,G.stF,G.stC,G.stX,G.stL,fun s hs => ?_,G.chain,G.hd0,G.tag,fun r r0 r1 => ?_,G.act1,G.pr1,G.pr2,G.stK,G.lk⟩
 ·have:=G.tot s
  rw[e1 s]
  simp only[List.count_nil]
  omega
 ·rw[e1 s]at hs
  by_cases h0:0<cnt2 ((tasks.set t none).map kSo) s
  ·exact G.stZ s h0
  ·exact hst s (List.count_pos_iff.1 (by omega))
 ·have:=G.rcd r r0 r1
  rw[e2 r]
  simp only[List.count_nil]
  omega
theorem kd_made {mv:Mv}{k:Zx}{tl:Int}(C:Core c Lg S N h a m)(ht:(t:Int)<c.T)(hk:qTask (h,a) t mv=some k):K0 k∧KD c t (sx stk pr c h a m) tl k:=by
 rcases qTask_made hk with⟨_,e⟩|⟨_,e⟩|⟨_,_,q,e,hq⟩
 ·subst e;exact⟨rfl,ptd_vac (.inl rfl)⟩
 ·subst e;exact⟨⟨rfl,rfl⟩,gtd_vac (.inl rfl) rfl⟩
 ·subst e
  obtain⟨m1,m2,m3⟩:=made_td (stk:=stk) (pr:=pr) C ht hq
  exact⟨⟨m1,m2⟩,m3⟩
theorem kds_of {k:Zx}{rdy:Bool}(C:Core c Lg S N h a m)(ht:(t:Int)<c.T)(I:QI c t rdy (h.held.getD t 0) (a.caches.getD t []) k)(hf:rdy=false→K0 k):KDs c t (sx stk pr c h a m) k:=by
 obtain⟨r1,_⟩:=C.hget ht
 have hlt:t<h.held.length:=by rw[C.held];omega
 have hh:h.held[t]? = some (h.held.getD t 0):=by rw[Yb,Yd hlt];rfl
 cases k with
 | hz k=>exact(TkS.of I hf).2
 | put p=>
  obtain⟨_,i2,i3,i4⟩:=I
  refine⟨fun h1 h3 => ?_,⟨h.held.getD t 0,hh,i2,r1⟩,fun h1 => ?_,fun h1 => ?_⟩
  ·cases rdy with
   | false=>rw[(i3 rfl).1]at h3;simp at h3
   | true=>exact(((i4 rfl).1.tk h1).head (by omega)).2.1
  ·cases rdy with
   | false=>have:=(i3 rfl).2;omega
   | true=>exact((i4 rfl).1.n h1).1
  ·cases rdy with
   | false=>have:=(i3 rfl).2;omega
   | true=>exact((i4 rfl).1.slot (by omega)).1
 | get p=>
  obtain⟨i1,i2,i3,i4⟩:=I
  refine⟨⟨h.held.getD t 0,hh,i2,r1⟩,fun s hs => ?_,fun h1 h2 => ?_⟩
  ·have h9:p.stage=12:=by
    unfold gtSc at hs
    split at hs
    ·assumption
    ·cases hs
   cases rdy with
   | false=>have:=(i3 rfl).2;omega
   | true=>
    obtain⟨r,sc,e1,e2,e3,e4⟩:=(i4 rfl).1.ret h9
    rw[(kS_get12 h9 e1 e2).2.2]at hs
    cases hs
    exact e3.rec0
  ·cases rdy with
   | false=>have:=(i3 rfl).2;omega
   | true=>exact((i4 rfl).1.n h1 h2).1
theorem qk_rdy_kd {i:Nat}{cl:Cll}{se:Sea}{k:Zx}(C:Core c Lg S N h a m)(ht:(t:Int)<c.T)(hm:m.thread=(t:Int))(I:QI c t false (h.held.getD t 0) (a.caches.getD t []) k)(h0:K0 k)(hci:ZX m i t cl se)(hb:cl.begin_<m.now)(T:TlI stk (tlw c m))
  (G:Gd c n Z Y F (sx stk pr c h a m) (kS k) (kL k)) (D:KD c t (sx stk pr c h a m) (tlw c m) k):KP stk stk c n Z Y pr h a m t (Q6 (h,a) m i t cl se k):=by
 cases k with
 | hz k=>
  haveI:=q_qok C.ok
  obtain⟨pr',F',q1,q2,q3⟩:=ready_gd (i:=i) (cl:=cl) (se:=se) C ht hm I h0 G D
  have htl:=tl_nt (evq_nt (evq_rdy (Q:=qQ c) (i:=i) C ht I hci.call hci.seat hb))
  have htl:tlw c (Q6 (h,a) m i t cl se (.hz k)).2.2.1=tlw c m:=htl
  exact⟨pr',F',q1.mono (by omega),q2,q3,.same rfl htl,by rw[htl];exact T⟩
 | put p=>
  obtain⟨i1,i2,i3,i4⟩:=I
  exact put_rdy C ht hm (i3 rfl).1 T (K0.nil (k:=.put p) h0).1 G
 | get p=>
  obtain⟨h0,hg⟩:=h0
  obtain⟨y1,y2,_⟩:=Q7 (p:=p) (Jk (by omega)) (by omega)
  rw[y1,y2]at G
  obtain⟨z1,z2,_⟩:=Q7 (p:={ p with stage:=1,hz0:=(qHz h p.thread 0:Int),hz1:=(qHz h p.thread 1:Int) }) (Jk (by simp)) (by simp)
  refine⟨pr,F,?_,Rl.refl ..,fun _=>gtd_vac (.inr (.inl rfl)) hg,.same rfl rfl,T⟩
  simp only[Q6,Yn,if_false]
  rw[z1,z2]
  exact G
theorem qk_stp_kd {i:Nat}{cl:Cll}{se:Sea}{k:Zx}(C:Core c Lg S N h a m)(hN:N<1000000)(ht:(t:Int)<c.T)(hm:m.thread=(t:Int))(hus:m.used=false)(I:QI c t true (h.held.getD t 0) (a.caches.getD t []) k)(hn:n<4294967295)(hci:ZX m i t cl se)(hb:cl.begin_<m.now)(hp:hzQ cl.begin_ m.now k)(T:TlI stk (tlw c m))
  (G:Gd c n Z Y F (sx stk pr c h a m) (kS k) (kL k)) (D:KD c t (sx stk pr c h a m) (tlw c m) k):KP stk (quStk c m stk k) c (n+1) Z Y pr h a m t (Q5 (h,a) m i t cl se k):=by
 have hok:=C.ok
 haveI:=q_qok hok
 cases k with
 | hz k=>
  obtain⟨pr',F',q1,q2,q3⟩:=step_gd (i:=i) (cl:=cl) (se:=se) C hN ht hm I hn G D
  have htl:=tl_nt (evq_nt (evq_stp (Q:=qQ c) (i:=i) C ht I hci.call hci.seat hb hp hus (fun r hr h3=>by
   subst hr
   have I:RdI c r:=I
   have:=I.w (by omega)
   exact val_q hok (.inl rfl) (by omega)) (fun p hp' h1=>by
   subst hp'
   have I:=I.2.2.1 rfl
   obtain⟨kk,hkk,_,k1⟩:=I.take
   obtain⟨g1,g2,g3⟩:=k1 (.inl h1)
   exact val_q hok (.inl rfl) (by omega))))
  have htl:tlw c (Q5 (h,a) m i t cl se (.hz k)).2.2.1=tlw c m:=htl
  exact⟨pr',F',q1,q2,q3,.same rfl htl,by rw[htl];exact T⟩
 | put p=>
  obtain⟨i1,i2,i3,i4⟩:=I
  exact put_kd C ht hm i1 hus i2 (i4 rfl).1 hn T G D
 | get p=>
  obtain⟨i1,i2,i3,i4⟩:=I
  exact get_kd C ht hm i1 hus i2 (i4 rfl).1 hn T G D
end
section
variable {c:Cfg}{n:Nat}{y:GW Zx}{F stk:List Int}{pr:Int→Prop}{bh ba:Nat}{CX:Zc}{t i:Nat}{cl:Cll}{se:Sea}{k:Zx}{r1 r2:GR Zx}
def stkOf (c:Cfg)(stk:List Int)(r1:GR Zx):List Int:=if r1.1=true then stk else quStk c r1.2.2.1 stk r1.2.2.2
theorem DK.tick (D:DK c stk pr F n y):DK c stk pr F ((n+1:Nat):Int) y.tick:=⟨D.gd.mono (by omega),D.td,D.fresh,D.tli⟩
theorem DK.begin {mv:Mv}{v vc:Value}(D:DK c stk pr F n y)(P:PM (QM c) (QI c) c n y)(htT:(t:Int)<c.T)(hk:y.tasks[t]? = some none)(hm:qTask y.s t mv=some k) :
  DK c stk pr F ((n+1:Nat):Int) ⟨y.s,ZB y.m t mv v vc,y.tasks.set t (some k)⟩:=by
 have hlt:=(List.getElem?_eq_some_iff.1 hk).1
 have hx:sx stk pr c y.s.1 y.s.2 (ZB y.m t mv v vc)=sx stk pr c y.s.1 y.s.2 y.m:=ZL rfl
 obtain⟨m0,m3⟩:=kd_made (stk:=stk) (pr:=pr) (tl:=tlw c y.m) P.core.toCore htT hm
 have hxt:tlw c (ZB y.m t mv v vc)=tlw c y.m:=QP rfl
 obtain⟨m1,m2⟩:=m0.nil
 refine⟨?_,?_,?_,by show TlI stk (tlw c (ZB y.m t mv v vc));rw[hxt];exact D.tli⟩
 ·refine Gd.mono (n:=n) ?_ (by omega)
  refine Gd.kunfocus (o:=some k) hlt ?_ (fun s hs=>by rw[show kSo (some k)=kS k from rfl,m1]at hs;simp at hs)
  have:=D.gd.kfocus hk
  rw[show kSo (some k)=kS k from rfl,show kLo (some k)=kL k from rfl,m1,m2,hx]
  exact this
 ·intro j kj hkj
  simp only[]at hkj
  rw[show(⟨y.s,ZB y.m t mv v vc,y.tasks.set t (some k)⟩:GW Zx).m=ZB y.m t mv v vc from rfl,hx,hxt]
  by_cases hj:j=t
  ·subst hj
   rw[Ye hlt]at hkj
   cases hkj;exact m3
  ·rw[ZT hj]at hkj
   exact D.td j kj hkj
 ·intro j kj se hkj hse hf
  simp only[ZB]at hkj hse
  by_cases hj:j=t
  ·subst hj
   rw[Ye hlt]at hkj
   cases hkj;exact m0
  ·rw[ZT hj]at hkj hse
   exact D.fresh j kj se hkj hse hf
structure DStep (c:Cfg)(n:Nat)(stk:List Int)(pr:Int→Prop)(y:GW Zx)(t i:Nat)(k:Zx)(r1 r2:GR Zx):Prop where
 ex:∃(Z Y:Int→Nat) (F0:List Int) (pr1:Int→Prop) (F1:List Int) (pr2:Int→Prop) (F2:List Int),
  Z=cnt2 ((y.tasks.set t none).map kSo) ∧
  Gd c n Z Y F0 (sx stk pr c y.s.1 y.s.2 y.m) (kS k) (kL k)∧KD c t (sx stk pr c y.s.1 y.s.2 y.m) (tlw c y.m) k ∧
  Gd c n Z Y F1 (sx stk pr1 c r1.2.1.1 r1.2.1.2 r1.2.2.1) (if r1.1=true then [] else kS r1.2.2.2) (if r1.1=true then [] else kL r1.2.2.2)∧(r1.1=false→KD c t (sx stk pr1 c r1.2.1.1 r1.2.1.2 r1.2.2.1) (tlw c r1.2.2.1) r1.2.2.2) ∧
  Rl Z t (OwW c t (sx stk pr c y.s.1 y.s.2 y.m) y.m.mem.log r1.2.2.1.mem.log) (sx stk pr c y.s.1 y.s.2 y.m) (sx stk pr1 c r1.2.1.1 r1.2.1.2 r1.2.2.1) ∧
  Rl Z t (OwW c t (sx stk pr c y.s.1 y.s.2 y.m) r1.2.2.1.mem.log r2.2.2.1.mem.log) (sx stk pr1 c r1.2.1.1 r1.2.1.2 r1.2.2.1) (sx (stkOf c stk r1) pr2 c r2.2.1.1 r2.2.1.2 r2.2.2.1) ∧
  TlI stk (tlw c r1.2.2.1) ∧
  QRl (sx stk pr c y.s.1 y.s.2 y.m) (tlw c y.m) (sx stk pr1 c r1.2.1.1 r1.2.1.2 r1.2.2.1) (tlw c r1.2.2.1) ∧
  QRl (sx stk pr1 c r1.2.1.1 r1.2.1.2 r1.2.2.1) (tlw c r1.2.2.1) (sx (stkOf c stk r1) pr2 c r2.2.1.1 r2.2.1.2 r2.2.2.1) (tlw c r2.2.2.1) ∧
  DK c (stkOf c stk r1) pr2 F2 ((n+1:Nat):Int) (Qj y t i r2)
theorem KDs.he {c:Cfg}{t:Nat}{x x':Sx}{k:Zx}(hT:KDs c t x k)(e:x'.held[t]? = x.held[t]?):KDs c t x' k:=by
 cases k with
 | hz k=>exact hT
 | put p=>exact⟨hT.1,by rw[e];exact hT.2.1,hT.2.2⟩
 | get p=>exact⟨by rw[e];exact hT.1,hT.2⟩
theorem DK.step (D:DK c stk pr F n y)(hn:n<65536)(B:QB n y)(P:PM (QM c) (QI c) c n y)(G:GStepM (QM c) (qkT bh ba c CX) (QI c) c n y t i cl se k r1 r2):DStep c n stk pr y t i k r1 r2:=by
 have hlt:=(List.getElem?_eq_some_iff.1 G.hse).1
 have hltk:=(List.getElem?_eq_some_iff.1 G.hk).1
 have hok:=P.core.ok
 have S:=B.stp P G
 have hx0:sx stk pr c y.s.1 y.s.2 (ZO y t i se)=sx stk pr c y.s.1 y.s.2 y.m:=ZL rfl
 have ht0:tlw c (ZO y t i se)=tlw c y.m:=QP rfl
 have T0:=D.tli
 rw[←ht0]at T0
 have G0:=D.gd.kfocus G.hk
 have D0:=D.td t k G.hk
 have G0':=G0
 have D0':=D0
 rw[←hx0]at G0 D0
 rw[←ht0]at D0
 generalize hZ:cnt2 ((y.tasks.set t none).map kSo)=Z at G0 G0'
 generalize hY:cnt2 ((y.tasks.set t none).map kLo)=Y at G0 G0'
 have E1:KP stk stk c n Z Y pr y.s.1 y.s.2 (ZO y t i se) t r1:=by
  rcases G.rdy with⟨hf,e⟩|⟨_,e⟩
  ·have hI:=G.i0
   rw[hf]at hI
   rw[e]
   exact qk_rdy_kd G.c0.toCore G.htT rfl hI (D.fresh t k se G.hk G.hse hf) S.ci (by rw[S.now0];exact S.beg) T0 G0 D0
  ·rw[e]
   exact⟨pr,F,by simp only[Yn,if_false];exact G0,Rl.refl ..,fun _=>D0,.same rfl rfl,T0⟩
 obtain⟨pr1,F1,q1,q2,q3,Q1,T1⟩:=E1
 have hth1:r1.2.2.1.thread=(t:Int):=G.h1.frame.thread
 have hhe:r1.2.1.1.held=y.s.1.held:=by
  rcases G.rdy with⟨hf,e⟩|⟨_,e⟩
  ·rw[e]
   cases k with
   | hz k=>cases k<;>rfl
   | put p=>rfl
   | get p=>rfl
  ·rw[e]
 have hOw:∀j,Own c t (sx stk pr1 c r1.2.1.1 r1.2.1.2 r1.2.2.1) j→Own c t (sx stk pr c y.s.1 y.s.2 y.m) j:=fun j hj=>hj.he (by show y.s.1.held[t]? = r1.2.1.1.held[t]?;rw[hhe])
 have E2:∃(pr2:Int→Prop) (F2:List Int),Gd c (n+1) Z Y F2 (sx (stkOf c stk r1) pr2 c r2.2.1.1 r2.2.1.2 r2.2.2.1) (if r2.1=true then [] else kS r2.2.2.2) (if r2.1=true then [] else kL r2.2.2.2) ∧
   Rl Z t (OwW c t (sx stk pr c y.s.1 y.s.2 y.m) r1.2.2.1.mem.log r2.2.2.1.mem.log) (sx stk pr1 c r1.2.1.1 r1.2.1.2 r1.2.2.1) (sx (stkOf c stk r1) pr2 c r2.2.1.1 r2.2.1.2 r2.2.2.1)∧(r2.1=false→KD c t (sx (stkOf c stk r1) pr2 c r2.2.1.1 r2.2.1.2 r2.2.2.1) (tlw c r2.2.2.1) r2.2.2.2)∧QRl (sx stk pr1 c r1.2.1.1 r1.2.1.2 r1.2.2.1) (tlw c r1.2.2.1) (sx (stkOf c stk r1) pr2 c r2.2.1.1 r2.2.1.2 r2.2.2.1) (tlw c r2.2.2.1)∧TlI (stkOf c stk r1) (tlw c r2.2.2.1):=by
  rcases G.stp with⟨hb,e⟩|⟨hb,z1,q1',v1,hcu,e⟩
  ·have hs:stkOf c stk r1=stk:=by unfold stkOf;rw[if_pos hb]
   rw[hs,e]
   exact⟨pr1,F1,q1.mono (by omega),Rl.refl ..,q3,.same rfl rfl,T1⟩
  ·have hs:stkOf c stk r1=quStk c r1.2.2.1 stk r1.2.2.2:=by unfold stkOf;rw[if_neg (by simp[hb])]
   rw[hs]
   rw[if_neg (by simp[hb]),if_neg (by simp[hb])]at q1
   have X:=qk_stp_kd (i:=i) (cl:={ cl with point:=z1 }) (se:={ se with ready:=true,kind:=q1',value:=v1 }) G.h1.core.toCore (by omega) G.htT hth1 G.used1 (G.h1.fin hb) (by omega) hcu (by rw[S.now1];exact S.beg) (by rw[S.now1];exact S.hp1) T1 q1 (q3 hb)
   have e':r2=Q5 (r1.2.1.1,r1.2.1.2) r1.2.2.1 i t { cl with point:=z1 } { se with ready:=true,kind:=q1',value:=v1 } r1.2.2.2:=e
   rw[←e']at X
   obtain⟨pr2,F2,x1,x2,x3,x4,x5⟩:=X
   exact⟨pr2,F2,x1,x2.weaken (fun j h=>⟨hOw j h.1,h.2⟩),x3,x4,x5⟩
 obtain⟨pr2,F2,x1,x2,x3,x4,x5⟩:=E2
 rw[hx0]at q2 Q1
 rw[ht0]at Q1
 refine⟨Z,Y,F,pr1,F1,pr2,F2,hZ.symm,G0',D0',q1,q3,q2,x2,T1,Q1,x4,?_⟩
 obtain⟨z,q,v,O⟩:=G.out P
 have hx1:sx (stkOf c stk r1) pr2 c r2.2.1.1 r2.2.1.2 (Qj y t i r2).m=sx (stkOf c stk r1) pr2 c r2.2.1.1 r2.2.1.2 r2.2.2.1:=ZL (by rw[O.mem])
 have ht1:tlw c (Qj y t i r2).m=tlw c r2.2.2.1:=QP (by rw[O.mem])
 refine⟨?_,?_,?_,by rw[ht1];exact x5⟩
 ·rw[show(Qj y t i r2).s=r2.2.1 from rfl,hx1,show(Qj y t i r2).tasks=y.tasks.set t (if r2.1=true then none else some r2.2.2.2) from rfl]
  refine Gd.kunfocus hltk ?_ ?_
  ·rw[hZ,hY]
   by_cases hb:r2.1=true
   ·rw[if_pos hb,if_pos hb]at x1
    rw[if_pos hb];exact x1.mono (by omega)
   ·rw[if_neg hb,if_neg hb]at x1
    rw[if_neg hb];exact x1.mono (by omega)
  ·intro s hs
   by_cases hb:r2.1=true
   ·rw[if_pos hb]at hs;simp[kSo]at hs
   ·rw[if_neg hb]at hs
    exact(x3 (by simpa using hb)).st s hs
 ·intro j kj hkj
  rw[show(Qj y t i r2).s=r2.2.1 from rfl,hx1,ht1]
  have hkj:(y.tasks.set t (if r2.1=true then none else some r2.2.2.2))[j]? = some (some kj):=hkj
  by_cases hj:j=t
  ·subst hj
   rw[Ye hltk]at hkj
   by_cases hb:r2.1=true
   ·rw[if_pos hb]at hkj;cases hkj
   ·rw[if_neg hb]at hkj
    cases hkj
    exact x3 (by simpa using hb)
  ·rw[ZT hj]at hkj
   have hp5:=P.seats
   have hp4:=P.tasks
   have hjl:=(List.getElem?_eq_some_iff.1 hkj).1
   have hjT:j<y.m.seats.length:=by omega
   have hjT2:(j:Int)<c.T:=by have:=hok.T1;omega
   obtain⟨_,I2⟩:=P.task j kj _ hkj (Yd hjT)
   have T2:=kds_of (stk:=stk) (pr:=pr) P.core.toCore hjT2 I2 (fun hf=>D.fresh j kj _ hkj (Yd hjT) hf)
   have hZs:∀s∈kS kj,0<Z s:=fun s hs=>by
    rw[←hZ]
    refine cnt2_at (i:=j) (l:=kS kj) ?_ hs
    rw[Ym,ZT hj,hkj];rfl
   have A1:=(D.td j kj hkj).rely hok G0' q2 Q1 hj T2 hZs (fun w h1 h2=>hj (own_two G0' hok h1.1 h2))
   exact A1.rely hok q1 x2 x4 hj (T2.he (q2.he j hj)) hZs (fun w h1 h2=>hj (own_two G0' hok h1.1 (h2.he (q2.he j hj).symm)))
 ·intro j kj sj hkj hsj hf
  have hkj:(y.tasks.set t (if r2.1=true then none else some r2.2.2.2))[j]? = some (some kj):=hkj
  rw[O.seats]at hsj
  by_cases hj:j=t
  ·subst hj
   rw[Ye hltk]at hkj
   rw[Ye hlt]at hsj
   by_cases hb:r2.1=true
   ·rw[if_pos hb]at hkj;cases hkj
   ·rw[if_neg hb]at hsj
    cases hsj
    cases hf
  ·rw[ZT hj]at hkj hsj
   exact D.fresh j kj sj hkj hsj hf
end
end
end Go.Proofs.YtefjbdajgakgpaaGreat
