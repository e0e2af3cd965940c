import Derived.Test.YtefjbdajgakgpaaGreatDTree
set_option linter.all false
namespace Go.Proofs.YtefjbdajgakgpaaGreat
section
open Go.RowKit
namespace Hp
end Hp
end
section
open Go.RowKit Hp
set_option maxRecDepth 100000
set_option maxHeartbeats 1000000
attribute [local irreducible] Go.Calls
theorem mem_words (b:Nat)(m:Mem)(hl:m.words.length<4294967296) :
  Does Tryz.prog 98 #[.pointer (some ⟨b,0,none⟩)] (MemR b m) (fun v=>sl 79 1 (m.words.map eU) v*MemR b m):=by
 intro O w F hs
 obtain⟨vw,vl,va,hs⟩:=memR.1 hs
 have hC:=Lh (clone_words vw m.words hl)
 go_enter Tryz.func98,Tryz.ntmps98
 go_wp2_with (first|((with_reducible apply Zb hs);exact Ii;rfl;(with_reducible exact Qh);rfl;rfl;simp only[Uc,Uz])|(go_at_call 105;(refine(hC.out).at hs (by with_reducible repeat first|exact Qh|apply Qk) ?_;clear hs;intro v w hs;(try simp only[Em,Ma]at hs))))
 go_ret
 refine⟨_,rfl,?_⟩
 simp only[Ma]
 replace hs:=memR_mk (hs.fin (by (with_reducible repeat first|exact Ql|exact Qh|apply Qb|apply Qk)))
 ((with_reducible apply Sat.fin hs);(focus((repeat(first|with_reducible exact Ql|with_reducible apply Qb|exact Qh|with_reducible apply Qk));done)))
def logF (b:Nat)(v:Value):Zc:=ex fun t1=>ex fun t2=>pu (v=.func (.func 107) #[] #[.pointer (some ⟨t1,0,none⟩),.pointer (some ⟨t2,0,none⟩)]) *
  (pt t1 (.cells #[.pointer (some ⟨b,0,none⟩)] 164)*pt t2 (.cells #[.int .i64 0] 3))
theorem logF_mk {O w:World}{b t1 t2:Nat}{F:Zc}(hs:Sat O w (pt t1 (.cells #[.pointer (some ⟨b,0,none⟩)] 164)*(pt t2 (.cells #[.int .i64 0] 3)*F))) :
  Sat O w (logF b (.func (.func 107) #[] #[.pointer (some ⟨t1,0,none⟩),.pointer (some ⟨t2,0,none⟩)])*F):=by
 unfold logF
 simp only[ZG,Ma,Zz]
 exact⟨t1,t2,rfl,hs⟩
theorem logF_get {O w:World}{b:Nat}{v:Value}{F:Zc}(hs:Sat O w (logF b v*F)):∃t1 t2,v=.func (.func 107) #[] #[.pointer (some ⟨t1,0,none⟩),.pointer (some ⟨t2,0,none⟩)] ∧
  Sat O w (pt t1 (.cells #[.pointer (some ⟨b,0,none⟩)] 164)*(pt t2 (.cells #[.int .i64 0] 3)*F)):=by
 unfold logF at hs
 simpa only[ZG,Ma,Zz] using hs
attribute [irreducible] logF
theorem mem_logf (b:Nat):Does Tryz.prog 99 #[.pointer (some ⟨b,0,none⟩),.int .i64 0] emp (logF b):=by
 intro O w F hs
 go_enter Tryz.func99,Tryz.ntmps99
 go_wp2_with ((with_reducible apply Zt hs);rfl;rfl;rfl;clear hs;intro w b hs;simp only[Uc,Uz])
 go_ret
 refine⟨_,rfl,?_⟩
 exact logF_mk (hs.fin (by (with_reducible repeat first|exact Ql|exact Qh|apply Qb|apply Qk)))
theorem wp_range {P:Program}{g:Operand}{ps:Array Tmp}{assign body:Code}{Q:Exit→Act→World→Prop}{l:List Value}{w O:World}{α:Type}{args:α→Array Value}{el:Nat→α→Prop}{N:Nat}{Z:Nat→Zc}{S0 R:Zc}{f:FuncId}{cap:Array Value}
  (hs:Sat O w (Z 0*(S0*R))) (hg:ev l g=some (.func (.func f) #[] cap)) (hf:∀args (w:World),(callFunc f args).run P w=.ok (.enter f args) w)
  (hI:∀lp (Y:Nat→Zc),(∀i x,el i x→YieldC P lp (args x) (Y i) (Y (i+1)))→Zk P f (#[.func (.yield lp) #[] #[]]++cap) (Y 0*S0) (.tuple #[]) (Y N*S0))
  (hB:∀fn D lp i x,el i x→YieldC P lp (args x) (pt lp (.loop ⟨.ready,none,fn,l.toArray,ps,assign,body,D⟩)*Z i) (pt lp (.loop ⟨.ready,none,fn,l.toArray,ps,assign,body,D⟩)*Z (i+1)))
  (k:∀D w',Sat O w' (pt D (.deferred (some []))*(Z N*(S0*R)))→Q .normal ⟨l.toArray,[{ target:=.collected D,args := #[] }]⟩ w') :
  (Code.rangeFunc g ps assign body).wp P Q ⟨l.toArray,[]⟩ w:=by
 refine(wpIn_wide (n:=3)).1 (wpIn_rangeFunc (F:=Fence.wide) (n:=3) (fun fn _ => ?_))
 have hs1:=hs.alloc (.deferred (some []))
 have hs2:=hs1.alloc (.loop { state:=.ready,pending:=none,fn,tmps:=l.toArray,params:=ps,assign,body,defers:=w.heap.size })
 have hsz:(w.alloc (.deferred (some []))).heap.size=w.heap.size+1:=World.size_alloc _ _
 rw[hsz]at hs2
 generalize hW1:(w.alloc (.deferred (some []))).alloc (.loop { state:=.ready,pending:=none,fn,tmps:=l.toArray,params:=ps,assign,body,defers:=w.heap.size })=W1 at hs2
 refine⟨w.heap.size+1,[{ target:=.collected w.heap.size,args := #[] }],W1,{ target:=.fn (.func f) cap,args := #[.func (.yield (w.heap.size+1)) #[] #[]] },W1,f,#[.func (.yield (w.heap.size+1)) #[] #[]]++cap,W1,hW1▸run_enterLoop_outer fn _ _ _ _,?_,fun _ _=>trivial,?_,(fun h=>by cases h),?_⟩
 ·have e1:(Act.mk l.toArray []).eval g=.func (.func f) #[] cap:=Zm hg
  have e2:∀y,(Act.mk l.toArray []).eval (.const y)=y:=fun _=>rfl
  simp[resolve,rangeCall,e1,e2,Deferred.ofValue]
 ·show(callFunc f (#[.func (.yield (w.heap.size+1)) #[] #[]]++cap)).run P _=_
  exact hf _ _
 ·refine callsIn_of wide_wide ?_
  have hG:=hI (w.heap.size+1) (fun i=>pt (w.heap.size+1) (.loop ⟨.ready,none,fn,l.toArray,ps,assign,body,w.heap.size⟩)*Z i) (fun i x hx=>hB fn w.heap.size (w.heap.size+1) i x hx)
  refine(hG O _ (pt w.heap.size (.deferred (some []))*R) (hs2.cast (by ac_rfl))).mono ?_
  rintro e w' ⟨rfl,hs'⟩
  have hs3:Sat O w' (pt (w.heap.size+1) (.loop ⟨.ready,none,fn,l.toArray,ps,assign,body,w.heap.size⟩)*(pt w.heap.size (.deferred (some []))*(Z N*(S0*R)))):=hs'.cast (by ac_rfl)
  refine⟨none,_,run_endLoop hs3.block (by simp),?_⟩
  exact k _ _ (sat_putObj hs3).right
def runZ (b:Nat)(v1 v2 v3:Value)(log:List Acc):Zc:=ex fun vt=>pt b (.cells #[v1,vt,v2,v3] 30)*sl 87 7 (log.map Acc.e) vt
theorem runZ_iff {O w:World}{b:Nat}{v1 v2 v3:Value}{log:List Acc}{F:Zc}:Sat O w (runZ b v1 v2 v3 log*F)↔∃vt,Sat O w (pt b (.cells #[v1,vt,v2,v3] 30)*(sl 87 7 (log.map Acc.e) vt*F)):=by
 unfold runZ
 simp only[ZG,Ma]
attribute [irreducible] runZ
theorem yieldC_mk {P:Program}{lp fn D p1 p2 i1 i2 i3:Nat}{l:List Value}{v u:Value}{ops1 ops2:List Oper}{Z Z':Zc}(hd1:ops1.all noDefer=true)(hd2:ops2.all noDefer=true)
  (h:∀O w F,Sat O w (Z*F)→wpList P ops1.toArray (Then fun a1 w1=>∃Z1,Sat O w1 (Z1*F)∧∀F2 w2,Sat O w2 (Z1*F2)→wpList P ops2.toArray (Then fun _ w3=>Sat O w3 (Z'*F2)) ops2 a1 w2) ops1 ⟨((l.set p1 v).set p2 u).toArray,[]⟩ w) :
  YieldC P lp #[v,u] (pt lp (.loop ⟨.ready,none,fn,l.toArray,#[p1,p2],.region i1 ops1.toArray false,.block i2 (.region i3 ops2.toArray false),D⟩)*Z)
   (pt lp (.loop ⟨.ready,none,fn,l.toArray,#[p1,p2],.region i1 ops1.toArray false,.block i2 (.region i3 ops2.toArray false),D⟩)*Z'):=by
 intro O w F hs n
 rw[Ma]at hs
 refine⟨_,_,_,_,run_yield hs.block rfl,roundIn_of_wpIn trivial ?_⟩
 have hw:=h O w (pt lp (.loop ⟨.ready,none,fn,l.toArray,#[p1,p2],.region i1 ops1.toArray false,.block i2 (.region i3 ops2.toArray false),D⟩)*F) (hs.cast (QN _ _ _))
 have e:(Array.foldl (fun(tmps:Array Value) x=>tmps.setIfInBounds x.1 x.2) l.toArray (#[p1,p2].zip #[v,u]))=((l.set p1 v).set p2 u).toArray:=by simp
 refine wpIn_region_lit (listIn_all' (wide_round lp) ?_ hd1 (e▸hw))
 rintro a1 w1 ⟨Z1,hs1,hk⟩
 have hs1:=hs1.cast (QN _ _ _)
 refine⟨_,run_beginRound hs1.block rfl,?_⟩
 have hs2:=sat_putObj (o':=.loop ⟨.busy,none,fn,l.toArray,#[p1,p2],.region i1 ops1.toArray false,.block i2 (.region i3 ops2.toArray false),D⟩) hs1
 have hk2:=hk _ _ (hs2.cast (QN _ _ _))
 refine wpIn_block (wpIn_region_lit (listIn_all' (wide_round lp) ?_ hd2 hk2))
 intro a2 w3 hs3
 have hs3:=hs3.cast (QN _ _ _)
 refine⟨_,_,run_endRound none hs3.block,rfl,?_⟩
 rw[Ma]
 exact sat_putObj hs3
def RunR (cs:List Cll)(log:List Acc)(sh:List Shf)(ws:List Int)(v:Value):Zc:=ex fun vc=>ex fun vt=>ex fun vs=>ex fun vw=>pu (v=.agg #[vc,vt,vs,vw]) *
 (sl 59 9 (cs.map Cll.e) vc*(sl 87 7 (log.map Acc.e) vt*(sl 102 5 (sh.map Shf.e) vs*sl 79 1 (ws.map eU) vw)))
set_option maxHeartbeats 4000000 in
theorem mach_run (bx bm:Nat)(m:Mch)(hn:0<m.seats.length)(h1:m.calls.length<4294967296)(h2:m.shifts.length<4294967296)(h3:m.mem.words.length<4294967296)(h4:m.mem.log.length<4294967295) :
  Does Tryz.prog 60 #[.pointer (some ⟨bx,0,none⟩)] (MchR bx bm m) (fun v=>RunR m.calls m.mem.log m.shifts m.mem.words v*MchR bx bm m):=by
 intro O w F hs
 (obtain⟨vh,call,told,hcur,hs⟩:=mchR.1 hs)
 have hcur:=Lh hcur
 have h0':((m.seats.length:Int)==0)=false:=by simp;intro e;simp[e]at hn
 have hC1:=Lh (clone_calls m.vc m.calls h1)
 have hC2:=Lh (clone_shifts vh m.shifts h2)
 have hW:=Lh (mem_words bm m.mem h3)
 have hLf:=Lh (mem_logf bm)
 refine callsIn_wide.1 (callsIn_of_wp_marks (n:=3) Tryz.func60 rfl trivial ?_)
 simp only[Tryz.ntmps60,List.size_toArray,List.length_cons,List.length_nil,Nat.reduceAdd,Nat.reduceSub,Array.replicate_succ,Array.replicate_zero,List.push_toArray,List.append_toArray,List.nil_append,List.cons_append]
 refine(wpIn_wide (n:=3)).2 ?_
 go_wp2_with (first|(with_reducible first|apply NQ.mk|apply EQ.mk|exact Zg|apply Zj)|((with_reducible apply Zi);rfl;rfl)|((with_reducible refine Zn ?_ ?_);focus((with_reducible apply ZI);rfl;rfl))|(show Qd _ _ _;rfl)|((with_reducible apply Zb hs);exact Ii;rfl;(with_reducible repeat first|exact Qh|apply Qk);rfl;rfl;simp only[Uc,Uz])|((with_reducible apply ZN hs);exact Ii;rfl;rfl;(with_reducible repeat first|exact Qh|apply Qk);rfl;rfl;rfl;rfl;clear hs;intro w hs)|((with_reducible apply Zw hs);exact Ii;rfl;clear hs;intro w b hs;simp only[Uc,Uz])|((with_reducible apply ZS hs);exact Ii;rfl;(with_reducible repeat first|exact Qh|apply Qk);rfl;simp only[Uc,Uz])|(first|((with_reducible refine plt_leaf ?_);(try simp only[Yi,Yj]))|((with_reducible refine plt_one ?_);(try simp only[Yi,Yj]))|((with_reducible refine plt_two ?_);(try simp only[Yi,Yj]))|((with_reducible apply te_eff);rfl)|(with_reducible refine Two.mk ?_ ?_))|((with_reducible refine wp_tree_sat (id:=3) (.two [0,1,2,3,5,6,7,8,9,11,12,13,14,15] 4 [5,6,7,8,9,11,12,13,14,15] (.two [] 10 [11,12,13,14,15] (.two [] 16 [] (.one [17] 18 [0,1,2,3,5,6,7,8,9,11,12,13,14,15,17] (.one [] 19 [] (.leaf []))) 18 [0,1,2,3,5,6,7,8,9,11,12,13,14,15] (.one [] 16 [] (.one [17] 19 [] (.leaf [])))) 18 [0,1,2,3,5,6,7,8,9,11,12,13,14,15] (.one [] 10 [11,12,13,14,15] (.one [] 16 [] (.one [17] 19 [] (.leaf []))))) 18 [0,1,2,3,5,6,7,8,9,11,12,13,14,15] (.one [] 4 [5,6,7,8,9,11,12,13,14,15] (.one [] 10 [11,12,13,14,15] (.one [] 16 [] (.one [17] 19 [] (.leaf [])))))) hs rfl ?_ ?_);kernel_rfl;clear hs;intro w hs)|(go_at_call 96;(refine(hC1.out).at hs (by with_reducible repeat first|exact Qh|apply Qk) ?_;clear hs;intro v w hs;(try simp only[Em,Ma]at hs));(obtain⟨a1,c1,rfl⟩:=QY hs))|(go_at_call 97;(refine(hC2.out).at hs (by with_reducible repeat first|exact Qh|apply Qk) ?_;clear hs;intro v w hs;(try simp only[Em,Ma]at hs));(obtain⟨a2,c2,rfl⟩:=QY hs))|(go_at_call 98;(refine(hW.out).at hs (by with_reducible repeat first|exact Qh|apply Qk) ?_;clear hs;intro v w hs;(try simp only[Em,Ma]at hs));(obtain⟨a3,c3,rfl⟩:=QY hs))|(go_at_call 99;((refine(hLf.out).at hs (by (focus((repeat(with_reducible exact Qn));done))) ?_);clear hs;intro v w hs;(try simp only[Em,Ma]at hs));(replace hs:=logF_get hs);(obtain⟨t1,t2,rfl,hs⟩:=hs)))
 all_goals
  have hI:=fun lp Y hY=>log_iter bm m.mem t1 t2 lp Y hY (by omega)
  obtain⟨REST,hREST,hs⟩:∃R,Hid (R=_)∧Sat O w ((pt b (.cells #[Value.slice a1 m.calls.length c1,Value.slice none 0 0,Value.slice a2 m.shifts.length c2,Value.slice a3 m.mem.words.length c3] 30)*(MemR bm m.mem*(pt t1 (.cells #[.pointer (some ⟨bm,0,none⟩)] 164)*pt t2 (.cells #[.int .i64 0] 3))))*R):=⟨_,Lh rfl,hs.pull (by (with_reducible repeat first|exact Qh|apply Qb|apply Qk))⟩
  have hz:=runZ_iff (log:=[]).2 ⟨_,(sl_nil (E:=87) (sz:=7) hs (by omega)).fin (T:=pt b (.cells #[Value.slice a1 m.calls.length c1,Value.slice none 0 0,Value.slice a2 m.shifts.length c2,Value.slice a3 m.mem.words.length c3] 30)*(sl 87 7 [] (.slice none 0 0)*((MemR bm m.mem*(pt t1 (.cells #[.pointer (some ⟨bm,0,none⟩)] 164)*pt t2 (.cells #[.int .i64 0] 3)))*REST))) (by simp only[Ma];(with_reducible repeat first|exact Ql|exact Qh|apply Qb|apply Qk))⟩
  clear hs
  refine wp_range (α:=Nat×Acc) (args:=fun x => #[.int .i64 (x.1:Int),x.2.v]) (Z:=fun i=>runZ b (.slice a1 m.calls.length c1) (.slice a2 m.shifts.length c2) (.slice a3 m.mem.words.length c3) (m.mem.log.take i)) (N:=m.mem.log.length) (el:=fun i x=>m.mem.log[i]? = some x.2∧x.1=i) hz rfl ?_ ?_ ?_ ?_
  ·intro args w
   kernel_rfl
  ·intro lp Y hY
   exact hI lp Y (fun i a ha=>hY i (i,a) ⟨ha,rfl⟩)
  ·rintro fn D lp i ⟨i',x⟩ ⟨hx,hxi⟩
   simp only[]at hx hxi
   subst hxi
   clear hz hI hREST
   refine yieldC_mk rfl rfl ?_
   intro O w F hs
   have hil:=(List.getElem?_eq_some_iff.1 hx).1
   have HT:=Lh (show m.mem.log.take (i'+1)=m.mem.log.take i'++[x] by rw[List.take_add_one,hx];rfl)
   have htl:(m.mem.log.take i').length<4294967295:=by simp;omega
   generalize m.mem.log.take i'=lg at *
   clear hx
   go_wp2_with (first|((with_reducible apply Zw hs);exact Ii;rfl;clear hs;intro w b5 hs;simp only[Uc,Uz])|((with_reducible apply ZN hs);exact Ii;rfl;rfl;(with_reducible exact Qh);rfl;rfl;rfl;rfl;clear hs;intro w hs))
   simp only[Then]
   refine⟨_,hs.cast (Ma _ _ _).symm,?_⟩
   clear hs
   intro F2 w2 hs
   simp only[Ma]at hs
   obtain⟨vt,hs⟩:=runZ_iff.1 (hs.pull (A:=runZ b _ _ _ _) (by (with_reducible repeat first|exact Qh|apply Qk)))
   go_wp2_with (first|((with_reducible apply Zb hs);exact Ii;rfl;(with_reducible exact Qh);rfl;rfl;simp only[Uc,Uz])|((with_reducible apply Qy hs);exact Ii;rfl;(with_reducible repeat first|exact Qh|apply Qk);rfl;rfl;simp only[Uc,Uz])|((with_reducible apply Zv hs);exact Ii;rfl;rfl;(with_reducible repeat first|exact Qh|apply Qk);(apply QS;apply hs.pull;(with_reducible exact Qh));exact Vb rfl;rfl;clear hs;intro w hs;simp only[Yg,Uc,Uz]at hs)|((with_reducible apply wl_bs hs);exact Ii;exact Ii;rfl;rfl;rfl;rfl;exact Vb rfl;rfl;clear hs;intro w v hs;simp only[Uc,Uz])|((with_reducible apply JA hs);exact Ii;exact Ii;rfl;rfl;(focus with_reducible (repeat first|exact Qh|apply Qk);done);(with_reducible exact Qh);(simp only[Wm,Ws,Wa,Wc,Wn,Wr]at *;omega);exact Vb rfl;rfl;clear hs;intro w v hs;simp only[Uc,Uz]))
   simp only[Then]
   rw[HT.out]
   refine runZ_iff.2 ⟨v,?_⟩
   ((try simp only[Yh,Yi,Yj,Yk,Yl]);(try simp only[Yh,Yi,Yj,Yk,Yl]at hs);(with_reducible apply Sat.fin hs;repeat first|exact Ql|exact Qh|apply Qb|apply Qk))
  ·intro D w' hs
   rw[List.take_length]at hs
   obtain⟨vt,hs⟩:=runZ_iff.1 (hs.pull (A:=runZ b _ _ _ _) (by (with_reducible repeat first|exact Qh|apply Qk)))
   rw[hREST.out]at hs
   clear hz hI hREST
   simp only[Ma]at hs
   obtain⟨aT,cT,rfl⟩:=QY (hs.pull (A:=sl 87 7 _ vt) (by (with_reducible repeat first|exact Qh|apply Qk)))
   simp only[Exit.inBlock,Exit.then]
   go_wp2_with (first|((with_reducible apply Qy hs);exact Ii;rfl;(with_reducible exact Qh);rfl;rfl;simp only[Uc,Uz])|((with_reducible apply ZN hs);exact Ii;rfl;rfl;(with_reducible repeat first|exact Qh|apply Qk);rfl;rfl;rfl;rfl;clear hs;intro w hs))
   simp only[List.length_map]at hs
   refine leaves_mark (D:=D) (hs.pull (A:=pt D (.deferred (some []))) (by (with_reducible repeat first|exact Qh|apply Qk))) (fun w hs=>by
    (with_reducible apply results_c);rfl;rfl;(with_reducible apply loadF hs);exact Ii;(with_reducible exact Qh);rfl) ?_
   clear hs
   intro w hs
   refine⟨_,rfl,?_⟩
   replace hs:=Jg (m:=m) hcur.out (hs.fin (by (with_reducible repeat first|exact Ql|exact Qh|apply Qb|apply Qk)))
   unfold RunR
   simp only[ZG,Ma,Zz]
   refine⟨_,_,_,_,rfl,?_⟩
   (with_reducible apply Sat.fin hs;repeat first|exact Ql|exact Qh|apply Qb|apply Qk)
end
section
open Go.RowKit Hp
set_option maxRecDepth 100000
set_option maxHeartbeats 1000000
attribute [local irreducible] Go.Calls
section
end
theorem word_size (c:Cfg)(h:c.Ok):Zk Tryz.prog 83 #[c.v] emp (.tuple #[.int .i64 (base c 14),.int .i64 0]) emp:=by
 intro O w F hs
 have hC:=Lh (word_check c h)
 have hM:=Lh (word_many c h)
 go_enter Tryz.func83,Tryz.ntmps83
 go_wp2_with (first|((with_reducible apply Qy hs);exact Ii;rfl;(with_reducible exact Qh);rfl;rfl;simp only[Uc,Uz])|((with_reducible apply Zt hs);rfl;rfl;rfl;clear hs;intro w b hs;simp only[Uc,Uz])|(go_at_call 82;((refine(hC.out).at hs (by (focus((repeat(with_reducible exact Qn));done))) ?_);clear hs;intro w hs;(try simp only[Em,Ma]at hs))))
 (obtain⟨A,hA,hsn⟩:∃A,Hid (A=_)∧Sat O w A:=⟨_,Lh rfl,hs⟩;clear hs;have hs:=hsn;clear hsn)
 go_loopw [5,6] (fun a q wr=>∃k:Nat,1≤k∧k≤14∧q=.int .i64 (k:Int)∧a=.int .i64 (base c k)∧Sat O wr A) (fun _ q _=>15-(intOf q).toNat)
 case atStart=>exact⟨1,by omega,by omega,rfl,rfl,hs⟩
 case round=>
  obtain⟨k,k1,k2,rfl,rfl,hs⟩:=hrel
  have hb:=ZD h k
  have hmk:=many_le h k
  have e1:=base_succ c _ k1
  by_cases hkr:k=14
  ·subst hkr
   rw[hA.out]at hs
   go_wp2_with (fail)
   (go_ret2)
   exact⟨rfl,by ((with_reducible apply Sat.fin hs);(focus with_reducible (repeat first|exact Ql|exact Qn|apply Qb|apply Qk);done))⟩
  ·have hlt:decide ((k:Int)≤13)=true:=by simp;omega
   rw[hA.out]at hs
   go_wp2_with (first|((with_reducible apply Qy hs);exact Ii;rfl;(with_reducible exact Qh);rfl;rfl;simp only[Uc,Uz])|(go_at_call 101;((refine((hM.out k)).at hs (by (focus((repeat(with_reducible exact Qn));done))) ?_);clear hs;intro w hs;(try simp only[Em,Ma]at hs))))
   go_roundw
   case rel=>exact⟨k+1,by omega,by omega,by simp,by rw[e1],by rw[hA.out];((with_reducible apply Sat.fin hs);(with_reducible exact Ql))⟩
   case measure=>simp[intOf];omega
def QR (ws:List Int)(b:Int)(s:Nat):Nat→List Int
 | 0=>ws
 | n+1=>(QR ws b s n).set (b+((s+n:Nat):Int)).toNat ((s+n+2:Nat):Int)
theorem fillW_len (ws:List Int)(b:Int)(s n:Nat):(QR ws b s n).length=ws.length:=by
 induction n with
 | zero=>rfl
 | succ n ih=>simp[QR,ih]
def Q9 (c:Cfg)(u:Nat):List Int:=
 let w0:List Int:=List.replicate (base c 14).toNat 0
 let w1:=if (u:Int)<c.Sl then w0.set 0 ((u+1:Nat):Int) else w0
 let w2:=QR w1 (base c 10) u (c.Sl.toNat-1-u)
 if 0<u then (w2.set 3 1).set 4 1 else w2
theorem firstW_len (c:Cfg)(u:Nat):(Q9 c u).length=(base c 14).toNat:=by
 simp only[Q9]
 split<;>split<;>simp[fillW_len]
theorem base_cells {c:Cfg}(h:c.Ok):base c 10+c.Sl+c.Sl+c.Sl+c.Sl=base c 14∧8≤base c 10:=by
 have e1:base c 14=base c 13+c.Sl:=rfl
 have e2:base c 13=base c 12+c.Sl:=rfl
 have e3:base c 12=base c 11+c.Sl:=rfl
 have e4:base c 11=base c 10+c.Sl:=rfl
 have e5:base c 10=base c 9+c.R*c.Hz:=rfl
 have e6:base c 9=base c 8+c.R:=rfl
 have e7:base c 8=base c 7+c.Bu:=rfl
 have e8:base c 7=6:=by simp[base,many]
 have:=h.rh.1
 have:=h.R1;have:=h.B1
 omega
end
section
open Go.RowKit Hp
set_option maxRecDepth 100000
set_option maxHeartbeats 1000000
attribute [local irreducible] Go.Calls
theorem memory_new (v:Value)(ws:List Int)(hl:ws.length≤8192) :
  Does Tryz.prog 84 #[v] (sl 79 1 (ws.map eU) v) (fun u=>ex fun g=>pu (u=.tuple #[.pointer (some ⟨g,0,none⟩),.int .i64 0])*(MemR g ⟨ws,[],[],0⟩*sl 79 1 (ws.map eU) v)):=by
 intro O w F hs
 obtain⟨a0,c0,rfl⟩:=QY hs
 have hC:=Lh (clone_words (.slice a0 (ws.map eU).length c0) ws (by omega))
 have n1:decide ((ws.length:Int)>8192)=false:=by simp;omega
 simp only[List.length_map]at hC hs ⊢
 go_enter Tryz.func84,Tryz.ntmps84
 go_wp2_with (first|((with_reducible apply Zt hs);rfl;rfl;rfl;clear hs;intro w b hs;simp only[Uc,Uz])|((with_reducible apply ZS hs);exact Ii;rfl;(with_reducible exact Qh);rfl;simp only[Uc,Uz])|(go_at_call 105;((refine(hC.out).at hs (by (with_reducible exact Qh)) ?_);clear hs;intro v w hs;(try simp only[Em,Ma]at hs));(obtain⟨a1,c1,rfl⟩:=QY hs)))
 (go_ret2)
 refine⟨_,rfl,?_⟩
 simp only[ZG,Ma,Zz]
 refine⟨_,rfl,?_⟩
 apply memR_mk
 have hs:=sl_nil (E:=79) (sz:=1) hs (by omega)
 have hs:=sl_nil (E:=87) (sz:=7) hs (by omega)
 simp only[Yj]
 simp only[List.length_map]at hs
 (with_reducible apply Sat.fin hs;repeat first|exact Ql|exact Qh|apply Qb|apply Qk)
abbrev sea0:Sea:=⟨.nilIface,false,-1,0,0⟩
def mch0 (T:Nat)(ws:List Int)(kit vs:Value):Mch:=
 { mem:=⟨ws,[],[],0⟩,thread:=0,now:=0,cur:=none,used:=false,shifts:=[],kit,vs,vc:=.slice none 0 0,seats:=List.replicate T sea0,moves:=0,calls:=[] }
theorem machine_new (T:Nat)(v:Value)(km:Nat)(ws:List Int)(hT1:1≤T)(hT2:T≤16)(hl:ws.length≤8192) :
  Does Tryz.prog 56 #[.int .i64 (T:Int),v,.map (some km)] (sl 79 1 (ws.map eU) v) (fun u=>ex fun g=>ex fun gm=>ex fun vs=>pu (u=.tuple #[.pointer (some ⟨g,0,none⟩),.int .i64 0])*(MchR g gm (mch0 T ws (.map (some km)) vs)*sl 79 1 (ws.map eU) v)):=by
 intro O w F hs
 have hM:=Lh (memory_new v ws hl)
 have n1:decide ((T:Int)<1)=false:=by simp;omega
 have n2:decide ((T:Int)>16)=false:=by simp;omega
 go_enter Tryz.func56,Tryz.ntmps56
 go_wp2_with (first|((with_reducible apply Zt hs);rfl;rfl;rfl;clear hs;intro w b hs;simp only[Uc,Uz])|(go_at_call 84;((refine(hM.out).at hs (by (with_reducible exact Qh)) ?_);clear hs;intro v w hs;(try simp only[Em,Ma]at hs));(simp only[ZG,Ma,Zz]at hs);(obtain⟨gm,rfl,hs⟩:=hs)))
 have hs:=sl_nil (E:=175) (sz:=5) hs (by omega)
 have hs:=sl_nil (E:=59) (sz:=9) hs (by omega)
 have hs:=sl_nil (E:=102) (sz:=5) hs (by omega)
 go_loopw [31] (fun q wr=>∃(n:Nat) (vs:Value),n≤T∧q=.int .i64 (n:Int)∧Sat O wr (pt b (.cells #[.pointer (some ⟨gm,0,none⟩),.int .i64 0,.int .i64 0,.pointer none,.pointer none,.bool false,.slice none 0 0,.map (some km),vs,.int .i64 0,.slice none 0 0] 173) *
  (sl 175 5 ((List.replicate n sea0).map Sea.e) vs*(sl 102 5 [] (.slice none 0 0)*(sl 59 9 [] (.slice none 0 0)*(MemR gm ⟨ws,[],[],0⟩*(sl 79 1 (ws.map eU) v*F))))))) (fun q _=>17-(intOf q).toNat)
 case atStart=>exact⟨0,_,by omega,rfl,by simp only[List.replicate_zero,Yj];(with_reducible apply Sat.fin hs;repeat first|exact Ql|exact Qh|apply Qb|apply Qk)⟩
 case round=>
  obtain⟨n,vs,k1,rfl,hs⟩:=hrel
  by_cases hkr:n=T
  ·subst hkr
   have hlt:decide ((n:Int)<(n:Int))=false:=by simp
   go_wp2_with (fail)
   (go_ret2)
   refine⟨_,rfl,?_⟩
   simp only[ZG,Ma,Zz]
   refine⟨_,gm,vs,rfl,?_⟩
   refine Jg (vh:=.slice none 0 0) (call:=.pointer none) (told:=.pointer none) ⟨fun _=>⟨rfl,rfl⟩,fun _ _ h=>by simp[mch0]at h⟩ ?_
   simp only[mch0,Yj]
   (with_reducible apply Sat.fin hs;repeat first|exact Ql|exact Qh|apply Qb|apply Qk)
  ·have hlt:decide ((n:Int)<(T:Int))=true:=by simp;omega
   have hlr:(List.replicate n sea0).length<100:=by simp;omega
   obtain⟨a0,c0,rfl⟩:=QY (hs.pull (A:=sl 175 5 _ vs) (by (with_reducible repeat first|exact Qh|apply Qk)))
   go_wp2_with (first|((with_reducible apply Zb hs);exact Ii;rfl;(with_reducible exact Qh);rfl;rfl;simp only[Uc,Uz])|((with_reducible apply Zv hs);exact Ii;rfl;rfl;(with_reducible repeat first|exact Qh|apply Qk);(apply QS;apply hs.pull;(with_reducible exact Qh));exact Vb rfl;rfl;clear hs;intro w hs;simp only[Yg,Uc,Uz]at hs)|((with_reducible apply wl_bs hs);exact Ii;exact Ii;rfl;rfl;rfl;rfl;exact Vb rfl;rfl;clear hs;intro w v hs;simp only[Uc,Uz])|((with_reducible apply JA hs);exact Ii;exact Ii;rfl;rfl;(focus with_reducible (repeat first|exact Qh|apply Qk);done);(with_reducible exact Qh);(simp only[Wm,Ws,Wa,Wc,Wn,Wr]at *;omega);exact Vb rfl;rfl;clear hs;intro w v hs;simp only[Uc,Uz]))
   go_roundw
   case rel=>exact⟨n+1,_,by omega,by simp,by rw[List.replicate_succ',Yh];((with_reducible apply Sat.fin hs);(focus((repeat(first|with_reducible exact Ql|with_reducible exact Qh|with_reducible apply Qb|exact Qh|with_reducible apply Qk));done)))⟩
   case measure=>simp[intOf];omega
end
section
open Go.RowKit Hp
set_option maxRecDepth 100000
set_option maxHeartbeats 1000000
attribute [local irreducible] Go.Calls
theorem stars_nil {O w:World}{R:Zc}{E:TypeId}(hs:Sat O w R):∀n,Sat O w (Jd E (List.replicate n []) (List.replicate n (.slice none 0 0))*R)
 | 0=>by simp only[List.replicate_zero,Jd,Em];exact hs
 | n+1=>by
  simp only[List.replicate_succ,Jd,Ma,Yj]
  exact sl_nil (stars_nil hs n) (by omega)
theorem nest_nil {O w:World}{R:Zc}{E1 E0:TypeId}{n:Nat}{v:Value}(hs:Sat O w (sl E1 1 (List.replicate n [.slice none 0 0]) v*R)):Sat O w (nest E1 E0 (List.replicate n []) v*R):=by
 refine nest_iff.2 ⟨List.replicate n (.slice none 0 0),by simp,?_⟩
 have:=stars_nil (E:=E0) hs n
 refine(this.cast ?_)
 rw[List.map_replicate]
 exact QN _ _ _
theorem arena_config (b:Nat)(a:Are) :
  Zk Tryz.prog 66 #[.pointer (some ⟨b,0,none⟩)] (AreR b a) a.c.v (AreR b a):=by
 intro O w F hs
 (obtain⟨vas,vac,hs⟩:=areR.1 hs)
 go_enter Tryz.func66,Tryz.ntmps66
 go_wp2_with (first|((with_reducible apply ZN hs);exact Ii;rfl;rfl;(with_reducible exact Qh);rfl;rfl;rfl;rfl;clear hs;intro w hs)|((with_reducible apply Zw hs);exact Ii;rfl;clear hs;intro w b hs;simp only[Uc,Uz])|((with_reducible apply wl_ldN hs);exact Ii;rfl;(with_reducible repeat first|exact Qh|apply Qk);(simp only[List.size_toArray,List.length_cons,List.length_nil];omega);rfl;rfl;simp only[Uc,Uz]))
 ((try simp only[Exit.inBlock,Exit.then]);(with_reducible apply bodyPost_ret);((with_reducible apply results_c);rfl;rfl;(with_reducible apply loadF hs);exact Ii;(with_reducible exact Qh);rfl;rfl))
 refine⟨rfl,?_⟩
 (apply areR_mk;((try simp only[Yh,Yi,Yj,Yk,Yl]);(try simp only[Yh,Yi,Yj,Yk,Yl]at hs);(with_reducible apply Sat.fin hs;repeat first|exact Ql|exact Qh|apply Qb|apply Qk)))
def are0 (c:Cfg):Are:=⟨c,List.replicate c.Sl.toNat ⟨0,-1⟩,List.replicate c.T.toNat []⟩
def slN (S n:Nat):List Slt:=List.replicate n ⟨0,-1⟩++List.replicate (S-n) ⟨0,0⟩
theorem slN_get {S n:Nat}(h:n<S):(slN S n)[n]? = some ⟨0,0⟩:=by
 unfold slN
 rw[List.getElem?_append_right (by simp)]
 simp[List.getElem?_replicate];omega
theorem slN_set {S n:Nat}(h:n<S):(slN S n).set n ⟨0,-1⟩=slN S (n+1):=by
 unfold slN
 rw[List.set_append_right _ _ (by simp)]
 simp only[List.length_replicate,Nat.sub_self]
 obtain⟨k,hk⟩:∃k,S-n=k+1:=⟨S-n-1,by omega⟩
 rw[hk,List.replicate_succ,Uz,show S-(n+1)=k by omega,List.replicate_succ' ,List.append_assoc]
 rfl
theorem slN_len {S n:Nat}(h:n≤S):(slN S n).length=S:=by simp[slN];omega
def haz0 (c:Cfg):Haz:=⟨c,List.replicate c.T.toNat (-1),List.replicate c.R.toNat []⟩
theorem hazard_new (ba:Nat)(a:Are)(h:a.c.Ok) :
  Makes Tryz.prog 54 #[.pointer (some ⟨ba,0,none⟩)] (AreR ba a) (fun g=>HazR g ba (haz0 a.c)*AreR ba a):=by
 intro O w F hs
 have hG:=Lh (arena_config ba a)
 have hC:=Lh (word_check a.c h)
 have h1:=h.R1;have h2:=h.R2;have h3:=h.T1;have h4:=h.T2;have h5:=h.S1
 have h6:=h.H1
 have hrh:0<a.c.R*a.c.Hz:=Int.mul_pos (by omega) (by omega)
 have hA8:=word_addr a.c h 8 (by omega) (by omega) 0 ⟨by omega,by omega,by show 0<a.c.R;omega⟩
 have hA9:=word_addr a.c h 9 (by omega) (by omega) 0 ⟨by omega,by omega,by show 0<a.c.R*a.c.Hz;omega⟩
 have hA2:=word_addr a.c h 2 (by omega) (by omega) 0 ⟨by omega,by omega,by show(0:Int)<1;omega⟩
 have hA11:=word_addr a.c h 11 (by omega) (by omega) 0 ⟨by omega,by omega,by show 0<a.c.Sl;omega⟩
 rw[if_neg (by omega),Int.add_zero]at hA8 hA2 hA11
 rw[if_pos rfl,Int.zero_mul,Int.add_zero]at hA9
 have hA8:=Lh hA8
 have hA9:=Lh hA9
 have hA2:=Lh hA2
 have hA11:=Lh hA11
 clear h
 go_enter Tryz.func54,Tryz.ntmps54
 go_wp2_with (first|(with_reducible first|apply NQ.mk|apply EQ.mk|exact Zg|apply Zj)|((with_reducible apply Zi);rfl;rfl)|((with_reducible apply Zo);rfl)|((with_reducible refine Zn ?_ ?_);focus((with_reducible apply ZI);rfl;rfl))|(show Qd _ _ _;rfl)|((with_reducible apply Zb hs);exact Ii;rfl;(with_reducible repeat first|exact Qh|apply Qk);rfl;rfl;simp only[Uc,Uz])|((with_reducible apply Qy hs);exact Ii;rfl;(with_reducible repeat first|exact Qh|apply Qk);rfl;rfl;simp only[Uc,Uz])|((with_reducible apply ZN hs);exact Ii;rfl;rfl;(with_reducible exact Qh);rfl;rfl;rfl;rfl;clear hs;intro w hs)|((with_reducible apply Zw hs);exact Ii;rfl;clear hs;intro w b hs;simp only[Uc,Uz])|((with_reducible apply Zt hs);rfl;rfl;rfl;clear hs;intro w b hs;simp only[Uc,Uz])|(((with_reducible apply wl_mk hs);exact Ii;exact Ii;rfl;rfl;rfl;rfl;(exact(Int.toNat_of_nonneg (by omega)).symm);omega;exact Vb rfl;rfl;clear hs;intro w v hs;simp only[Uc,Uz]);(obtain⟨_,_,rfl⟩:=QY hs);(simp only[List.length_replicate]at hs ⊢))|((with_reducible refine Wp (id:=4) [.neu 0,.neu 1,.neu 2,.neu 3,.eff 4 [0,1],.neu 5,.eff 6 [],.neu 7] hs rfl ?_ ?_);kernel_rfl;clear hs;intro w hs)|(go_at_call 82;((refine(hC.out).at hs (by (focus((repeat(with_reducible exact Qn));done))) ?_);clear hs;intro w hs;(try simp only[Em,Ma]at hs)))|(go_at_call 66;((refine(hG.out).at hs (by (with_reducible exact Qh)) ?_);clear hs;intro w hs;(try simp only[Em,Ma]at hs))))
 have e2:List.replicate a.c.R.toNat (Value.slice none 0 0).cells.toList=List.replicate a.c.R.toNat [.slice none 0 0]:=rfl
 rw[e2]at hs
 replace hs:=nest_nil (E0:=3) (hs.pull (A:=sl 33 1 (List.replicate a.c.R.toNat [.slice none 0 0]) _) (by (with_reducible repeat first|exact Qh|apply Qk)))
 clear e2
 replace hs:=sl_nil (E:=3) (sz:=1) hs (by omega)
 have hT0:((a.c.T.toNat:Nat):Int)=a.c.T:=Int.toNat_of_nonneg (by omega)
 obtain⟨v2,T,hT,hs⟩:∃v2 T,Hid (T=_)∧Sat O w (pt b (.cells #[.pointer (some ⟨ba,0,none⟩),.int .i64 a.c.T,.int .i64 a.c.R,.int .i64 a.c.Hz,.int .i64 a.c.Rt,.int .i64 a.c.Ca,.int .i64 a.c.Sl,.int .i64 a.c.Bu,.slice none 0 0,v2,.int .i64 0,.int .i64 0,.int .i64 0,.int .i64 0] 68) *
   (sl 3 1 [] (.slice none 0 0)*(nest 33 3 (List.replicate a.c.R.toNat []) v2*T))):=⟨_,_,Lh rfl,by (with_reducible apply Sat.fin hs;repeat first|exact Ql|exact Qh|apply Qb|apply Qk)⟩
 go_loopw [26] (fun q wr=>∃(n:Nat) (v1:Value),(n:Int)≤a.c.T∧q=.int .i64 (n:Int)∧Sat O wr (pt b (.cells #[.pointer (some ⟨ba,0,none⟩),.int .i64 a.c.T,.int .i64 a.c.R,.int .i64 a.c.Hz,.int .i64 a.c.Rt,.int .i64 a.c.Ca,.int .i64 a.c.Sl,.int .i64 a.c.Bu,v1,v2,.int .i64 0,.int .i64 0,.int .i64 0,.int .i64 0] 68) *
   (sl 3 1 ((List.replicate n (-1)).map eI) v1*(nest 33 3 (List.replicate a.c.R.toNat []) v2*T)))) (fun q _=>17-(intOf q).toNat)
 case atStart=>exact⟨0,_,by omega,rfl,by simp only[List.replicate_zero,Yj];((with_reducible apply Sat.fin hs);(with_reducible exact Ql))⟩
 case round=>
  obtain⟨n,v1,k1,rfl,hs⟩:=hrel
  by_cases hkr:(n:Int)=a.c.T
  ·have hlt:decide ((n:Int)<a.c.T)=false:=by simp;omega
   rw[hT.out]at hs
   go_wp2_with (first|((with_reducible apply Qy hs);exact Ii;rfl;(with_reducible repeat first|exact Qh|apply Qk);rfl;rfl;simp only[Uc,Uz])|((with_reducible apply Zv hs);exact Ii;rfl;rfl;(with_reducible exact Qh);rfl;exact Vb rfl;rfl;clear hs;intro w hs;simp only[Yg,Uc,Uz]at hs)|(go_at_call 67;first|((refine(hA8.out).at hs (by (focus((repeat(with_reducible exact Qn));done))) ?_);clear hs;intro w hs;(try simp only[Em,Ma]at hs))|((refine(hA9.out).at hs (by (focus((repeat(with_reducible exact Qn));done))) ?_);clear hs;intro w hs;(try simp only[Em,Ma]at hs))|((refine(hA2.out).at hs (by (focus((repeat(with_reducible exact Qn));done))) ?_);clear hs;intro w hs;(try simp only[Em,Ma]at hs))|((refine(hA11.out).at hs (by (focus((repeat(with_reducible exact Qn));done))) ?_);clear hs;intro w hs;(try simp only[Em,Ma]at hs))))
   go_ret
   refine⟨_,rfl,?_⟩
   simp only[Ma]
   apply ZA
   have e3:List.replicate n (-1)=(haz0 a.c).held:=by unfold haz0;rw[←hkr];simp
   rw[e3]at hs
   ((with_reducible apply Sat.fin hs);(focus((repeat(first|with_reducible exact Ql|with_reducible exact Qh|with_reducible apply Qb|exact Qh|with_reducible apply Qk));done)))
  ·have hlt:decide ((n:Int)<a.c.T)=true:=by simp;omega
   have hlr:(List.replicate n (-1:Int)).length<100:=by simp;omega
   rw[hT.out]at hs
   obtain⟨a0,c0,rfl⟩:=QY (hs.pull (A:=sl 3 1 _ v1) (by (with_reducible repeat first|exact Qh|apply Qk)))
   go_wp2_with (first|((with_reducible apply Zb hs);exact Ii;rfl;(with_reducible exact Qh);rfl;rfl;simp only[Uc,Uz])|((with_reducible apply Zv hs);exact Ii;rfl;rfl;(with_reducible repeat first|exact Qh|apply Qk);(apply QS;apply hs.pull;(with_reducible exact Qh));exact Vb rfl;rfl;clear hs;intro w hs;simp only[Yg,Uc,Uz]at hs)|((with_reducible apply wl_bs hs);exact Ii;exact Ii;rfl;rfl;rfl;rfl;exact Vb rfl;rfl;clear hs;intro w v hs;simp only[Uc,Uz])|((with_reducible apply JA hs);exact Ii;exact Ii;rfl;rfl;(focus with_reducible (repeat first|exact Qh|apply Qk);done);(with_reducible exact Qh);(simp only[Wm,Ws,Wa,Wc,Wn,Wr]at *;omega);exact Vb rfl;rfl;clear hs;intro w v hs;simp only[Uc,Uz]))
   go_roundw
   case rel=>exact⟨n+1,_,by omega,by simp,by rw[List.replicate_succ',Yh,hT.out];((with_reducible apply Sat.fin hs);(focus((repeat(first|with_reducible exact Ql|with_reducible exact Qh|with_reducible apply Qb|exact Qh|with_reducible apply Qk));done)))⟩
   case measure=>simp[intOf];omega
end
end Go.Proofs.YtefjbdajgakgpaaGreat
