/-
  More arms: regions by plans with two ways.
-/
import Derived.Test.YtjagadldibbbbaaGreatCHaz
import Derived.Test.YtjagadldibbbbaaGreatCTree
import Derived.Test.YtjagadldibbbbaaGreatCLog
set_option linter.all false
namespace Go.Proofs.YtjagadldibbbbaaGreat
section
open Go.RowKit
namespace Hp
end Hp
end
section
open Go.RowKit Hp
set_option maxRecDepth 100000
set_option maxHeartbeats 1000000
attribute [local irreducible] Go.Calls
theorem mem_words (b:Nat)(m:Mem)(hl:m.words.length<4294967296) :
  Does Tryz.prog 57 #[.pointer (some ⟨b,0,none⟩)] (MemR b m) (fun v=>sl 47 1 (m.words.map eU) v*MemR b m):=by
 intro O w F hs
 obtain⟨vw,vl,va,hs⟩:=memR.1 hs
 have hC:=Lh (clone_words vw m.words hl)
 go_enter Tryz.func57,Tryz.ntmps57
 go_wp2_with (first|((with_reducible apply Zc hs);exact Ii;rfl;(with_reducible exact Qh);rfl;rfl;(simp only[Uc,Uz]))|(go_at_call 61;((refine(hC.out).at hs (by (with_reducible repeat first|exact Qh|apply Qk)) ?_);clear hs;intro v w hs;(try simp only[Em,Ma]at hs))))
 (go_ret)
 refine⟨_,rfl,?_⟩
 simp only[Ma]
 replace hs:=memR_mk (hs.fin (by (with_reducible repeat first|exact Ql|exact Qh|apply Qb|apply Qk)))
 ((with_reducible apply Sat.fin hs);(focus((repeat(first|with_reducible exact Ql|with_reducible apply Qb|exact Qh|with_reducible apply Qk));done)))
def logF (b:Nat)(v:Value):Zb:=ex fun t1=>ex fun t2=>pu (v=.func (.func 63) #[] #[.pointer (some ⟨t1,0,none⟩),.pointer (some ⟨t2,0,none⟩)]) *
  (pt t1 (.cells #[.pointer (some ⟨b,0,none⟩)] 98)*pt t2 (.cells #[.int .i64 0] 3))
theorem logF_mk {O w:World}{b t1 t2:Nat}{F:Zb}(hs:Sat O w (pt t1 (.cells #[.pointer (some ⟨b,0,none⟩)] 98)*(pt t2 (.cells #[.int .i64 0] 3)*F))) :
  Sat O w (logF b (.func (.func 63) #[] #[.pointer (some ⟨t1,0,none⟩),.pointer (some ⟨t2,0,none⟩)])*F):=by
 unfold logF
 simp only[ZJ,Ma,Zz]
 exact⟨t1,t2,rfl,hs⟩
theorem logF_get {O w:World}{b:Nat}{v:Value}{F:Zb}(hs:Sat O w (logF b v*F)):∃t1 t2,v=.func (.func 63) #[] #[.pointer (some ⟨t1,0,none⟩),.pointer (some ⟨t2,0,none⟩)] ∧
  Sat O w (pt t1 (.cells #[.pointer (some ⟨b,0,none⟩)] 98)*(pt t2 (.cells #[.int .i64 0] 3)*F)):=by
 unfold logF at hs
 simpa only[ZJ,Ma,Zz] using hs
attribute [irreducible] logF
theorem mem_logf (b:Nat):Does Tryz.prog 58 #[.pointer (some ⟨b,0,none⟩),.int .i64 0] emp (logF b):=by
 intro O w F hs
 go_enter Tryz.func58,Tryz.ntmps58
 go_wp2_with ((with_reducible apply Zq hs);rfl;rfl;rfl;clear hs;intro w b hs;(simp only[Uc,Uz]))
 (go_ret)
 refine⟨_,rfl,?_⟩
 exact logF_mk (hs.fin (by (with_reducible repeat first|exact Ql|exact Qh|apply Qb|apply Qk)))
theorem wp_range {P:Program}{g:Operand}{ps:Array Tmp}{assign body:Code}{Q:Exit→Act→World→Prop}{l:List Value}{w O:World}{α:Type}{args:α→Array Value}{el:Nat→α→Prop}{N:Nat}{Z:Nat→Zb}{S0 R:Zb}{f:FuncId}{cap:Array Value}
  (hs:Sat O w (Z 0*(S0*R))) (hg:ev l g=some (.func (.func f) #[] cap)) (hf:∀args (w:World),(callFunc f args).run P w=.ok (.enter f args) w)
  (hI:∀lp (Y:Nat→Zb),(∀i x,el i x→YieldC P lp (args x) (Y i) (Y (i+1)))→Zk P f (#[.func (.yield lp) #[] #[]]++cap) (Y 0*S0) (.tuple #[]) (Y N*S0))
  (hB:∀fn D lp i x,el i x→YieldC P lp (args x) (pt lp (.loop ⟨.ready,none,fn,l.toArray,ps,assign,body,D⟩)*Z i) (pt lp (.loop ⟨.ready,none,fn,l.toArray,ps,assign,body,D⟩)*Z (i+1)))
  (k:∀D w',Sat O w' (pt D (.deferred (some []))*(Z N*(S0*R)))→Q .normal ⟨l.toArray,[{ target:=.collected D,args := #[] }]⟩ w') :
  (Code.rangeFunc g ps assign body).wp P Q ⟨l.toArray,[]⟩ w:=by
 refine(wpIn_wide (n:=3)).1 (wpIn_rangeFunc (F:=Fence.wide) (n:=3) (fun fn _ => ?_))
 have hs1:=hs.alloc (.deferred (some []))
 have hs2:=hs1.alloc (.loop { state:=.ready,pending:=none,fn,tmps:=l.toArray,params:=ps,assign,body,defers:=w.heap.size })
 have hsz:(w.alloc (.deferred (some []))).heap.size=w.heap.size+1:=World.size_alloc _ _
 rw[hsz]at hs2
 generalize hW1:(w.alloc (.deferred (some []))).alloc (.loop { state:=.ready,pending:=none,fn,tmps:=l.toArray,params:=ps,assign,body,defers:=w.heap.size })=W1 at hs2
 refine⟨w.heap.size+1,[{ target:=.collected w.heap.size,args := #[] }],W1,{ target:=.fn (.func f) cap,args := #[.func (.yield (w.heap.size+1)) #[] #[]] },W1,f,#[.func (.yield (w.heap.size+1)) #[] #[]]++cap,W1,hW1▸run_enterLoop_outer fn _ _ _ _,?_,fun _ _=>trivial,?_,(fun h=>by cases h),?_⟩
 ·have e1:(Act.mk l.toArray []).eval g=.func (.func f) #[] cap:=Zl hg
  have e2:∀y,(Act.mk l.toArray []).eval (.const y)=y:=fun _=>rfl
  simp[resolve,rangeCall,e1,e2,Deferred.ofValue]
 ·show(callFunc f (#[.func (.yield (w.heap.size+1)) #[] #[]]++cap)).run P _=_
  exact hf _ _
 ·refine callsIn_of wide_wide ?_
  have hG:=hI (w.heap.size+1) (fun i=>pt (w.heap.size+1) (.loop ⟨.ready,none,fn,l.toArray,ps,assign,body,w.heap.size⟩)*Z i) (fun i x hx=>hB fn w.heap.size (w.heap.size+1) i x hx)
  refine(hG O _ (pt w.heap.size (.deferred (some []))*R) (hs2.cast (by ac_rfl))).mono ?_
  rintro e w' ⟨rfl,hs'⟩
  have hs3:Sat O w' (pt (w.heap.size+1) (.loop ⟨.ready,none,fn,l.toArray,ps,assign,body,w.heap.size⟩)*(pt w.heap.size (.deferred (some []))*(Z N*(S0*R)))):=hs'.cast (by ac_rfl)
  refine⟨none,_,run_endLoop hs3.block (by simp),?_⟩
  exact k _ _ (sat_putObj hs3).right
def runZ (b:Nat)(v1 v2 v3:Value)(log:List Acc):Zb:=ex fun vt=>pt b (.cells #[v1,vt,v2,v3] 32)*sl 49 7 (log.map Acc.e) vt
theorem runZ_iff {O w:World}{b:Nat}{v1 v2 v3:Value}{log:List Acc}{F:Zb}:Sat O w (runZ b v1 v2 v3 log*F)↔∃vt,Sat O w (pt b (.cells #[v1,vt,v2,v3] 32)*(sl 49 7 (log.map Acc.e) vt*F)):=by
 unfold runZ
 simp only[ZJ,Ma]
attribute [irreducible] runZ
theorem yieldC_mk {P:Program}{lp fn D p1 p2 i1 i2 i3:Nat}{l:List Value}{v u:Value}{ops1 ops2:List Oper}{Z Z':Zb}(hd1:ops1.all noDefer=true)(hd2:ops2.all noDefer=true)
  (h:∀O w F,Sat O w (Z*F)→wpList P ops1.toArray (Then fun a1 w1=>∃Z1,Sat O w1 (Z1*F)∧∀F2 w2,Sat O w2 (Z1*F2)→wpList P ops2.toArray (Then fun _ w3=>Sat O w3 (Z'*F2)) ops2 a1 w2) ops1 ⟨((l.set p1 v).set p2 u).toArray,[]⟩ w) :
  YieldC P lp #[v,u] (pt lp (.loop ⟨.ready,none,fn,l.toArray,#[p1,p2],.region i1 ops1.toArray false,.block i2 (.region i3 ops2.toArray false),D⟩)*Z)
   (pt lp (.loop ⟨.ready,none,fn,l.toArray,#[p1,p2],.region i1 ops1.toArray false,.block i2 (.region i3 ops2.toArray false),D⟩)*Z'):=by
 intro O w F hs n
 rw[Ma]at hs
 refine⟨_,_,_,_,run_yield hs.block rfl,roundIn_of_wpIn trivial ?_⟩
 have hw:=h O w (pt lp (.loop ⟨.ready,none,fn,l.toArray,#[p1,p2],.region i1 ops1.toArray false,.block i2 (.region i3 ops2.toArray false),D⟩)*F) (hs.cast (Qy _ _ _))
 have e:(Array.foldl (fun(tmps:Array Value) x=>tmps.setIfInBounds x.1 x.2) l.toArray (#[p1,p2].zip #[v,u]))=((l.set p1 v).set p2 u).toArray:=by simp
 refine wpIn_region_lit (listIn_all' (wide_round lp) ?_ hd1 (e▸hw))
 rintro a1 w1 ⟨Z1,hs1,hk⟩
 have hs1:=hs1.cast (Qy _ _ _)
 refine⟨_,run_beginRound hs1.block rfl,?_⟩
 have hs2:=sat_putObj (o':=.loop ⟨.busy,none,fn,l.toArray,#[p1,p2],.region i1 ops1.toArray false,.block i2 (.region i3 ops2.toArray false),D⟩) hs1
 have hk2:=hk _ _ (hs2.cast (Qy _ _ _))
 refine wpIn_block (wpIn_region_lit (listIn_all' (wide_round lp) ?_ hd2 hk2))
 intro a2 w3 hs3
 have hs3:=hs3.cast (Qy _ _ _)
 refine⟨_,_,run_endRound none hs3.block,rfl,?_⟩
 rw[Ma]
 exact sat_putObj hs3
def RunR (cs:List Cll)(log:List Acc)(sh:List Shf)(ws:List Int)(v:Value):Zb:=ex fun vc=>ex fun vt=>ex fun vs=>ex fun vw=>pu (v=.agg #[vc,vt,vs,vw]) *
 (sl 42 9 (cs.map Cll.e) vc*(sl 49 7 (log.map Acc.e) vt*(sl 52 5 (sh.map Shf.e) vs*sl 47 1 (ws.map eU) vw)))
set_option maxHeartbeats 4000000 in
theorem mach_run (bx bm:Nat)(m:Mch)(hn:0<m.seats.length)(h1:m.calls.length<4294967296)(h2:m.shifts.length<4294967296)(h3:m.mem.words.length<4294967296)(h4:m.mem.log.length<4294967295) :
  Does Tryz.prog 32 #[.pointer (some ⟨bx,0,none⟩)] (MchR bx bm m) (fun v=>RunR m.calls m.mem.log m.shifts m.mem.words v*MchR bx bm m):=by
 intro O w F hs
 (obtain⟨vh,call,told,hcur,hs⟩:=mchR.1 hs)
 have hcur:=Lh hcur
 have h0':((m.seats.length:Int)==0)=false:=by simp;intro e;simp[e]at hn
 have hC1:=Lh (clone_calls m.vc m.calls h1)
 have hC2:=Lh (clone_shifts vh m.shifts h2)
 have hW:=Lh (mem_words bm m.mem h3)
 have hLf:=Lh (mem_logf bm)
 refine callsIn_wide.1 (callsIn_of_wp_marks (n:=3) Tryz.func32 rfl trivial ?_)
 simp only[Tryz.ntmps32,List.size_toArray,List.length_cons,List.length_nil,Nat.reduceAdd,Nat.reduceSub,Array.replicate_succ,Array.replicate_zero,List.push_toArray,List.append_toArray,List.nil_append,List.cons_append]
 refine(wpIn_wide (n:=3)).2 ?_
 go_wp2_with (first|(first|(first|(with_reducible refine NQ.mk ?_)|((with_reducible apply Zh);rfl;rfl)|(with_reducible refine EQ.mk ?_ ?_)|(first|(with_reducible exact Zg)|((with_reducible refine Zm ?_ ?_);(focus((with_reducible apply ZH);rfl;rfl))))|(with_reducible refine Zi ?_)|(show Z6 _ _ _;rfl))|((with_reducible apply Zc hs);exact Ii;rfl;(with_reducible repeat first|exact Qh|apply Qk);rfl;rfl;(simp only[Uc,Uz]))|((with_reducible apply ZR hs);exact Ii;rfl;rfl;(with_reducible repeat first|exact Qh|apply Qk);rfl;rfl;rfl;rfl;clear hs;intro w hs)|((with_reducible apply Zv hs);exact Ii;rfl;clear hs;intro w b hs;(simp only[Uc,Uz]))|((with_reducible apply ZC hs);exact Ii;rfl;(with_reducible repeat first|exact Qh|apply Qk);rfl;(simp only[Uc,Uz])))|(first|((with_reducible refine plt_leaf ?_);(try simp only[Yi,Yj]))|((with_reducible refine plt_one ?_);(try simp only[Yi,Yj]))|((with_reducible refine plt_two ?_);(try simp only[Yi,Yj]))|((with_reducible apply te_eff);rfl)|(with_reducible refine Two.mk ?_ ?_))|((with_reducible refine wp_tree_sat (id:=3) (.two [0,1,2,3,5,6,7,8,9,11,12,13,14,15] 4 [5,6,7,8,9,11,12,13,14,15] (.two [] 10 [11,12,13,14,15] (.two [] 16 [] (.one [17] 18 [0,1,2,3,5,6,7,8,9,11,12,13,14,15,17] (.one [] 19 [] (.leaf []))) 18 [0,1,2,3,5,6,7,8,9,11,12,13,14,15] (.one [] 16 [] (.one [17] 19 [] (.leaf [])))) 18 [0,1,2,3,5,6,7,8,9,11,12,13,14,15] (.one [] 10 [11,12,13,14,15] (.one [] 16 [] (.one [17] 19 [] (.leaf []))))) 18 [0,1,2,3,5,6,7,8,9,11,12,13,14,15] (.one [] 4 [5,6,7,8,9,11,12,13,14,15] (.one [] 10 [11,12,13,14,15] (.one [] 16 [] (.one [17] 19 [] (.leaf [])))))) hs rfl ?_ ?_);kernel_rfl;clear hs;intro w hs)|(go_at_call 55;((refine(hC1.out).at hs (by (with_reducible repeat first|exact Qh|apply Qk)) ?_);clear hs;intro v w hs;(try simp only[Em,Ma]at hs));(obtain⟨a1,c1,rfl⟩:=Qi hs))|(go_at_call 56;((refine(hC2.out).at hs (by (with_reducible repeat first|exact Qh|apply Qk)) ?_);clear hs;intro v w hs;(try simp only[Em,Ma]at hs));(obtain⟨a2,c2,rfl⟩:=Qi hs))|(go_at_call 57;((refine(hW.out).at hs (by (with_reducible repeat first|exact Qh|apply Qk)) ?_);clear hs;intro v w hs;(try simp only[Em,Ma]at hs));(obtain⟨a3,c3,rfl⟩:=Qi hs))|(go_at_call 58;((refine(hLf.out).at hs (by (focus((repeat(with_reducible exact Qn));done))) ?_);clear hs;intro v w hs;(try simp only[Em,Ma]at hs));(replace hs:=logF_get hs);(obtain⟨t1,t2,rfl,hs⟩:=hs)))
 all_goals
  have hI:=fun lp Y hY=>log_iter bm m.mem t1 t2 lp Y hY (by omega)
  obtain⟨REST,hREST,hs⟩:∃R,Hid (R=_)∧Sat O w ((pt b (.cells #[Value.slice a1 m.calls.length c1,Value.slice none 0 0,Value.slice a2 m.shifts.length c2,Value.slice a3 m.mem.words.length c3] 32)*(MemR bm m.mem*(pt t1 (.cells #[.pointer (some ⟨bm,0,none⟩)] 98)*pt t2 (.cells #[.int .i64 0] 3))))*R):=⟨_,Lh rfl,hs.pull (by (with_reducible repeat first|exact Qh|apply Qb|apply Qk))⟩
  have hz:=runZ_iff (log:=[]).2 ⟨_,(sl_nil (E:=49) (sz:=7) hs (by omega)).fin (T:=pt b (.cells #[Value.slice a1 m.calls.length c1,Value.slice none 0 0,Value.slice a2 m.shifts.length c2,Value.slice a3 m.mem.words.length c3] 32)*(sl 49 7 [] (.slice none 0 0)*((MemR bm m.mem*(pt t1 (.cells #[.pointer (some ⟨bm,0,none⟩)] 98)*pt t2 (.cells #[.int .i64 0] 3)))*REST))) (by simp only[Ma];(with_reducible repeat first|exact Ql|exact Qh|apply Qb|apply Qk))⟩
  clear hs
  refine wp_range (α:=Nat×Acc) (args:=fun x => #[.int .i64 (x.1:Int),x.2.v]) (Z:=fun i=>runZ b (.slice a1 m.calls.length c1) (.slice a2 m.shifts.length c2) (.slice a3 m.mem.words.length c3) (m.mem.log.take i)) (N:=m.mem.log.length) (el:=fun i x=>m.mem.log[i]? = some x.2∧x.1=i) hz rfl ?_ ?_ ?_ ?_
  ·intro args w
   kernel_rfl
  ·intro lp Y hY
   exact hI lp Y (fun i a ha=>hY i (i,a) ⟨ha,rfl⟩)
  ·rintro fn D lp i ⟨i',x⟩ ⟨hx,hxi⟩
   simp only[]at hx hxi
   subst hxi
   clear hz hI hREST
   refine yieldC_mk rfl rfl ?_
   intro O w F hs
   have hil:=(List.getElem?_eq_some_iff.1 hx).1
   have HT:=Lh (show m.mem.log.take (i'+1)=m.mem.log.take i'++[x] by rw[List.take_add_one,hx];rfl)
   have htl:(m.mem.log.take i').length<4294967295:=by simp;omega
   generalize m.mem.log.take i'=lg at *
   clear hx
   go_wp2_with (first|((with_reducible apply Zv hs);exact Ii;rfl;clear hs;intro w b5 hs;(simp only[Uc,Uz]))|((with_reducible apply ZR hs);exact Ii;rfl;rfl;(with_reducible exact Qh);rfl;rfl;rfl;rfl;clear hs;intro w hs))
   simp only[Then]
   refine⟨_,hs.cast (Ma _ _ _).symm,?_⟩
   clear hs
   intro F2 w2 hs
   simp only[Ma]at hs
   obtain⟨vt,hs⟩:=runZ_iff.1 (hs.pull (A:=runZ b _ _ _ _) (by (with_reducible repeat first|exact Qh|apply Qk)))
   go_wp2_with (first|((with_reducible apply Zc hs);exact Ii;rfl;(with_reducible exact Qh);rfl;rfl;(simp only[Uc,Uz]))|((with_reducible apply Qg hs);exact Ii;rfl;(with_reducible repeat first|exact Qh|apply Qk);rfl;rfl;(simp only[Uc,Uz]))|((with_reducible apply Zy hs);exact Ii;rfl;rfl;(with_reducible repeat first|exact Qh|apply Qk);(apply QJ;apply hs.pull;(with_reducible exact Qh));(exact Vb rfl);rfl;clear hs;intro w hs;simp only[Yg,Uc,Uz]at hs)|((with_reducible apply wl_bs hs);exact Ii;exact Ii;rfl;rfl;rfl;rfl;(exact Vb rfl);rfl;clear hs;intro w v hs;(simp only[Uc,Uz]))|((with_reducible apply Q9 hs);exact Ii;exact Ii;rfl;rfl;(focus with_reducible (repeat first|exact Qh|apply Qk);done);(with_reducible exact Qh);(simp only[Wm,Ws,Wa,Wc,Wn,Wr]at *;omega);(exact Vb rfl);rfl;clear hs;intro w v hs;(simp only[Uc,Uz])))
   simp only[Then]
   rw[HT.out]
   refine runZ_iff.2 ⟨v,?_⟩
   ((try simp only[Yh,Yi,Yj,Yk,Yl]);(try simp only[Yh,Yi,Yj,Yk,Yl]at hs);((with_reducible apply Sat.fin hs);(with_reducible repeat first|exact Ql|exact Qh|apply Qb|apply Qk)))
  ·intro D w' hs
   rw[List.take_length]at hs
   obtain⟨vt,hs⟩:=runZ_iff.1 (hs.pull (A:=runZ b _ _ _ _) (by (with_reducible repeat first|exact Qh|apply Qk)))
   rw[hREST.out]at hs
   clear hz hI hREST
   simp only[Ma]at hs
   obtain⟨aT,cT,rfl⟩:=Qi (hs.pull (A:=sl 49 7 _ vt) (by (with_reducible repeat first|exact Qh|apply Qk)))
   simp only[Exit.inBlock,Exit.then]
   go_wp2_with (first|((with_reducible apply Qg hs);exact Ii;rfl;(with_reducible exact Qh);rfl;rfl;(simp only[Uc,Uz]))|((with_reducible apply ZR hs);exact Ii;rfl;rfl;(with_reducible repeat first|exact Qh|apply Qk);rfl;rfl;rfl;rfl;clear hs;intro w hs))
   simp only[List.length_map]at hs
   refine leaves_mark (D:=D) (hs.pull (A:=pt D (.deferred (some []))) (by (with_reducible repeat first|exact Qh|apply Qk))) (fun w hs=>by
    (with_reducible apply results_c);rfl;rfl;(with_reducible apply loadF hs);exact Ii;(with_reducible exact Qh);rfl) ?_
   clear hs
   intro w hs
   refine⟨_,rfl,?_⟩
   replace hs:=Q0 (m:=m) hcur.out (hs.fin (by (with_reducible repeat first|exact Ql|exact Qh|apply Qb|apply Qk)))
   unfold RunR
   simp only[ZJ,Ma,Zz]
   refine⟨_,_,_,_,rfl,?_⟩
   ((with_reducible apply Sat.fin hs);(with_reducible repeat first|exact Ql|exact Qh|apply Qb|apply Qk))
end
end Go.Proofs.YtjagadldibbbbaaGreat
