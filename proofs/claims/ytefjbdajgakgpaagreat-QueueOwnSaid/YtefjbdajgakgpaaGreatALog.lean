/-
  slices.Clone; a range over a function: the fenced laws by contract.
-/
import Derived.Test.YtefjbdajgakgpaaGreatAKit2
import Derived.RangeFuncWrites
import Derived.Deep.LoopGhost
import Derived.Deep.Cut
set_option linter.all false
namespace Go.Proofs.YtefjbdajgakgpaaGreat
open Go.RowKit Hp
set_option maxRecDepth 100000
set_option maxHeartbeats 1000000
section
attribute [local irreducible] Go.Calls
section
variable {P:Program}{ops:Array Oper}{Q:Exit→Act→World→Prop}{w:World}{rest:List Oper}{O:World}{S R:Zb}
variable {l:List Value}{ds:List Deferred}{T ty E:TypeId}{pos:String}{after:Array Edge}{gd:Option (Nat×Bool)}{d:Nat}{x y:Operand}{sz:Nat}
theorem wl_bs0 {by_:Nat}(hs:Sat O w S)(h:SlcC P T E)(hE:ElC P E sz by_)
  (hg:Region.wanted { dst:=some d,op:=.buildSlice T 0 #[],type:=ty,pos,after,guard:=gd } (yielded ops l.toArray)=true)
  (kk:∀w' v',Sat O w' (sl E sz [] v'*S)→wpList P ops Q rest ⟨(l.set d v').toArray,ds⟩ w') :
  wpList P ops Q ({ dst:=some d,op:=.buildSlice T 0 #[],type:=ty,pos,after,guard:=gd }::rest) ⟨l.toArray,ds⟩ w:=by
 have hinfo:=hE.info
 have hzero:=hE.zero
 have hpos:=hE.pos
 cases hq:P.info? E with
 | none=>simp[hq]at hinfo
 | some inf=>
  cases hzz:inf.zero with
  | none=>simp[hq,hzz]at hzero
  | some zv=>
   simp[hq,hzz]at hinfo hzero
   refine Qa (v:=.slice (some ⟨w.heap.size,0,none⟩) 0 0) (w':=w.alloc (.cells #[] E)) hg ?_ (ZK▸kk _ _ ?_)
   ·have hne:¬sz=0:=by omega
    simp[execOp,Instr.buildSlice,run_underlying h.is,sizeOf,typeInfo,hq,hinfo.1,hne,zeroValue,hzz,Instr.fill,newRow]
    first|rfl|(congr 2;apply Array.ext';simp)
   ·refine Qr.2 ⟨⟨by simp,hpos⟩,.inr ⟨w.heap.size,0,0,[],[],rfl,rfl,by simp,by simp,?_⟩⟩
    exact(hs.alloc (.cells #[] E)).cast (by simp)
end
section
end
theorem clone_words (v:Value)(ws:List Int)(hl:ws.length<4294967296) :
  Does Tryz.prog 105 #[v] (sl 79 1 (ws.map eU) v) (fun u=>sl 79 1 (ws.map eU) u*sl 79 1 (ws.map eU) v):=by
 intro O w F hs
 have hcase:(v=.slice none 0 0∧ws=[])∨∃b off n cap,v=.slice (some ⟨b,off,none⟩) n cap:=by
  obtain⟨_,⟨hv,hc,_⟩|⟨b,off,cap,_,_,hv,_⟩⟩:=Qr.1 hs
  ·exact .inl ⟨hv,by simpa using hc⟩
  ·exact .inr ⟨_,_,_,_,hv⟩
 rcases hcase with⟨rfl,rfl⟩|⟨b0,o0,n0,c0,rfl⟩
 ·have hb:∀w,(binOp .eql 28 (.slice none 0 0) (.slice none 0 0)).run Tryz.prog w=.ok (.bool true) w:=fun w=>by kernel_rfl
  go_enter Tryz.func105,Tryz.ntmps105
  go_wp2_with (fail)
  (go_ret)
  refine⟨_,rfl,?_⟩
  have hs:=Q9 (E:=79) (sz:=1) hs (by omega)
  simp only[Yj,Ma]
  ((with_reducible apply Sat.fin hs);(focus((repeat(first|with_reducible exact Ql|with_reducible apply Qb|exact Qh));done)))
 ·have hb:∀w,(binOp .eql 28 (.slice (some ⟨b0,o0,none⟩) n0 c0) (.slice none 0 0)).run Tryz.prog w=.ok (.bool false) w:=fun w=>by kernel_rfl
  go_enter Tryz.func105,Tryz.ntmps105
  go_wp2_with (first|((with_reducible apply QY hs);exact Ii;exact Ii;rfl;rfl;(with_reducible exact Qh);(with_reducible exact Qh);(simp only[Wm,Ws,Wa,Wc,Wn,Wr]at *;omega);(exact Vb rfl);rfl;clear hs;intro w v hs;(simp only[Uc,Uz]))|((with_reducible apply wl_bs0 hs);exact Ii;exact Ii;rfl;clear hs;intro w v hs;(simp only[Uc,Uz])))
  (go_ret)
  refine⟨_,rfl,?_⟩
  simp only[List.nil_append,Ma]at hs ⊢
  ((with_reducible apply Sat.fin hs);(focus((repeat(first|with_reducible exact Ql|with_reducible apply Qb|exact Qh));done)))
theorem clone_calls (v:Value)(ws:List Cll)(hl:ws.length<4294967296) :
  Does Tryz.prog 96 #[v] (sl 59 9 (ws.map Cll.e) v) (fun u=>sl 59 9 (ws.map Cll.e) u*sl 59 9 (ws.map Cll.e) v):=by
 intro O w F hs
 have hcase:(v=.slice none 0 0∧ws=[])∨∃b off n cap,v=.slice (some ⟨b,off,none⟩) n cap:=by
  obtain⟨_,⟨hv,hc,_⟩|⟨b,off,cap,_,_,hv,_⟩⟩:=Qr.1 hs
  ·exact .inl ⟨hv,by simpa using hc⟩
  ·exact .inr ⟨_,_,_,_,hv⟩
 rcases hcase with⟨rfl,rfl⟩|⟨b0,o0,n0,c0,rfl⟩
 ·have hb:∀w,(binOp .eql 25 (.slice none 0 0) (.slice none 0 0)).run Tryz.prog w=.ok (.bool true) w:=fun w=>by kernel_rfl
  go_enter Tryz.func96,Tryz.ntmps96
  go_wp2_with (fail)
  (go_ret)
  refine⟨_,rfl,?_⟩
  have hs:=Q9 (E:=59) (sz:=9) hs (by omega)
  simp only[Yj,Ma]
  ((with_reducible apply Sat.fin hs);(focus((repeat(first|with_reducible exact Ql|with_reducible apply Qb|exact Qh));done)))
 ·have hb:∀w,(binOp .eql 25 (.slice (some ⟨b0,o0,none⟩) n0 c0) (.slice none 0 0)).run Tryz.prog w=.ok (.bool false) w:=fun w=>by kernel_rfl
  go_enter Tryz.func96,Tryz.ntmps96
  go_wp2_with (first|((with_reducible apply QY hs);exact Ii;exact Ii;rfl;rfl;(with_reducible exact Qh);(with_reducible exact Qh);(simp only[Wm,Ws,Wa,Wc,Wn,Wr]at *;omega);(exact Vb rfl);rfl;clear hs;intro w v hs;(simp only[Uc,Uz]))|((with_reducible apply wl_bs0 hs);exact Ii;exact Ii;rfl;clear hs;intro w v hs;(simp only[Uc,Uz])))
  (go_ret)
  refine⟨_,rfl,?_⟩
  simp only[List.nil_append,Ma]at hs ⊢
  ((with_reducible apply Sat.fin hs);(focus((repeat(first|with_reducible exact Ql|with_reducible apply Qb|exact Qh));done)))
theorem clone_shifts (v:Value)(ws:List Shf)(hl:ws.length<4294967296) :
  Does Tryz.prog 97 #[v] (sl 102 5 (ws.map Shf.e) v) (fun u=>sl 102 5 (ws.map Shf.e) u*sl 102 5 (ws.map Shf.e) v):=by
 intro O w F hs
 have hcase:(v=.slice none 0 0∧ws=[])∨∃b off n cap,v=.slice (some ⟨b,off,none⟩) n cap:=by
  obtain⟨_,⟨hv,hc,_⟩|⟨b,off,cap,_,_,hv,_⟩⟩:=Qr.1 hs
  ·exact .inl ⟨hv,by simpa using hc⟩
  ·exact .inr ⟨_,_,_,_,hv⟩
 rcases hcase with⟨rfl,rfl⟩|⟨b0,o0,n0,c0,rfl⟩
 ·have hb:∀w,(binOp .eql 27 (.slice none 0 0) (.slice none 0 0)).run Tryz.prog w=.ok (.bool true) w:=fun w=>by kernel_rfl
  go_enter Tryz.func97,Tryz.ntmps97
  go_wp2_with (fail)
  (go_ret)
  refine⟨_,rfl,?_⟩
  have hs:=Q9 (E:=102) (sz:=5) hs (by omega)
  simp only[Yj,Ma]
  ((with_reducible apply Sat.fin hs);(focus((repeat(first|with_reducible exact Ql|with_reducible apply Qb|exact Qh));done)))
 ·have hb:∀w,(binOp .eql 27 (.slice (some ⟨b0,o0,none⟩) n0 c0) (.slice none 0 0)).run Tryz.prog w=.ok (.bool false) w:=fun w=>by kernel_rfl
  go_enter Tryz.func97,Tryz.ntmps97
  go_wp2_with (first|((with_reducible apply QY hs);exact Ii;exact Ii;rfl;rfl;(with_reducible exact Qh);(with_reducible exact Qh);(simp only[Wm,Ws,Wa,Wc,Wn,Wr]at *;omega);(exact Vb rfl);rfl;clear hs;intro w v hs;(simp only[Uc,Uz]))|((with_reducible apply wl_bs0 hs);exact Ii;exact Ii;rfl;clear hs;intro w v hs;(simp only[Uc,Uz])))
  (go_ret)
  refine⟨_,rfl,?_⟩
  simp only[List.nil_append,Ma]at hs ⊢
  ((with_reducible apply Sat.fin hs);(focus((repeat(first|with_reducible exact Ql|with_reducible apply Qb|exact Qh));done)))
theorem clone_log (v:Value)(ws:List Acc)(hl:ws.length<4294967296) :
  Does Tryz.prog 108 #[v] (sl 87 7 (ws.map Acc.e) v) (fun u=>sl 87 7 (ws.map Acc.e) u*sl 87 7 (ws.map Acc.e) v):=by
 intro O w F hs
 have hcase:(v=.slice none 0 0∧ws=[])∨∃b off n cap,v=.slice (some ⟨b,off,none⟩) n cap:=by
  obtain⟨_,⟨hv,hc,_⟩|⟨b,off,cap,_,_,hv,_⟩⟩:=Qr.1 hs
  ·exact .inl ⟨hv,by simpa using hc⟩
  ·exact .inr ⟨_,_,_,_,hv⟩
 rcases hcase with⟨rfl,rfl⟩|⟨b0,o0,n0,c0,rfl⟩
 ·have hb:∀w,(binOp .eql 26 (.slice none 0 0) (.slice none 0 0)).run Tryz.prog w=.ok (.bool true) w:=fun w=>by kernel_rfl
  go_enter Tryz.func108,Tryz.ntmps108
  go_wp2_with (fail)
  (go_ret)
  refine⟨_,rfl,?_⟩
  have hs:=Q9 (E:=87) (sz:=7) hs (by omega)
  simp only[Yj,Ma]
  ((with_reducible apply Sat.fin hs);(focus((repeat(first|with_reducible exact Ql|with_reducible apply Qb|exact Qh));done)))
 ·have hb:∀w,(binOp .eql 26 (.slice (some ⟨b0,o0,none⟩) n0 c0) (.slice none 0 0)).run Tryz.prog w=.ok (.bool false) w:=fun w=>by kernel_rfl
  go_enter Tryz.func108,Tryz.ntmps108
  go_wp2_with (first|((with_reducible apply QY hs);exact Ii;exact Ii;rfl;rfl;(with_reducible exact Qh);(with_reducible exact Qh);(simp only[Wm,Ws,Wa,Wc,Wn,Wr]at *;omega);(exact Vb rfl);rfl;clear hs;intro w v hs;(simp only[Uc,Uz]))|((with_reducible apply wl_bs0 hs);exact Ii;exact Ii;rfl;clear hs;intro w v hs;(simp only[Uc,Uz])))
  (go_ret)
  refine⟨_,rfl,?_⟩
  simp only[List.nil_append,Ma]at hs ⊢
  ((with_reducible apply Sat.fin hs);(focus((repeat(first|with_reducible exact Ql|with_reducible apply Qb|exact Qh));done)))
end
section
namespace Hp
structure Wide (F:Fence):Prop where
 fn:∀f,F.fn f
 depth:F.depth=none
 machine:∀P,Machine.fenced P F=Machine.fenced P Fence.wide
 room:∀k,F.room k
theorem wide_wide:Wide Fence.wide:=⟨fun _=>trivial,rfl,fun _=>rfl,room_wide⟩
theorem wide_round (l:Nat):Wide (Fence.wide.inRound l):=⟨fun _=>trivial,rfl,fun _=>rfl,room_wide⟩
theorem callsIn_of {F:Fence}(hF:Wide F){n:Nat}{P:Program}{f:FuncId}{args:Array Value}{w:World}{R:Ending→World→Prop}(h:Calls P f args w R):CallsIn F n P f args w R:=by
 have h':=(callsIn_wide (n:=n)).2 h
 refine⟨hF.fn f,fun cs hr => ?_⟩
 obtain⟨e,w',fr,r,s,x⟩:=h'.2 cs (room_wide _)
 exact⟨e,w',fr,r,by rw[hF.machine P];exact s,x⟩
def noDefer (o:Oper):Bool:=match o.op with
 | .defer _=>false
 | _=>true
theorem noDefer_spec {o:Oper}(h:noDefer o=true):∀c,o.op≠.defer c:=by
 intro c hc
 unfold noDefer at h
 rw[hc]at h
 cases h
def Then (N:Act→World→Prop):Exit→Act→World→Prop
 | .normal,a,w=>N a w
 | _,_,_=>False
theorem listIn_of' {F:Fence}(hF:Wide F){n:Nat}{P:Program}{ops:Array Oper}{Q:Exit→Act→World→Prop}{rest:List Oper}{N:Act→World→Prop}(hN:∀a w,N a w→wpListIn F n P ops Q rest a w) :
  ∀ {pre:List Oper} {a:Act} {w:World},pre.all noDefer=true→wpList P ops (Then N) pre a w→wpListIn F n P ops Q (pre++rest) a w
 | [],a,w,_,h=>hN _ _ h
 | o::pre,a,w,hd,h=>by
  simp only[List.all_cons,Bool.and_eq_true]at hd
  have ih:∀ {a:Act} {w:World},wpList P ops (Then N) pre a w→wpListIn F n P ops Q (pre++rest) a w:=fun {a w} h=>listIn_of' hF hN hd.2 h
  have hl:¬LetsOut (Then N):=fun⟨_,_,h⟩=>h
  simp only[wpList]at h
  simp only[List.cons_append,wpListIn]
  split
  ·rename_i hw
   rw[if_pos hw]at h
   rcases h with h|⟨_,h⟩
   case inr=>exact(hl h).elim
   refine⟨fun f _=>hF.fn f,?_⟩
   rw[Oper.semAt_eq _ _ _ (noDefer_spec hd.1)]
   unfold Oper.wp at h
   generalize (execOp a.eval o).run P w=r at *
   cases r with
   | ok nx w' =>
    cases nx<;>simp only[Oper.upon,Oper.uponIn]at h ⊢
    case value v=>exact ih h
    case skip=>exact ih h
    case defer d=>exact ih h
    case enter f args=>
     refine⟨fun hs=>(by rw[hF.depth]at hs;cases hs),callsIn_of hF (h.mono fun e w'' he => ?_)⟩
     cases e with
     | returned v=>exact ih he
     | panicked c=>exact he.elim
     | outgrown=>exact(hl he).elim
    case row row args=>
     refine⟨fun hs=>(by rw[hF.depth]at hs;cases hs),fun c cs _ => ?_⟩
     obtain⟨v,w'',hv,hs⟩:=h c cs
     exact⟨v,w'',ih hv,by rw[hF.machine P];exact stepsIn_wide.2 hs⟩
   | halt x w' =>
    cases x<;>simp only[Oper.upon,Oper.uponIn]at h ⊢
    case panic u=>exact h.elim
  ·rename_i hw
   rw[if_neg hw]at h
   exact⟨fun f _=>hF.fn f,ih h⟩
theorem listIn_of {F:Fence}(hF:Wide F){n:Nat}{P:Program}{ops:Array Oper}{Q:Exit→Act→World→Prop}{rest:List Oper}{pre:List Oper}{a:Act}{w:World}(hd:pre.all noDefer=true)(h:wpList P ops (Then (wpListIn F n P ops Q rest)) pre a w):wpListIn F n P ops Q (pre++rest) a w:=
 listIn_of' hF (fun _ _ h=>h) hd h
theorem listIn_all' {F:Fence}(hF:Wide F){n:Nat}{P:Program}{ops:Array Oper}{Q:Exit→Act→World→Prop}{l:List Oper}{N:Act→World→Prop}(hN:∀a w,N a w→Q .normal a w){a:Act}{w:World}(hd:l.all noDefer=true)(h:wpList P ops (Then N) l a w):wpListIn F n P ops Q l a w:=by
 have:=listIn_of' (rest:=[]) hF (N:=N) (n:=n) (Q:=Q) (P:=P) (ops:=ops) (a:=a) (w:=w) hN hd h
 simpa using this
theorem listIn_all {F:Fence}(hF:Wide F){n:Nat}{P:Program}{ops:Array Oper}{Q:Exit→Act→World→Prop}{l:List Oper}{a:Act}{w:World}(hd:l.all noDefer=true)(h:wpList P ops (Then (Q .normal)) l a w):wpListIn F n P ops Q l a w:=by
 have:=listIn_of (rest:=[]) hF hd (n:=n) (Q:=Q) (P:=P) (ops:=ops) (a:=a) (w:=w) h
 simpa using this
theorem sat_putObj {O w:World}{r:Nat}{o o':Obj}{R:Zb}(hs:Sat O w (pt r o*R)):Sat O (w.putObj r o') (pt r o'*R):=by
 have hb:=hs.block
 exact hs.turn rfl rfl rfl (by simp) (World.putObj_heap_same hs.lt) (fun k hk _=>World.putObj_heap_other hk)
def YieldC (P:Program)(lp:Nat)(args:Array Value)(A B:Zb):Prop:=
 ∀O w F,Sat O w (A*F)→∀n,YieldAt Fence.wide n P lp args w fun e w'=>e=.returned (.bool true)∧Sat O w' (B*F)
theorem listIn_yield {n:Nat}{P:Program}{ops:Array Oper}{Q:Exit→Act→World→Prop}{rest:List Oper}{l:List Value}{ds:List Deferred}{w O:World}{S A B R:Zb}{ty:TypeId}{pos:String}{after:Array Edge}{gd:Option (Nat×Bool)}{d lp:Nat}{x y z:Operand}{v u:Value}{ts:Array TypeId}
  (hs:Sat O w S) (hx:ev l x=some (.func (.yield lp) #[] #[])) (hy:ev l y=some v) (hz:ev l z=some u) (hY:YieldC P lp #[v,u] A B) (hp:Pull S A R)
  (hg:Region.wanted { dst:=some d,op:=.call { callee:=.value x,args := #[y,z],argTypes:=ts },type:=ty,pos,after,guard:=gd } (yielded ops l.toArray)=true)
  (k:∀w',Sat O w' (B*R)→wpListIn Fence.wide n P ops Q rest ⟨(l.set d (.bool true)).toArray,ds⟩ w') :
  wpListIn Fence.wide n P ops Q ({ dst:=some d,op:=.call { callee:=.value x,args := #[y,z],argTypes:=ts },type:=ty,pos,after,guard:=gd }::rest) ⟨l.toArray,ds⟩ w:=by
 obtain⟨fn,tmps,assign,body,hr,hR⟩:=hY O w R (hs.pull hp) (n-1)
 simp only[wpListIn]
 rw[if_pos hg]
 refine⟨fun f _=>trivial,?_⟩
 have e:(Oper.semAt Fence.wide.round (Act.mk l.toArray ds).eval { dst:=some d,op:=.call { callee:=.value x,args := #[y,z],argTypes:=ts },type:=ty,pos,after,guard:=gd }).run P w=.ok (.round lp fn tmps assign body) w:=by
  rw[Oper.semAt_eq _ _ _ (fun c h=>by cases h)]
  simp[execOp,resolve,invoke,Deferred.ofValue,Zk hx,Zk hy,Zk hz,hr]
 rw[e]
 simp only[Oper.uponIn]
 refine⟨(fun h=>by cases h),hR.mono fun ee w' ⟨he,hs'⟩ => ?_⟩
 subst he
 show wpListIn _ _ _ _ _ _ _ _
 rw[ZK]
 exact k w' hs'
theorem leaves_mark {P:Program}{fn:Func}{tmps:Array Value}{R:Ending→World→Prop}{n D:Nat}{O w:World}{S:Zb}{v:Value}(hs:Sat O w (pt D (.deferred (some []))*S))(hv:∀w,Sat O w S→(results fn tmps).run P w=.ok v w)(hR:∀w',Sat O w' S→R (.returned v) w') :
  LeavesInM Fence.wide n P fn tmps R [{ target:=.collected D,args := #[] }] .returning w:=by
 have hs':=sat_putObj (o':=.deferred none) hs
 exact⟨by simp,.inl ⟨D,w.putObj D (.deferred none),rfl,run_takeDeferred hs.block,v,hv _ hs'.right,hR _ hs'.right⟩⟩
end Hp
end
section
attribute [local irreducible] Go.Calls
def LogRel (O:World)(Y:Nat→Zb)(A:Zb)(log:List Acc)(k:Nat)(t4 t5:Value)(wr:World):Prop:=
 ∃j:Nat,j≤log.length∧k=log.length-j∧t5=.int .i64 (j:Int)∧Sat O wr (Y j*(sl 87 7 (log.map Acc.e) t4*A))
theorem log_iter (b:Nat)(m:Mem)(t1 t2 lp:Nat)(Y:Nat→Zb)(hY:∀(i:Nat) a,m.log[i]? = some a→YieldC Tryz.prog lp #[.int .i64 (i:Int),a.v] (Y i) (Y (i+1)))(hl:m.log.length<4294967296) :
  Zh Tryz.prog 107 #[.func (.yield lp) #[] #[],.pointer (some ⟨t1,0,none⟩),.pointer (some ⟨t2,0,none⟩)] (Y 0*(MemR b m*(pt t1 (.cells #[.pointer (some ⟨b,0,none⟩)] 164)*pt t2 (.cells #[.int .i64 0] 3)))) (.tuple #[])
   (Y m.log.length*(MemR b m*(pt t1 (.cells #[.pointer (some ⟨b,0,none⟩)] 164)*pt t2 (.cells #[.int .i64 0] 3)))):=by
 intro O w F hs
 simp only[Ma]at hs
 obtain⟨vw,vl,va,hs⟩:=memR.1 (hs.pull (A:=MemR b m) (by (with_reducible repeat first|exact Qh|apply Qk)))
 have hC:=Lh (clone_log vl m.log hl)
 have HY:=Lh hY;clear hY
 go_enter Tryz.func107,Tryz.ntmps107
 go_wp2_with (first|((with_reducible apply Za hs);exact Ii;rfl;(with_reducible repeat first|exact Qh|apply Qk);rfl;rfl;(simp only[Uc,Uz]))|(go_at_call 108;((refine(hC.out).at hs (by (with_reducible repeat first|exact Qh|apply Qk)) ?_);clear hs;intro v w hs;(try simp only[Em,Ma]at hs))))
 obtain⟨A,hA⟩:∃A:Zb,A=pt b (.cells #[vw,vl,va,.int .i64 m.move] 218)*(sl 79 1 (m.words.map eU) vw*(sl 87 7 (m.log.map Acc.e) vl*(sl 79 1 (m.ahead.map eU) va*(pt t1 (.cells #[.pointer (some ⟨b,0,none⟩)] 164)*(pt t2 (.cells #[.int .i64 0] 3)*F))))):=⟨_,rfl⟩
 have hst:LogRel O Y A m.log m.log.length v (.int .i64 0) w:=by
  refine⟨0,by omega,by omega,by simp,?_⟩
  rw[hA]
  ((with_reducible apply Sat.fin hs);(with_reducible repeat first|exact Ql|exact Qh|apply Qb|apply Qk))
 have HA:=Lh hA;clear hA hs
 (try simp only[Nat.mul_one,List.length_map])
 go_loopg [5] (m.log.length) (fun k t5 wr=>LogRel O Y A m.log k v t5 wr)
 case atStart=>exact hst
 case round=>
  clear hst
  obtain⟨j,hj,hk,rfl,hs⟩:=hrel
  by_cases hlt:j<m.log.length
  ·have hd:decide ((j:Int)<(m.log.length:Int))=true:=by simp;exact hlt
   obtain⟨z,hz⟩:∃z,m.log[j]? = some z:=⟨_,Yd hlt⟩
   have HYj:=Lh (HY.out j z hz)
   have HK:=Lh hk;clear hk
   go_upto_region 5 with((with_reducible apply Zs hs);exact Ii;rfl;(with_reducible repeat first|exact Qh|apply Qk);rfl;(simp only[Uc,Uz]))
   refine(wpIn_wide (n:=2)).1 (wpIn_region_lit ?_)
   refine listIn_of (pre:=[_,_,_,_,_,_]) (rest:=[_,_]) wide_wide rfl ?_
   go_wp2_with (first|((with_reducible apply QV (k:=0) hs);exact Ii;rfl;assumption;(with_reducible repeat first|exact Qh|apply Qk);(exact(Nat.add_zero _).symm);(exact Zc (by assumption));(exact Vb rfl);rfl;rfl;(simp only[Uc,Uz]))|((with_reducible apply ZH hs);exact Ii;exact Ii;rfl;rfl;(with_reducible repeat first|exact Qh|apply Qk);(rfl);(simp only[Wm,Ws,Wa,Wc,Wn,Wr]at *;omega);rfl;intro b off hat;(simp only[Uc,Uz])))
   show wpListIn _ _ _ _ _ _ _ _
   refine listIn_yield hs rfl rfl rfl HYj.out (by (with_reducible exact Qh)) rfl ?_
   clear hs;intro w hs;(simp only[Uc,Uz])
   refine listIn_all wide_wide rfl ?_
   go_wp2_with (fail)
   simp only[Then,Exit.then]
   go_wp2_with (fail)
   go_roundg (m.log.length-(j+1))
   case measure=>have:=HK.out;omega
   case rel=>exact⟨j+1,by omega,rfl,by simp,hs⟩
  ·have hd:decide ((j:Int)<(m.log.length:Int))=false:=by simp;omega
   have hjx:j=m.log.length:=by omega
   subst hjx
   go_wp2_with ((with_reducible apply Zs hs);exact Ii;rfl;(with_reducible repeat first|exact Qh|apply Qk);rfl;(simp only[Uc,Uz]))
   (go_end0)
   refine⟨rfl,?_⟩
   rw[HA.out]at hs
   simp only[Ma]
   replace hs:=memR_mk (hs.fin (by (with_reducible repeat first|exact Ql|exact Qh|apply Qb|apply Qk)))
   ((with_reducible apply Sat.fin hs);(with_reducible repeat first|exact Ql|exact Qh|apply Qb|apply Qk))
end
end Go.Proofs.YtefjbdajgakgpaaGreat
