import Derived.Test.YtefjbdajgakgpaaGreatDKit2
import Derived.RangeFuncWrites
import Derived.Deep.Cut
set_option linter.all false
namespace Go.Proofs.YtefjbdajgakgpaaGreat
section
open Go.RowKit Hp
set_option maxRecDepth 100000
set_option maxHeartbeats 1000000
attribute [local irreducible] Go.Calls
section
variable {P:Program}{ops:Array Oper}{Q:Exit→Act→World→Prop}{w:World}{rest:List Oper}{O:World}{S R:Zc}
variable {l:List Value}{ds:List Deferred}{T ty E:TypeId}{pos:String}{after:Array Edge}{gd:Option (Nat×Bool)}{d:Nat}{x y:Operand}{sz:Nat}
theorem wl_bs0 {by_:Nat}(hs:Sat O w S)(h:SlcC P T E)(hE:ElC P E sz by_)
  (hg:Region.wanted { dst:=some d,op:=.buildSlice T 0 #[],type:=ty,pos,after,guard:=gd } (yielded ops l.toArray)=true)
  (kk:∀w' v',Sat O w' (sl E sz [] v'*S)→wpList P ops Q rest ⟨(l.set d v').toArray,ds⟩ w') :
  wpList P ops Q ({ dst:=some d,op:=.buildSlice T 0 #[],type:=ty,pos,after,guard:=gd }::rest) ⟨l.toArray,ds⟩ w:=by
 have hinfo:=hE.info
 have hzero:=hE.zero
 have hpos:=hE.pos
 cases hq:P.info? E with
 | none=>simp[hq]at hinfo
 | some inf=>
  cases hzz:inf.zero with
  | none=>simp[hq,hzz]at hzero
  | some zv=>
   simp[hq,hzz]at hinfo hzero
   refine QE (v:=.slice (some ⟨w.heap.size,0,none⟩) 0 0) (w':=w.alloc (.cells #[] E)) hg ?_ (ZU▸kk _ _ ?_)
   ·have hne:¬sz=0:=by omega
    simp[execOp,Instr.buildSlice,run_underlying h.is,sizeOf,typeInfo,hq,hinfo.1,hne,zeroValue,hzz,Instr.fill,newRow]
    first|rfl|(congr 2;apply Array.ext';simp)
   ·refine QL.2 ⟨⟨by simp,hpos⟩,.inr ⟨w.heap.size,0,0,[],[],rfl,rfl,by simp,by simp,?_⟩⟩
    exact(hs.alloc (.cells #[] E)).cast (by simp)
end
section
end
theorem clone_words (v:Value)(ws:List Int)(hl:ws.length<4294967296) :
  Does Tryz.prog 105 #[v] (sl 79 1 (ws.map eU) v) (fun u=>sl 79 1 (ws.map eU) u*sl 79 1 (ws.map eU) v):=by
 intro O w F hs
 have hcase:(v=.slice none 0 0∧ws=[])∨∃b off n cap,v=.slice (some ⟨b,off,none⟩) n cap:=by
  obtain⟨_,⟨hv,hc,_⟩|⟨b,off,cap,_,_,hv,_⟩⟩:=QL.1 hs
  ·exact .inl ⟨hv,by simpa using hc⟩
  ·exact .inr ⟨_,_,_,_,hv⟩
 rcases hcase with⟨rfl,rfl⟩|⟨b0,o0,n0,c0,rfl⟩
 ·have hb:∀w,(binOp .eql 28 (.slice none 0 0) (.slice none 0 0)).run Tryz.prog w=.ok (.bool true) w:=fun w=>by kernel_rfl
  go_enter Tryz.func105,Tryz.ntmps105
  go_wp2_with (fail)
  go_ret
  refine⟨_,rfl,?_⟩
  have hs:=sl_nil (E:=79) (sz:=1) hs (by omega)
  simp only[Yj,Ma]
  ((with_reducible apply Sat.fin hs);(focus((repeat(first|with_reducible exact Ql|with_reducible apply Qb|exact Qh));done)))
 ·have hb:∀w,(binOp .eql 28 (.slice (some ⟨b0,o0,none⟩) n0 c0) (.slice none 0 0)).run Tryz.prog w=.ok (.bool false) w:=fun w=>by kernel_rfl
  go_enter Tryz.func105,Tryz.ntmps105
  go_wp2_with (first|((with_reducible apply JA hs);exact Ii;exact Ii;rfl;rfl;(with_reducible exact Qh);(with_reducible exact Qh);(simp only[Wm,Ws,Wa,Wc,Wn,Wr]at *;omega);exact Vb rfl;rfl;clear hs;intro w v hs;simp only[Uc,Uz])|((with_reducible apply wl_bs0 hs);exact Ii;exact Ii;rfl;clear hs;intro w v hs;simp only[Uc,Uz]))
  go_ret
  refine⟨_,rfl,?_⟩
  simp only[List.nil_append,Ma]at hs ⊢
  ((with_reducible apply Sat.fin hs);(focus((repeat(first|with_reducible exact Ql|with_reducible apply Qb|exact Qh));done)))
theorem clone_calls (v:Value)(ws:List Cll)(hl:ws.length<4294967296) :
  Does Tryz.prog 96 #[v] (sl 59 9 (ws.map Cll.e) v) (fun u=>sl 59 9 (ws.map Cll.e) u*sl 59 9 (ws.map Cll.e) v):=by
 intro O w F hs
 have hcase:(v=.slice none 0 0∧ws=[])∨∃b off n cap,v=.slice (some ⟨b,off,none⟩) n cap:=by
  obtain⟨_,⟨hv,hc,_⟩|⟨b,off,cap,_,_,hv,_⟩⟩:=QL.1 hs
  ·exact .inl ⟨hv,by simpa using hc⟩
  ·exact .inr ⟨_,_,_,_,hv⟩
 rcases hcase with⟨rfl,rfl⟩|⟨b0,o0,n0,c0,rfl⟩
 ·have hb:∀w,(binOp .eql 25 (.slice none 0 0) (.slice none 0 0)).run Tryz.prog w=.ok (.bool true) w:=fun w=>by kernel_rfl
  go_enter Tryz.func96,Tryz.ntmps96
  go_wp2_with (fail)
  go_ret
  refine⟨_,rfl,?_⟩
  have hs:=sl_nil (E:=59) (sz:=9) hs (by omega)
  simp only[Yj,Ma]
  ((with_reducible apply Sat.fin hs);(focus((repeat(first|with_reducible exact Ql|with_reducible apply Qb|exact Qh));done)))
 ·have hb:∀w,(binOp .eql 25 (.slice (some ⟨b0,o0,none⟩) n0 c0) (.slice none 0 0)).run Tryz.prog w=.ok (.bool false) w:=fun w=>by kernel_rfl
  go_enter Tryz.func96,Tryz.ntmps96
  go_wp2_with (first|((with_reducible apply JA hs);exact Ii;exact Ii;rfl;rfl;(with_reducible exact Qh);(with_reducible exact Qh);(simp only[Wm,Ws,Wa,Wc,Wn,Wr]at *;omega);exact Vb rfl;rfl;clear hs;intro w v hs;simp only[Uc,Uz])|((with_reducible apply wl_bs0 hs);exact Ii;exact Ii;rfl;clear hs;intro w v hs;simp only[Uc,Uz]))
  go_ret
  refine⟨_,rfl,?_⟩
  simp only[List.nil_append,Ma]at hs ⊢
  ((with_reducible apply Sat.fin hs);(focus((repeat(first|with_reducible exact Ql|with_reducible apply Qb|exact Qh));done)))
theorem clone_shifts (v:Value)(ws:List Shf)(hl:ws.length<4294967296) :
  Does Tryz.prog 97 #[v] (sl 102 5 (ws.map Shf.e) v) (fun u=>sl 102 5 (ws.map Shf.e) u*sl 102 5 (ws.map Shf.e) v):=by
 intro O w F hs
 have hcase:(v=.slice none 0 0∧ws=[])∨∃b off n cap,v=.slice (some ⟨b,off,none⟩) n cap:=by
  obtain⟨_,⟨hv,hc,_⟩|⟨b,off,cap,_,_,hv,_⟩⟩:=QL.1 hs
  ·exact .inl ⟨hv,by simpa using hc⟩
  ·exact .inr ⟨_,_,_,_,hv⟩
 rcases hcase with⟨rfl,rfl⟩|⟨b0,o0,n0,c0,rfl⟩
 ·have hb:∀w,(binOp .eql 27 (.slice none 0 0) (.slice none 0 0)).run Tryz.prog w=.ok (.bool true) w:=fun w=>by kernel_rfl
  go_enter Tryz.func97,Tryz.ntmps97
  go_wp2_with (fail)
  go_ret
  refine⟨_,rfl,?_⟩
  have hs:=sl_nil (E:=102) (sz:=5) hs (by omega)
  simp only[Yj,Ma]
  ((with_reducible apply Sat.fin hs);(focus((repeat(first|with_reducible exact Ql|with_reducible apply Qb|exact Qh));done)))
 ·have hb:∀w,(binOp .eql 27 (.slice (some ⟨b0,o0,none⟩) n0 c0) (.slice none 0 0)).run Tryz.prog w=.ok (.bool false) w:=fun w=>by kernel_rfl
  go_enter Tryz.func97,Tryz.ntmps97
  go_wp2_with (first|((with_reducible apply JA hs);exact Ii;exact Ii;rfl;rfl;(with_reducible exact Qh);(with_reducible exact Qh);(simp only[Wm,Ws,Wa,Wc,Wn,Wr]at *;omega);exact Vb rfl;rfl;clear hs;intro w v hs;simp only[Uc,Uz])|((with_reducible apply wl_bs0 hs);exact Ii;exact Ii;rfl;clear hs;intro w v hs;simp only[Uc,Uz]))
  go_ret
  refine⟨_,rfl,?_⟩
  simp only[List.nil_append,Ma]at hs ⊢
  ((with_reducible apply Sat.fin hs);(focus((repeat(first|with_reducible exact Ql|with_reducible apply Qb|exact Qh));done)))
theorem clone_log (v:Value)(ws:List Acc)(hl:ws.length<4294967296) :
  Does Tryz.prog 108 #[v] (sl 87 7 (ws.map Acc.e) v) (fun u=>sl 87 7 (ws.map Acc.e) u*sl 87 7 (ws.map Acc.e) v):=by
 intro O w F hs
 have hcase:(v=.slice none 0 0∧ws=[])∨∃b off n cap,v=.slice (some ⟨b,off,none⟩) n cap:=by
  obtain⟨_,⟨hv,hc,_⟩|⟨b,off,cap,_,_,hv,_⟩⟩:=QL.1 hs
  ·exact .inl ⟨hv,by simpa using hc⟩
  ·exact .inr ⟨_,_,_,_,hv⟩
 rcases hcase with⟨rfl,rfl⟩|⟨b0,o0,n0,c0,rfl⟩
 ·have hb:∀w,(binOp .eql 26 (.slice none 0 0) (.slice none 0 0)).run Tryz.prog w=.ok (.bool true) w:=fun w=>by kernel_rfl
  go_enter Tryz.func108,Tryz.ntmps108
  go_wp2_with (fail)
  go_ret
  refine⟨_,rfl,?_⟩
  have hs:=sl_nil (E:=87) (sz:=7) hs (by omega)
  simp only[Yj,Ma]
  ((with_reducible apply Sat.fin hs);(focus((repeat(first|with_reducible exact Ql|with_reducible apply Qb|exact Qh));done)))
 ·have hb:∀w,(binOp .eql 26 (.slice (some ⟨b0,o0,none⟩) n0 c0) (.slice none 0 0)).run Tryz.prog w=.ok (.bool false) w:=fun w=>by kernel_rfl
  go_enter Tryz.func108,Tryz.ntmps108
  go_wp2_with (first|((with_reducible apply JA hs);exact Ii;exact Ii;rfl;rfl;(with_reducible exact Qh);(with_reducible exact Qh);(simp only[Wm,Ws,Wa,Wc,Wn,Wr]at *;omega);exact Vb rfl;rfl;clear hs;intro w v hs;simp only[Uc,Uz])|((with_reducible apply wl_bs0 hs);exact Ii;exact Ii;rfl;clear hs;intro w v hs;simp only[Uc,Uz]))
  go_ret
  refine⟨_,rfl,?_⟩
  simp only[List.nil_append,Ma]at hs ⊢
  ((with_reducible apply Sat.fin hs);(focus((repeat(first|with_reducible exact Ql|with_reducible apply Qb|exact Qh));done)))
end
section
open Go.RowKit Hp
set_option maxRecDepth 100000
set_option maxHeartbeats 1000000
namespace Hp
structure Wide (F:Fence):Prop where
 fn:∀f,F.fn f
 depth:F.depth=none
 machine:∀P,Machine.fenced P F=Machine.fenced P Fence.wide
 room:∀k,F.room k
theorem wide_wide:Wide Fence.wide:=⟨fun _=>trivial,rfl,fun _=>rfl,room_wide⟩
theorem wide_round (l:Nat):Wide (Fence.wide.inRound l):=⟨fun _=>trivial,rfl,fun _=>rfl,room_wide⟩
theorem callsIn_of {F:Fence}(hF:Wide F){n:Nat}{P:Program}{f:FuncId}{args:Array Value}{w:World}{R:Ending→World→Prop}(h:Calls P f args w R):CallsIn F n P f args w R:=by
 have h':=(callsIn_wide (n:=n)).2 h
 refine⟨hF.fn f,fun cs hr => ?_⟩
 obtain⟨e,w',fr,r,s,x⟩:=h'.2 cs (room_wide _)
 exact⟨e,w',fr,r,by rw[hF.machine P];exact s,x⟩
def noDefer (o:Oper):Bool:=match o.op with
 | .defer _=>false
 | _=>true
theorem noDefer_spec {o:Oper}(h:noDefer o=true):∀c,o.op≠.defer c:=by
 intro c hc
 unfold noDefer at h
 rw[hc]at h
 cases h
def Then (N:Act→World→Prop):Exit→Act→World→Prop
 | .normal,a,w=>N a w
 | _,_,_=>False
theorem listIn_of' {F:Fence}(hF:Wide F){n:Nat}{P:Program}{ops:Array Oper}{Q:Exit→Act→World→Prop}{rest:List Oper}{N:Act→World→Prop}(hN:∀a w,N a w→wpListIn F n P ops Q rest a w) :
  ∀ {pre:List Oper} {a:Act} {w:World},pre.all noDefer=true→wpList P ops (Then N) pre a w→wpListIn F n P ops Q (pre++rest) a w
 | [],a,w,_,h=>hN _ _ h
 | o::pre,a,w,hd,h=>by
  simp only[List.all_cons,Bool.and_eq_true]at hd
  have ih:∀ {a:Act} {w:World},wpList P ops (Then N) pre a w→wpListIn F n P ops Q (pre++rest) a w:=fun {a w} h=>listIn_of' hF hN hd.2 h
  have hl:¬LetsOut (Then N):=fun⟨_,_,h⟩=>h
  simp only[wpList]at h
  simp only[List.cons_append,wpListIn]
  split
  ·rename_i hw
   rw[if_pos hw]at h
   rcases h with h|⟨_,h⟩
   case inr=>exact(hl h).elim
   refine⟨fun f _=>hF.fn f,?_⟩
   rw[Oper.semAt_eq _ _ _ (noDefer_spec hd.1)]
   unfold Oper.wp at h
   generalize (execOp a.eval o).run P w=r at *
   cases r with
   | ok nx w' =>
    cases nx<;>simp only[Oper.upon,Oper.uponIn]at h ⊢
    case value v=>exact ih h
    case skip=>exact ih h
    case defer d=>exact ih h
    case enter f args=>
     refine⟨fun hs=>(by rw[hF.depth]at hs;cases hs),callsIn_of hF (h.mono fun e w'' he => ?_)⟩
     cases e with
     | returned v=>exact ih he
     | panicked c=>exact he.elim
     | outgrown=>exact(hl he).elim
    case row row args=>
     refine⟨fun hs=>(by rw[hF.depth]at hs;cases hs),fun c cs _ => ?_⟩
     obtain⟨v,w'',hv,hs⟩:=h c cs
     exact⟨v,w'',ih hv,by rw[hF.machine P];exact stepsIn_wide.2 hs⟩
   | halt x w' =>
    cases x<;>simp only[Oper.upon,Oper.uponIn]at h ⊢
    case panic u=>exact h.elim
  ·rename_i hw
   rw[if_neg hw]at h
   exact⟨fun f _=>hF.fn f,ih h⟩
theorem listIn_of {F:Fence}(hF:Wide F){n:Nat}{P:Program}{ops:Array Oper}{Q:Exit→Act→World→Prop}{rest:List Oper}{pre:List Oper}{a:Act}{w:World}(hd:pre.all noDefer=true)(h:wpList P ops (Then (wpListIn F n P ops Q rest)) pre a w):wpListIn F n P ops Q (pre++rest) a w:=
 listIn_of' hF (fun _ _ h=>h) hd h
theorem listIn_all' {F:Fence}(hF:Wide F){n:Nat}{P:Program}{ops:Array Oper}{Q:Exit→Act→World→Prop}{l:List Oper}{N:Act→World→Prop}(hN:∀a w,N a w→Q .normal a w){a:Act}{w:World}(hd:l.all noDefer=true)(h:wpList P ops (Then N) l a w):wpListIn F n P ops Q l a w:=by
 have:=listIn_of' (rest:=[]) hF (N:=N) (n:=n) (Q:=Q) (P:=P) (ops:=ops) (a:=a) (w:=w) hN hd h
 simpa using this
theorem listIn_all {F:Fence}(hF:Wide F){n:Nat}{P:Program}{ops:Array Oper}{Q:Exit→Act→World→Prop}{l:List Oper}{a:Act}{w:World}(hd:l.all noDefer=true)(h:wpList P ops (Then (Q .normal)) l a w):wpListIn F n P ops Q l a w:=by
 have:=listIn_of (rest:=[]) hF hd (n:=n) (Q:=Q) (P:=P) (ops:=ops) (a:=a) (w:=w) h
 simpa using this
theorem sat_putObj {O w:World}{r:Nat}{o o':Obj}{R:Zc}(hs:Sat O w (pt r o*R)):Sat O (w.putObj r o') (pt r o'*R):=by
 have hb:=hs.block
 exact hs.turn rfl rfl rfl (by simp) (World.putObj_heap_same hs.lt) (fun k hk _=>World.putObj_heap_other hk)
def YieldC (P:Program)(lp:Nat)(args:Array Value)(A B:Zc):Prop:=
 ∀O w F,Sat O w (A*F)→∀n,YieldAt Fence.wide n P lp args w fun e w'=>e=.returned (.bool true)∧Sat O w' (B*F)
theorem listIn_yield {n:Nat}{P:Program}{ops:Array Oper}{Q:Exit→Act→World→Prop}{rest:List Oper}{l:List Value}{ds:List Deferred}{w O:World}{S A B R:Zc}{ty:TypeId}{pos:String}{after:Array Edge}{gd:Option (Nat×Bool)}{d lp:Nat}{x y z:Operand}{v u:Value}{ts:Array TypeId}
  (hs:Sat O w S) (hx:ev l x=some (.func (.yield lp) #[] #[])) (hy:ev l y=some v) (hz:ev l z=some u) (hY:YieldC P lp #[v,u] A B) (hp:Pull S A R)
  (hg:Region.wanted { dst:=some d,op:=.call { callee:=.value x,args := #[y,z],argTypes:=ts },type:=ty,pos,after,guard:=gd } (yielded ops l.toArray)=true)
  (k:∀w',Sat O w' (B*R)→wpListIn Fence.wide n P ops Q rest ⟨(l.set d (.bool true)).toArray,ds⟩ w') :
  wpListIn Fence.wide n P ops Q ({ dst:=some d,op:=.call { callee:=.value x,args := #[y,z],argTypes:=ts },type:=ty,pos,after,guard:=gd }::rest) ⟨l.toArray,ds⟩ w:=by
 obtain⟨fn,tmps,assign,body,hr,hR⟩:=hY O w R (hs.pull hp) (n-1)
 simp only[wpListIn]
 rw[if_pos hg]
 refine⟨fun f _=>trivial,?_⟩
 have e:(Oper.semAt Fence.wide.round (Act.mk l.toArray ds).eval { dst:=some d,op:=.call { callee:=.value x,args := #[y,z],argTypes:=ts },type:=ty,pos,after,guard:=gd }).run P w=.ok (.round lp fn tmps assign body) w:=by
  rw[Oper.semAt_eq _ _ _ (fun c h=>by cases h)]
  simp[execOp,resolve,invoke,Deferred.ofValue,Zm hx,Zm hy,Zm hz,hr]
 rw[e]
 simp only[Oper.uponIn]
 refine⟨(fun h=>by cases h),hR.mono fun ee w' ⟨he,hs'⟩ => ?_⟩
 subst he
 show wpListIn _ _ _ _ _ _ _ _
 rw[ZU]
 exact k w' hs'
theorem leaves_mark {P:Program}{fn:Func}{tmps:Array Value}{R:Ending→World→Prop}{n D:Nat}{O w:World}{S:Zc}{v:Value}(hs:Sat O w (pt D (.deferred (some []))*S))(hv:∀w,Sat O w S→(results fn tmps).run P w=.ok v w)(hR:∀w',Sat O w' S→R (.returned v) w') :
  LeavesInM Fence.wide n P fn tmps R [{ target:=.collected D,args := #[] }] .returning w:=by
 have hs':=sat_putObj (o':=.deferred none) hs
 exact⟨by simp,.inl ⟨D,w.putObj D (.deferred none),rfl,run_takeDeferred hs.block,v,hv _ hs'.right,hR _ hs'.right⟩⟩
end Hp
end
section
open Go.RowKit Hp
set_option maxRecDepth 100000
set_option maxHeartbeats 1000000
attribute [local irreducible] Go.Calls
def LogRel (O:World)(Y:Nat→Zc)(A:Zc)(log:List Acc)(k:Nat)(t4 t5:Value)(wr:World):Prop:=
 ∃j:Nat,j≤log.length∧k=log.length-j∧t5=.int .i64 (j:Int)∧Sat O wr (Y j*(sl 87 7 (log.map Acc.e) t4*A))
theorem log_iter (b:Nat)(m:Mem)(t1 t2 lp:Nat)(Y:Nat→Zc)(hY:∀(i:Nat) a,m.log[i]? = some a→YieldC Tryz.prog lp #[.int .i64 (i:Int),a.v] (Y i) (Y (i+1)))(hl:m.log.length<4294967296) :
  Zk Tryz.prog 107 #[.func (.yield lp) #[] #[],.pointer (some ⟨t1,0,none⟩),.pointer (some ⟨t2,0,none⟩)] (Y 0*(MemR b m*(pt t1 (.cells #[.pointer (some ⟨b,0,none⟩)] 164)*pt t2 (.cells #[.int .i64 0] 3)))) (.tuple #[])
   (Y m.log.length*(MemR b m*(pt t1 (.cells #[.pointer (some ⟨b,0,none⟩)] 164)*pt t2 (.cells #[.int .i64 0] 3)))):=by
 intro O w F hs
 simp only[Ma]at hs
 obtain⟨vw,vl,va,hs⟩:=memR.1 (hs.pull (A:=MemR b m) (by (with_reducible repeat first|exact Qh|apply Qk)))
 have hC:=Lh (clone_log vl m.log hl)
 have HY:=Lh hY;clear hY
 go_enter Tryz.func107,Tryz.ntmps107
 go_wp2_with (first|((with_reducible apply Zb hs);exact Ii;rfl;(with_reducible repeat first|exact Qh|apply Qk);rfl;rfl;simp only[Uc,Uz])|(go_at_call 108;(refine(hC.out).at hs (by with_reducible repeat first|exact Qh|apply Qk) ?_;clear hs;intro v w hs;(try simp only[Em,Ma]at hs))))
 obtain⟨A,hA⟩:∃A:Zc,A=pt b (.cells #[vw,vl,va,.int .i64 m.move] 218)*(sl 79 1 (m.words.map eU) vw*(sl 87 7 (m.log.map Acc.e) vl*(sl 79 1 (m.ahead.map eU) va*(pt t1 (.cells #[.pointer (some ⟨b,0,none⟩)] 164)*(pt t2 (.cells #[.int .i64 0] 3)*F))))):=⟨_,rfl⟩
 have hst:LogRel O Y A m.log m.log.length v (.int .i64 0) w:=by
  refine⟨0,by omega,by omega,by simp,?_⟩
  rw[hA]
  (with_reducible apply Sat.fin hs;repeat first|exact Ql|exact Qh|apply Qb|apply Qk)
 have HA:=Lh hA;clear hA hs
 (try simp only[Nat.mul_one,List.length_map])
 go_loopg [5] (m.log.length) (fun k t5 wr=>LogRel O Y A m.log k v t5 wr)
 case atStart=>exact hst
 case round=>
  clear hst
  obtain⟨j,hj,hk,rfl,hs⟩:=hrel
  by_cases hlt:j<m.log.length
  ·have hd:decide ((j:Int)<(m.log.length:Int))=true:=by simp;exact hlt
   obtain⟨z,hz⟩:∃z,m.log[j]? = some z:=⟨_,Yd hlt⟩
   have HYj:=Lh (HY.out j z hz)
   have HK:=Lh hk;clear hk
   go_upto_region 5 with((with_reducible apply ZS hs);exact Ii;rfl;(with_reducible repeat first|exact Qh|apply Qk);rfl;simp only[Uc,Uz])
   refine(wpIn_wide (n:=2)).1 (wpIn_region_lit ?_)
   refine listIn_of (pre:=[_,_,_,_,_,_]) (rest:=[_,_]) wide_wide rfl ?_
   go_wp2_with (first|((with_reducible apply wl_ldSN (k:=0) hs);exact Ii;rfl;assumption;(with_reducible repeat first|exact Qh|apply Qk);(exact(Nat.add_zero _).symm);(exact Ze (by assumption));exact Vb rfl;rfl;rfl;simp only[Uc,Uz])|((with_reducible apply Qe hs);exact Ii;exact Ii;rfl;rfl;(with_reducible repeat first|exact Qh|apply Qk);rfl;(simp only[Wm,Ws,Wa,Wc,Wn,Wr]at *;omega);rfl;intro b off hat;simp only[Uc,Uz]))
   show wpListIn _ _ _ _ _ _ _ _
   refine listIn_yield hs rfl rfl rfl HYj.out (by (with_reducible exact Qh)) rfl ?_
   clear hs;intro w hs;(simp only[Uc,Uz])
   refine listIn_all wide_wide rfl ?_
   go_wp2_with (fail)
   simp only[Then,Exit.then]
   go_wp2_with (fail)
   go_roundg (m.log.length-(j+1))
   case measure=>have:=HK.out;omega
   case rel=>exact⟨j+1,by omega,rfl,by simp,hs⟩
  ·have hd:decide ((j:Int)<(m.log.length:Int))=false:=by simp;omega
   have hjx:j=m.log.length:=by omega
   subst hjx
   go_wp2_with ((with_reducible apply ZS hs);exact Ii;rfl;(with_reducible repeat first|exact Qh|apply Qk);rfl;simp only[Uc,Uz])
   (go_end0)
   refine⟨rfl,?_⟩
   rw[HA.out]at hs
   simp only[Ma]
   replace hs:=memR_mk (hs.fin (by (with_reducible repeat first|exact Ql|exact Qh|apply Qb|apply Qk)))
   (with_reducible apply Sat.fin hs;repeat first|exact Ql|exact Qh|apply Qb|apply Qk)
end
section
open Go.RowKit
namespace Hp
inductive PT where
 | leaf (α:List Nat)
 | one (α:List Nat) (i:Nat) (cs:List Nat) (t:PT)
 | two (α:List Nat) (i:Nat) (cs:List Nat) (t:PT) (j:Nat) (ds:List Nat) (u:PT)
section
variable {P:Program}{ops:Array Oper}
def PlT (P:Program)(ops:Array Oper)(K:Act→World→Prop):PT→Act→World→Prop
 | .leaf α=>Pl P ops K (α.map .neu)
 | .one α i cs t=>Pl P ops (EffAt P ops i cs (PlT P ops K t)) (α.map .neu)
 | .two α i cs t j ds u=>Pl P ops (fun a w=>EffAt P ops i cs (PlT P ops K t) a w∧EffAt P ops j ds (PlT P ops K u) a w) (α.map .neu)
def PT.stps:PT→List Stp
 | .leaf α=>α.map .neu
 | .one α i cs t=>α.map .neu ++ .eff i cs::t.stps
 | .two α i cs t _ _ _=>α.map .neu ++ .eff i cs::t.stps
def PT.all:PT→List Stp
 | .leaf α=>α.map .neu
 | .one α i cs t=>α.map .neu ++ .eff i cs::t.all
 | .two α i cs t j ds u=>α.map .neu++(.eff i cs::t.all ++ .eff j ds::u.all)
def PT.ix (t:PT):List Nat:=t.stps.map Stp.ix
def PT.pre (β:List Nat):PT→PT
 | .leaf α=>.leaf (β++α)
 | .one α i cs t=>.one (β++α) i cs t
 | .two α i cs t j ds u=>.two (β++α) i cs t j ds u
theorem Pl_mono {K K':Act→World→Prop}(h:∀a w,K a w→K' a w):∀ {l:List Stp} {a:Act} {w:World},Pl P ops K l a w→Pl P ops K' l a w
 | [],a,w,k=>h a w k
 | .neu i::r,a,w,k=>by
  obtain⟨o,v,ho,hy,hk⟩:=k
  exact⟨o,v,ho,hy,Pl_mono h hk⟩
 | .eff i cs::r,a,w,k=>by
  have k':wpOp P ops NoQ i (fun a' w'=>(∀c∈cs,Chk P ops c a' w')∧Pl P ops K r a' w') a w:=k
  show wpOp P ops NoQ i (fun a' w'=>(∀c∈cs,Chk P ops c a' w')∧Pl P ops K' r a' w') a w
  exact wpOp_mono (fun a' w' hh=>⟨hh.1,Pl_mono h hh.2⟩) k'
theorem Pl_append {K:Act→World→Prop}:∀ {l l':List Stp} {a:Act} {w:World},Pl P ops K (l++l') a w↔Pl P ops (Pl P ops K l') l a w
 | [],_,_,_=>Iff.rfl
 | .neu i::r,l',a,w=>by
  constructor
  ·rintro⟨o,v,ho,hy,hk⟩;exact⟨o,v,ho,hy,Pl_append.1 hk⟩
  ·rintro⟨o,v,ho,hy,hk⟩;exact⟨o,v,ho,hy,Pl_append.2 hk⟩
 | .eff i cs::r,l',a,w=>by
  constructor
  ·intro k
   have k':wpOp P ops NoQ i (fun a' w'=>(∀c∈cs,Chk P ops c a' w')∧Pl P ops K (r++l') a' w') a w:=k
   show wpOp P ops NoQ i (fun a' w'=>(∀c∈cs,Chk P ops c a' w')∧Pl P ops (Pl P ops K l') r a' w') a w
   exact wpOp_mono (fun a' w' hh=>⟨hh.1,Pl_append.1 hh.2⟩) k'
  ·intro k
   have k':wpOp P ops NoQ i (fun a' w'=>(∀c∈cs,Chk P ops c a' w')∧Pl P ops (Pl P ops K l') r a' w') a w:=k
   show wpOp P ops NoQ i (fun a' w'=>(∀c∈cs,Chk P ops c a' w')∧Pl P ops K (r++l') a' w') a w
   exact wpOp_mono (fun a' w' hh=>⟨hh.1,Pl_append.2 hh.2⟩) k'
theorem PlT_pre {K:Act→World→Prop}{β:List Nat}{t:PT}{a:Act}{w:World}:PlT P ops K (t.pre β) a w↔Pl P ops (PlT P ops K t) (β.map .neu) a w:=by
 cases t<;>simp only[PT.pre,PlT,Yh,Pl_append]
theorem pre_stps (β:List Nat)(t:PT):(t.pre β).stps=β.map .neu++t.stps:=by
 cases t<;>simp[PT.pre,PT.stps]
def preOk (ops:Array Oper)(T:List Nat):List Nat→List Stp→Bool
 | [],_=>true
 | x::r,S=>(r.map Stp.neu++S).all (pairOk ops T (.neu x))&&preOk ops T r S
def afterOk (ops:Array Oper)(i:Nat)(S:List Stp):Bool:=
 S.all fun y=>match ops[i]? with|some o=>o.after.toList.all fun e => !Region.binds .any e||e.on != y.ix|none=>false
def Ji (ops:Array Oper)(T:List Nat):PT→Bool
 | .leaf α=>preOk ops T α []
 | .one α i cs t=>preOk ops T α (.eff i cs::t.all)&&t.stps.all (fun y=>(T.getD y.ix 0).testBit i)&&afterOk ops i t.stps&&Ji ops T t
 | .two α i cs t j ds u=>preOk ops T α (.eff i cs::t.all ++ .eff j ds::u.all)&&(t.stps.all (fun y=>y.ix==j||(T.getD y.ix 0).testBit i||(T.getD y.ix 0).testBit j)&&(i != j)) &&
   (afterOk ops i t.stps&&afterOk ops j u.stps)&&(((t.stps.map Stp.ix).all fun x=>(j::u.stps.map Stp.ix).contains x)&&((u.stps.map Stp.ix).all fun x=>(i::t.stps.map Stp.ix).contains x))&&((j::u.stps.map Stp.ix).contains i&&(i::t.stps.map Stp.ix).contains j)&&(nodupB (j::u.stps.map Stp.ix)&&(t.stps.length==u.stps.length))&&Ji ops T t&&Ji ops T u
theorem preOk_append {T:List Nat}{S:List Stp}:∀ {α β:List Nat},preOk ops T (α++β) S=true↔preOk ops T α (β.map .neu++S)=true∧preOk ops T β S=true
 | [],β=>by simp[preOk]
 | x::α,β=>by
  simp only[List.cons_append,preOk,Bool.and_eq_true,preOk_append,Yh,List.append_assoc]
  exact and_assoc.symm
theorem preOk_of {T:List Nat}{S S':List Stp}(h:∀y∈S',y∈S):∀ {α:List Nat},preOk ops T α S=true→preOk ops T α S'=true
 | [],_=>rfl
 | x::α,k=>by
  simp only[preOk,Bool.and_eq_true,List.all_eq_true]at k ⊢
  refine⟨fun y hy=>k.1 y ?_,preOk_of h k.2⟩
  rcases List.mem_append.1 hy with hy|hy
  ·exact List.mem_append.2 (.inl hy)
  ·exact List.mem_append.2 (.inr (h y hy))
theorem preOk_mem {T:List Nat}{S:List Stp}{α β:List Nat}{x:Nat}(k:preOk ops T (α++x::β) S=true):(∀y∈α,pairOk ops T (.neu y) (.neu x)=true)∧preOk ops T (α++β) S=true:=by
 rw[preOk_append]at k ⊢
 obtain⟨k1,k2⟩:=k
 simp only[preOk,Bool.and_eq_true]at k2
 refine⟨?_,preOk_of (fun y hy => ?_) k1,k2.2⟩
 ·clear k2
  induction α with
  | nil=>simp
  | cons z α ih=>
   simp only[preOk,Bool.and_eq_true,List.all_eq_true]at k1
   intro y hy
   rcases List.mem_cons.1 hy with rfl|hy
   ·exact k1.1 _ (by simp)
   ·exact ih k1.2 y hy
 ·rcases List.mem_append.1 hy with hy|hy
  ·exact List.mem_append.2 (.inl (List.mem_cons_of_mem _ hy))
  ·exact List.mem_append.2 (.inr hy)
theorem preOk_all {T:List Nat}{S:List Stp}:∀ {α:List Nat},preOk ops T α S=true→∀x∈α,∀y∈S,pairOk ops T (.neu x) y=true
 | z::α,k,x,hx,y,hy=>by
  simp only[preOk,Bool.and_eq_true,List.all_eq_true]at k
  rcases List.mem_cons.1 hx with rfl|hx
  ·exact k.1 y (List.mem_append.2 (.inr hy))
  ·exact preOk_all k.2 x hx y hy
theorem preOk_pairwise {T:List Nat}{S:List Stp}:∀ {α:List Nat},preOk ops T α S=true→(α.map Stp.neu).Pairwise (fun x y=>pairOk ops T x y=true)
 | [],_=>List.Pairwise.nil
 | x::α,k=>by
  simp only[preOk,Bool.and_eq_true,List.all_eq_true]at k
  refine List.pairwise_cons.2 ⟨fun y hy=>k.1 y (List.mem_append.2 (.inl hy)),preOk_pairwise k.2⟩
theorem stps_all:∀(t:PT),∀y∈t.stps,y∈t.all
 | .leaf α,y,h=>h
 | .one α i cs t,y,h=>by
  simp only[PT.stps,PT.all,Yp,List.mem_cons]at h ⊢
  rcases h with h|h|h
  ·exact .inl h
  ·exact .inr (.inl h)
  ·exact .inr (.inr (stps_all t y h))
 | .two α i cs t j ds u,y,h=>by
  simp only[PT.stps,PT.all,Yp,List.mem_cons]at h ⊢
  rcases h with h|h|h
  ·exact .inl h
  ·exact .inr (.inl (.inl h))
  ·exact .inr (.inl (.inr (stps_all t y h)))
theorem treeOk_pre {T:List Nat}{β:List Nat}{t:PT}(h1:preOk ops T β t.all=true)(h2:Ji ops T t=true):Ji ops T (t.pre β)=true:=by
 cases t with
 | leaf α=>simp only[PT.pre,Ji,PT.all]at *;rw[preOk_append];exact⟨by simpa using h1,h2⟩
 | one α i cs t=>
  simp only[PT.pre,Ji,PT.all,Bool.and_eq_true]at *
  obtain⟨⟨⟨k1,k2⟩,k3⟩,k4⟩:=h2
  exact⟨⟨⟨preOk_append.2 ⟨h1,k1⟩,k2⟩,k3⟩,k4⟩
 | two α i cs t j ds u=>
  simp only[PT.pre,Ji,PT.all,Bool.and_eq_true]at *
  obtain⟨⟨⟨⟨⟨⟨⟨k1,k2⟩,k3⟩,k4⟩,k5⟩,k6⟩,k7⟩,k8⟩:=h2
  exact⟨⟨⟨⟨⟨⟨⟨preOk_append.2 ⟨h1,k1⟩,k2⟩,k3⟩,k4⟩,k5⟩,k6⟩,k7⟩,k8⟩
def PT.head:PT→List Nat
 | .leaf α=>α
 | .one α _ _ _=>α
 | .two α _ _ _ _ _ _=>α
def PT.tail:PT→PT
 | .leaf _=>.leaf []
 | .one _ i cs t=>.one [] i cs t
 | .two _ i cs t j ds u=>.two [] i cs t j ds u
theorem tail_pre (t:PT):t.tail.pre t.head=t:=by cases t<;>simp[PT.pre,PT.head,PT.tail]
theorem treeOk_head {T:List Nat}{t:PT}(h:Ji ops T t=true):preOk ops T t.head t.tail.all=true∧Ji ops T t.tail=true:=by
 cases t with
 | leaf α=>simp only[PT.head,PT.tail,Ji,PT.all,Yj]at *;exact⟨h,rfl⟩
 | one α i cs t=>
  simp only[PT.head,PT.tail,Ji,PT.all,Bool.and_eq_true,Yj,List.nil_append]at *
  obtain⟨⟨⟨k1,k2⟩,k3⟩,k4⟩:=h
  exact⟨k1,⟨⟨rfl,k2⟩,k3⟩,k4⟩
 | two α i cs t j ds u=>
  simp only[PT.head,PT.tail,Ji,PT.all,Bool.and_eq_true,Yj,List.nil_append]at *
  obtain⟨⟨⟨⟨⟨⟨⟨k1,k2⟩,k3⟩,k4⟩,k5⟩,k6⟩,k7⟩,k8⟩:=h
  exact⟨k1,⟨⟨⟨⟨⟨⟨rfl,k2⟩,k3⟩,k4⟩,k5⟩,k6⟩,k7⟩,k8⟩
theorem getD_eq {listed:Array Bool}{n j:Nat}(hsz:listed.size=n)(hj:j<n):listed.getD j true=listed.getD j false:=by
 have hj':j<listed.size:=by omega
 simp[hj']
theorem tree_any (hsel:∀(j:Nat) (o:Oper) cs b,ops[j]? = some o→o.op≠.select cs b){Q:Exit→Act→World→Prop}{T:List Nat}(hT:∀j x,(T.getD j 0).testBit x=true→Must ops x j)
  (hin:∀(o:Oper),o∈ops.toList→∀e∈o.after.toList,Region.binds .any e=true→e.on<ops.size)
  (hself:∀(j:Nat) (o:Oper),ops[j]? = some o→∀e∈o.after.toList,Region.binds .any e=true→e.on≠j) :
  ∀(fuel:Nat) (listed:Array Bool) (t:PT) (a:Act) (w:World),listed.size=ops.size→t.ix.length=fuel→(∀j,j<ops.size→(listed.getD j true=false↔j∈t.ix))→(∀x∈t.ix,x<ops.size)→t.ix.Nodup →
   Closed ops listed→Ji ops T t=true→PlT P ops (Q .normal) t a w→wpAny P .any ops Q fuel listed a w:=by
 intro fuel
 induction fuel with
 | zero=>
  intro listed t a w hsz hf hl hix hnd hcl hok h
  have hnil:t.stps=[]:=by have:t.stps.length=0:=(by simpa[PT.ix] using hf);exact List.eq_nil_of_length_eq_zero this
  have ht:t=.leaf []:=by
   cases t with
   | leaf α=>simp[PT.stps]at hnil;rw[hnil]
   | one α i cs t=>simp[PT.stps]at hnil
   | two α i cs t j ds u=>simp[PT.stps]at hnil
  subst ht
  refine⟨?_,h⟩
  cases hr:Region.ready .any ops listed with
  | nil=>rfl
  | cons j r=>
   have hj:j∈Region.ready .any ops listed:=by rw[hr];simp
   obtain⟨h0,o,ho,_⟩:=mem_ready.1 hj
   have hlt:j<ops.size:=(Array.getElem?_eq_some_iff.1 ho).1
   have:=(hl j hlt).1 h0
   simp[PT.ix,PT.stps]at this
 | succ fuel ih=>
  intro listed t a w hsz hf hl hix hnd hcl hok h
  have unl:∀x∈t.ix,listed.getD x false=false:=fun x hx=>by
   rw[←getD_eq hsz (hix x hx)];exact(hl x (hix x hx)).2 hx
  have hixs:t.ix=t.head++t.tail.ix:=by
   have:=pre_stps t.head t.tail
   rw[tail_pre]at this
   unfold PT.ix
   rw[this];simp[Stp.ix,Function.comp_def]
  obtain⟨hhd,htl⟩:=treeOk_head hok
  have isReady:∀x∈t.ix,(∀o,ops[x]? = some o→∀e∈o.after.toList,Region.binds .any e=true→e.on∈t.ix→e.on=x)→Region.ready .any ops listed≠[]:=by
   intro x hx hw hr
   have hxl:=hix x hx
   have hox:ops[x]? = some ops[x]:=by simp[hxl]
   have hmem:x∈Region.ready .any ops listed:=by
    refine mem_ready.2 ⟨(hl x hxl).2 hx,_,hox,fun e he hb => ?_⟩
    have hlt:=hin ops[x] (by simp) e (by simpa using he) hb
    cases hg:listed.getD e.on false with
    | true=>rfl
    | false=>
     have hun:e.on∈t.ix:=(hl e.on hlt).1 (by rw[getD_eq hsz hlt];exact hg)
     exact absurd (hw _ hox e (by simpa using he) hb hun) (hself x _ hox e (by simpa using he) hb)
   rw[hr]at hmem;cases hmem
  constructor
  ·intro hr
   exfalso
   cases hα:t.head with
   | cons x α=>
    refine isReady x (by rw[hixs,hα];simp) ?_ hr
    intro o ho e he hb hun
    rw[hα]at hhd
    simp only[preOk,Bool.and_eq_true,List.all_eq_true]at hhd
    rw[hixs,hα,List.cons_append,List.mem_cons]at hun
    rcases hun with hun|hun
    ·exact hun
    ·have hy:∃y∈α.map Stp.neu++t.tail.all,y.ix=e.on:=by
      rcases List.mem_append.1 hun with h1|h1
      ·exact⟨.neu e.on,List.mem_append.2 (.inl (List.mem_map.2 ⟨_,h1,rfl⟩)),rfl⟩
      ·obtain⟨y,hy,hye⟩:=List.mem_map.1 h1
       exact⟨y,List.mem_append.2 (.inr (stps_all _ y hy)),hye⟩
     obtain⟨y,hy,hye⟩:=hy
     have hp:=hhd.1 y hy
     unfold pairOk at hp
     simp only[Bool.and_eq_true,show(Stp.neu x).ix=x from rfl,ho,List.all_eq_true]at hp
     have:=hp.2 e (by simpa using he)
     simp[hb,hye]at this
   | nil=>
    rw[hα,List.nil_append]at hixs
    cases t with
    | leaf α=>
     simp only[PT.head]at hα
     subst hα
     simp[PT.ix,PT.stps]at hf
    | one α i cs t=>
     simp only[PT.head]at hα
     subst hα
     simp only[Ji,Bool.and_eq_true]at hok
     refine isReady i (by simp[PT.ix,PT.stps,Stp.ix]) ?_ hr
     intro o ho e he hb hun
     simp only[PT.ix,PT.stps,Yj,List.nil_append,Yi,List.mem_cons,Stp.ix]at hun
     rcases hun with hun|hun
     ·exact hun
     ·obtain⟨y,hy,hye⟩:=List.mem_map.1 hun
      have ha:=hok.1.2
      unfold afterOk at ha
      have ha:=List.all_eq_true.1 ha y hy
      simp only[ho,List.all_eq_true]at ha
      have:=ha e he
      simp only[hb,Bool.not_true,Bool.false_or,bne_iff_ne]at this
      exact absurd hye.symm this
    | two α i cs t j ds u=>
     simp only[PT.head]at hα
     subst hα
     simp only[Ji,Bool.and_eq_true]at hok
     refine isReady i (by simp[PT.ix,PT.stps,Stp.ix]) ?_ hr
     intro o ho e he hb hun
     simp only[PT.ix,PT.stps,Yj,List.nil_append,Yi,List.mem_cons,Stp.ix]at hun
     rcases hun with hun|hun
     ·exact hun
     ·obtain⟨y,hy,hye⟩:=List.mem_map.1 hun
      have ha:=hok.1.1.1.1.1.2.1
      unfold afterOk at ha
      have ha:=List.all_eq_true.1 ha y hy
      simp only[ho,List.all_eq_true]at ha
      have:=ha e he
      simp only[hb,Bool.not_true,Bool.false_or,bne_iff_ne]at this
      exact absurd hye.symm this
  ·intro j hj
   obtain⟨h0,o,ho,hpre⟩:=mem_ready.1 hj
   have hlt:j<ops.size:=(Array.getElem?_eq_some_iff.1 ho).1
   have hjx:=(hl j hlt).1 h0
   have noT:∀x∈t.ix,(T.getD j 0).testBit x=false:=by
    intro x hx
    cases hc:(T.getD j 0).testBit x with
    | false=>rfl
    | true=>
     have hm:=hT j x hc listed hcl (fun o' ho' e he hb=>by rw[ho]at ho';injection ho' with e';subst e';exact hpre e he hb)
     rw[unl x hx]at hm;cases hm
   have rest:∀(t':PT),(∀x,x∈t'.ix↔x∈t.ix∧x≠j)→t'.ix.Nodup→t'.ix.length=fuel→Ji ops T t'=true→∀a' w',PlT P ops (Q .normal) t' a' w'→wpAny P .any ops Q fuel (listed.setIfInBounds j true) a' w':=by
    intro t' hmem hnd' hlen hok' a' w' hP
    refine ih (listed.setIfInBounds j true) t' a' w' (by simpa using hsz) hlen ?_ (fun x hx=>hix x ((hmem x).1 hx).1) hnd' ?_ hok' hP
    ·intro k hk
     rw[hmem]
     by_cases hkj:j=k
     ·subst hkj
      have hjl:j<listed.size:=by omega
      constructor
      ·intro e;simp[hjl]at e
      ·intro e;exact absurd rfl e.2
     ·rw[getD_set_ne true hkj,hl k hk]
      exact⟨fun e=>⟨e,fun h=>hkj h.symm⟩,fun e=>e.1⟩
    ·intro k ok hk hkl e he hb
     by_cases hkj:j=k
     ·subst hkj
      rw[ho]at hk;injection hk with e';subst e'
      exact getD_set_true (hpre e he hb)
     ·rw[getD_set_ne false hkj]at hkl
      exact getD_set_true (hcl k ok hk hkl e he hb)
   have hP0:Pl P ops (PlT P ops (Q .normal) t.tail) (t.head.map .neu) a w:=by
    have:=h
    rw[←tail_pre t]at this
    exact PlT_pre.1 this
   have later_of:∀ {α:List Nat} {S:List Stp},preOk ops T α S=true→(α.map Stp.neu).Pairwise (fun x y=>later ops x y=true):=fun k=>
    (preOk_pairwise k).imp (fun {x y} hp=>by unfold pairOk at hp;simp only[Bool.and_eq_true]at hp;exact hp.1.2)
   by_cases hjα:j∈t.head
   ·obtain⟨α1,α2,hα⟩:=List.append_of_mem hjα
    rw[hα]at hhd hP0
    obtain⟨hp1,hp2⟩:=preOk_mem hhd
    have hix0:t.ix=α1++j::(α2++t.tail.ix):=by rw[hixs,hα];simp
    have hpass:∀x∈α1.map Stp.neu,mayPass ops x (.neu j)=true:=by
     intro x hx
     obtain⟨x',hx',rfl⟩:=List.mem_map.1 hx
     have hp:=hp1 x' hx'
     unfold pairOk at hp
     simp only[Bool.and_eq_true,Bool.or_eq_true]at hp
     rcases hp.1.1 with hc|hc
     ·have:=noT x' (by rw[hix0];simp[hx'])
      rw[show(Stp.neu j).ix=j from rfl,show(Stp.neu x').ix=x' from rfl,this]at hc
      cases hc
     ·exact hc
    obtain⟨o',v,ho',hy,hP⟩:=front_neu hsel (α1.map Stp.neu) a w hpass (β:=α2.map Stp.neu) (by simpa using hP0)
    rw[ho]at ho';injection ho' with e';subst e'
    have hixn:(t.tail.pre (α1++α2)).ix=α1++(α2++t.tail.ix):=by
     unfold PT.ix;rw[pre_stps];simp[Stp.ix,Function.comp_def]
    have hnd0:=hnd
    rw[hix0]at hnd0
    have hn1:=List.nodup_append.1 hnd0
    have hn2:=List.nodup_cons.1 hn1.2.1
    refine op_weaken (hy.wpOp ho (rest (t.tail.pre (α1++α2)) ?_ ?_ ?_ (treeOk_pre hp2 htl) _ _ ?_))
    ·intro x
     rw[hixn,hix0]
     constructor
     ·intro hx
      refine⟨?_,?_⟩
      ·rcases List.mem_append.1 hx with hx|hx<;>simp[hx]
      ·rintro rfl
       rcases List.mem_append.1 hx with hx|hx
       ·exact hn1.2.2 x hx x (by simp) rfl
       ·exact hn2.1 hx
     ·rintro⟨hx,hne⟩
      rcases List.mem_append.1 hx with hx|hx
      ·exact List.mem_append.2 (.inl hx)
      ·rcases List.mem_cons.1 hx with hx|hx
       ·exact absurd hx hne
       ·exact List.mem_append.2 (.inr hx)
    ·rw[hixn]
     exact List.nodup_append.2 ⟨hn1.1,hn2.2,fun a ha b hb=>hn1.2.2 a ha b (by simp[hb])⟩
    ·rw[hixn]
     rw[hix0]at hf
     simp at hf ⊢;omega
    ·rw[PlT_pre,Yh,Pl_append,←Pl_append]
     exact hP
   ·have hjt:j∈t.tail.ix:=by
     rw[hixs]at hjx
     exact(List.mem_append.1 hjx).resolve_left hjα
    have hnd0:=hnd
    rw[hixs]at hnd0
    have hn1:=List.nodup_append.1 hnd0
    have effc:∀(cs:List Nat) (t':PT),preOk ops T t.head (.eff j cs::t'.all)=true→Pl P ops (EffAt P ops j cs (PlT P ops (Q .normal) t')) (t.head.map .neu) a w→Ji ops T t'=true →
      (∀x,x∈t'.ix↔x∈t.tail.ix∧x≠j)→t'.ix.Nodup→t'.ix.length+1=t.tail.ix.length→wpOp P ops Q j (fun a' w'=>wpAny P .any ops Q fuel (listed.setIfInBounds j true) a' w') a w:=by
     intro cs t' hpo hPl hto hmem hnd' hlen
     have hpass:∀x∈t.head.map Stp.neu,mayPass ops x (.eff j cs)=true:=by
      intro x hx
      obtain⟨x',hx',rfl⟩:=List.mem_map.1 hx
      have hp:=preOk_all hpo x' hx' (.eff j cs) (by simp)
      unfold pairOk at hp
      simp only[Bool.and_eq_true,Bool.or_eq_true]at hp
      rcases hp.1.1 with hc|hc
      ·have:=noT x' (by rw[hixs];simp[hx'])
       rw[show(Stp.eff j cs).ix=j from rfl,show(Stp.neu x').ix=x' from rfl,this]at hc
       cases hc
      ·exact hc
     have hPl2:Pl P ops (PlT P ops (Q .normal) t') (t.head.map .neu ++ .eff j cs::[]) a w:=Pl_append.2 hPl
     have hfr:=front_eff hsel (t.head.map Stp.neu) a w hpass (later_of hpo) hPl2 [] (fun c hc=>by cases hc)
     have hixn:(t'.pre t.head).ix=t.head++t'.ix:=by
      unfold PT.ix;rw[pre_stps];simp[Stp.ix,Function.comp_def]
     refine op_weaken (wpOp_mono (fun a' w' hh=>rest (t'.pre t.head) ?_ ?_ ?_ (treeOk_pre (preOk_of (fun y hy=>List.mem_cons_of_mem _ hy) hpo) hto) a' w' ?_) hfr)
     ·intro x
      rw[hixn,hixs]
      simp only[Yp,hmem]
      constructor
      ·rintro(hx|⟨hx,hne⟩)
       ·exact⟨.inl hx,fun e=>hjα (e▸hx)⟩
       ·exact⟨.inr hx,hne⟩
      ·rintro⟨hx|hx,hne⟩
       ·exact .inl hx
       ·exact .inr ⟨hx,hne⟩
     ·rw[hixn]
      exact List.nodup_append.2 ⟨hn1.1,hnd',fun a ha b hb=>hn1.2.2 a ha b ((hmem b).1 hb).1⟩
     ·rw[hixn]
      rw[hixs]at hf
      simp at hf ⊢;omega
     ·have hh2:=hh.2
      rw[List.append_nil]at hh2
      exact PlT_pre.2 hh2
    cases t with
    | leaf α=>simp[PT.tail,PT.ix,PT.stps]at hjt
    | one α i cs t' =>
     have hti:(PT.one α i cs t').tail.ix=i::t'.ix:=by simp[PT.tail,PT.ix,PT.stps,Stp.ix]
     rw[hti]at hjt hn1 effc
     have hn2:=List.nodup_cons.1 hn1.2.1
     simp only[Ji,Bool.and_eq_true]at hok
     have hij:j=i:=by
      rcases List.mem_cons.1 hjt with hjt|hjt
      ·exact hjt
      ·exfalso
       obtain⟨y,hy,hye⟩:=List.mem_map.1 hjt
       have:=List.all_eq_true.1 hok.1.1.2 y hy
       rw[hye,noT i (by rw[hixs,hti];simp)]at this
       cases this
     subst hij
     refine effc cs t' hok.1.1.1 h hok.2 ?_ hn2.2 (by simp)
     intro x
     constructor
     ·intro hx;exact⟨List.mem_cons_of_mem _ hx,fun e=>hn2.1 (e▸hx)⟩
     ·rintro⟨hx,hne⟩;exact(List.mem_cons.1 hx).resolve_left hne
    | two α i cs t' k ds u=>
     have hti:(PT.two α i cs t' k ds u).tail.ix=i::t'.ix:=by simp[PT.tail,PT.ix,PT.stps,Stp.ix]
     rw[hti]at hjt hn1 effc
     have hn2:=List.nodup_cons.1 hn1.2.1
     simp only[Ji,Bool.and_eq_true,List.all_eq_true,List.contains_eq_mem,decide_eq_true_eq,beq_iff_eq]at hok
     obtain⟨⟨⟨⟨⟨⟨⟨k1,k2⟩,k3⟩,k4,k4'⟩,k5,k5'⟩,k6,k6'⟩,k7⟩,k8⟩:=hok
     have hP1:Pl P ops (EffAt P ops i cs (PlT P ops (Q .normal) t')) (α.map .neu) a w:=Pl_mono (fun _ _ hh=>hh.1) h
     have hP2:Pl P ops (EffAt P ops k ds (PlT P ops (Q .normal) u)) (α.map .neu) a w:=Pl_mono (fun _ _ hh=>hh.2) h
     by_cases hij:j=i
     ·subst hij
      refine effc cs t' (preOk_of (fun y hy=>by simp only[Yp,List.mem_cons]at hy ⊢;rcases hy with hy|hy;exact .inl (.inl hy);exact .inl (.inr hy)) k1) hP1 k7 ?_ hn2.2 (by simp)
      intro x
      constructor
      ·intro hx;exact⟨List.mem_cons_of_mem _ hx,fun e=>hn2.1 (e▸hx)⟩
      ·rintro⟨hx,hne⟩;exact(List.mem_cons.1 hx).resolve_left hne
     ·have hjk:j=k:=by
       rcases List.mem_cons.1 hjt with hjt|hjt
       ·exact absurd hjt hij
       ·obtain⟨y,hy,hye⟩:=List.mem_map.1 hjt
        have hk:=k2.1 y hy
        simp only[Bool.or_eq_true,beq_iff_eq]at hk
        rw[hye]at hk
        rcases hk with(hk|hk)|hk
        ·exact hk
        ·rw[noT i (by rw[hixs,hti];simp)]at hk;cases hk
        ·have hkm:k∈i::t'.ix:=by
          have:=k5'
          exact this
         rw[noT k (by rw[hixs,hti];exact List.mem_append.2 (.inr hkm))]at hk;cases hk
      subst hjk
      have hndu:=nodupB_nodup k6
      have hn3:=List.nodup_cons.1 hndu
      refine effc ds u (preOk_of (fun y hy=>by simp only[Yp,List.mem_cons]at hy ⊢;rcases hy with hy|hy;exact .inr (.inl hy);exact .inr (.inr hy)) k1) hP2 k8 ?_ hn3.2 (by simp[PT.ix,k6'])
      intro x
      constructor
      ·intro hx
       have hx':x∈i::t'.ix:=k4' x hx
       exact⟨hx',fun e=>hn3.1 (e▸hx)⟩
      ·rintro⟨hx,hne⟩
       rcases List.mem_cons.1 hx with rfl|hx
       ·have:=k5
        exact(List.mem_cons.1 this).resolve_left hne
       ·exact(List.mem_cons.1 (k4 x hx)).resolve_left hne
def treeB (ops:Array Oper)(t:PT):Bool:=
 (nodupB t.ix&&t.ix.all (fun x=>decide (x<ops.size)))&&Region.noSelect ops&&t.ix.length==ops.size&&(List.range ops.size).all (fun i=>t.ix.contains i)&&Ji ops (closT ops.toList []) t &&
 ops.toList.all (fun o=>o.after.toList.all fun e => !Region.binds .any e||decide (e.on<ops.size)) &&
 (List.range ops.size).all (fun j=>match ops[j]? with|some o=>o.after.toList.all fun e => !Region.binds .any e||e.on != j|none=>true)
theorem wp_tree_sat {id:Nat}{l:List Oper}{Q:Exit→Act→World→Prop}{a:Act}{O w:World}{S:Zc}(t:PT)(hs:Sat O w S)(hm:P.follows .mixedOrders=true)(hB:treeB l.toArray t=true)
  (hh:∀w',Sat O w' S→PlT P l.toArray (Q .normal) t a w'):(Code.region id l.toArray true).wp P Q a w:=by
 have h:=hh _ hs.drew
 simp only[treeB,Bool.and_eq_true,List.all_eq_true,beq_iff_eq]at hB
 obtain⟨⟨⟨⟨⟨⟨⟨h7,h8⟩,h1⟩,h2⟩,h3⟩,h4⟩,h5⟩,h6⟩:=hB
 have hcon:∀i,i<l.toArray.size→i∈t.ix:=fun i hi=>by
  have:=h3 i (List.mem_range.2 hi)
  simpa using this
 have hix:∀x∈t.ix,x<l.toArray.size:=fun x hx=>of_decide_eq_true (h8 x hx)
 refine wp_region_any hm (tree_any (Region.noSelect_spec h1) (T:=closT l.toArray.toList []) (fun j x hx=>closT_must l [] (by simp) (fun j x hx=>by simp at hx) j x hx) ?_ ?_ l.toArray.size _ t a w.drew (by simp) h2 ?_ hix (nodupB_nodup h7) ?_ h4 h)
 ·intro o ho e he hb
  have:=h5 o ho e he
  simpa[hb] using this
 ·intro j o ho e he hb
  have hlt:j<l.toArray.size:=(Array.getElem?_eq_some_iff.1 ho).1
  have:=h6 j (List.mem_range.2 hlt)
  rw[ho]at this
  simp only[List.all_eq_true]at this
  have:=this e he
  simpa[hb] using this
 ·intro j hj
  constructor
  ·intro _;exact hcon j hj
  ·intro _
   have hj':j<l.length:=by simpa using hj
   simp[hj']
 ·intro j o _ hg
  exfalso
  by_cases hj:j<l.length
  ·simp[hj]at hg
  ·simp[hj]at hg
theorem plt_leaf {K:Act→World→Prop}{α:List Nat}{a:Act}{w:World}(h:Pl P ops K (α.map .neu) a w):PlT P ops K (.leaf α) a w:=h
theorem plt_one {K:Act→World→Prop}{α:List Nat}{i:Nat}{cs:List Nat}{t:PT}{a:Act}{w:World}(h:Pl P ops (EffAt P ops i cs (PlT P ops K t)) (α.map .neu) a w):PlT P ops K (.one α i cs t) a w:=h
def Two (p q:Prop):Prop:=p∧q
theorem Two.mk {p q:Prop}(h:p)(k:q):Two p q:=⟨h,k⟩
theorem plt_two {K:Act→World→Prop}{α:List Nat}{i j:Nat}{cs ds:List Nat}{t u:PT}{a:Act}{w:World}(h:Pl P ops (fun a w=>Two (EffAt P ops i cs (PlT P ops K t) a w) (EffAt P ops j ds (PlT P ops K u) a w)) (α.map .neu) a w):PlT P ops K (.two α i cs t j ds u) a w:=h
theorem te_eff {l:List Oper}{i:Nat}{cs:List Nat}{o:Oper}{K:Act→World→Prop}{a:Act}{w:World}(hi:l[i]? = some o)(h:wpList P l.toArray (EQ cs P l.toArray K) [o] a w):EffAt P l.toArray i cs K a w:=
 eff_list (by simpa using hi) h
end
end Hp
end
end Go.Proofs.YtefjbdajgakgpaaGreat
