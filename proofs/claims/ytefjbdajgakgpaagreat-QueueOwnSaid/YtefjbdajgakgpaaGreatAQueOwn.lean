/-
  QueueOwn, walked.
-/
import Derived.Test.YtefjbdajgakgpaaGreatACopy
import Derived.Test.YtefjbdajgakgpaaGreatASpoilt
set_option linter.all false
namespace Go.Proofs.YtefjbdajgakgpaaGreat
open Go.RowKit Hp
set_option maxRecDepth 100000
set_option maxHeartbeats 1000000
attribute [local irreducible] Go.Calls Go.wpList
namespace Hp
section
variable {P:Program}{ops:Array Oper}{Q:Exit→Act→World→Prop}{w:World}{rest:List Oper}{O:World}{S R:Zb}
variable {l:List Value}{ds:List Deferred}{T ty kt et:TypeId}{pos:String}{after:Array Edge}{gd:Option (Nat×Bool)}{d:Nat}{x:Operand}{K:IntKind}{v zv:Value}
theorem wl_len0 (hs:Sat O w S)(h:MapC P T kt et K zv)(hx:ev l x=some v)(hp:Pull S (mp K (fun _=>none) v) R)
  (hg:Region.wanted { dst:=some d,op:=.call { callee:=.builtin .len,args := #[x],argTypes := #[T] },type:=ty,pos,after,guard:=gd } (yielded ops l.toArray)=true)
  (kk:wpList P ops Q rest ⟨(l.set d (.int .i64 0)).toArray,ds⟩ w) :
  wpList P ops Q ({ dst:=some d,op:=.call { callee:=.builtin .len,args := #[x],argTypes := #[T] },type:=ty,pos,after,guard:=gd }::rest) ⟨l.toArray,ds⟩ w:=by
 obtain⟨r,es,clock,rfl,hE,_,hs⟩:=sat_mp.1 (hs.pull hp)
 have hb:=hs.block
 have e0:es.size=0:=by
  rcases Nat.eq_zero_or_pos es.size with h0|h0
  ·exact h0
  ·exfalso
   have hm:es[0]∈es.toList:=by simp
   obtain⟨k,hk⟩:=hE.keys _ hm
   have:=(hE.iff k es[0].val).2 ⟨_,hm,hk,rfl⟩
   cases this
 refine Qa (v:=.int .i64 0) hg ?_ (ZK▸kk)
 have:=Zk (ds:=ds) hx
 simp[execOp,resolve,this,invoke,builtin,Builtin.len_,run_underlying h.is,MapKept.run_getObj_map hb,goInt,e0]
end
end Hp
def HzZ (b:Nat):Zb:=pt b (.cells #[.pointer none,.int .i64 0,.int .i64 0,.int .i64 0,.int .i64 0,.int .i64 0,.int .i64 0,.int .i64 0,.slice none 0 0,.slice none 0 0,.int .i64 0,.int .i64 0,.int .i64 0,.int .i64 0] 68)
theorem z_arena (b:Nat):Zh Tryz.prog 65 #[.pointer (some ⟨b,0,none⟩)] (HzZ b) (.pointer none) (HzZ b):=by
 intro O w F hs
 unfold HzZ at hs ⊢
 go_enter Tryz.func65,Tryz.ntmps65
 go_wp2_with ((with_reducible apply Za hs);exact Ii;rfl;(with_reducible exact Qh);rfl;rfl;(simp only[Uc,Uz]))
 (go_ret)
 exact⟨rfl,by ((with_reducible apply Sat.fin hs);(with_reducible exact Ql))⟩
theorem z_nil:Zh Tryz.prog 65 #[.pointer none] emp (.pointer none) emp:=by
 intro O w F hs
 go_enter Tryz.func65,Tryz.ntmps65
 go_wp2_with (fail)
 (go_ret)
 exact⟨rfl,by ((with_reducible apply Sat.fin hs);(with_reducible exact Ql))⟩
theorem kit_nil:Does Tryz.prog 27 #[.pointer none] emp (fun v=>mp .i64 (fun _=>none) v):=by
 intro O w F hs
 have hA:=Lh z_nil
 go_enter Tryz.func27,Tryz.ntmps27
 (repeat'(first|(go_big_may;(first|(first|((with_reducible apply Za hs);exact Ii;rfl;(with_reducible exact Qh);rfl;rfl;(simp only[Uc,Uz]))|((with_reducible apply Zo hs);rfl;rfl;rfl;clear hs;intro w b hs;(simp only[Uc,Uz])))|((with_reducible apply wl_mkmap hs);exact Ii;rfl;clear hs;intro w r hs;(simp only[Uc,Uz]))|(go_at_call 65;((refine(hA.out).at hs (by (focus((repeat(with_reducible exact Qn));done))) ?_);clear hs;intro w hs;(try simp only[Em,Ma]at hs)))))|go_step|(dsimp only)))
 (go_ret)
 exact⟨_,rfl,by ((with_reducible apply Sat.fin hs);(focus((repeat(first|with_reducible exact Ql|with_reducible apply Qb|exact Qh|with_reducible apply Qk));done)))⟩
theorem kit_zero (b:Nat):Does Tryz.prog 27 #[.pointer (some ⟨b,0,none⟩)] (HzZ b) (fun v=>mp .i64 (fun _=>none) v*HzZ b):=by
 intro O w F hs
 have hA:=Lh (z_arena b)
 go_enter Tryz.func27,Tryz.ntmps27
 (repeat'(first|(go_big_may;(first|(first|((with_reducible apply Za hs);exact Ii;rfl;(with_reducible exact Qh);rfl;rfl;(simp only[Uc,Uz]))|((with_reducible apply Zo hs);rfl;rfl;rfl;clear hs;intro w b hs;(simp only[Uc,Uz])))|((with_reducible apply wl_mkmap hs);exact Ii;rfl;clear hs;intro w r hs;(simp only[Uc,Uz]))|(go_at_call 65;((refine(hA.out).at hs (by (with_reducible repeat first|exact Qh|apply Qk)) ?_);clear hs;intro w hs;(try simp only[Em,Ma]at hs)))))|go_step|(dsimp only)))
 (go_ret)
 exact⟨_,rfl,by ((with_reducible apply Sat.fin hs);(focus((repeat(first|with_reducible exact Ql|with_reducible exact Qh|with_reducible apply Qb|exact Qh|with_reducible apply Qk));done)))⟩
theorem runR_agg {O w:World}{F:Zb}{cs:List Cll}{lg:List Acc}{sh:List Shf}{ws:List Int}{v:Value}(hs:Sat O w (RunR cs lg sh ws v*F)):∃v1 v2 v3 v4,v=.agg #[v1,v2,v3,v4]:=by
 obtain⟨_,_,_,_,_,_,_,_,e,_⟩:=runR_get hs
 exact⟨_,_,_,_,e⟩
def RunV (cs:List Cll)(lg:List Acc)(sh:List Shf)(ws:List Int)(u:Value):Zb:=ex fun v1=>ex fun v2=>ex fun v3=>ex fun v4=>pu (u=.tuple #[.agg #[v1,v2,v3,v4],.int .i64 0])*RunR cs lg sh ws (.agg #[v1,v2,v3,v4])
theorem copy_runV (cs:List Cll)(lg:List Acc)(sh:List Shf)(ws:List Int)(u:Value)(hl:RunLen cs lg sh ws) :
  Does Tryz.prog 24 #[u] (RunR cs lg sh ws u) (fun v=>(ex fun v1=>ex fun v2=>ex fun v3=>ex fun v4=>pu (v=.agg #[v1,v2,v3,v4])*RunR cs lg sh ws (.agg #[v1,v2,v3,v4]))*RunR cs lg sh ws u):=by
 intro O w F hs
 refine(copy_run cs lg sh ws u hl O w F hs).mono ?_
 rintro e w' ⟨v,rfl,hs'⟩
 refine⟨v,rfl,?_⟩
 simp only[ZA,Ma,Zw]at hs' ⊢
 obtain⟨v1,v2,v3,v4,rfl⟩:=runR_agg hs'
 exact⟨v1,v2,v3,v4,rfl,hs'⟩
def SplR (cs:List Cll)(lg:List Acc)(sh:List Shf)(ws:List Int)(m:Int)(v:Value):Zb:=RunR (spl2 (fC m) (gC m) cs.length 70) (spl2 (fA m) (gA m) lg.length 70) (spl2 (fS m) (gS m) sh.length 70) (spl2 (fW m) (gW m) ws.length 70) v
theorem spoil_runV (cs:List Cll)(lg:List Acc)(sh:List Shf)(ws:List Int)(u:Value)(m:Int)(hl:RunLen cs lg sh ws)(m0:0≤m)(m1:m≤100000) :
  Does Tryz.prog 25 #[u,.int .i64 m] (RunR cs lg sh ws u) (fun v=>ex fun v1=>ex fun v2=>ex fun v3=>ex fun v4=>pu (v=.agg #[v1,v2,v3,v4])*SplR cs lg sh ws m (.agg #[v1,v2,v3,v4])):=by
 intro O w F hs
 refine(spoil_run cs lg sh ws u m hl m0 m1 O w F hs).mono ?_
 rintro e w' ⟨v,rfl,hs'⟩
 refine⟨v,rfl,?_⟩
 simp only[ZA,Ma,Zw]at hs' ⊢
 obtain⟨v1,v2,v3,v4,rfl⟩:=runR_agg hs'
 exact⟨v1,v2,v3,v4,rfl,hs'⟩
theorem spoilt_runV (cs:List Cll)(lg:List Acc)(sh:List Shf)(ws:List Int)(u v:Value)(m:Int)(hl:RunLen cs lg sh ws)(m0:0≤m)(m1:m≤100000) :
  Zh Tryz.prog 26 #[u,v,.int .i64 m] (SplR cs lg sh ws m u*RunR cs lg sh ws v) (.bool true) (SplR cs lg sh ws m u*RunR cs lg sh ws v):=spoilt_run cs lg sh ws u v m hl m0 m1
attribute [irreducible] SplR
theorem runR_sh {O w:World}{S R:Zb}{cs:List Cll}{lg:List Acc}{sh:List Shf}{ws:List Int}{v:Value}(hs:Sat O w S)(h:Pull S (RunR cs lg sh ws v) R) :
  ∃a1 k1 a2 k2 a3 k3 a4 k4,v=.agg #[.slice a1 cs.length k1,.slice a2 lg.length k2,.slice a3 sh.length k3,.slice a4 ws.length k4]∧Sat O w S:=by
 obtain⟨a1,k1,a2,k2,a3,k3,a4,k4,e,_⟩:=runR_get (hs.pull h)
 exact⟨a1,k1,a2,k2,a3,k3,a4,k4,e,hs⟩
theorem splR_sh {O w:World}{S R:Zb}{cs:List Cll}{lg:List Acc}{sh:List Shf}{ws:List Int}{m:Int}{v:Value}(hs:Sat O w S)(h:Pull S (SplR cs lg sh ws m v) R) :
  ∃a1 n1 k1 a2 n2 k2 a3 n3 k3 a4 n4 k4,v=.agg #[.slice a1 n1 k1,.slice a2 n2 k2,.slice a3 n3 k3,.slice a4 n4 k4]∧Sat O w S:=by
 have hs1:=hs.pull h
 unfold SplR at hs1
 obtain⟨a1,k1,a2,k2,a3,k3,a4,k4,e,_⟩:=runR_get hs1
 exact⟨a1,_,k1,a2,_,k2,a3,_,k3,a4,_,k4,e,hs⟩
theorem play_runV {c:Cfg}(h:c.Ok){mvs:List Mv}(hl:mvs.length≤65536){A:Zb}(v:Value)(hRd:Rd A 4 (mvs.map Mv.e) v) :
  Does Tryz.prog 21 #[c.v,v] A (fun u=>pu (RunLen (qRun c mvs).m.calls (qRun c mvs).m.mem.log (qRun c mvs).m.shifts (qRun c mvs).m.mem.words)*(RunV (qRun c mvs).m.calls (qRun c mvs).m.mem.log (qRun c mvs).m.shifts (qRun c mvs).m.mem.words u*A)):=by
 intro O w F hs
 refine(que_play_runL c h v mvs hl A hRd O w F hs).mono ?_
 rintro e w' ⟨u,rfl,hs'⟩
 refine⟨u,rfl,?_⟩
 unfold RunQ at hs'
 unfold RunV
 simp only[ZA,Ma,Zw]at hs' ⊢
 obtain⟨hL,v',rfl,hs'⟩:=hs'
 obtain⟨v1,v2,v3,v4,rfl⟩:=runR_agg hs'
 exact⟨hL,v1,v2,v3,v4,rfl,hs'⟩
set_option maxHeartbeats 16000000 in
theorem que_own (c:Cfg)(mvs0:List Mv)(v0:Value)(A:Zb)(hRd0:Rd A 4 (mvs0.map Mv.e) v0) :
  Zh Tryz.prog 8 #[c.v,v0] A (.bool true) A:=by
 intro O w F hs
 obtain⟨C,hok,M,hl,hFit⟩:∃C:Cfg,C.Ok∧∃M:List Mv,M.length≤65536∧Hid (Does Tryz.prog 18 #[c.v,v0] A (fun u=>ex fun v=>pu (u=.tuple #[C.v,v]∧Rd A 4 (M.map Mv.e) v)*A)):=⟨_,fitC_ok c,_,fitM_len mvs0,Lh (law_fit c mvs0 v0 A hRd0)⟩
 clear hRd0
 have hP:=Lh (fun v=>play_runV (A:=A) hok hl v)
 generalize (qRun C M).m.calls=cs at hP
 generalize (qRun C M).m.mem.log=lg at hP
 generalize (qRun C M).m.shifts=sh at hP
 generalize (qRun C M).m.mem.words=ws at hP
 have hW:=Lh law_awake
 have hK:=Lh kit_nil
 have hK2:=Lh kit_zero
 go_enter Tryz.func8,Tryz.ntmps8
 (repeat'(first|((with_reducible apply Q5);((simp only[ev,Ue,Uf]);rfl);((simp only[cond_true,cond_false,ev,Ue,Uf]);rfl);(with_reducible exact Qc);(simp only[Uc,Uz]))|(go_big_may;(first|(first|((with_reducible apply Qg hs);exact Ii;rfl;(with_reducible repeat first|exact Qh|apply Qk);rfl;rfl;(simp only[Uc,Uz]))|((with_reducible apply ZJ hs);exact Ii;rfl;rfl;(with_reducible repeat first|exact Qh|apply Qk);rfl;rfl;rfl;rfl;clear hs;intro w hs)|((with_reducible apply Zu hs);exact Ii;rfl;clear hs;intro w b hs;(simp only[Uc,Uz]))|((with_reducible apply Zo hs);rfl;rfl;rfl;clear hs;intro w b hs;(simp only[Uc,Uz])))|((with_reducible apply wl_len0 hs);exact Ii;rfl;(with_reducible exact Qh);rfl;(simp only[Uc,Uz]))|(go_at_call 18;((refine(hFit.out).at hs (by (with_reducible repeat first|exact Qh|apply Qk)) ?_);clear hs;intro v w hs;(try simp only[Em,Ma]at hs));(simp only[ZA,Ma,Zw]at hs);(obtain⟨vm,⟨rfl,hRd⟩,hs⟩:=hs);(obtain⟨am,cm,rfl⟩:=hRd.len);(simp only[List.length_map]at hRd hs);(have hRd:=Lh hRd))|(go_at_call 19;((refine(hW.out).at hs (by (focus((repeat(with_reducible exact Qn));done))) ?_);clear hs;intro w hs;(try simp only[Em,Ma]at hs)))|(go_at_call 21;((refine((hP.out _ hRd.out)).at hs (by (with_reducible repeat first|exact Qh|apply Qk)) ?_);clear hs;intro v w hs;(try simp only[Em,Ma]at hs));(unfold RunV at hs);(simp only[ZA,Ma,Zw]at hs);(obtain⟨hLen,p1,p2,p3,p4,rfl,hs⟩:=hs);(have hLen:=Lh hLen);(have hg:=runR_sh (cs:=cs) (lg:=lg) (sh:=sh) (ws:=ws) (v:=.agg #[p1,p2,p3,p4]) hs (by (with_reducible exact Qh)));(clear hs);(obtain⟨pp1,pp2,pp3,pp4,pp5,pp6,pp7,pp8,hv,hs⟩:=hg);(injection hv with hv);(injection hv with hv);(simp only[List.cons.injEq,and_true]at hv);(obtain⟨rfl,rfl,rfl,rfl⟩:=hv))|(go_at_call 23;((refine((same_run cs lg sh ws _ _ hLen.out)).at hs (by (with_reducible repeat first|exact Qh|apply Qb|apply Qk)) ?_);clear hs;intro w hs;(try simp only[Em,Ma]at hs)))|(go_at_call 24;((refine((copy_runV cs lg sh ws _ hLen.out)).at hs (by (with_reducible exact Qh)) ?_);clear hs;intro v w hs;(try simp only[Em,Ma]at hs));(simp only[ZA,Ma,Zw]at hs);(obtain⟨q1,q2,q3,q4,rfl,hs⟩:=hs);(have hg:=runR_sh (cs:=cs) (lg:=lg) (sh:=sh) (ws:=ws) (v:=.agg #[q1,q2,q3,q4]) hs (by (with_reducible exact Qh)));(clear hs);(obtain⟨qq1,qq2,qq3,qq4,qq5,qq6,qq7,qq8,hv,hs⟩:=hg);(injection hv with hv);(injection hv with hv);(simp only[List.cons.injEq,and_true]at hv);(obtain⟨rfl,rfl,rfl,rfl⟩:=hv))|(go_at_call 25;((refine((spoil_runV cs lg sh ws _ _ hLen.out (by omega) (by omega))).at hs (by (with_reducible repeat first|exact Qh|apply Qk)) ?_);clear hs;intro v w hs;(try simp only[Em,Ma]at hs));(simp only[ZA,Ma,Zw]at hs);(obtain⟨s1,s2,s3,s4,rfl,hs⟩:=hs);(have hg:=splR_sh (cs:=cs) (lg:=lg) (sh:=sh) (ws:=ws) (v:=.agg #[s1,s2,s3,s4]) hs (by (with_reducible exact Qh)));(clear hs);(obtain⟨x1,y1,z1,x2,y2,z2,x3,y3,z3,x4,y4,z4,hv,hs⟩:=hg);(injection hv with hv);(injection hv with hv);(simp only[List.cons.injEq,and_true]at hv);(obtain⟨rfl,rfl,rfl,rfl⟩:=hv))|(go_at_call 26;((refine((spoilt_runV cs lg sh ws _ _ _ hLen.out (by omega) (by omega))).at hs (by (with_reducible repeat first|exact Qh|apply Qb|apply Qk)) ?_);clear hs;intro w hs;(try simp only[Em,Ma]at hs)))|(go_at_call 27;((refine(hK.out).at hs (by (focus((repeat(with_reducible exact Qn));done))) ?_);clear hs;intro v w hs;(try simp only[Em,Ma]at hs)))|(go_at_call 27;(replace hs:=hs.pull (A:=HzZ b) (by (unfold HzZ;(with_reducible repeat first|exact Qh|apply Qk))));((refine((hK2.out _)).at hs (by (with_reducible exact Qh)) ?_);clear hs;intro v w hs;(try simp only[Em,Ma]at hs)))))|go_guarded|go_step|(dsimp only)))
 (go_ret)
 exact⟨rfl,by ((with_reducible apply Sat.fin hs);(with_reducible repeat first|exact Ql|exact Qh|apply Qb|apply Qk))⟩
end Go.Proofs.YtefjbdajgakgpaaGreat
