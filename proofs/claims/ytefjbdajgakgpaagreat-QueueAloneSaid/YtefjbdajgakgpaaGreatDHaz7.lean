import Derived.Test.YtefjbdajgakgpaaGreatDHaz3
set_option linter.all false
namespace Go.Proofs.YtefjbdajgakgpaaGreat
open Go.RowKit Hp
set_option maxRecDepth 100000
set_option maxHeartbeats 1000000
attribute [local irreducible] Go.Calls
section
def unNone (c:Int→Int):Int→Int:=fun k=>if k = -1 then 0 else c k
def QQ (c:Int→Int)(k:Int):Bool:=decide (0<unNone c k)
def Z5 (c:Int→Int)(k:Int):Bool := !QQ c k
def QC (h:Haz)(s:Scn):Haz×Scn:=
 ({ h with lists:=h.lists.set s.record.toNat ((h.lists.getD s.record.toNat []).filter (QQ s.named)) },
  { s with named:=unNone s.named,pending:=s.pending++(h.lists.getD s.record.toNat []).filter (Z5 s.named) })
theorem named_del {f:Int→Option Value}{c:Int→Int}(h:∀k,(f k).getD (.int .i64 0)=.int .i64 (c k)):∀k,((fun x=>if x = -1 then none else f x) k).getD (.int .i64 0)=.int .i64 (unNone c k):=by
 intro k
 unfold unNone
 by_cases hk:k = -1
 ·simp[hk]
 ·simp[hk,h k]
def SplitRel (O:World)(gs bh:Nat)(A:Zc)(s:Scn)(x:List Int)(u vn vg:Value)(f:Int→Option Value)(k:Nat)(t2 t23:Value)(wr:World):Prop:=
 ∃(j:Nat) (vp:Value),j≤x.length∧k=x.length-j∧t23=.int .i64 (j:Int) ∧
  Sat O wr (pt gs (.cells #[.pointer (some ⟨bh,0,none⟩),.int .i64 s.thread,.int .i64 s.record,.int .i64 s.stage,.int .i64 s.at_,vn,vp,vg] 222)*(mp .i64 f vn *
   (sl 3 1 ((s.pending++(x.take j).filter (Z5 s.named)).map eI) vp*(sl 3 1 (((x.take j).filter (QQ s.named)).map eI) t2*(sl 3 1 (x.map eI) u*A)))))
theorem scan_split (gs bh ba:Nat)(h:Haz)(s:Scn)(n:Nat)(x:List Int)(hn:s.record=(n:Int))(hx:h.lists[n]? = some x)(hm:s.hasMap=true)(hp:s.pending.length+x.length<4294967296) :
  Zk Tryz.prog 178 #[.pointer (some ⟨gs,0,none⟩)] (ScnR gs bh ba s*HazR bh ba h) (.tuple #[]) (ScnR gs bh ba (QC h s).2*HazR bh ba (QC h s).1):=by
 intro O w F hs
 simp only[Ma]at hs
 obtain⟨s1,s2,s3,s4,s5,s6,s7,s8⟩:=s
 simp only[]at hn hm hp
 subst hn hm
 obtain⟨vn,vp,vg,hs⟩:=scnR.1 hs
 simp only[]at hs
 obtain⟨f,hf,hs⟩:=named_get.1 (hs.pull (A:=namedR true s6 vn) (by (with_reducible repeat first|exact Qh|apply Qk)))
 obtain⟨r0,rfl⟩:=mp_some hs
 have hxd:h.lists.getD n []=x:=by simp[Yb,hx]
 have e:QC h ⟨s1,n,s3,s4,true,s6,s7,s8⟩=({ h with lists:=h.lists.set n (x.filter (QQ s6)) },⟨s1,n,s3,s4,true,unNone s6,s7++x.filter (Z5 s6),s8⟩):=by
  unfold QC;simp only[Yo,hxd]
 rw[e];clear e hxd
 have hlt:=(List.getElem?_eq_some_iff.1 hx).1
 obtain⟨f2,hf2,HF⟩:∃f2:Int→Option Value,Hid ((fun x=>if x = -1 then none else f x)=f2)∧Hid (∀k,(f2 k).getD (.int .i64 0)=.int .i64 (unNone s6 k)):=⟨_,Lh rfl,Lh (named_del hf)⟩
 clear hf
 (replace hs:=hs.pull (A:=HazR bh _ _) (by (with_reducible repeat first|exact Qh|apply Qk));obtain⟨vhh,vhl,hus_,hu_,husl,husg,hs⟩:=hazT hs hx)
 have hltu:n<hus_.length:=by omega
 go_enter Tryz.func178,Tryz.ntmps178
 go_wp2_with (first|(with_reducible refine NQ.mk ?_)|((with_reducible apply Zi);rfl;rfl)|(with_reducible refine Zj ?_)|((with_reducible apply Zb hs);exact Ii;rfl;(with_reducible repeat first|exact Qh|apply Qk);rfl;rfl;simp only[Uc,Uz])|((with_reducible apply ZE hs);exact Ii;rfl;assumption;(with_reducible repeat first|exact Qh|apply Qk);rfl;(exact Ze (by assumption));rfl;rfl;simp only[Uc,Uz])|((with_reducible apply Qe hs);exact Ii;exact Ii;rfl;rfl;(with_reducible repeat first|exact Qh|apply Qk);rfl;(simp only[Wm,Ws,Wa,Wc,Wn,Wr]at *;omega);rfl;intro b off hat;simp only[Uc,Uz])|((with_reducible apply ZS hs);exact Ii;rfl;(with_reducible repeat first|exact Qh|apply Qk);rfl;simp only[Uc,Uz])|((with_reducible apply wl_del hs);exact Ii;rfl;rfl;(with_reducible repeat first|exact Qh|apply Qk);rfl;clear hs;intro w hs)|((with_reducible refine Wp (id:=2) (Paz (Pbz [.neu 10,.neu 11,.neu 12,.neu 13,.neu 14])) hs rfl ?_ ?_);kernel_rfl;clear hs;intro w hs))
 replace hs:=sl_nil (E:=3) (sz:=1) hs (by omega)
 rw[hf2.out]at hs
 obtain⟨A,hA⟩:∃A:Zc,A=pt bh (.cells #[.pointer (some ⟨ba,0,none⟩),.int .i64 h.c.T,.int .i64 h.c.R,.int .i64 h.c.Hz,.int .i64 h.c.Rt,.int .i64 h.c.Ca,.int .i64 h.c.Sl,.int .i64 h.c.Bu,vhh,vhl,.int .i64 (base h.c 8),.int .i64 (base h.c 9),.int .i64 (base h.c 2),.int .i64 (base h.c 11)] 68) *
  (sl 3 1 (h.held.map eI) vhh*(sl 33 1 (hus_.map fun u=>[u]) vhl*(Jd 3 (h.lists.eraseIdx n) (hus_.eraseIdx n)*(giveR ba s8 vg*F)))):=⟨_,rfl⟩
 have hst:SplitRel O gs bh A ⟨s1,n,s3,s4,true,s6,s7,s8⟩ x hu_ (.map (some r0)) vg f2 x.length (.slice none 0 0) (.int .i64 0) w:=by
  refine⟨0,vp,by omega,by omega,by simp,?_⟩
  simp only[List.take_zero,List.filter_nil,List.append_nil,Yj]
  rw[hA]
  (with_reducible apply Sat.fin hs;repeat first|exact Ql|exact Qh|apply Qb|apply Qk)
 have HA:=Lh hA;clear hA hs
 simp only[Nat.mul_one,List.length_map]
 go_loopg [2,23] (x.length) (fun k t2 t23 wr=>SplitRel O gs bh A ⟨s1,n,s3,s4,true,s6,s7,s8⟩ x hu_ (.map (some r0)) vg f2 k t2 t23 wr)
 case atStart=>exact hst
 case round=>
  clear hst
  obtain⟨j,vp',hj,hk,rfl,hs⟩:=hrel
  simp only[]at hs
  by_cases hlt2:j<x.length
  ·have hlt3:decide ((j:Int)<(x.length:Int))=true:=by simp;exact hlt2
   obtain⟨z,hz⟩:∃z,x[j]? = some z:=⟨_,Yd hlt2⟩
   have hfz:=HF.out z
   have htk:x.take (j+1)=x.take j++[z]:=by rw[List.take_add_one,hz];rfl
   have hl1:((x.take j).filter (QQ s6)).length≤j:=Nat.le_trans (List.length_filter_le _ _) (by simp;omega)
   have hl2:((x.take j).filter (Z5 s6)).length≤j:=Nat.le_trans (List.length_filter_le _ _) (by simp;omega)
   have hl3:(s7++(x.take j).filter (Z5 s6)).length<4294967296:=by simp;omega
   have hl4:((x.take j).filter (QQ s6)).length<4294967296:=by omega
   have HK:=Lh hk;clear hk
   have HT:=Lh htk;clear htk
   clear hl1 hl2 hj
   by_cases hc:0<unNone s6 z
   ·have hn1:QQ s6 z=true:=by unfold QQ;simpa using hc
    have hn2:Z5 s6 z=false:=by unfold Z5;rw[hn1];rfl
    have hcd:decide (unNone s6 z>0)=true:=by simpa using hc
    have H1:=Lh hn1;have H2:=Lh hn2;clear hn1 hn2 hc
    generalize hy1:(x.take j).filter (QQ s6)=y1 at hs hl4
    generalize hy2:s7++(x.take j).filter (Z5 s6)=y2 at hs hl3
    have H3:=Lh hy1;have H4:=Lh hy2;clear hy1 hy2
    go_wp2_with (first|((with_reducible apply Zb hs);exact Ii;rfl;(with_reducible repeat first|exact Qh|apply Qk);rfl;rfl;simp only[Uc,Uz])|((with_reducible apply ZE hs);exact Ii;rfl;assumption;(with_reducible repeat first|exact Qh|apply Qk);rfl;(exact Ze (by assumption));rfl;rfl;simp only[Uc,Uz])|((with_reducible apply Qe hs);exact Ii;exact Ii;rfl;rfl;(with_reducible repeat first|exact Qh|apply Qk);rfl;(simp only[Wm,Ws,Wa,Wc,Wn,Wr]at *;omega);rfl;intro b off hat;simp only[Uc,Uz])|((with_reducible apply wl_bs hs);exact Ii;exact Ii;rfl;rfl;rfl;rfl;exact Vb rfl;rfl;clear hs;intro w v hs;simp only[Uc,Uz])|((with_reducible apply JA hs);exact Ii;exact Ii;rfl;rfl;(focus with_reducible (repeat first|exact Qh|apply Qk);done);(with_reducible exact Qh);(simp only[Wm,Ws,Wa,Wc,Wn,Wr]at *;omega);exact Vb rfl;rfl;clear hs;intro w v hs;simp only[Uc,Uz])|((with_reducible apply wl_lk hs);exact Ii;rfl;rfl;(with_reducible repeat first|exact Qh|apply Qk);(assumption);rfl;simp only[Uc,Uz]))
    go_roundg (x.length-(j+1))
    case measure=>have:=HK.out;omega
    case rel=>
     refine⟨j+1,vp',by omega,rfl,by simp,?_⟩
     rw[HT.out,List.filter_append,List.filter_append]
     simp only[List.filter_cons,List.filter_nil,H1.out,H2.out,Yn,if_true,if_false,List.append_nil]
     rw[H3.out,H4.out]
     ((try simp only[Yh,Yi,Yj,Yk,Yl]);(try simp only[Yh,Yi,Yj,Yk,Yl]at hs);(with_reducible apply Sat.fin hs;repeat first|exact Ql|exact Qh|apply Qb|apply Qk))
   ·have hn1:QQ s6 z=false:=by unfold QQ;simpa using hc
    have hn2:Z5 s6 z=true:=by unfold Z5;rw[hn1];rfl
    have hcd:decide (unNone s6 z>0)=false:=by simpa using hc
    have H1:=Lh hn1;have H2:=Lh hn2;clear hn1 hn2 hc
    generalize hy1:(x.take j).filter (QQ s6)=y1 at hs hl4
    generalize hy2:s7++(x.take j).filter (Z5 s6)=y2 at hs hl3
    have H3:=Lh hy1;have H4:=Lh hy2;clear hy1 hy2
    go_wp2_with (first|((with_reducible apply Zb hs);exact Ii;rfl;(with_reducible repeat first|exact Qh|apply Qk);rfl;rfl;simp only[Uc,Uz])|((with_reducible apply Zv hs);exact Ii;rfl;rfl;(with_reducible repeat first|exact Qh|apply Qk);(apply QS;apply hs.pull;(with_reducible exact Qh));exact Vb rfl;rfl;clear hs;intro w hs;simp only[Yg,Uc,Uz]at hs)|((with_reducible apply ZE hs);exact Ii;rfl;assumption;(with_reducible repeat first|exact Qh|apply Qk);rfl;(exact Ze (by assumption));rfl;rfl;simp only[Uc,Uz])|((with_reducible apply Qe hs);exact Ii;exact Ii;rfl;rfl;(with_reducible repeat first|exact Qh|apply Qk);rfl;(simp only[Wm,Ws,Wa,Wc,Wn,Wr]at *;omega);rfl;intro b off hat;simp only[Uc,Uz])|((with_reducible apply wl_bs hs);exact Ii;exact Ii;rfl;rfl;rfl;rfl;exact Vb rfl;rfl;clear hs;intro w v hs;simp only[Uc,Uz])|((with_reducible apply JA hs);exact Ii;exact Ii;rfl;rfl;(focus with_reducible (repeat first|exact Qh|apply Qk);done);(with_reducible exact Qh);(simp only[Wm,Ws,Wa,Wc,Wn,Wr]at *;omega);exact Vb rfl;rfl;clear hs;intro w v hs;simp only[Uc,Uz])|((with_reducible apply wl_lk hs);exact Ii;rfl;rfl;(with_reducible repeat first|exact Qh|apply Qk);(assumption);rfl;simp only[Uc,Uz]))
    go_roundg (x.length-(j+1))
    case measure=>have:=HK.out;omega
    case rel=>
     refine⟨j+1,v,by omega,rfl,by simp,?_⟩
     rw[HT.out,List.filter_append,List.filter_append]
     simp only[List.filter_cons,List.filter_nil,H1.out,H2.out,Yn,if_true,if_false,List.append_nil]
     rw[H3.out,←List.append_assoc,H4.out]
     ((try simp only[Yh,Yi,Yj,Yk,Yl]);(try simp only[Yh,Yi,Yj,Yk,Yl]at hs);(with_reducible apply Sat.fin hs;repeat first|exact Ql|exact Qh|apply Qb|apply Qk))
  ·have hlt3:decide ((j:Int)<(x.length:Int))=false:=by simp;omega
   have hjx:j=x.length:=by omega
   subst hjx
   rw[List.take_length]at hs
   generalize hy1:x.filter (QQ s6)=y1 at hs ⊢
   generalize hy2:s7++x.filter (Z5 s6)=y2 at hs ⊢
   rw[HA.out]at hs
   have HY1:=Lh hy1;have HY2:=Lh hy2
   clear hk hj hlt2 hy1 hy2
   go_wp2_with (first|(with_reducible refine NQ.mk ?_)|((with_reducible apply Zi);rfl;rfl)|((with_reducible apply Zo);rfl)|(with_reducible refine EQ.mk ?_ ?_)|(with_reducible exact Zg)|(with_reducible refine Zj ?_)|((with_reducible apply Zb hs);exact Ii;rfl;(with_reducible repeat first|exact Qh|apply Qk);rfl;rfl;simp only[Uc,Uz])|((with_reducible apply QO hs);exact Ii;rfl;rfl;assumption;(with_reducible repeat first|exact Qh|apply Qk);rfl;(exact Ze (by assumption));exact Vb rfl;(apply QS;apply hs.pull;(with_reducible repeat first|exact Qh|apply Qk));rfl;clear hs;intro w hs)|((with_reducible apply Jv hs);exact Ii;exact Ii;rfl;assumption;rfl;(with_reducible repeat first|exact Qh|apply Qk);rfl;(simp only[Wm,Ws,Wa,Wc,Wn,Wr]at *;omega);rfl;simp only[Uc,Uz])|((with_reducible refine Wp (id:=9) (Paz (Pbz [.neu 10,.neu 11,.neu 12,.eff 13 []])) hs rfl ?_ ?_);kernel_rfl;clear hs;intro w hs))
   (go_end0)
   refine⟨rfl,?_⟩
   rw[Ma]
   replace hs:=named_get.2 ⟨f2,HF.out,hs.pull (A:=mp .i64 f2 (.map (some r0))) (by (with_reducible repeat first|exact Qh|apply Qk))⟩
   (replace hs:=hazT_mk (x:=y1) husl hlt (hs.fin (by (focus((repeat(first|with_reducible exact Ql|with_reducible exact Qh|with_reducible apply Qb|exact Qh|with_reducible apply Qk));done)))) (by rfl))
   obtain rfl:=HY1.out
   obtain rfl:=HY2.out
   apply QG (vn:=.map (some r0)) (vp:=vp') (vg:=vg)
   (with_reducible apply Sat.fin hs;repeat first|exact Ql|exact Qh|apply Qb|apply Qk)
end
section
def ZF (h:Haz)(s:Scn):Bool×Scn:=Zy h { s with at_ := -1 }
theorem scan_ready (gs bh ba:Nat)(dv:Value)(h:Haz)(s:Scn)(n:Nat)(x:List Int)(hn:s.record=(n:Int))(hx:h.lists[n]? = some x)(hR:h.c.R≤16) :
  Zk Tryz.prog 175 #[.pointer (some ⟨gs,0,none⟩),dv] (ScnR gs bh ba s*HazR bh ba h) (.bool (ZF h s).1) (ScnR gs bh ba (ZF h s).2*HazR bh ba h):=by
 intro O w F hs
 simp only[Ma]at hs
 obtain⟨s1,s2,s3,s4,s5,s6,s7,s8⟩:=s
 simp only[]at hn
 subst hn
 have hN:=scan_next gs bh ba h ⟨s1,n,s3,-1,s5,s6,s7,s8⟩ n x rfl hx ⟨by simp,by simp⟩ hR
 unfold ZF
 simp only[]
 generalize Zy h ⟨s1,n,s3,-1,s5,s6,s7,s8⟩=r at hN ⊢
 obtain⟨r1,r2⟩:=r
 have HN:=Lh hN;clear hN
 obtain⟨vn,vp,vg,hs⟩:=scnR.1 hs
 simp only[]at hs
 have n1:decide ((n:Int)<0)=false:=by simp
 go_enter Tryz.func175,Tryz.ntmps175
 go_wp2_with (first|((with_reducible apply Zb hs);exact Ii;rfl;(with_reducible exact Qh);rfl;rfl;simp only[Uc,Uz])|((with_reducible apply Zv hs);exact Ii;rfl;rfl;(with_reducible exact Qh);rfl;exact Vb rfl;rfl;clear hs;intro w hs;simp only[Yg,Uc,Uz]at hs)|(go_at_call 177;(replace hs:=QG (s:=⟨s1,n,s3,-1,s5,s6,s7,s8⟩) (hs.fin (by (with_reducible exact Ql))));((refine(HN.out).at hs (by (focus with_reducible (repeat first|exact Qh|apply Qb);done)) ?_);clear hs;intro w hs;(try simp only[Em,Ma]at hs))))
 go_ret
 refine⟨rfl,?_⟩
 simp only[Ma]
 ((with_reducible apply Sat.fin hs);(with_reducible exact Ql))
theorem in_active {c:Cfg}{i:Int}(h0:0≤i)(h1:i<c.R):InReg c 8 i:=⟨h0,by omega,h1⟩
theorem adr_eq {c:Cfg}(h:c.Ok)(r:Nat){i:Int}(h0:0≤i):base c r+i=(adr c r i:Int):=by
 have:=(ZD h r).1
 unfold adr;omega
def Jp (h:Haz)(m:Mch)(s:Scn):Bool×Mch×Scn:=
 let A:=adr h.c 8 s.at_
 if m.word A=1 then ((Zy h s).1,m.load A (m.word A),(Zy h s).2) else (false,m.load A (m.word A),{ s with stage:=1 })
theorem scan_try (gs bh ba d bx bm:Nat)(h:Haz)(m:Mch)(a:Are)(s:Scn)(n:Nat)(x:List Int)(hst:s.stage=0)(hn:s.record=(n:Int))(hx:h.lists[n]? = some x)(ok:AOk a m)(hc:h.c=a.c)(a0:0≤s.at_)(a1:s.at_<h.c.R) :
  Zk Tryz.prog 176 #[.pointer (some ⟨gs,0,none⟩),.pointer (some ⟨d,0,none⟩)] (ScnR gs bh ba s*(HazR bh ba h*DkR d bx bm m)) (.bool (Jp h m s).1) (ScnR gs bh ba (Jp h m s).2.2*(HazR bh ba h*DkR d bx bm (Jp h m s).2.1)):=by
 intro O w F hs
 simp only[Ma]at hs
 obtain⟨s1,s2,s3,s4,s5,s6,s7,s8⟩:=s
 simp only[]at hn hst a0 a1
 subst hn hst
 have hOk:h.c.Ok:=hc▸ok.c
 have hR:=hOk.R2
 have hN:=scan_next gs bh ba h ⟨s1,n,0,s4,s5,s6,s7,s8⟩ n x rfl hx ⟨by simp;omega,by simp;omega⟩ hR
 have hm:m.May (adr h.c 8 s4):=by rw[hc];exact ok.may (by omega) (by omega) (in_active a0 (hc▸a1))
 have hL:=Lh (Qt d bx bm m _ _ hm.acs)
 have he:=adr_eq hOk 8 a0
 obtain⟨b0,b1⟩:=ZD hOk 8
 unfold Jp
 simp only[]
 generalize Zy h ⟨s1,n,0,s4,s5,s6,s7,s8⟩=r at hN ⊢
 obtain⟨r1,r2⟩:=r
 have HN:=Lh hN;clear hN
 obtain⟨vn,vp,vg,hs⟩:=scnR.1 hs
 simp only[]at hs
 have n1:decide ((n:Int)<0)=false:=by simp
 replace hs:=hs.pull (A:=HazR bh ba h) (by (with_reducible repeat first|exact Qh|apply Qk))
 (obtain⟨vhh,vhl,hs⟩:=hazR.1 hs)
 clear hm hc ok hx
 generalize m.word (adr h.c 8 s4)=u at hL ⊢
 by_cases hu:u=1
 ·subst hu
  simp only[if_true]
  go_enter Tryz.func176,Tryz.ntmps176
  go_wp2_with (first|(with_reducible refine NQ.mk ?_)|((with_reducible apply Zi);rfl;rfl)|((with_reducible apply Zo);rfl)|(with_reducible refine EQ.mk ?_ ?_)|(with_reducible exact Zg)|(with_reducible refine Zj ?_)|((with_reducible apply Zb hs);exact Ii;rfl;(with_reducible repeat first|exact Qh|apply Qk);rfl;rfl;simp only[Uc,Uz])|(go_at_call 144;(refine(hL.out).at hs (by with_reducible repeat first|exact Qh|apply Qk) ?_;clear hs;intro w hs;(try simp only[Em,Ma]at hs)))|(go_at_call 177;(replace hs:=ZA (hs.fin (by (with_reducible repeat first|exact Ql|exact Qh|apply Qb|apply Qk))));(replace hs:=QG (s:=⟨s1,n,0,s4,s5,s6,s7,s8⟩) (hs.fin (by (with_reducible repeat first|exact Ql|exact Qh|apply Qb|apply Qk))));((refine(HN.out).at hs (by (focus with_reducible (repeat first|exact Qh|apply Qb);done)) ?_);clear hs;intro w hs;(try simp only[Em,Ma]at hs)))|((with_reducible refine Wp (id:=11) (Paz (Pbz [.eff 10 [],.neu 11])) hs rfl ?_ ?_);kernel_rfl;clear hs;intro w hs))
  go_ret
  refine⟨rfl,?_⟩
  simp only[Ma]
  ((with_reducible apply Sat.fin hs);(with_reducible exact Ql))
 ·have hu':(u==1)=false:=by simpa using hu
  have HU:=Lh hu;clear hu
  simp only[if_neg HU.out]
  go_enter Tryz.func176,Tryz.ntmps176
  go_wp2_with (first|(with_reducible refine NQ.mk ?_)|((with_reducible apply Zi);rfl;rfl)|((with_reducible apply Zo);rfl)|(with_reducible refine EQ.mk ?_ ?_)|(with_reducible exact Zg)|(with_reducible refine Zj ?_)|((with_reducible apply Zb hs);exact Ii;rfl;(with_reducible repeat first|exact Qh|apply Qk);rfl;rfl;simp only[Uc,Uz])|((with_reducible apply Zv hs);exact Ii;rfl;rfl;(with_reducible repeat first|exact Qh|apply Qk);rfl;exact Vb rfl;rfl;clear hs;intro w hs;simp only[Yg,Uc,Uz]at hs)|(go_at_call 144;(refine(hL.out).at hs (by with_reducible repeat first|exact Qh|apply Qk) ?_;clear hs;intro w hs;(try simp only[Em,Ma]at hs)))|((with_reducible refine Wp (id:=11) (Paz (Pbz [.eff 10 [],.neu 11])) hs rfl ?_ ?_);kernel_rfl;clear hs;intro w hs))
  go_ret
  refine⟨rfl,?_⟩
  simp only[Ma]
  (replace hs:=ZA (hs.fin (by (with_reducible repeat first|exact Ql|exact Qh|apply Qb|apply Qk))))
  apply QG (vn:=vn) (vp:=vp) (vg:=vg)
  (with_reducible apply Sat.fin hs;repeat first|exact Ql|exact Qh|apply Qb|apply Qk)
def Jj (h:Haz)(m:Mch)(s:Scn):Bool×Mch×Scn:=
 ((Zy h s).1,m.store (adr h.c 8 s.at_) (m.word (adr h.c 8 s.at_)) 0,(Zy h s).2)
theorem scan_leave (gs bh ba d bx bm:Nat)(h:Haz)(m:Mch)(a:Are)(s:Scn)(n:Nat)(x:List Int)(hst:s.stage=2)(hn:s.record=(n:Int))(hx:h.lists[n]? = some x)(ok:AOk a m)(hc:h.c=a.c)(a0:0≤s.at_)(a1:s.at_<h.c.R) :
  Zk Tryz.prog 176 #[.pointer (some ⟨gs,0,none⟩),.pointer (some ⟨d,0,none⟩)] (ScnR gs bh ba s*(HazR bh ba h*DkR d bx bm m)) (.bool (Jj h m s).1) (ScnR gs bh ba (Jj h m s).2.2*(HazR bh ba h*DkR d bx bm (Jj h m s).2.1)):=by
 intro O w F hs
 simp only[Ma]at hs
 obtain⟨s1,s2,s3,s4,s5,s6,s7,s8⟩:=s
 simp only[]at hn hst a0 a1
 subst hn hst
 have hOk:h.c.Ok:=hc▸ok.c
 have hR:=hOk.R2
 have hN:=scan_next gs bh ba h ⟨s1,n,2,s4,s5,s6,s7,s8⟩ n x rfl hx ⟨by simp;omega,by simp;omega⟩ hR
 have hm:m.May (adr h.c 8 s4):=by rw[hc];exact ok.may (by omega) (by omega) (in_active a0 (hc▸a1))
 have hL:=Lh (Z7 d bx bm m _ _ 0 hm.acs)
 have he:=adr_eq hOk 8 a0
 obtain⟨b0,b1⟩:=ZD hOk 8
 unfold Jj
 simp only[]
 generalize Zy h ⟨s1,n,2,s4,s5,s6,s7,s8⟩=r at hN ⊢
 obtain⟨r1,r2⟩:=r
 have HN:=Lh hN;clear hN
 obtain⟨vn,vp,vg,hs⟩:=scnR.1 hs
 simp only[]at hs
 have n1:decide ((n:Int)<0)=false:=by simp
 replace hs:=hs.pull (A:=HazR bh ba h) (by (with_reducible repeat first|exact Qh|apply Qk))
 (obtain⟨vhh,vhl,hs⟩:=hazR.1 hs)
 clear hm hc ok hx
 generalize m.word (adr h.c 8 s4)=u at hL ⊢
 go_enter Tryz.func176,Tryz.ntmps176
 go_wp2_with (first|(with_reducible refine NQ.mk ?_)|((with_reducible apply Zi);rfl;rfl)|((with_reducible apply Zo);rfl)|(with_reducible refine EQ.mk ?_ ?_)|(with_reducible exact Zg)|(with_reducible refine Zj ?_)|((with_reducible apply Zb hs);exact Ii;rfl;(with_reducible repeat first|exact Qh|apply Qk);rfl;rfl;simp only[Uc,Uz])|(go_at_call 141;(refine(hL.out).at hs (by with_reducible repeat first|exact Qh|apply Qk) ?_;clear hs;intro w hs;(try simp only[Em,Ma]at hs)))|(go_at_call 177;(replace hs:=ZA (hs.fin (by (with_reducible repeat first|exact Ql|exact Qh|apply Qb|apply Qk))));(replace hs:=QG (s:=⟨s1,n,2,s4,s5,s6,s7,s8⟩) (hs.fin (by (with_reducible repeat first|exact Ql|exact Qh|apply Qb|apply Qk))));((refine(HN.out).at hs (by (focus with_reducible (repeat first|exact Qh|apply Qb);done)) ?_);clear hs;intro w hs;(try simp only[Em,Ma]at hs)))|((with_reducible refine Wp (id:=19) (Paz (Pbz [.eff 10 []])) hs rfl ?_ ?_);kernel_rfl;clear hs;intro w hs))
 go_ret
 refine⟨rfl,?_⟩
 simp only[Ma]
 ((with_reducible apply Sat.fin hs);(with_reducible exact Ql))
end
section
theorem stars_two {E:TypeId}:∀ {xss:List (List Int)} {vs:List Value} {i j:Nat} {x y:List Int} {u v:Value},i≠j→xss[i]? = some x→xss[j]? = some y→vs[i]? = some u→vs[j]? = some v →
  ∃R,Jd E xss vs=sl E 1 (x.map fun z=>[.int .i64 z]) u*(sl E 1 (y.map fun z=>[.int .i64 z]) v*R) ∧
   ∀x' y' u' v',Jd E ((xss.set i x').set j y') ((vs.set i u').set j v')=sl E 1 (x'.map fun z=>[.int .i64 z]) u'*(sl E 1 (y'.map fun z=>[.int .i64 z]) v'*R)
 | [],_,_,_,_,_,_,_,_,h,_,_,_=>by simp at h
 | _::_,[],_,_,_,_,_,_,_,_,_,h,_=>by simp at h
 | a::xss,b::vs,0,0,_,_,_,_,h,_,_,_,_=>absurd rfl h
 | a::xss,b::vs,0,j+1,x,y,u,v,_,h1,h2,h3,h4=>by
  simp only[Uf,Option.some.injEq,Ue]at h1 h2 h3 h4
  subst h1 h3
  refine⟨Jd E (xss.eraseIdx j) (vs.eraseIdx j),?_,?_⟩
  ·simp only[Jd];rw[stars_at h2 h4]
  ·intro x' y' u' v'
   have l1:=(List.getElem?_eq_some_iff.1 h2).1
   have l2:=(List.getElem?_eq_some_iff.1 h4).1
   simp only[Uz,Uc,Jd]
   rw[stars_at (xss:=xss.set j y') (vs:=vs.set j v') (i:=j) (x:=y') (v:=v') (by simp[l1]) (by simp[l2]),List.eraseIdx_set_eq,List.eraseIdx_set_eq]
 | a::xss,b::vs,i+1,0,x,y,u,v,_,h1,h2,h3,h4=>by
  simp only[Uf,Option.some.injEq,Ue]at h1 h2 h3 h4
  subst h2 h4
  refine⟨Jd E (xss.eraseIdx i) (vs.eraseIdx i),?_,?_⟩
  ·simp only[Jd];rw[stars_at h1 h3,QN]
  ·intro x' y' u' v'
   have l1:=(List.getElem?_eq_some_iff.1 h1).1
   have l2:=(List.getElem?_eq_some_iff.1 h3).1
   simp only[Uz,Uc,Jd]
   rw[stars_at (xss:=xss.set i x') (vs:=vs.set i u') (i:=i) (x:=x') (v:=u') (by simp[l1]) (by simp[l2]),List.eraseIdx_set_eq,List.eraseIdx_set_eq,QN]
 | a::xss,b::vs,i+1,j+1,x,y,u,v,h,h1,h2,h3,h4=>by
  simp only[Ue]at h1 h2 h3 h4
  obtain⟨R,e1,e2⟩:=stars_two (E:=E) (by omega:i≠j) h1 h2 h3 h4
  refine⟨sl E 1 (a.map fun z=>[.int .i64 z]) b*R,?_,?_⟩
  ·simp only[Jd];rw[e1];ac_rfl
  ·intro x' y' u' v'
   simp only[Uc,Jd];rw[e2];ac_rfl
theorem hazT2 {O w:World}{b ba:Nat}{h:Haz}{R:Zc}{i j:Nat}{x y:List Int}(hs:Sat O w (HazR b ba h*R))(hij:i≠j)(hi:h.lists[i]? = some x)(hj:h.lists[j]? = some y):∃(vh vl:Value) (us:List Value) (u v:Value) (R2:Zc),us.length=h.lists.length∧us[i]? = some u∧us[j]? = some v ∧
  Sat O w (pt b (.cells #[.pointer (some ⟨ba,0,none⟩),.int .i64 h.c.T,.int .i64 h.c.R,.int .i64 h.c.Hz,.int .i64 h.c.Rt,.int .i64 h.c.Ca,.int .i64 h.c.Sl,.int .i64 h.c.Bu,vh,vl,.int .i64 (base h.c 8),.int .i64 (base h.c 9),.int .i64 (base h.c 2),.int .i64 (base h.c 11)] 68)*(sl 3 1 (h.held.map eI) vh *
   (sl 33 1 (us.map fun u=>[u]) vl*(sl 3 1 (x.map eI) u*(sl 3 1 (y.map eI) v*(R2*R)))))) ∧
  ∀(O' w':World) (R':Zc) (x' y':List Int) (xc yc:List (List Value)) (u' v':Value),Sat O' w' (pt b (.cells #[.pointer (some ⟨ba,0,none⟩),.int .i64 h.c.T,.int .i64 h.c.R,.int .i64 h.c.Hz,.int .i64 h.c.Rt,.int .i64 h.c.Ca,.int .i64 h.c.Sl,.int .i64 h.c.Bu,vh,vl,.int .i64 (base h.c 8),.int .i64 (base h.c 9),.int .i64 (base h.c 2),.int .i64 (base h.c 11)] 68)*(sl 3 1 (h.held.map eI) vh *
   (sl 33 1 (((us.map fun u=>[u]).set i [u']).set j [v']) vl*(sl 3 1 xc u'*(sl 3 1 yc v'*(R2*R'))))))→xc=x'.map eI→yc=y'.map eI→Sat O' w' (HazR b ba { h with lists:=(h.lists.set i x').set j y' }*R'):=by
 obtain⟨vh,vl,hs⟩:=hazR.1 hs
 obtain⟨us,hl,hs⟩:=nest_iff.1 (hs.pull (A:=nest 33 3 h.lists vl) (by (with_reducible repeat first|exact Qh|apply Qk)))
 have li:=(List.getElem?_eq_some_iff.1 hi).1
 have lj:=(List.getElem?_eq_some_iff.1 hj).1
 obtain⟨R2,e1,e2⟩:=stars_two (E:=3) (vs:=us) hij hi hj (show us[i]? = some us[i] by simp) (show us[j]? = some us[j] by simp)
 refine⟨vh,vl,us,us[i],us[j],R2,hl,by simp,by simp,?_,?_⟩
 ·rw[e1]at hs
  simp only[Ma]at hs
  (with_reducible apply Sat.fin hs;repeat first|exact Ql|exact Qh|apply Qb|apply Qk)
 ·intro O' w' R' x' y' xc yc u' v' hs hx hy
  subst hx hy
  apply ZA
  have e3:((us.map fun u=>[u]).set i [u']).set j [v']=((us.set i u').set j v').map fun u=>[u]:=by simp
  rw[e3]at hs
  have:Sat O' w' (nest 33 3 ((h.lists.set i x').set j y') vl*(pt b (.cells #[.pointer (some ⟨ba,0,none⟩),.int .i64 h.c.T,.int .i64 h.c.R,.int .i64 h.c.Hz,.int .i64 h.c.Rt,.int .i64 h.c.Ca,.int .i64 h.c.Sl,.int .i64 h.c.Bu,vh,vl,.int .i64 (base h.c 8),.int .i64 (base h.c 9),.int .i64 (base h.c 2),.int .i64 (base h.c 11)] 68)*(sl 3 1 (h.held.map eI) vh*R'))):=by
   refine nest_iff.2 ⟨(us.set i u').set j v',by simp[hl],?_⟩
   rw[e2]
   simp only[Ma]
   (with_reducible apply Sat.fin hs;repeat first|exact Ql|exact Qh|apply Qb|apply Qk)
  have hs:=this
  (with_reducible apply Sat.fin hs;repeat first|exact Ql|exact Qh|apply Qb|apply Qk)
def QJ (h:Haz)(m:Mch)(s:Scn):Bool×Haz×Mch×Scn:=
 let A:=adr h.c 8 s.at_
 if m.word A=0 then (false,{ h with lists:=(h.lists.set s.record.toNat (h.lists.getD s.record.toNat []++h.lists.getD s.at_.toNat [])).set s.at_.toNat [] },m.swap A (m.word A) 0 1,{ s with stage:=2 })
 else ((Zy h s).1,h,m.swap A (m.word A) 0 1,(Zy h s).2)
theorem scan_take (gs bh ba d bx bm:Nat)(hz:Haz)(m:Mch)(a:Are)(s:Scn)(n k:Nat)(x y:List Int)(hst:s.stage=1)(hn:s.record=(n:Int))(hk:s.at_=(k:Int))(hnk:n≠k)(hx:hz.lists[n]? = some x)(hy:hz.lists[k]? = some y)(ok:AOk a m)(hc:hz.c=a.c)(a1:s.at_<hz.c.R)(hl:x.length+y.length<4294967296) :
  Zk Tryz.prog 176 #[.pointer (some ⟨gs,0,none⟩),.pointer (some ⟨d,0,none⟩)] (ScnR gs bh ba s*(HazR bh ba hz*DkR d bx bm m)) (.bool (QJ hz m s).1) (ScnR gs bh ba (QJ hz m s).2.2.2*(HazR bh ba (QJ hz m s).2.1*DkR d bx bm (QJ hz m s).2.2.1)):=by
 intro O w F hs
 simp only[Ma]at hs
 obtain⟨s1,s2,s3,s4,s5,s6,s7,s8⟩:=s
 simp only[]at hn hst hk a1
 subst hn hst hk
 have hOk:hz.c.Ok:=hc▸ok.c
 have hR:=hOk.R2
 have a0:(0:Int)≤(k:Int):=by omega
 have hN:=scan_next gs bh ba hz ⟨s1,n,1,k,s5,s6,s7,s8⟩ n x rfl hx ⟨by show(-1:Int)≤k;omega,by show(k:Int)≤16;omega⟩ hR
 have hm:m.May (adr hz.c 8 k):=by rw[hc];exact ok.may (by omega) (by omega) (in_active a0 (hc▸a1))
 have hL:=Jl d bx bm m _ _ 0 1 hm.acs
 have he:=adr_eq hOk 8 a0
 obtain⟨b0,b1⟩:=ZD hOk 8
 have hxd:hz.lists.getD n []=x:=by simp[Yb,hx]
 have hyd:hz.lists.getD k []=y:=by simp[Yb,hy]
 unfold QJ
 simp only[Yo,hxd,hyd]
 generalize Zy hz ⟨s1,n,1,k,s5,s6,s7,s8⟩=r at hN ⊢
 obtain⟨r1,r2⟩:=r
 have HN:=Lh hN;clear hN
 obtain⟨vn,vp,vg,hs⟩:=scnR.1 hs
 simp only[]at hs
 have n1:decide ((n:Int)<0)=false:=by simp
 replace hs:=hs.pull (A:=HazR bh ba hz) (by (with_reducible repeat first|exact Qh|apply Qk))
 have lx:=(List.getElem?_eq_some_iff.1 hx).1
 have ly:=(List.getElem?_eq_some_iff.1 hy).1
 clear hm hc ok hxd hyd
 by_cases hu:m.word (adr hz.c 8 k)=0
 ·have hu':decide (m.word (adr hz.c 8 k)=0)=true:=by simpa using hu
  rw[hu']at hL
  have HL:=Lh hL;clear hL hu'
  simp only[if_pos hu]
  have HU:=Lh hu;clear hu
  obtain⟨vh,vl,us,uu,uv,R2,e1,e2,e3,hs,hback⟩:=hazT2 hs hnk hx hy
  have HB:=Lh hback;clear hback
  have l1:n<us.length:=by omega
  have l2:k<us.length:=by omega
  have hnk2:(n==k)=false:=by simpa using hnk
  have E4:Hid (∀z,((us.map fun u=>[u]).set n z)[k]? = some [uv]):=Lh (fun z=>by rw[Yf hnk];simp[e3])
  clear hx hy
  have HNK:=Lh hnk;clear hnk hnk2
  have hs2:=sl_nil (E:=3) (sz:=1) hs (by omega)
  clear hs;have hs:=hs2;clear hs2
  go_enter Tryz.func176,Tryz.ntmps176
  go_wp2_with (first|(with_reducible first|apply NQ.mk|apply EQ.mk|exact Zg|apply Zj)|((with_reducible apply Zi);rfl;rfl)|((with_reducible apply Zo);rfl)|((with_reducible refine Zn ?_ ?_);focus((with_reducible apply ZI);rfl;rfl))|(show Qd _ _ _;rfl)|((with_reducible apply Zb hs);exact Ii;rfl;(with_reducible repeat first|exact Qh|apply Qk);rfl;rfl;simp only[Uc,Uz])|((with_reducible apply Zv hs);exact Ii;rfl;rfl;(with_reducible repeat first|exact Qh|apply Qk);rfl;exact Vb rfl;rfl;clear hs;intro w hs;simp only[Yg,Uc,Uz]at hs)|((with_reducible apply ZE hs);exact Ii;rfl;assumption;(with_reducible repeat first|exact Qh|apply Qk);rfl;(exact Ze (by assumption));rfl;rfl;simp only[Uc,Uz])|((with_reducible apply QO hs);exact Ii;rfl;rfl;assumption;(with_reducible repeat first|exact Qh|apply Qk);rfl;(exact Ze (by assumption));exact Vb rfl;(apply QS;apply hs.pull;(with_reducible exact Qh));rfl;clear hs;intro w hs)|((with_reducible apply Jv hs);exact Ii;exact Ii;rfl;assumption;rfl;(with_reducible repeat first|exact Qh|apply Qk);rfl;(simp only[Wm,Ws,Wa,Wc,Wn,Wr]at *;omega);rfl;simp only[Uc,Uz])|((with_reducible apply Qe hs);exact Ii;exact Ii;rfl;rfl;(with_reducible repeat first|exact Qh|apply Qk);rfl;(simp only[Wm,Ws,Wa,Wc,Wn,Wr]at *;omega);rfl;intro b off hat;simp only[Uc,Uz])|((with_reducible apply JA hs);exact Ii;exact Ii;rfl;rfl;(focus with_reducible (repeat first|exact Qh|apply Qk);done);(with_reducible repeat first|exact Qh|apply Qk);(simp only[Wm,Ws,Wa,Wc,Wn,Wr]at *;omega);exact Vb rfl;rfl;clear hs;intro w v hs;simp only[Uc,Uz])|((with_reducible apply QO hs);exact Ii;rfl;rfl;assumption;(with_reducible exact Qh);rfl;exact E4.out _;exact Vb rfl;rfl;rfl;clear hs;intro w hs)|(go_at_call 146;(refine(HL.out).at hs (by with_reducible repeat first|exact Qh|apply Qk) ?_;clear hs;intro w hs;(try simp only[Em,Ma]at hs)))|((with_reducible refine Wp (id:=14) (Paz (Pbz [.eff 10 [],.neu 11])) hs rfl ?_ ?_);kernel_rfl;clear hs;intro w hs)|((with_reducible refine Wp (id:=16) (Paz (Pbz (Pcz (Pdz (Pez [.neu 25,.neu 26,.neu 27,.eff 28 [0,1,2,3,4,5,6,7],.neu 29,.eff 30 []]))))) hs rfl ?_ ?_);kernel_rfl;clear hs;intro w hs)|((with_reducible refine Wp (id:=17) (Paz [.neu 5,.neu 6,.neu 7,.neu 8,.eff 9 []]) hs rfl ?_ ?_);kernel_rfl;clear hs;intro w hs))
  go_ret
  refine⟨rfl,?_⟩
  simp only[Ma]
  replace hs:=HB.out _ _ _ (x++y) [] _ _ _ _ (hs.fin (by (focus((repeat(first|with_reducible exact Ql|with_reducible exact Qh|with_reducible apply Qb|exact Qh|with_reducible apply Qk));done)))) (by simp) rfl
  apply QG (vn:=vn) (vp:=vp) (vg:=vg)
  (with_reducible apply Sat.fin hs;repeat first|exact Ql|exact Qh|apply Qb|apply Qk)
 ·have hu':decide (m.word (adr hz.c 8 k)=0)=false:=by simpa using hu
  rw[hu']at hL
  have HL:=Lh hL;clear hL hu'
  simp only[if_neg hu]
  clear hu hx hy
  (obtain⟨vhh,vhl,hs⟩:=hazR.1 hs)
  go_enter Tryz.func176,Tryz.ntmps176
  go_wp2_with (first|(with_reducible refine NQ.mk ?_)|((with_reducible apply Zi);rfl;rfl)|((with_reducible apply Zo);rfl)|(with_reducible refine EQ.mk ?_ ?_)|(with_reducible exact Zg)|(with_reducible refine Zj ?_)|((with_reducible apply Zb hs);exact Ii;rfl;(with_reducible repeat first|exact Qh|apply Qk);rfl;rfl;simp only[Uc,Uz])|(go_at_call 146;(refine(HL.out).at hs (by with_reducible repeat first|exact Qh|apply Qk) ?_;clear hs;intro w hs;(try simp only[Em,Ma]at hs)))|(go_at_call 177;(replace hs:=ZA (hs.fin (by (with_reducible repeat first|exact Ql|exact Qh|apply Qb|apply Qk))));(replace hs:=QG (s:=⟨s1,n,1,k,s5,s6,s7,s8⟩) (hs.fin (by (with_reducible repeat first|exact Ql|exact Qh|apply Qb|apply Qk))));((refine(HN.out).at hs (by (focus with_reducible (repeat first|exact Qh|apply Qb);done)) ?_);clear hs;intro w hs;(try simp only[Em,Ma]at hs)))|((with_reducible refine Wp (id:=14) (Paz (Pbz [.eff 10 [],.neu 11])) hs rfl ?_ ?_);kernel_rfl;clear hs;intro w hs))
  go_ret
  refine⟨rfl,?_⟩
  simp only[Ma]
  ((with_reducible apply Sat.fin hs);(with_reducible exact Ql))
end
section
def Qi (c:Int→Int)(k:Int):Int→Int:=fun x=>if x=k then c k+1 else c x
theorem named_add {f:Int→Option Value}{c:Int→Int}(h:∀k,(f k).getD (.int .i64 0)=.int .i64 (c k))(z:Int):∀k,((fun x=>if x=z then some (.int .i64 (c z+1)) else f x) k).getD (.int .i64 0)=.int .i64 (Qi c z k):=by
 intro k
 unfold Qi
 by_cases hk:k=z
 ·simp[hk]
 ·simp[hk,h k]
def Qq (h:Haz)(m:Mch)(s:Scn):Mch×Scn:=
 let A:=(base h.c 9+s.at_).toNat
 (m.load A (m.word A),{ s with named:=Qi s.named (m.word A-1),at_:=s.at_+1 })
def QU (h:Haz)(a:Are)(m:Mch)(s:Scn):Bool×Haz×Are×Mch×Scn:=
 let m1:=(Qq h m s).1
 let s1:=(Qq h m s).2
 if s1.at_<h.c.R*h.c.Hz then (false,h,a,m1,s1)
 else
  let h2:=(QC h s1).1
  let s2:=(QC h s1).2
  let f:=Zu s2.thread s2.pending s2.give a m1
  (f.1,h2,f.2.2.2.1,f.2.2.2.2,{ s2 with stage:=ZK f.1,pending:=f.2.1,give:=f.2.2.1 })
structure LookOk (h:Haz)(a:Are)(m:Mch)(s:Scn)(n t:Nat)(x:List Int):Prop where
 stage:s.stage=3
 rec_:s.record=(n:Int)
 thr:s.thread=(t:Int)
 at_list:h.lists[n]? = some x
 ok:AOk a m
 c:h.c=a.c
 a0:0≤s.at_
 a1:s.at_<h.c.R*h.c.Hz
 map:s.hasMap=true
 pend:s.pending=[]
 len:x.length<1000000
 ins:∀z∈x,0≤z∧z<a.slots.length
 cache:∃y,a.caches[t]? = some y∧y.length<1000000
 sh:m.shifts.length<1000000000
 w0:0≤m.word (base h.c 9+s.at_).toNat
 w1:m.word (base h.c 9+s.at_).toNat≤2147483647
 n0:∀k,0≤s.named k∧s.named k≤1000
theorem base9 {c:Cfg}(h:c.Ok){i:Int}(h0:0≤i)(h1:i<c.R*c.Hz):(base c 9+i).toNat<(base c 14).toNat∧base c 9+i=((base c 9+i).toNat:Int):=by
 have e:=base_succ c 9 (by omega)
 have:=base_mono h 10 4 (by omega)
 rw[show(10+4)=14 by omega]at this
 have hb:=(ZD h 9).1
 have h1':i<many c 9:=h1
 clear h1
 rw[show(9+1)=10 by omega]at e
 constructor<;>omega
set_option maxHeartbeats 4000000 in
theorem scan_look (gs bh ba d bx bm:Nat)(h:Haz)(a:Are)(m:Mch)(s:Scn)(n t:Nat)(x:List Int)(ok:LookOk h a m s n t x) :
  Zk Tryz.prog 176 #[.pointer (some ⟨gs,0,none⟩),.pointer (some ⟨d,0,none⟩)] (ScnR gs bh ba s*(HazR bh ba h*(AreR ba a*DkR d bx bm m))) (.bool (QU h a m s).1)
   (ScnR gs bh ba (QU h a m s).2.2.2.2*(HazR bh ba (QU h a m s).2.1*(AreR ba (QU h a m s).2.2.1*DkR d bx bm (QU h a m s).2.2.2.1))):=by
 intro O w F hs
 simp only[Ma]at hs
 obtain⟨s1,s2,s3,s4,s5,s6,s7,s8⟩:=s
 obtain⟨e1,e2,e3,hx,aok,hc,a0,a1,e4,e5,hlen,hins,⟨y,hy,hyl⟩,hsh,w0,w1,hnm⟩:=ok
 simp only[]at e1 e2 e3 a0 a1 e4 e5 w0 w1 hnm
 subst e1 e2 e3 e4 e5
 have hOk:h.c.Ok:=hc▸aok.c
 obtain⟨hlt9,he⟩:=base9 hOk a0 a1
 unfold QU Qq
 simp only[]
 generalize (base h.c 9+s4).toNat=ad at *
 have hm:m.May ad:=⟨aok.used,by rw[aok.words,←hc];exact hlt9,aok.log,aok.ahead⟩
 have hL:=Lh (Qt d bx bm m _ _ hm.acs)
 obtain⟨b0,b1⟩:=ZD hOk 9
 obtain⟨rh0,rh1⟩:=hOk.rh
 have hw:wrap64 (h.c.R*h.c.Hz)=h.c.R*h.c.Hz:=by unfold wrap64;omega
 have n1:decide ((n:Int)<0)=false:=by simp
 obtain⟨u,hu⟩:∃u,u=m.word ad:=⟨_,rfl⟩
 obtain⟨m1,hm1⟩:∃m1,m1=m.load ad u:=⟨_,rfl⟩
 rw[←hu]at hL w0 w1 ⊢
 rw[←hm1]at hL ⊢
 have hU:=Lh (Ju u w0 w1)
 obtain⟨c0,c1⟩:=hnm (u-1)
 have hS:=scan_split gs bh ba h ⟨t,n,3,s4+1,true,Qi s6 (u-1),[],s8⟩ n x rfl hx rfl (by show(0:Nat)+x.length<_;omega)
 have hFr:FreeOk t ([]++x.filter (Z5 (Qi s6 (u-1)))) a m1:=by
  have hfl:=List.length_filter_le (Z5 (Qi s6 (u-1))) x
  refine⟨⟨y,hy,by simp;omega⟩,fun z hz=>hins z (List.mem_filter.1 (by simpa using hz)).1,?_⟩
  rw[hm1]
  show m.shifts.length+_<_
  simp;omega
 have hxd:h.lists.getD n []=x:=by simp[Yb,hx]
 have hF:=scan_free gs bh ba d bx bm (QC h ⟨t,n,3,s4+1,true,Qi s6 (u-1),[],s8⟩).1 a m1 (QC h ⟨t,n,3,s4+1,true,Qi s6 (u-1),[],s8⟩).2 t rfl (by
  show FreeOk t ([]++(h.lists.getD (n:Int).toNat []).filter _) a m1
  rw[Yo,hxd];exact hFr)
 clear hFr hxd hsh hlen hins hy hyl hm1 hu hnm hm hlt9 hx
 generalize QC h ⟨t,n,3,s4+1,true,Qi s6 (u-1),[],s8⟩=r at hS hF ⊢
 obtain⟨h2,sc2⟩:=r
 simp only[]at hS hF ⊢
 generalize Zu sc2.thread sc2.pending sc2.give a m1=fr at hF ⊢
 obtain⟨f1,f2,f3,f4,f5⟩:=fr
 simp only[]at hF ⊢
 have HS:=Lh hS;have HF:=Lh hF;clear hS hF
 obtain⟨vn,vp,vg,hs⟩:=scnR.1 hs
 simp only[]at hs
 obtain⟨f,hf,hs⟩:=named_get.1 (hs.pull (A:=namedR true s6 vn) (by (with_reducible repeat first|exact Qh|apply Qk)))
 obtain⟨r0,rfl⟩:=mp_some hs
 have hfz:=hf (u-1)
 obtain⟨f9,hf9,HFN⟩:∃f9:Int→Option Value,Hid ((fun x=>if x=u-1 then some (.int .i64 (s6 (u-1)+1)) else f x)=f9)∧Hid (∀k,(f9 k).getD (.int .i64 0)=.int .i64 (Qi s6 (u-1) k)):=⟨_,Lh rfl,Lh (named_add hf (u-1))⟩
 clear hf
 replace hs:=hs.pull (A:=HazR bh ba h) (by (with_reducible repeat first|exact Qh|apply Qk))
 (obtain⟨vhh,vhl,hs⟩:=hazR.1 hs)
 have hc':=Lh hc;clear hc aok
 generalize Qi s6 (u-1)=nm9 at *
 generalize s6 (u-1)=c9 at *
 by_cases hlt:s4+1<h.c.R*h.c.Hz
 ·have hd:decide (s4+1<h.c.R*h.c.Hz)=true:=by simpa using hlt
  have HLT:=Lh hlt;clear hlt
  simp only[if_pos HLT.out]
  go_enter Tryz.func176,Tryz.ntmps176
  go_wp2_with (first|(with_reducible refine NQ.mk ?_)|((with_reducible apply Zi);rfl;rfl)|((with_reducible apply Zo);rfl)|(with_reducible refine EQ.mk ?_ ?_)|(with_reducible exact Zg)|(with_reducible refine Zj ?_)|((with_reducible apply Zb hs);exact Ii;rfl;(with_reducible repeat first|exact Qh|apply Qk);rfl;rfl;simp only[Uc,Uz])|((with_reducible apply Zv hs);exact Ii;rfl;rfl;(with_reducible repeat first|exact Qh|apply Qk);rfl;exact Vb rfl;rfl;clear hs;intro w hs;simp only[Yg,Uc,Uz]at hs)|(first|((with_reducible apply wl_lk hs);exact Ii;rfl;rfl;(with_reducible repeat first|exact Qh|apply Qk);(assumption);rfl;simp only[Uc,Uz])|((with_reducible apply wl_mu hs);exact Ii;rfl;rfl;rfl;(with_reducible repeat first|exact Qh|apply Qk);rfl;clear hs;intro w hs))|(go_at_call 144;(refine(hL.out).at hs (by with_reducible repeat first|exact Qh|apply Qk) ?_;clear hs;intro w hs;(try simp only[Em,Ma]at hs)))|(go_at_call 156;((refine(hU.out).at hs (by (focus((repeat(with_reducible exact Qn));done))) ?_);clear hs;intro w hs;(try simp only[Em,Ma]at hs)))|((with_reducible refine Wp (id:=21) (Paz (Pbz [.eff 10 [],.eff 11 [],.neu 12,.neu 13,.neu 14,.neu 15,.neu 16,.neu 17,.neu 18])) hs rfl ?_ ?_);kernel_rfl;clear hs;intro w hs)|((with_reducible refine Wp (id:=24) (Paz (Pbz (Pcz [.neu 15]))) hs rfl ?_ ?_);kernel_rfl;clear hs;intro w hs))
  go_ret
  refine⟨rfl,?_⟩
  simp only[Ma]
  rw[hf9.out]at hs
  (replace hs:=named_get.2 ⟨f9,HFN.out,hs.pull (A:=mp .i64 f9 (.map (some r0))) (by (with_reducible repeat first|exact Qh|apply Qk))⟩)
  (replace hs:=ZA (hs.fin (by (with_reducible repeat first|exact Ql|exact Qh|apply Qb|apply Qk))))
  apply QG (vn:=.map (some r0)) (vp:=vp) (vg:=vg)
  (with_reducible apply Sat.fin hs;repeat first|exact Ql|exact Qh|apply Qb|apply Qk)
 ·have hd:decide (s4+1<h.c.R*h.c.Hz)=false:=by simpa using hlt
  have HLT:=Lh hlt;clear hlt
  simp only[if_neg HLT.out]
  go_enter Tryz.func176,Tryz.ntmps176
  go_wp2_with (first|(with_reducible refine NQ.mk ?_)|((with_reducible apply Zi);rfl;rfl)|((with_reducible apply Zo);rfl)|(with_reducible refine EQ.mk ?_ ?_)|(with_reducible exact Zg)|(with_reducible refine Zj ?_)|((with_reducible apply Zb hs);exact Ii;rfl;(with_reducible repeat first|exact Qh|apply Qk);rfl;rfl;simp only[Uc,Uz])|((with_reducible apply Zv hs);exact Ii;rfl;rfl;(with_reducible repeat first|exact Qh|apply Qk);rfl;exact Vb rfl;rfl;clear hs;intro w hs;simp only[Yg,Uc,Uz]at hs)|(first|((with_reducible apply wl_lk hs);exact Ii;rfl;rfl;(with_reducible repeat first|exact Qh|apply Qk);(assumption);rfl;simp only[Uc,Uz])|((with_reducible apply wl_mu hs);exact Ii;rfl;rfl;rfl;(with_reducible repeat first|exact Qh|apply Qk);rfl;clear hs;intro w hs))|(go_at_call 144;(refine(hL.out).at hs (by with_reducible repeat first|exact Qh|apply Qk) ?_;clear hs;intro w hs;(try simp only[Em,Ma]at hs)))|(go_at_call 156;((refine(hU.out).at hs (by (focus((repeat(with_reducible exact Qn));done))) ?_);clear hs;intro w hs;(try simp only[Em,Ma]at hs)))|(go_at_call 178;rw[hf9.out]at hs;(replace hs:=named_get.2 ⟨f9,HFN.out,hs.pull (A:=mp .i64 f9 (.map (some r0))) (by (with_reducible repeat first|exact Qh|apply Qk))⟩);(replace hs:=ZA (hs.fin (by (with_reducible repeat first|exact Ql|exact Qh|apply Qb|apply Qk))));(replace hs:=QG (s:=⟨t,n,3,s4+1,true,nm9,[],s8⟩) (hs.fin (by (with_reducible repeat first|exact Ql|exact Qh|apply Qb|apply Qk))));((refine(HS.out).at hs (by (focus with_reducible (repeat first|exact Qh|apply Qb);done)) ?_);clear hs;intro w hs;(try simp only[Em,Ma]at hs)))|(go_at_call 179;(refine(HF.out).at hs (by with_reducible repeat first|exact Qh|apply Qb|apply Qk) ?_;clear hs;intro w hs;(try simp only[Em,Ma]at hs)))|((with_reducible refine Wp (id:=21) (Paz (Pbz [.eff 10 [],.eff 11 [],.neu 12,.neu 13,.neu 14,.neu 15,.neu 16,.neu 17,.neu 18])) hs rfl ?_ ?_);kernel_rfl;clear hs;intro w hs)|((with_reducible refine Wp (id:=24) (Paz (Pbz (Pcz [.neu 15]))) hs rfl ?_ ?_);kernel_rfl;clear hs;intro w hs))
  go_ret
  refine⟨rfl,?_⟩
  simp only[Ma]
  ((with_reducible apply Sat.fin hs);(with_reducible exact Ql))
def QK (h:Haz)(a:Are)(m:Mch)(s:Scn)(p:Psh):Bool×Are×Mch×Scn:=
 let q:=Za a m p
 if q.1=true then
  let f:=Zu s.thread s.pending (some q.2.2.2) q.2.1 q.2.2.1
  (f.1,f.2.2.2.1,f.2.2.2.2,{ s with stage:=ZK f.1,pending:=f.2.1,give:=f.2.2.1 })
 else (false,q.2.1,q.2.2.1,{ s with give:=some q.2.2.2 })
theorem scan_give (gs bh ba d bx bm:Nat)(h:Haz)(a:Are)(m:Mch)(s:Scn)(p:Psh)(n t:Nat)(hst:s.stage=5)(hn:s.record=(n:Int))(ht:s.thread=(t:Int))(hg:s.give=some p)(hp:PushOk a m p)(hf:FreeOk t s.pending (Za a m p).2.1 (Za a m p).2.2.1) :
  Zk Tryz.prog 176 #[.pointer (some ⟨gs,0,none⟩),.pointer (some ⟨d,0,none⟩)] (ScnR gs bh ba s*(HazR bh ba h*(AreR ba a*DkR d bx bm m))) (.bool (QK h a m s p).1)
   (ScnR gs bh ba (QK h a m s p).2.2.2*(HazR bh ba h*(AreR ba (QK h a m s p).2.1*DkR d bx bm (QK h a m s p).2.2.1))):=by
 intro O w F hs
 simp only[Ma]at hs
 obtain⟨s1,s2,s3,s4,s5,s6,s7,s8⟩:=s
 simp only[]at hst hn ht hg hf
 subst hst hn ht hg
 have hP:=fun g=>give_step g ba d bx bm a m p hp
 have hFr:=scan_free gs bh ba d bx bm h (Za a m p).2.1 (Za a m p).2.2.1 ⟨t,n,5,s4,s5,s6,s7,some (Za a m p).2.2.2⟩ t rfl hf
 unfold QK
 simp only[]
 clear hp hf
 generalize Za a m p=q at hP hFr ⊢
 obtain⟨q1,q2,q3,q4⟩:=q
 simp only[]at hP hFr ⊢
 generalize Zu (t:Int) s7 (some q4) q2 q3=fr at hFr ⊢
 obtain⟨f1,f2,f3,f4,f5⟩:=fr
 simp only[]at hFr ⊢
 have HP:=Lh hP;have HF:=Lh hFr;clear hP hFr
 obtain⟨vn,vp,vg,hs⟩:=scnR.1 hs
 simp only[]at hs
 obtain⟨g,rfl,hs⟩:=give_get.1 (hs.pull (A:=giveR ba (some p) vg) (by (with_reducible repeat first|exact Qh|apply Qk)))
 have n1:decide ((n:Int)<0)=false:=by simp
 replace hs:=hs.pull (A:=HazR bh ba h) (by (with_reducible repeat first|exact Qh|apply Qk))
 (obtain⟨vhh,vhl,hs⟩:=hazR.1 hs)
 cases q1 with
 | true=>
  simp only[if_true]
  go_enter Tryz.func176,Tryz.ntmps176
  go_wp2_with (first|((with_reducible apply Zb hs);exact Ii;rfl;(with_reducible repeat first|exact Qh|apply Qk);rfl;rfl;simp only[Uc,Uz])|(go_at_call 180;((refine((HP.out g)).at hs (by (with_reducible repeat first|exact Qh|apply Qb|apply Qk)) ?_);clear hs;intro w hs;(try simp only[Em,Ma]at hs)))|(go_at_call 179;(replace hs:=ZA (hs.fin (by (with_reducible repeat first|exact Ql|exact Qh|apply Qb|apply Qk))));(replace hs:=give_get.2 ⟨g,rfl,hs.pull (A:=PshR g ba 292 q4) (by (with_reducible repeat first|exact Qh|apply Qk))⟩);(replace hs:=QG (s:=⟨t,n,5,s4,s5,s6,s7,some q4⟩) (hs.fin (by (with_reducible repeat first|exact Ql|exact Qh|apply Qb|apply Qk))));((refine(HF.out).at hs (by (focus with_reducible (repeat first|exact Qh|apply Qb);done)) ?_);clear hs;intro w hs;(try simp only[Em,Ma]at hs))))
  go_ret
  refine⟨rfl,?_⟩
  simp only[Ma]
  ((with_reducible apply Sat.fin hs);(with_reducible exact Ql))
 | false=>
  simp only[Yn,if_false]
  go_enter Tryz.func176,Tryz.ntmps176
  go_wp2_with (first|((with_reducible apply Zb hs);exact Ii;rfl;(with_reducible repeat first|exact Qh|apply Qk);rfl;rfl;simp only[Uc,Uz])|(go_at_call 180;((refine((HP.out g)).at hs (by (with_reducible repeat first|exact Qh|apply Qb|apply Qk)) ?_);clear hs;intro w hs;(try simp only[Em,Ma]at hs))))
  go_ret
  refine⟨rfl,?_⟩
  simp only[Ma]
  (replace hs:=ZA (hs.fin (by (with_reducible repeat first|exact Ql|exact Qh|apply Qb|apply Qk))))
  replace hs:=give_get.2 ⟨g,rfl,hs.pull (A:=PshR g ba 292 q4) (by (with_reducible repeat first|exact Qh|apply Qk))⟩
  apply QG (vn:=vn) (vp:=vp) (vg:=.pointer (some ⟨g,0,none⟩))
  (with_reducible apply Sat.fin hs;repeat first|exact Ql|exact Qh|apply Qb|apply Qk)
end
end Go.Proofs.YtefjbdajgakgpaaGreat
