/-
  A scan: what is named stays.
-/
import Derived.Test.YtefjbdajgakgpaaGreatAHaz3
set_option linter.all false
namespace Go.Proofs.YtefjbdajgakgpaaGreat
open Go.RowKit Hp
set_option maxRecDepth 100000
set_option maxHeartbeats 1000000
attribute [local irreducible] Go.Calls
section
def unNone (c:Int→Int):Int→Int:=fun k=>if k = -1 then 0 else c k
def QL (c:Int→Int)(k:Int):Bool:=decide (0<unNone c k)
def Qp (c:Int→Int)(k:Int):Bool := !QL c k
def QJ (h:Haz)(s:Scn):Haz×Scn:=
 ({ h with lists:=h.lists.set s.record.toNat ((h.lists.getD s.record.toNat []).filter (QL s.named)) },
  { s with named:=unNone s.named,pending:=s.pending++(h.lists.getD s.record.toNat []).filter (Qp s.named) })
theorem named_del {f:Int→Option Value}{c:Int→Int}(h:∀k,(f k).getD (.int .i64 0)=.int .i64 (c k)):∀k,((fun x=>if x = -1 then none else f x) k).getD (.int .i64 0)=.int .i64 (unNone c k):=by
 intro k
 unfold unNone
 by_cases hk:k = -1
 ·simp[hk]
 ·simp[hk,h k]
def SplitRel (O:World)(gs bh:Nat)(A:Zb)(s:Scn)(x:List Int)(u vn vg:Value)(f:Int→Option Value)(k:Nat)(t2 t23:Value)(wr:World):Prop:=
 ∃(j:Nat) (vp:Value),j≤x.length∧k=x.length-j∧t23=.int .i64 (j:Int) ∧
  Sat O wr (pt gs (.cells #[.pointer (some ⟨bh,0,none⟩),.int .i64 s.thread,.int .i64 s.record,.int .i64 s.stage,.int .i64 s.at_,vn,vp,vg] 222)*(mp .i64 f vn *
   (sl 3 1 ((s.pending++(x.take j).filter (Qp s.named)).map eI) vp*(sl 3 1 (((x.take j).filter (QL s.named)).map eI) t2*(sl 3 1 (x.map eI) u*A)))))
theorem scan_split (gs bh ba:Nat)(h:Haz)(s:Scn)(n:Nat)(x:List Int)(hn:s.record=(n:Int))(hx:h.lists[n]? = some x)(hm:s.hasMap=true)(hp:s.pending.length+x.length<4294967296) :
  Zh Tryz.prog 178 #[.pointer (some ⟨gs,0,none⟩)] (ScnR gs bh ba s*HazR bh ba h) (.tuple #[]) (ScnR gs bh ba (QJ h s).2*HazR bh ba (QJ h s).1):=by
 intro O w F hs
 simp only[Ma]at hs
 obtain⟨s1,s2,s3,s4,s5,s6,s7,s8⟩:=s
 simp only[]at hn hm hp
 subst hn hm
 obtain⟨vn,vp,vg,hs⟩:=scnR.1 hs
 simp only[]at hs
 obtain⟨f,hf,hs⟩:=named_get.1 (hs.pull (A:=namedR true s6 vn) (by (with_reducible repeat first|exact Qh|apply Qk)))
 obtain⟨r0,rfl⟩:=mp_some hs
 have hxd:h.lists.getD n []=x:=by simp[Yb,hx]
 have e:QJ h ⟨s1,n,s3,s4,true,s6,s7,s8⟩=({ h with lists:=h.lists.set n (x.filter (QL s6)) },⟨s1,n,s3,s4,true,unNone s6,s7++x.filter (Qp s6),s8⟩):=by
  unfold QJ;simp only[Yo,hxd]
 rw[e];clear e hxd
 have hlt:=(List.getElem?_eq_some_iff.1 hx).1
 obtain⟨f2,hf2,HF⟩:∃f2:Int→Option Value,Hid ((fun x=>if x = -1 then none else f x)=f2)∧Hid (∀k,(f2 k).getD (.int .i64 0)=.int .i64 (unNone s6 k)):=⟨_,Lh rfl,Lh (named_del hf)⟩
 clear hf
 (replace hs:=hs.pull (A:=HazR bh _ _) (by (with_reducible repeat first|exact Qh|apply Qk));obtain⟨vhh,vhl,hus_,hu_,husl,husg,hs⟩:=hazT hs hx)
 have hltu:n<hus_.length:=by omega
 go_enter Tryz.func178,Tryz.ntmps178
 go_wp2_with (first|(first|(first|(with_reducible refine NQ.mk ?_)|((with_reducible apply Zd);rfl;rfl)|(with_reducible refine Ze ?_))|((with_reducible apply Za hs);exact Ii;rfl;(with_reducible repeat first|exact Qh|apply Qk);rfl;rfl;(simp only[Uc,Uz]))|((with_reducible apply Zx hs);exact Ii;rfl;assumption;(with_reducible repeat first|exact Qh|apply Qk);rfl;(exact Zc (by assumption));rfl;rfl;(simp only[Uc,Uz]))|((with_reducible apply ZH hs);exact Ii;exact Ii;rfl;rfl;(with_reducible repeat first|exact Qh|apply Qk);(rfl);(simp only[Wm,Ws,Wa,Wc,Wn,Wr]at *;omega);rfl;intro b off hat;(simp only[Uc,Uz]))|((with_reducible apply Zs hs);exact Ii;rfl;(with_reducible repeat first|exact Qh|apply Qk);rfl;(simp only[Uc,Uz])))|((with_reducible apply wl_del hs);exact Ii;rfl;rfl;(with_reducible repeat first|exact Qh|apply Qk);rfl;clear hs;intro w hs)|((with_reducible refine Wp (id:=2) (Paz (Pbz [.neu 10,.neu 11,.neu 12,.neu 13,.neu 14])) hs rfl ?_ ?_);kernel_rfl;clear hs;intro w hs))
 replace hs:=Q9 (E:=3) (sz:=1) hs (by omega)
 rw[hf2.out]at hs
 obtain⟨A,hA⟩:∃A:Zb,A=pt bh (.cells #[.pointer (some ⟨ba,0,none⟩),.int .i64 h.c.T,.int .i64 h.c.R,.int .i64 h.c.Hz,.int .i64 h.c.Rt,.int .i64 h.c.Ca,.int .i64 h.c.Sl,.int .i64 h.c.Bu,vhh,vhl,.int .i64 (base h.c 8),.int .i64 (base h.c 9),.int .i64 (base h.c 2),.int .i64 (base h.c 11)] 68) *
  (sl 3 1 (h.held.map eI) vhh*(sl 33 1 (hus_.map fun u=>[u]) vhl*(QS 3 (h.lists.eraseIdx n) (hus_.eraseIdx n)*(giveR ba s8 vg*F)))):=⟨_,rfl⟩
 have hst:SplitRel O gs bh A ⟨s1,n,s3,s4,true,s6,s7,s8⟩ x hu_ (.map (some r0)) vg f2 x.length (.slice none 0 0) (.int .i64 0) w:=by
  refine⟨0,vp,by omega,by omega,by simp,?_⟩
  simp only[List.take_zero,List.filter_nil,List.append_nil,Yj]
  rw[hA]
  ((with_reducible apply Sat.fin hs);(with_reducible repeat first|exact Ql|exact Qh|apply Qb|apply Qk))
 have HA:=Lh hA;clear hA hs
 simp only[Nat.mul_one,List.length_map]
 go_loopg [2,23] (x.length) (fun k t2 t23 wr=>SplitRel O gs bh A ⟨s1,n,s3,s4,true,s6,s7,s8⟩ x hu_ (.map (some r0)) vg f2 k t2 t23 wr)
 case atStart=>exact hst
 case round=>
  clear hst
  obtain⟨j,vp',hj,hk,rfl,hs⟩:=hrel
  simp only[]at hs
  by_cases hlt2:j<x.length
  ·have hlt3:decide ((j:Int)<(x.length:Int))=true:=by simp;exact hlt2
   obtain⟨z,hz⟩:∃z,x[j]? = some z:=⟨_,Yd hlt2⟩
   have hfz:=HF.out z
   have htk:x.take (j+1)=x.take j++[z]:=by rw[List.take_add_one,hz];rfl
   have hl1:((x.take j).filter (QL s6)).length≤j:=Nat.le_trans (List.length_filter_le _ _) (by simp;omega)
   have hl2:((x.take j).filter (Qp s6)).length≤j:=Nat.le_trans (List.length_filter_le _ _) (by simp;omega)
   have hl3:(s7++(x.take j).filter (Qp s6)).length<4294967296:=by simp;omega
   have hl4:((x.take j).filter (QL s6)).length<4294967296:=by omega
   have HK:=Lh hk;clear hk
   have HT:=Lh htk;clear htk
   clear hl1 hl2 hj
   by_cases hc:0<unNone s6 z
   ·have hn1:QL s6 z=true:=by unfold QL;simpa using hc
    have hn2:Qp s6 z=false:=by unfold Qp;rw[hn1];rfl
    have hcd:decide (unNone s6 z>0)=true:=by simpa using hc
    have H1:=Lh hn1;have H2:=Lh hn2;clear hn1 hn2 hc
    generalize hy1:(x.take j).filter (QL s6)=y1 at hs hl4
    generalize hy2:s7++(x.take j).filter (Qp s6)=y2 at hs hl3
    have H3:=Lh hy1;have H4:=Lh hy2;clear hy1 hy2
    go_wp2_with (first|(first|((with_reducible apply Za hs);exact Ii;rfl;(with_reducible repeat first|exact Qh|apply Qk);rfl;rfl;(simp only[Uc,Uz]))|((with_reducible apply Zx hs);exact Ii;rfl;assumption;(with_reducible repeat first|exact Qh|apply Qk);rfl;(exact Zc (by assumption));rfl;rfl;(simp only[Uc,Uz]))|((with_reducible apply ZH hs);exact Ii;exact Ii;rfl;rfl;(with_reducible repeat first|exact Qh|apply Qk);(rfl);(simp only[Wm,Ws,Wa,Wc,Wn,Wr]at *;omega);rfl;intro b off hat;(simp only[Uc,Uz]))|((with_reducible apply wl_bs hs);exact Ii;exact Ii;rfl;rfl;rfl;rfl;(exact Vb rfl);rfl;clear hs;intro w v hs;(simp only[Uc,Uz]))|((with_reducible apply QY hs);exact Ii;exact Ii;rfl;rfl;(focus with_reducible (repeat first|exact Qh|apply Qk);done);(with_reducible exact Qh);(simp only[Wm,Ws,Wa,Wc,Wn,Wr]at *;omega);(exact Vb rfl);rfl;clear hs;intro w v hs;(simp only[Uc,Uz])))|((with_reducible apply wl_lk hs);exact Ii;rfl;rfl;(with_reducible repeat first|exact Qh|apply Qk);(assumption);rfl;(simp only[Uc,Uz])))
    go_roundg (x.length-(j+1))
    case measure=>have:=HK.out;omega
    case rel=>
     refine⟨j+1,vp',by omega,rfl,by simp,?_⟩
     rw[HT.out,List.filter_append,List.filter_append]
     simp only[List.filter_cons,List.filter_nil,H1.out,H2.out,Yn,if_true,if_false,List.append_nil]
     rw[H3.out,H4.out]
     ((try simp only[Yh,Yi,Yj,Yk,Yl]);(try simp only[Yh,Yi,Yj,Yk,Yl]at hs);((with_reducible apply Sat.fin hs);(with_reducible repeat first|exact Ql|exact Qh|apply Qb|apply Qk)))
   ·have hn1:QL s6 z=false:=by unfold QL;simpa using hc
    have hn2:Qp s6 z=true:=by unfold Qp;rw[hn1];rfl
    have hcd:decide (unNone s6 z>0)=false:=by simpa using hc
    have H1:=Lh hn1;have H2:=Lh hn2;clear hn1 hn2 hc
    generalize hy1:(x.take j).filter (QL s6)=y1 at hs hl4
    generalize hy2:s7++(x.take j).filter (Qp s6)=y2 at hs hl3
    have H3:=Lh hy1;have H4:=Lh hy2;clear hy1 hy2
    go_wp2_with (first|(first|((with_reducible apply Za hs);exact Ii;rfl;(with_reducible repeat first|exact Qh|apply Qk);rfl;rfl;(simp only[Uc,Uz]))|((with_reducible apply Zt hs);exact Ii;rfl;rfl;(with_reducible repeat first|exact Qh|apply Qk);(apply Qs;apply hs.pull;(with_reducible exact Qh));(exact Vb rfl);rfl;clear hs;intro w hs;simp only[Yg,Uc,Uz]at hs)|((with_reducible apply Zx hs);exact Ii;rfl;assumption;(with_reducible repeat first|exact Qh|apply Qk);rfl;(exact Zc (by assumption));rfl;rfl;(simp only[Uc,Uz]))|((with_reducible apply ZH hs);exact Ii;exact Ii;rfl;rfl;(with_reducible repeat first|exact Qh|apply Qk);(rfl);(simp only[Wm,Ws,Wa,Wc,Wn,Wr]at *;omega);rfl;intro b off hat;(simp only[Uc,Uz]))|((with_reducible apply wl_bs hs);exact Ii;exact Ii;rfl;rfl;rfl;rfl;(exact Vb rfl);rfl;clear hs;intro w v hs;(simp only[Uc,Uz]))|((with_reducible apply QY hs);exact Ii;exact Ii;rfl;rfl;(focus with_reducible (repeat first|exact Qh|apply Qk);done);(with_reducible exact Qh);(simp only[Wm,Ws,Wa,Wc,Wn,Wr]at *;omega);(exact Vb rfl);rfl;clear hs;intro w v hs;(simp only[Uc,Uz])))|((with_reducible apply wl_lk hs);exact Ii;rfl;rfl;(with_reducible repeat first|exact Qh|apply Qk);(assumption);rfl;(simp only[Uc,Uz])))
    go_roundg (x.length-(j+1))
    case measure=>have:=HK.out;omega
    case rel=>
     refine⟨j+1,v,by omega,rfl,by simp,?_⟩
     rw[HT.out,List.filter_append,List.filter_append]
     simp only[List.filter_cons,List.filter_nil,H1.out,H2.out,Yn,if_true,if_false,List.append_nil]
     rw[H3.out,←List.append_assoc,H4.out]
     ((try simp only[Yh,Yi,Yj,Yk,Yl]);(try simp only[Yh,Yi,Yj,Yk,Yl]at hs);((with_reducible apply Sat.fin hs);(with_reducible repeat first|exact Ql|exact Qh|apply Qb|apply Qk)))
  ·have hlt3:decide ((j:Int)<(x.length:Int))=false:=by simp;omega
   have hjx:j=x.length:=by omega
   subst hjx
   rw[List.take_length]at hs
   generalize hy1:x.filter (QL s6)=y1 at hs ⊢
   generalize hy2:s7++x.filter (Qp s6)=y2 at hs ⊢
   rw[HA.out]at hs
   have HY1:=Lh hy1;have HY2:=Lh hy2
   clear hk hj hlt2 hy1 hy2
   go_wp2_with (first|(first|(first|(with_reducible refine NQ.mk ?_)|((with_reducible apply Zd);rfl;rfl)|((with_reducible apply Zm);rfl)|(with_reducible refine EQ.mk ?_ ?_)|(with_reducible exact Zf)|(with_reducible refine Ze ?_))|((with_reducible apply Za hs);exact Ii;rfl;(with_reducible repeat first|exact Qh|apply Qk);rfl;rfl;(simp only[Uc,Uz]))|((with_reducible apply Qi hs);exact Ii;rfl;rfl;assumption;(with_reducible repeat first|exact Qh|apply Qk);rfl;(exact Zc (by assumption));(exact Vb rfl);(apply Qs;apply hs.pull;(with_reducible repeat first|exact Qh|apply Qk));rfl;clear hs;intro w hs)|((with_reducible apply Q7 hs);exact Ii;exact Ii;rfl;assumption;rfl;(with_reducible repeat first|exact Qh|apply Qk);(rfl);(simp only[Wm,Ws,Wa,Wc,Wn,Wr]at *;omega);rfl;(simp only[Uc,Uz])))|((with_reducible refine Wp (id:=9) (Paz (Pbz [.neu 10,.neu 11,.neu 12,.eff 13 []])) hs rfl ?_ ?_);kernel_rfl;clear hs;intro w hs))
   (go_end0)
   refine⟨rfl,?_⟩
   rw[Ma]
   replace hs:=named_get.2 ⟨f2,HF.out,hs.pull (A:=mp .i64 f2 (.map (some r0))) (by (with_reducible repeat first|exact Qh|apply Qk))⟩
   (replace hs:=hazT_mk (x:=y1) husl hlt (hs.fin (by (focus((repeat(first|with_reducible exact Ql|with_reducible exact Qh|with_reducible apply Qb|exact Qh|with_reducible apply Qk));done)))) (by rfl))
   obtain rfl:=HY1.out
   obtain rfl:=HY2.out
   apply Qj (vn:=.map (some r0)) (vp:=vp') (vg:=vg)
   ((with_reducible apply Sat.fin hs);(with_reducible repeat first|exact Ql|exact Qh|apply Qb|apply Qk))
end
section
def Qo (h:Haz)(s:Scn):Bool×Scn:=ZE h { s with at_ := -1 }
theorem scan_ready (gs bh ba:Nat)(dv:Value)(h:Haz)(s:Scn)(n:Nat)(x:List Int)(hn:s.record=(n:Int))(hx:h.lists[n]? = some x)(hR:h.c.R≤16) :
  Zh Tryz.prog 175 #[.pointer (some ⟨gs,0,none⟩),dv] (ScnR gs bh ba s*HazR bh ba h) (.bool (Qo h s).1) (ScnR gs bh ba (Qo h s).2*HazR bh ba h):=by
 intro O w F hs
 simp only[Ma]at hs
 obtain⟨s1,s2,s3,s4,s5,s6,s7,s8⟩:=s
 simp only[]at hn
 subst hn
 have hN:=scan_next gs bh ba h ⟨s1,n,s3,-1,s5,s6,s7,s8⟩ n x rfl hx ⟨by simp,by simp⟩ hR
 unfold Qo
 simp only[]
 generalize ZE h ⟨s1,n,s3,-1,s5,s6,s7,s8⟩=r at hN ⊢
 obtain⟨r1,r2⟩:=r
 have HN:=Lh hN;clear hN
 obtain⟨vn,vp,vg,hs⟩:=scnR.1 hs
 simp only[]at hs
 have n1:decide ((n:Int)<0)=false:=by simp
 go_enter Tryz.func175,Tryz.ntmps175
 go_wp2_with (first|(first|((with_reducible apply Za hs);exact Ii;rfl;(with_reducible exact Qh);rfl;rfl;(simp only[Uc,Uz]))|((with_reducible apply Zt hs);exact Ii;rfl;rfl;(with_reducible exact Qh);(rfl);(exact Vb rfl);rfl;clear hs;intro w hs;simp only[Yg,Uc,Uz]at hs))|(go_at_call 177;(replace hs:=Qj (s:=⟨s1,n,s3,-1,s5,s6,s7,s8⟩) (hs.fin (by (with_reducible exact Ql))));((refine(HN.out).at hs (by (focus with_reducible (repeat first|exact Qh|apply Qb);done)) ?_);clear hs;intro w hs;(try simp only[Em,Ma]at hs))))
 (go_ret)
 refine⟨rfl,?_⟩
 simp only[Ma]
 ((with_reducible apply Sat.fin hs);(with_reducible exact Ql))
theorem in_active {c:Cfg}{i:Int}(h0:0≤i)(h1:i<c.R):InReg c 8 i:=⟨h0,by omega,h1⟩
theorem adr_eq {c:Cfg}(h:c.Ok)(r:Nat){i:Int}(h0:0≤i):base c r+i=(adr c r i:Int):=by
 have:=(ZB h r).1
 unfold adr;omega
def scanTry (h:Haz)(m:Mch)(s:Scn):Bool×Mch×Scn:=
 let A:=adr h.c 8 s.at_
 if m.word A=1 then ((ZE h s).1,m.load A (m.word A),(ZE h s).2) else (false,m.load A (m.word A),{ s with stage:=1 })
theorem scan_try (gs bh ba d bx bm:Nat)(h:Haz)(m:Mch)(a:Are)(s:Scn)(n:Nat)(x:List Int)(hst:s.stage=0)(hn:s.record=(n:Int))(hx:h.lists[n]? = some x)(ok:AOk a m)(hc:h.c=a.c)(a0:0≤s.at_)(a1:s.at_<h.c.R) :
  Zh Tryz.prog 176 #[.pointer (some ⟨gs,0,none⟩),.pointer (some ⟨d,0,none⟩)] (ScnR gs bh ba s*(HazR bh ba h*DkR d bx bm m)) (.bool (scanTry h m s).1) (ScnR gs bh ba (scanTry h m s).2.2*(HazR bh ba h*DkR d bx bm (scanTry h m s).2.1)):=by
 intro O w F hs
 simp only[Ma]at hs
 obtain⟨s1,s2,s3,s4,s5,s6,s7,s8⟩:=s
 simp only[]at hn hst a0 a1
 subst hn hst
 have hOk:h.c.Ok:=hc▸ok.c
 have hR:=hOk.R2
 have hN:=scan_next gs bh ba h ⟨s1,n,0,s4,s5,s6,s7,s8⟩ n x rfl hx ⟨by simp;omega,by simp;omega⟩ hR
 have hm:m.May (adr h.c 8 s4):=by rw[hc];exact ok.may (by omega) (by omega) (in_active a0 (hc▸a1))
 have hL:=Lh (ZZ d bx bm m _ _ hm.acs)
 have he:=adr_eq hOk 8 a0
 obtain⟨b0,b1⟩:=ZB hOk 8
 unfold scanTry
 simp only[]
 generalize ZE h ⟨s1,n,0,s4,s5,s6,s7,s8⟩=r at hN ⊢
 obtain⟨r1,r2⟩:=r
 have HN:=Lh hN;clear hN
 obtain⟨vn,vp,vg,hs⟩:=scnR.1 hs
 simp only[]at hs
 have n1:decide ((n:Int)<0)=false:=by simp
 replace hs:=hs.pull (A:=HazR bh ba h) (by (with_reducible repeat first|exact Qh|apply Qk))
 (obtain⟨vhh,vhl,hs⟩:=hazR.1 hs)
 clear hm hc ok hx
 generalize m.word (adr h.c 8 s4)=u at hL ⊢
 by_cases hu:u=1
 ·subst hu
  simp only[if_true]
  go_enter Tryz.func176,Tryz.ntmps176
  go_wp2_with (first|(first|(first|(with_reducible refine NQ.mk ?_)|((with_reducible apply Zd);rfl;rfl)|((with_reducible apply Zm);rfl)|(with_reducible refine EQ.mk ?_ ?_)|(with_reducible exact Zf)|(with_reducible refine Ze ?_))|((with_reducible apply Za hs);exact Ii;rfl;(with_reducible repeat first|exact Qh|apply Qk);rfl;rfl;(simp only[Uc,Uz])))|(go_at_call 144;((refine(hL.out).at hs (by (with_reducible repeat first|exact Qh|apply Qk)) ?_);clear hs;intro w hs;(try simp only[Em,Ma]at hs)))|(go_at_call 177;(replace hs:=Zy (hs.fin (by (with_reducible repeat first|exact Ql|exact Qh|apply Qb|apply Qk))));(replace hs:=Qj (s:=⟨s1,n,0,s4,s5,s6,s7,s8⟩) (hs.fin (by (with_reducible repeat first|exact Ql|exact Qh|apply Qb|apply Qk))));((refine(HN.out).at hs (by (focus with_reducible (repeat first|exact Qh|apply Qb);done)) ?_);clear hs;intro w hs;(try simp only[Em,Ma]at hs)))|((with_reducible refine Wp (id:=11) (Paz (Pbz [.eff 10 [],.neu 11])) hs rfl ?_ ?_);kernel_rfl;clear hs;intro w hs))
  (go_ret)
  refine⟨rfl,?_⟩
  simp only[Ma]
  ((with_reducible apply Sat.fin hs);(with_reducible exact Ql))
 ·have hu':(u==1)=false:=by simpa using hu
  have HU:=Lh hu;clear hu
  simp only[if_neg HU.out]
  go_enter Tryz.func176,Tryz.ntmps176
  go_wp2_with (first|(first|(first|(with_reducible refine NQ.mk ?_)|((with_reducible apply Zd);rfl;rfl)|((with_reducible apply Zm);rfl)|(with_reducible refine EQ.mk ?_ ?_)|(with_reducible exact Zf)|(with_reducible refine Ze ?_))|((with_reducible apply Za hs);exact Ii;rfl;(with_reducible repeat first|exact Qh|apply Qk);rfl;rfl;(simp only[Uc,Uz]))|((with_reducible apply Zt hs);exact Ii;rfl;rfl;(with_reducible repeat first|exact Qh|apply Qk);(rfl);(exact Vb rfl);rfl;clear hs;intro w hs;simp only[Yg,Uc,Uz]at hs))|(go_at_call 144;((refine(hL.out).at hs (by (with_reducible repeat first|exact Qh|apply Qk)) ?_);clear hs;intro w hs;(try simp only[Em,Ma]at hs)))|((with_reducible refine Wp (id:=11) (Paz (Pbz [.eff 10 [],.neu 11])) hs rfl ?_ ?_);kernel_rfl;clear hs;intro w hs))
  (go_ret)
  refine⟨rfl,?_⟩
  simp only[Ma]
  (replace hs:=Zy (hs.fin (by (with_reducible repeat first|exact Ql|exact Qh|apply Qb|apply Qk))))
  apply Qj (vn:=vn) (vp:=vp) (vg:=vg)
  ((with_reducible apply Sat.fin hs);(with_reducible repeat first|exact Ql|exact Qh|apply Qb|apply Qk))
def Jg (h:Haz)(m:Mch)(s:Scn):Bool×Mch×Scn:=
 ((ZE h s).1,m.store (adr h.c 8 s.at_) (m.word (adr h.c 8 s.at_)) 0,(ZE h s).2)
theorem scan_leave (gs bh ba d bx bm:Nat)(h:Haz)(m:Mch)(a:Are)(s:Scn)(n:Nat)(x:List Int)(hst:s.stage=2)(hn:s.record=(n:Int))(hx:h.lists[n]? = some x)(ok:AOk a m)(hc:h.c=a.c)(a0:0≤s.at_)(a1:s.at_<h.c.R) :
  Zh Tryz.prog 176 #[.pointer (some ⟨gs,0,none⟩),.pointer (some ⟨d,0,none⟩)] (ScnR gs bh ba s*(HazR bh ba h*DkR d bx bm m)) (.bool (Jg h m s).1) (ScnR gs bh ba (Jg h m s).2.2*(HazR bh ba h*DkR d bx bm (Jg h m s).2.1)):=by
 intro O w F hs
 simp only[Ma]at hs
 obtain⟨s1,s2,s3,s4,s5,s6,s7,s8⟩:=s
 simp only[]at hn hst a0 a1
 subst hn hst
 have hOk:h.c.Ok:=hc▸ok.c
 have hR:=hOk.R2
 have hN:=scan_next gs bh ba h ⟨s1,n,2,s4,s5,s6,s7,s8⟩ n x rfl hx ⟨by simp;omega,by simp;omega⟩ hR
 have hm:m.May (adr h.c 8 s4):=by rw[hc];exact ok.may (by omega) (by omega) (in_active a0 (hc▸a1))
 have hL:=Lh (ZP d bx bm m _ _ 0 hm.acs)
 have he:=adr_eq hOk 8 a0
 obtain⟨b0,b1⟩:=ZB hOk 8
 unfold Jg
 simp only[]
 generalize ZE h ⟨s1,n,2,s4,s5,s6,s7,s8⟩=r at hN ⊢
 obtain⟨r1,r2⟩:=r
 have HN:=Lh hN;clear hN
 obtain⟨vn,vp,vg,hs⟩:=scnR.1 hs
 simp only[]at hs
 have n1:decide ((n:Int)<0)=false:=by simp
 replace hs:=hs.pull (A:=HazR bh ba h) (by (with_reducible repeat first|exact Qh|apply Qk))
 (obtain⟨vhh,vhl,hs⟩:=hazR.1 hs)
 clear hm hc ok hx
 generalize m.word (adr h.c 8 s4)=u at hL ⊢
 go_enter Tryz.func176,Tryz.ntmps176
 go_wp2_with (first|(first|(first|(with_reducible refine NQ.mk ?_)|((with_reducible apply Zd);rfl;rfl)|((with_reducible apply Zm);rfl)|(with_reducible refine EQ.mk ?_ ?_)|(with_reducible exact Zf)|(with_reducible refine Ze ?_))|((with_reducible apply Za hs);exact Ii;rfl;(with_reducible repeat first|exact Qh|apply Qk);rfl;rfl;(simp only[Uc,Uz])))|(go_at_call 141;((refine(hL.out).at hs (by (with_reducible repeat first|exact Qh|apply Qk)) ?_);clear hs;intro w hs;(try simp only[Em,Ma]at hs)))|(go_at_call 177;(replace hs:=Zy (hs.fin (by (with_reducible repeat first|exact Ql|exact Qh|apply Qb|apply Qk))));(replace hs:=Qj (s:=⟨s1,n,2,s4,s5,s6,s7,s8⟩) (hs.fin (by (with_reducible repeat first|exact Ql|exact Qh|apply Qb|apply Qk))));((refine(HN.out).at hs (by (focus with_reducible (repeat first|exact Qh|apply Qb);done)) ?_);clear hs;intro w hs;(try simp only[Em,Ma]at hs)))|((with_reducible refine Wp (id:=19) (Paz (Pbz [.eff 10 []])) hs rfl ?_ ?_);kernel_rfl;clear hs;intro w hs))
 (go_ret)
 refine⟨rfl,?_⟩
 simp only[Ma]
 ((with_reducible apply Sat.fin hs);(with_reducible exact Ql))
end
end Go.Proofs.YtefjbdajgakgpaaGreat
