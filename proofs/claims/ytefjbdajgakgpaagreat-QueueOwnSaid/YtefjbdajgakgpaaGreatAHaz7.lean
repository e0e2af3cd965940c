/-
  A scan: another record's list is taken over.
-/
import Derived.Test.YtefjbdajgakgpaaGreatAHaz5
set_option linter.all false
namespace Go.Proofs.YtefjbdajgakgpaaGreat
open Go.RowKit Hp
set_option maxRecDepth 100000
set_option maxHeartbeats 1000000
attribute [local irreducible] Go.Calls
section
theorem stars_two {E:TypeId}:∀ {xss:List (List Int)} {vs:List Value} {i j:Nat} {x y:List Int} {u v:Value},i≠j→xss[i]? = some x→xss[j]? = some y→vs[i]? = some u→vs[j]? = some v →
  ∃R,QS E xss vs=sl E 1 (x.map fun z=>[.int .i64 z]) u*(sl E 1 (y.map fun z=>[.int .i64 z]) v*R) ∧
   ∀x' y' u' v',QS E ((xss.set i x').set j y') ((vs.set i u').set j v')=sl E 1 (x'.map fun z=>[.int .i64 z]) u'*(sl E 1 (y'.map fun z=>[.int .i64 z]) v'*R)
 | [],_,_,_,_,_,_,_,_,h,_,_,_=>by simp at h
 | _::_,[],_,_,_,_,_,_,_,_,_,h,_=>by simp at h
 | a::xss,b::vs,0,0,_,_,_,_,h,_,_,_,_=>absurd rfl h
 | a::xss,b::vs,0,j+1,x,y,u,v,_,h1,h2,h3,h4=>by
  simp only[Uf,Option.some.injEq,Ue]at h1 h2 h3 h4
  subst h1 h3
  refine⟨QS E (xss.eraseIdx j) (vs.eraseIdx j),?_,?_⟩
  ·simp only[QS];rw[stars_at h2 h4]
  ·intro x' y' u' v'
   have l1:=(List.getElem?_eq_some_iff.1 h2).1
   have l2:=(List.getElem?_eq_some_iff.1 h4).1
   simp only[Uz,Uc,QS]
   rw[stars_at (xss:=xss.set j y') (vs:=vs.set j v') (i:=j) (x:=y') (v:=v') (by simp[l1]) (by simp[l2]),List.eraseIdx_set_eq,List.eraseIdx_set_eq]
 | a::xss,b::vs,i+1,0,x,y,u,v,_,h1,h2,h3,h4=>by
  simp only[Uf,Option.some.injEq,Ue]at h1 h2 h3 h4
  subst h2 h4
  refine⟨QS E (xss.eraseIdx i) (vs.eraseIdx i),?_,?_⟩
  ·simp only[QS];rw[stars_at h1 h3,Qq]
  ·intro x' y' u' v'
   have l1:=(List.getElem?_eq_some_iff.1 h1).1
   have l2:=(List.getElem?_eq_some_iff.1 h3).1
   simp only[Uz,Uc,QS]
   rw[stars_at (xss:=xss.set i x') (vs:=vs.set i u') (i:=i) (x:=x') (v:=u') (by simp[l1]) (by simp[l2]),List.eraseIdx_set_eq,List.eraseIdx_set_eq,Qq]
 | a::xss,b::vs,i+1,j+1,x,y,u,v,h,h1,h2,h3,h4=>by
  simp only[Ue]at h1 h2 h3 h4
  obtain⟨R,e1,e2⟩:=stars_two (E:=E) (by omega:i≠j) h1 h2 h3 h4
  refine⟨sl E 1 (a.map fun z=>[.int .i64 z]) b*R,?_,?_⟩
  ·simp only[QS];rw[e1];ac_rfl
  ·intro x' y' u' v'
   simp only[Uc,QS];rw[e2];ac_rfl
theorem hazT2 {O w:World}{b ba:Nat}{h:Haz}{R:Zb}{i j:Nat}{x y:List Int}(hs:Sat O w (HazR b ba h*R))(hij:i≠j)(hi:h.lists[i]? = some x)(hj:h.lists[j]? = some y):∃(vh vl:Value) (us:List Value) (u v:Value) (R2:Zb),us.length=h.lists.length∧us[i]? = some u∧us[j]? = some v ∧
  Sat O w (pt b (.cells #[.pointer (some ⟨ba,0,none⟩),.int .i64 h.c.T,.int .i64 h.c.R,.int .i64 h.c.Hz,.int .i64 h.c.Rt,.int .i64 h.c.Ca,.int .i64 h.c.Sl,.int .i64 h.c.Bu,vh,vl,.int .i64 (base h.c 8),.int .i64 (base h.c 9),.int .i64 (base h.c 2),.int .i64 (base h.c 11)] 68)*(sl 3 1 (h.held.map eI) vh *
   (sl 33 1 (us.map fun u=>[u]) vl*(sl 3 1 (x.map eI) u*(sl 3 1 (y.map eI) v*(R2*R)))))) ∧
  ∀(O' w':World) (R':Zb) (x' y':List Int) (xc yc:List (List Value)) (u' v':Value),Sat O' w' (pt b (.cells #[.pointer (some ⟨ba,0,none⟩),.int .i64 h.c.T,.int .i64 h.c.R,.int .i64 h.c.Hz,.int .i64 h.c.Rt,.int .i64 h.c.Ca,.int .i64 h.c.Sl,.int .i64 h.c.Bu,vh,vl,.int .i64 (base h.c 8),.int .i64 (base h.c 9),.int .i64 (base h.c 2),.int .i64 (base h.c 11)] 68)*(sl 3 1 (h.held.map eI) vh *
   (sl 33 1 (((us.map fun u=>[u]).set i [u']).set j [v']) vl*(sl 3 1 xc u'*(sl 3 1 yc v'*(R2*R'))))))→xc=x'.map eI→yc=y'.map eI→Sat O' w' (HazR b ba { h with lists:=(h.lists.set i x').set j y' }*R'):=by
 obtain⟨vh,vl,hs⟩:=hazR.1 hs
 obtain⟨us,hl,hs⟩:=nest_iff.1 (hs.pull (A:=nest 33 3 h.lists vl) (by (with_reducible repeat first|exact Qh|apply Qk)))
 have li:=(List.getElem?_eq_some_iff.1 hi).1
 have lj:=(List.getElem?_eq_some_iff.1 hj).1
 obtain⟨R2,e1,e2⟩:=stars_two (E:=3) (vs:=us) hij hi hj (show us[i]? = some us[i] by simp) (show us[j]? = some us[j] by simp)
 refine⟨vh,vl,us,us[i],us[j],R2,hl,by simp,by simp,?_,?_⟩
 ·rw[e1]at hs
  simp only[Ma]at hs
  ((with_reducible apply Sat.fin hs);(with_reducible repeat first|exact Ql|exact Qh|apply Qb|apply Qk))
 ·intro O' w' R' x' y' xc yc u' v' hs hx hy
  subst hx hy
  apply Zy
  have e3:((us.map fun u=>[u]).set i [u']).set j [v']=((us.set i u').set j v').map fun u=>[u]:=by simp
  rw[e3]at hs
  have:Sat O' w' (nest 33 3 ((h.lists.set i x').set j y') vl*(pt b (.cells #[.pointer (some ⟨ba,0,none⟩),.int .i64 h.c.T,.int .i64 h.c.R,.int .i64 h.c.Hz,.int .i64 h.c.Rt,.int .i64 h.c.Ca,.int .i64 h.c.Sl,.int .i64 h.c.Bu,vh,vl,.int .i64 (base h.c 8),.int .i64 (base h.c 9),.int .i64 (base h.c 2),.int .i64 (base h.c 11)] 68)*(sl 3 1 (h.held.map eI) vh*R'))):=by
   refine nest_iff.2 ⟨(us.set i u').set j v',by simp[hl],?_⟩
   rw[e2]
   simp only[Ma]
   ((with_reducible apply Sat.fin hs);(with_reducible repeat first|exact Ql|exact Qh|apply Qb|apply Qk))
  have hs:=this
  ((with_reducible apply Sat.fin hs);(with_reducible repeat first|exact Ql|exact Qh|apply Qb|apply Qk))
def Qw (h:Haz)(m:Mch)(s:Scn):Bool×Haz×Mch×Scn:=
 let A:=adr h.c 8 s.at_
 if m.word A=0 then (false,{ h with lists:=(h.lists.set s.record.toNat (h.lists.getD s.record.toNat []++h.lists.getD s.at_.toNat [])).set s.at_.toNat [] },m.swap A (m.word A) 0 1,{ s with stage:=2 })
 else ((ZE h s).1,h,m.swap A (m.word A) 0 1,(ZE h s).2)
theorem scan_take (gs bh ba d bx bm:Nat)(hz:Haz)(m:Mch)(a:Are)(s:Scn)(n k:Nat)(x y:List Int)(hst:s.stage=1)(hn:s.record=(n:Int))(hk:s.at_=(k:Int))(hnk:n≠k)(hx:hz.lists[n]? = some x)(hy:hz.lists[k]? = some y)(ok:AOk a m)(hc:hz.c=a.c)(a1:s.at_<hz.c.R)(hl:x.length+y.length<4294967296) :
  Zh Tryz.prog 176 #[.pointer (some ⟨gs,0,none⟩),.pointer (some ⟨d,0,none⟩)] (ScnR gs bh ba s*(HazR bh ba hz*DkR d bx bm m)) (.bool (Qw hz m s).1) (ScnR gs bh ba (Qw hz m s).2.2.2*(HazR bh ba (Qw hz m s).2.1*DkR d bx bm (Qw hz m s).2.2.1)):=by
 intro O w F hs
 simp only[Ma]at hs
 obtain⟨s1,s2,s3,s4,s5,s6,s7,s8⟩:=s
 simp only[]at hn hst hk a1
 subst hn hst hk
 have hOk:hz.c.Ok:=hc▸ok.c
 have hR:=hOk.R2
 have a0:(0:Int)≤(k:Int):=by omega
 have hN:=scan_next gs bh ba hz ⟨s1,n,1,k,s5,s6,s7,s8⟩ n x rfl hx ⟨by show(-1:Int)≤k;omega,by show(k:Int)≤16;omega⟩ hR
 have hm:m.May (adr hz.c 8 k):=by rw[hc];exact ok.may (by omega) (by omega) (in_active a0 (hc▸a1))
 have hL:=Q2 d bx bm m _ _ 0 1 hm.acs
 have he:=adr_eq hOk 8 a0
 obtain⟨b0,b1⟩:=ZB hOk 8
 have hxd:hz.lists.getD n []=x:=by simp[Yb,hx]
 have hyd:hz.lists.getD k []=y:=by simp[Yb,hy]
 unfold Qw
 simp only[Yo,hxd,hyd]
 generalize ZE hz ⟨s1,n,1,k,s5,s6,s7,s8⟩=r at hN ⊢
 obtain⟨r1,r2⟩:=r
 have HN:=Lh hN;clear hN
 obtain⟨vn,vp,vg,hs⟩:=scnR.1 hs
 simp only[]at hs
 have n1:decide ((n:Int)<0)=false:=by simp
 replace hs:=hs.pull (A:=HazR bh ba hz) (by (with_reducible repeat first|exact Qh|apply Qk))
 have lx:=(List.getElem?_eq_some_iff.1 hx).1
 have ly:=(List.getElem?_eq_some_iff.1 hy).1
 clear hm hc ok hxd hyd
 by_cases hu:m.word (adr hz.c 8 k)=0
 ·have hu':decide (m.word (adr hz.c 8 k)=0)=true:=by simpa using hu
  rw[hu']at hL
  have HL:=Lh hL;clear hL hu'
  simp only[if_pos hu]
  have HU:=Lh hu;clear hu
  obtain⟨vh,vl,us,uu,uv,R2,e1,e2,e3,hs,hback⟩:=hazT2 hs hnk hx hy
  have HB:=Lh hback;clear hback
  have l1:n<us.length:=by omega
  have l2:k<us.length:=by omega
  have hnk2:(n==k)=false:=by simpa using hnk
  have E4:Hid (∀z,((us.map fun u=>[u]).set n z)[k]? = some [uv]):=Lh (fun z=>by rw[Yf hnk];simp[e3])
  clear hx hy
  have HNK:=Lh hnk;clear hnk hnk2
  have hs2:=Q9 (E:=3) (sz:=1) hs (by omega)
  clear hs;have hs:=hs2;clear hs2
  go_enter Tryz.func176,Tryz.ntmps176
  go_wp2_with (first|(first|(first|(with_reducible refine NQ.mk ?_)|((with_reducible apply Zd);rfl;rfl)|((with_reducible apply Zm);rfl)|(with_reducible refine EQ.mk ?_ ?_)|(first|(with_reducible exact Zf)|((with_reducible refine Zl ?_ ?_);(focus((with_reducible apply ZC);rfl;rfl))))|(with_reducible refine Ze ?_)|(show ZW _ _ _;rfl))|((with_reducible apply Za hs);exact Ii;rfl;(with_reducible repeat first|exact Qh|apply Qk);rfl;rfl;(simp only[Uc,Uz]))|((with_reducible apply Zt hs);exact Ii;rfl;rfl;(with_reducible repeat first|exact Qh|apply Qk);(rfl);(exact Vb rfl);rfl;clear hs;intro w hs;simp only[Yg,Uc,Uz]at hs)|((with_reducible apply Zx hs);exact Ii;rfl;assumption;(with_reducible repeat first|exact Qh|apply Qk);rfl;(exact Zc (by assumption));rfl;rfl;(simp only[Uc,Uz]))|((with_reducible apply Qi hs);exact Ii;rfl;rfl;assumption;(with_reducible repeat first|exact Qh|apply Qk);rfl;(exact Zc (by assumption));(exact Vb rfl);(apply Qs;apply hs.pull;(with_reducible exact Qh));rfl;clear hs;intro w hs)|((with_reducible apply Q7 hs);exact Ii;exact Ii;rfl;assumption;rfl;(with_reducible repeat first|exact Qh|apply Qk);(rfl);(simp only[Wm,Ws,Wa,Wc,Wn,Wr]at *;omega);rfl;(simp only[Uc,Uz]))|((with_reducible apply ZH hs);exact Ii;exact Ii;rfl;rfl;(with_reducible repeat first|exact Qh|apply Qk);(rfl);(simp only[Wm,Ws,Wa,Wc,Wn,Wr]at *;omega);rfl;intro b off hat;(simp only[Uc,Uz]))|((with_reducible apply QY hs);exact Ii;exact Ii;rfl;rfl;(focus with_reducible (repeat first|exact Qh|apply Qk);done);(with_reducible repeat first|exact Qh|apply Qk);(simp only[Wm,Ws,Wa,Wc,Wn,Wr]at *;omega);(exact Vb rfl);rfl;clear hs;intro w v hs;(simp only[Uc,Uz])))|((with_reducible apply Qi hs);exact Ii;rfl;rfl;assumption;(with_reducible exact Qh);rfl;exact E4.out _;(exact Vb rfl);(rfl);rfl;clear hs;intro w hs)|(go_at_call 146;((refine(HL.out).at hs (by (with_reducible repeat first|exact Qh|apply Qk)) ?_);clear hs;intro w hs;(try simp only[Em,Ma]at hs)))|((with_reducible refine Wp (id:=14) (Paz (Pbz [.eff 10 [],.neu 11])) hs rfl ?_ ?_);kernel_rfl;clear hs;intro w hs)|((with_reducible refine Wp (id:=16) (Paz (Pbz (Pcz (Pdz (Pez [.neu 25,.neu 26,.neu 27,.eff 28 [0,1,2,3,4,5,6,7],.neu 29,.eff 30 []]))))) hs rfl ?_ ?_);kernel_rfl;clear hs;intro w hs)|((with_reducible refine Wp (id:=17) (Paz [.neu 5,.neu 6,.neu 7,.neu 8,.eff 9 []]) hs rfl ?_ ?_);kernel_rfl;clear hs;intro w hs))
  (go_ret)
  refine⟨rfl,?_⟩
  simp only[Ma]
  replace hs:=HB.out _ _ _ (x++y) [] _ _ _ _ (hs.fin (by (focus((repeat(first|with_reducible exact Ql|with_reducible exact Qh|with_reducible apply Qb|exact Qh|with_reducible apply Qk));done)))) (by simp) rfl
  apply Qj (vn:=vn) (vp:=vp) (vg:=vg)
  ((with_reducible apply Sat.fin hs);(with_reducible repeat first|exact Ql|exact Qh|apply Qb|apply Qk))
 ·have hu':decide (m.word (adr hz.c 8 k)=0)=false:=by simpa using hu
  rw[hu']at hL
  have HL:=Lh hL;clear hL hu'
  simp only[if_neg hu]
  clear hu hx hy
  (obtain⟨vhh,vhl,hs⟩:=hazR.1 hs)
  go_enter Tryz.func176,Tryz.ntmps176
  go_wp2_with (first|(first|(first|(with_reducible refine NQ.mk ?_)|((with_reducible apply Zd);rfl;rfl)|((with_reducible apply Zm);rfl)|(with_reducible refine EQ.mk ?_ ?_)|(with_reducible exact Zf)|(with_reducible refine Ze ?_))|((with_reducible apply Za hs);exact Ii;rfl;(with_reducible repeat first|exact Qh|apply Qk);rfl;rfl;(simp only[Uc,Uz])))|(go_at_call 146;((refine(HL.out).at hs (by (with_reducible repeat first|exact Qh|apply Qk)) ?_);clear hs;intro w hs;(try simp only[Em,Ma]at hs)))|(go_at_call 177;(replace hs:=Zy (hs.fin (by (with_reducible repeat first|exact Ql|exact Qh|apply Qb|apply Qk))));(replace hs:=Qj (s:=⟨s1,n,1,k,s5,s6,s7,s8⟩) (hs.fin (by (with_reducible repeat first|exact Ql|exact Qh|apply Qb|apply Qk))));((refine(HN.out).at hs (by (focus with_reducible (repeat first|exact Qh|apply Qb);done)) ?_);clear hs;intro w hs;(try simp only[Em,Ma]at hs)))|((with_reducible refine Wp (id:=14) (Paz (Pbz [.eff 10 [],.neu 11])) hs rfl ?_ ?_);kernel_rfl;clear hs;intro w hs))
  (go_ret)
  refine⟨rfl,?_⟩
  simp only[Ma]
  ((with_reducible apply Sat.fin hs);(with_reducible exact Ql))
end
section
def Qm (c:Int→Int)(k:Int):Int→Int:=fun x=>if x=k then c k+1 else c x
theorem named_add {f:Int→Option Value}{c:Int→Int}(h:∀k,(f k).getD (.int .i64 0)=.int .i64 (c k))(z:Int):∀k,((fun x=>if x=z then some (.int .i64 (c z+1)) else f x) k).getD (.int .i64 0)=.int .i64 (Qm c z k):=by
 intro k
 unfold Qm
 by_cases hk:k=z
 ·simp[hk]
 ·simp[hk,h k]
def Jf (h:Haz)(m:Mch)(s:Scn):Mch×Scn:=
 let A:=(base h.c 9+s.at_).toNat
 (m.load A (m.word A),{ s with named:=Qm s.named (m.word A-1),at_:=s.at_+1 })
def QT (h:Haz)(a:Are)(m:Mch)(s:Scn):Bool×Haz×Are×Mch×Scn:=
 let m1:=(Jf h m s).1
 let s1:=(Jf h m s).2
 if s1.at_<h.c.R*h.c.Hz then (false,h,a,m1,s1)
 else
  let h2:=(QJ h s1).1
  let s2:=(QJ h s1).2
  let f:=ZG s2.thread s2.pending s2.give a m1
  (f.1,h2,f.2.2.2.1,f.2.2.2.2,{ s2 with stage:=QN f.1,pending:=f.2.1,give:=f.2.2.1 })
structure LookOk (h:Haz)(a:Are)(m:Mch)(s:Scn)(n t:Nat)(x:List Int):Prop where
 stage:s.stage=3
 rec_:s.record=(n:Int)
 thr:s.thread=(t:Int)
 at_list:h.lists[n]? = some x
 ok:AOk a m
 c:h.c=a.c
 a0:0≤s.at_
 a1:s.at_<h.c.R*h.c.Hz
 map:s.hasMap=true
 pend:s.pending=[]
 len:x.length<1000000
 ins:∀z∈x,0≤z∧z<a.slots.length
 cache:∃y,a.caches[t]? = some y∧y.length<1000000
 sh:m.shifts.length<1000000000
 w0:0≤m.word (base h.c 9+s.at_).toNat
 w1:m.word (base h.c 9+s.at_).toNat≤2147483647
 n0:∀k,0≤s.named k∧s.named k≤1000
theorem base9 {c:Cfg}(h:c.Ok){i:Int}(h0:0≤i)(h1:i<c.R*c.Hz):(base c 9+i).toNat<(base c 14).toNat∧base c 9+i=((base c 9+i).toNat:Int):=by
 have e:=base_succ c 9 (by omega)
 have:=base_mono h 10 4 (by omega)
 rw[show(10+4)=14 by omega]at this
 have hb:=(ZB h 9).1
 have h1':i<many c 9:=h1
 clear h1
 rw[show(9+1)=10 by omega]at e
 constructor<;>omega
set_option maxHeartbeats 4000000 in
theorem scan_look (gs bh ba d bx bm:Nat)(h:Haz)(a:Are)(m:Mch)(s:Scn)(n t:Nat)(x:List Int)(ok:LookOk h a m s n t x) :
  Zh Tryz.prog 176 #[.pointer (some ⟨gs,0,none⟩),.pointer (some ⟨d,0,none⟩)] (ScnR gs bh ba s*(HazR bh ba h*(AreR ba a*DkR d bx bm m))) (.bool (QT h a m s).1)
   (ScnR gs bh ba (QT h a m s).2.2.2.2*(HazR bh ba (QT h a m s).2.1*(AreR ba (QT h a m s).2.2.1*DkR d bx bm (QT h a m s).2.2.2.1))):=by
 intro O w F hs
 simp only[Ma]at hs
 obtain⟨s1,s2,s3,s4,s5,s6,s7,s8⟩:=s
 obtain⟨e1,e2,e3,hx,aok,hc,a0,a1,e4,e5,hlen,hins,⟨y,hy,hyl⟩,hsh,w0,w1,hnm⟩:=ok
 simp only[]at e1 e2 e3 a0 a1 e4 e5 w0 w1 hnm
 subst e1 e2 e3 e4 e5
 have hOk:h.c.Ok:=hc▸aok.c
 obtain⟨hlt9,he⟩:=base9 hOk a0 a1
 unfold QT Jf
 simp only[]
 generalize (base h.c 9+s4).toNat=ad at *
 have hm:m.May ad:=⟨aok.used,by rw[aok.words,←hc];exact hlt9,aok.log,aok.ahead⟩
 have hL:=Lh (ZZ d bx bm m _ _ hm.acs)
 obtain⟨b0,b1⟩:=ZB hOk 9
 obtain⟨rh0,rh1⟩:=hOk.rh
 have hw:wrap64 (h.c.R*h.c.Hz)=h.c.R*h.c.Hz:=by unfold wrap64;omega
 have n1:decide ((n:Int)<0)=false:=by simp
 obtain⟨u,hu⟩:∃u,u=m.word ad:=⟨_,rfl⟩
 obtain⟨m1,hm1⟩:∃m1,m1=m.load ad u:=⟨_,rfl⟩
 rw[←hu]at hL w0 w1 ⊢
 rw[←hm1]at hL ⊢
 have hU:=Lh (Q6 u w0 w1)
 obtain⟨c0,c1⟩:=hnm (u-1)
 have hS:=scan_split gs bh ba h ⟨t,n,3,s4+1,true,Qm s6 (u-1),[],s8⟩ n x rfl hx rfl (by show(0:Nat)+x.length<_;omega)
 have hFr:FreeOk t ([]++x.filter (Qp (Qm s6 (u-1)))) a m1:=by
  have hfl:=List.length_filter_le (Qp (Qm s6 (u-1))) x
  refine⟨⟨y,hy,by simp;omega⟩,fun z hz=>hins z (List.mem_filter.1 (by simpa using hz)).1,?_⟩
  rw[hm1]
  show m.shifts.length+_<_
  simp;omega
 have hxd:h.lists.getD n []=x:=by simp[Yb,hx]
 have hF:=scan_free gs bh ba d bx bm (QJ h ⟨t,n,3,s4+1,true,Qm s6 (u-1),[],s8⟩).1 a m1 (QJ h ⟨t,n,3,s4+1,true,Qm s6 (u-1),[],s8⟩).2 t rfl (by
  show FreeOk t ([]++(h.lists.getD (n:Int).toNat []).filter _) a m1
  rw[Yo,hxd];exact hFr)
 clear hFr hxd hsh hlen hins hy hyl hm1 hu hnm hm hlt9 hx
 generalize QJ h ⟨t,n,3,s4+1,true,Qm s6 (u-1),[],s8⟩=r at hS hF ⊢
 obtain⟨h2,sc2⟩:=r
 simp only[]at hS hF ⊢
 generalize ZG sc2.thread sc2.pending sc2.give a m1=fr at hF ⊢
 obtain⟨f1,f2,f3,f4,f5⟩:=fr
 simp only[]at hF ⊢
 have HS:=Lh hS;have HF:=Lh hF;clear hS hF
 obtain⟨vn,vp,vg,hs⟩:=scnR.1 hs
 simp only[]at hs
 obtain⟨f,hf,hs⟩:=named_get.1 (hs.pull (A:=namedR true s6 vn) (by (with_reducible repeat first|exact Qh|apply Qk)))
 obtain⟨r0,rfl⟩:=mp_some hs
 have hfz:=hf (u-1)
 obtain⟨f9,hf9,HFN⟩:∃f9:Int→Option Value,Hid ((fun x=>if x=u-1 then some (.int .i64 (s6 (u-1)+1)) else f x)=f9)∧Hid (∀k,(f9 k).getD (.int .i64 0)=.int .i64 (Qm s6 (u-1) k)):=⟨_,Lh rfl,Lh (named_add hf (u-1))⟩
 clear hf
 replace hs:=hs.pull (A:=HazR bh ba h) (by (with_reducible repeat first|exact Qh|apply Qk))
 (obtain⟨vhh,vhl,hs⟩:=hazR.1 hs)
 have hc':=Lh hc;clear hc aok
 generalize Qm s6 (u-1)=nm9 at *
 generalize s6 (u-1)=c9 at *
 by_cases hlt:s4+1<h.c.R*h.c.Hz
 ·have hd:decide (s4+1<h.c.R*h.c.Hz)=true:=by simpa using hlt
  have HLT:=Lh hlt;clear hlt
  simp only[if_pos HLT.out]
  go_enter Tryz.func176,Tryz.ntmps176
  go_wp2_with (first|(first|(first|(with_reducible refine NQ.mk ?_)|((with_reducible apply Zd);rfl;rfl)|((with_reducible apply Zm);rfl)|(with_reducible refine EQ.mk ?_ ?_)|(with_reducible exact Zf)|(with_reducible refine Ze ?_))|((with_reducible apply Za hs);exact Ii;rfl;(with_reducible repeat first|exact Qh|apply Qk);rfl;rfl;(simp only[Uc,Uz]))|((with_reducible apply Zt hs);exact Ii;rfl;rfl;(with_reducible repeat first|exact Qh|apply Qk);(rfl);(exact Vb rfl);rfl;clear hs;intro w hs;simp only[Yg,Uc,Uz]at hs))|(first|((with_reducible apply wl_lk hs);exact Ii;rfl;rfl;(with_reducible repeat first|exact Qh|apply Qk);(assumption);rfl;(simp only[Uc,Uz]))|((with_reducible apply wl_mu hs);exact Ii;rfl;rfl;rfl;(with_reducible repeat first|exact Qh|apply Qk);rfl;clear hs;intro w hs))|(go_at_call 144;((refine(hL.out).at hs (by (with_reducible repeat first|exact Qh|apply Qk)) ?_);clear hs;intro w hs;(try simp only[Em,Ma]at hs)))|(go_at_call 156;((refine(hU.out).at hs (by (focus((repeat(with_reducible exact Qn));done))) ?_);clear hs;intro w hs;(try simp only[Em,Ma]at hs)))|((with_reducible refine Wp (id:=21) (Paz (Pbz [.eff 10 [],.eff 11 [],.neu 12,.neu 13,.neu 14,.neu 15,.neu 16,.neu 17,.neu 18])) hs rfl ?_ ?_);kernel_rfl;clear hs;intro w hs)|((with_reducible refine Wp (id:=24) (Paz (Pbz (Pcz [.neu 15]))) hs rfl ?_ ?_);kernel_rfl;clear hs;intro w hs))
  (go_ret)
  refine⟨rfl,?_⟩
  simp only[Ma]
  rw[hf9.out]at hs
  (replace hs:=named_get.2 ⟨f9,HFN.out,hs.pull (A:=mp .i64 f9 (.map (some r0))) (by (with_reducible repeat first|exact Qh|apply Qk))⟩)
  (replace hs:=Zy (hs.fin (by (with_reducible repeat first|exact Ql|exact Qh|apply Qb|apply Qk))))
  apply Qj (vn:=.map (some r0)) (vp:=vp) (vg:=vg)
  ((with_reducible apply Sat.fin hs);(with_reducible repeat first|exact Ql|exact Qh|apply Qb|apply Qk))
 ·have hd:decide (s4+1<h.c.R*h.c.Hz)=false:=by simpa using hlt
  have HLT:=Lh hlt;clear hlt
  simp only[if_neg HLT.out]
  go_enter Tryz.func176,Tryz.ntmps176
  go_wp2_with (first|(first|(first|(with_reducible refine NQ.mk ?_)|((with_reducible apply Zd);rfl;rfl)|((with_reducible apply Zm);rfl)|(with_reducible refine EQ.mk ?_ ?_)|(with_reducible exact Zf)|(with_reducible refine Ze ?_))|((with_reducible apply Za hs);exact Ii;rfl;(with_reducible repeat first|exact Qh|apply Qk);rfl;rfl;(simp only[Uc,Uz]))|((with_reducible apply Zt hs);exact Ii;rfl;rfl;(with_reducible repeat first|exact Qh|apply Qk);(rfl);(exact Vb rfl);rfl;clear hs;intro w hs;simp only[Yg,Uc,Uz]at hs))|(first|((with_reducible apply wl_lk hs);exact Ii;rfl;rfl;(with_reducible repeat first|exact Qh|apply Qk);(assumption);rfl;(simp only[Uc,Uz]))|((with_reducible apply wl_mu hs);exact Ii;rfl;rfl;rfl;(with_reducible repeat first|exact Qh|apply Qk);rfl;clear hs;intro w hs))|(go_at_call 144;((refine(hL.out).at hs (by (with_reducible repeat first|exact Qh|apply Qk)) ?_);clear hs;intro w hs;(try simp only[Em,Ma]at hs)))|(go_at_call 156;((refine(hU.out).at hs (by (focus((repeat(with_reducible exact Qn));done))) ?_);clear hs;intro w hs;(try simp only[Em,Ma]at hs)))|(go_at_call 178;rw[hf9.out]at hs;(replace hs:=named_get.2 ⟨f9,HFN.out,hs.pull (A:=mp .i64 f9 (.map (some r0))) (by (with_reducible repeat first|exact Qh|apply Qk))⟩);(replace hs:=Zy (hs.fin (by (with_reducible repeat first|exact Ql|exact Qh|apply Qb|apply Qk))));(replace hs:=Qj (s:=⟨t,n,3,s4+1,true,nm9,[],s8⟩) (hs.fin (by (with_reducible repeat first|exact Ql|exact Qh|apply Qb|apply Qk))));((refine(HS.out).at hs (by (focus with_reducible (repeat first|exact Qh|apply Qb);done)) ?_);clear hs;intro w hs;(try simp only[Em,Ma]at hs)))|(go_at_call 179;((refine(HF.out).at hs (by (with_reducible repeat first|exact Qh|apply Qb|apply Qk)) ?_);clear hs;intro w hs;(try simp only[Em,Ma]at hs)))|((with_reducible refine Wp (id:=21) (Paz (Pbz [.eff 10 [],.eff 11 [],.neu 12,.neu 13,.neu 14,.neu 15,.neu 16,.neu 17,.neu 18])) hs rfl ?_ ?_);kernel_rfl;clear hs;intro w hs)|((with_reducible refine Wp (id:=24) (Paz (Pbz (Pcz [.neu 15]))) hs rfl ?_ ?_);kernel_rfl;clear hs;intro w hs))
  (go_ret)
  refine⟨rfl,?_⟩
  simp only[Ma]
  ((with_reducible apply Sat.fin hs);(with_reducible exact Ql))
def Qx (h:Haz)(a:Are)(m:Mch)(s:Scn)(p:Psh):Bool×Are×Mch×Scn:=
 let q:=Zi a m p
 if q.1=true then
  let f:=ZG s.thread s.pending (some q.2.2.2) q.2.1 q.2.2.1
  (f.1,f.2.2.2.1,f.2.2.2.2,{ s with stage:=QN f.1,pending:=f.2.1,give:=f.2.2.1 })
 else (false,q.2.1,q.2.2.1,{ s with give:=some q.2.2.2 })
theorem scan_give (gs bh ba d bx bm:Nat)(h:Haz)(a:Are)(m:Mch)(s:Scn)(p:Psh)(n t:Nat)(hst:s.stage=5)(hn:s.record=(n:Int))(ht:s.thread=(t:Int))(hg:s.give=some p)(hp:PushOk a m p)(hf:FreeOk t s.pending (Zi a m p).2.1 (Zi a m p).2.2.1) :
  Zh Tryz.prog 176 #[.pointer (some ⟨gs,0,none⟩),.pointer (some ⟨d,0,none⟩)] (ScnR gs bh ba s*(HazR bh ba h*(AreR ba a*DkR d bx bm m))) (.bool (Qx h a m s p).1)
   (ScnR gs bh ba (Qx h a m s p).2.2.2*(HazR bh ba h*(AreR ba (Qx h a m s p).2.1*DkR d bx bm (Qx h a m s p).2.2.1))):=by
 intro O w F hs
 simp only[Ma]at hs
 obtain⟨s1,s2,s3,s4,s5,s6,s7,s8⟩:=s
 simp only[]at hst hn ht hg hf
 subst hst hn ht hg
 have hP:=fun g=>give_step g ba d bx bm a m p hp
 have hFr:=scan_free gs bh ba d bx bm h (Zi a m p).2.1 (Zi a m p).2.2.1 ⟨t,n,5,s4,s5,s6,s7,some (Zi a m p).2.2.2⟩ t rfl hf
 unfold Qx
 simp only[]
 clear hp hf
 generalize Zi a m p=q at hP hFr ⊢
 obtain⟨q1,q2,q3,q4⟩:=q
 simp only[]at hP hFr ⊢
 generalize ZG (t:Int) s7 (some q4) q2 q3=fr at hFr ⊢
 obtain⟨f1,f2,f3,f4,f5⟩:=fr
 simp only[]at hFr ⊢
 have HP:=Lh hP;have HF:=Lh hFr;clear hP hFr
 obtain⟨vn,vp,vg,hs⟩:=scnR.1 hs
 simp only[]at hs
 obtain⟨g,rfl,hs⟩:=give_get.1 (hs.pull (A:=giveR ba (some p) vg) (by (with_reducible repeat first|exact Qh|apply Qk)))
 have n1:decide ((n:Int)<0)=false:=by simp
 replace hs:=hs.pull (A:=HazR bh ba h) (by (with_reducible repeat first|exact Qh|apply Qk))
 (obtain⟨vhh,vhl,hs⟩:=hazR.1 hs)
 cases q1 with
 | true=>
  simp only[if_true]
  go_enter Tryz.func176,Tryz.ntmps176
  go_wp2_with (first|((with_reducible apply Za hs);exact Ii;rfl;(with_reducible repeat first|exact Qh|apply Qk);rfl;rfl;(simp only[Uc,Uz]))|(go_at_call 180;((refine((HP.out g)).at hs (by (with_reducible repeat first|exact Qh|apply Qb|apply Qk)) ?_);clear hs;intro w hs;(try simp only[Em,Ma]at hs)))|(go_at_call 179;(replace hs:=Zy (hs.fin (by (with_reducible repeat first|exact Ql|exact Qh|apply Qb|apply Qk))));(replace hs:=give_get.2 ⟨g,rfl,hs.pull (A:=PshR g ba 292 q4) (by (with_reducible repeat first|exact Qh|apply Qk))⟩);(replace hs:=Qj (s:=⟨t,n,5,s4,s5,s6,s7,some q4⟩) (hs.fin (by (with_reducible repeat first|exact Ql|exact Qh|apply Qb|apply Qk))));((refine(HF.out).at hs (by (focus with_reducible (repeat first|exact Qh|apply Qb);done)) ?_);clear hs;intro w hs;(try simp only[Em,Ma]at hs))))
  (go_ret)
  refine⟨rfl,?_⟩
  simp only[Ma]
  ((with_reducible apply Sat.fin hs);(with_reducible exact Ql))
 | false=>
  simp only[Yn,if_false]
  go_enter Tryz.func176,Tryz.ntmps176
  go_wp2_with (first|((with_reducible apply Za hs);exact Ii;rfl;(with_reducible repeat first|exact Qh|apply Qk);rfl;rfl;(simp only[Uc,Uz]))|(go_at_call 180;((refine((HP.out g)).at hs (by (with_reducible repeat first|exact Qh|apply Qb|apply Qk)) ?_);clear hs;intro w hs;(try simp only[Em,Ma]at hs))))
  (go_ret)
  refine⟨rfl,?_⟩
  simp only[Ma]
  (replace hs:=Zy (hs.fin (by (with_reducible repeat first|exact Ql|exact Qh|apply Qb|apply Qk))))
  replace hs:=give_get.2 ⟨g,rfl,hs.pull (A:=PshR g ba 292 q4) (by (with_reducible repeat first|exact Qh|apply Qk))⟩
  apply Qj (vn:=vn) (vp:=vp) (vg:=.pointer (some ⟨g,0,none⟩))
  ((with_reducible apply Sat.fin hs);(with_reducible repeat first|exact Ql|exact Qh|apply Qb|apply Qk))
end
end Go.Proofs.YtefjbdajgakgpaaGreat
