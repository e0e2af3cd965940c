import Derived.Test.YtefjbdajgakgpaaGreatCQHon
set_option linter.all false
namespace Go.Proofs.YtefjbdajgakgpaaGreat
open Go.RowKit Hp
set_option maxRecDepth 100000
set_option maxHeartbeats 2000000
attribute [local irreducible] Go.Calls
section
section
variable {c:Cfg}{stk:List Int}{pr:Int→Prop}{F:List Int}{n t:Nat}{y:GW Zu}
theorem DK.full (D:DK c stk pr F n y)(h0:y.m.word (adr c 1 0)%4294967296=0)(hca:y.s.2.caches.getD t []=[]):FullAt c y.s.2.slots (t:Int):=by
 have G:=D.gd
 have hF:F=[]:=by
  have hch:=G.chain
  have e:(sx stk pr c y.s.1 y.s.2 y.m).V.hd%4294967296=0:=h0
  rw[e]at hch
  cases F with
  | nil=>rfl
  | cons s r=>obtain⟨e1,e2,_⟩:=hch;omega
 intro s hs
 have hsl:y.s.2.sl (s:Int)=y.s.2.slots.getD s ⟨0,0⟩:=by unfold Are.sl;rw[if_pos (by omega),Yo]
 rw[←hsl]
 have ht:=G.tot (s:Int)
 rw[ind_pos (p:=0≤(s:Int)∧(s:Int)<c.Sl) (by omega),hF,List.count_nil]at ht
 simp only[List.count_nil,Nat.add_zero]at ht
 have key:(∃t':Nat,t'≠t∧y.s.2.sl (s:Int)=⟨1,(t':Int)⟩)∨2≤(y.s.2.sl (s:Int)).state:=by
  by_cases h2:0<cnt2 y.s.2.caches (s:Int)
  ·obtain⟨t',l,g1,g2⟩:=cnt2_pos h2
   refine .inl ⟨t',fun e => ?_,G.stC t' l g1 _ g2⟩
   subst e
   rw[Yb,g1]at hca
   have:l=[]:=hca
   rw[this]at g2;simp at g2
  ·right
   by_cases h3:0<cnt2 (y.tasks.map kSo) (s:Int)
   ·have:(y.s.2.sl (s:Int)).state=2∨(y.s.2.sl (s:Int)).state=4∨(y.s.2.sl (s:Int)).state=5:=G.stZ _ h3
    omega
   ·by_cases h4:0≤(s:Int)∧(sx stk pr c y.s.1 y.s.2 y.m).V.cell=(s:Int)+1
    ·have:(y.s.2.sl (s:Int)).state=3:=G.stX (s:Int) h4.1 h4.2
     omega
    ·rw[ind_neg h4]at ht
     by_cases h5:0<cnt2 y.s.1.lists (s:Int)
     ·obtain⟨r,l,g1,g2⟩:=cnt2_pos h5
      have:(y.s.2.sl (s:Int)).state=5:=G.stL l (Yc g1) _ g2
      omega
     ·have hk:(s:Int)∈stk:=by
       refine List.count_pos_iff.1 ?_
       have q1:cnt2 (sx stk pr c y.s.1 y.s.2 y.m).caches (s:Int)=cnt2 y.s.2.caches (s:Int):=rfl
       have q2:cnt2 (sx stk pr c y.s.1 y.s.2 y.m).lists (s:Int)=cnt2 y.s.1.lists (s:Int):=rfl
       have q3:List.count (s:Int) (sx stk pr c y.s.1 y.s.2 y.m).stk=stk.count (s:Int):=rfl
       omega
      have:(y.s.2.sl (s:Int)).state=3:=G.stK _ hk
      omega
 rcases key with⟨t',e1,e2⟩|h1
 ·rw[e2]
  exact⟨by simp,fun h=>by have:=h.2;simp only[]at this;omega⟩
 ·exact⟨by omega,fun h=>by omega⟩
end
structure HonJ (c:Cfg)(n:Nat)(y:GW Zu):Prop where
 ok:RunQk c n y
 dk:∃stk pr F,DK c stk pr F n y
 hon:∀x∈y.m.calls,x.kind=4→0≤x.point→FullAt c (puts (s0 c) (bef y.m.shifts x.point)) x.thread
 op:∀x∈y.m.calls,x.op≠10
 pk:∀(t:Nat) (k:Zu) (se:Sea),y.tasks[t]? = some (some k)→y.m.seats[t]? = some se→se.kind≠4
 rg:∀(t i:Nat) (k:Zu) (se:Sea) (cl:Cll),y.tasks[t]? = some (some k)→y.m.seats[t]? = some se→se.last=(i:Int)→y.m.calls[i]? = some cl→isR k→cl.point = -1
 ca:∀(t:Nat) (k:Zu) (se:Sea),y.tasks[t]? = some (some k)→y.m.seats[t]? = some se→se.ready=true→tkg k→y.s.2.caches.getD t []=[]
theorem set_ne' {α:Type}{l:List α}{i j:Nat}{x:α}(h:i≠j):(l.set j x)[i]? = l[i]? := Yf (Ne.symm h)
section
variable {c:Cfg}{bh ba:Nat}{CX:Zb}{n:Nat}{y:GW Zu}{t i:Nat}{cl:Cll}{se:Sea}{k:Zu}{r1 r2:GR Zu}
theorem HonJ.step (J:HonJ c n y)(hn:n<65536)(P:PM (QM c) (QI c) c n y)(B:QB n y)(G:GStepM (QM c) (qkT bh ba c CX) (QI c) c n y t i cl se k r1 r2):HonJ c (n+1) (Qc y t i r2):=by
 obtain⟨z,q,v,O⟩:=G.out P
 have S:=B.stp P G
 have E:=B.evq P G
 have R':RunQk c (n+1) (Qc y t i r2):=J.ok.step P G E
 obtain⟨stk,pr,F,D⟩:=J.dk
 obtain⟨Z,Y,F0,pr1,F1,pr2,F2,_,_,_,_,_,_,_,_,_,_,D'⟩:=(D.step hn B P G).ex
 have hst:=(List.getElem?_eq_some_iff.1 G.hse).1
 have htk:=(List.getElem?_eq_some_iff.1 G.hk).1
 have hli:=(List.getElem?_eq_some_iff.1 G.hc).1
 have hpk:=J.pk t k se G.hk G.hse
 have H1:r1.2.2.1.calls=y.m.calls∧r1.2.2.1.seats=y.m.seats.set t { se with ready:=true }∧r1.2.2.1.mem.words=y.m.mem.words∧(tkg r1.2.2.2→y.s.2.caches.getD t []=[]∧r1.2.1.2=y.s.2)∧(isR r1.2.2.2→isR k):=by
  rcases G.rdy with⟨hf,e⟩|⟨hf,e⟩
  ·have hI:=G.i0
   rw[hf]at hI
   have Q:=qk_rdy_hon (i:=i) (cl:=cl) (se:={ se with ready:=true }) G.c0.toCore G.htT hI
   have e':r1=QR (y.s.1,y.s.2) (Qd y t i se) i t cl { se with ready:=true } k:=e
   rw[←e']at Q
   exact⟨Q.calls,Q.seats,Q.words,Q.tk,Q.reg⟩
  ·rw[e]
   exact⟨rfl,rfl,rfl,fun h=>⟨J.ca t k se G.hk G.hse hf h,rfl⟩,fun h=>h⟩
 obtain⟨a1,a2,a3,a4,a5⟩:=H1
 have H2:(q=4→r2.1=true∧(z = -1∨z=n∧FullAt c y.s.2.slots (t:Int)))∧(isR r2.2.2.2→z = -1)∧(r2.1=false→tkg r2.2.2.2→y.s.2.caches.getD t []=[]∧r2.2.1.2.caches=y.s.2.caches):=by
  rcases G.stp with⟨hb1,e⟩|⟨hb1,z1,q1,v1,hcu,e⟩
  ·have hz:z=cl.point:=by
    have h1:=O.cur.call
    rw[e,a1,G.hc]at h1
    injection h1 with h1
    rw[h1]
   have hq:q=se.kind:=by
    have h1:=O.cur.seat
    rw[e,a2,Ye hst]at h1
    injection h1 with h1
    injection h1 with _ _ _ h4 _
    exact h4.symm
   refine⟨fun h=>absurd (hq▸h) hpk,fun h => ?_,fun h => ?_⟩
   ·rw[hz];rw[e]at h;exact J.rg t i k se cl G.hk G.hse G.hl G.hc (a5 h)
   ·rw[e,hb1]at h;cases h
  ·have hz1:z1=cl.point:=by
    have h1:=hcu.call
    rw[a1,G.hc]at h1
    injection h1 with h1
    rw[h1]
   have hq1:q1=se.kind:=by
    have h1:=hcu.seat
    rw[a2,Ye hst]at h1
    injection h1 with h1
    injection h1 with _ _ _ h4 _
    exact h4.symm
   have Q:=qk_stp_hon (i:=i) (cl:={ cl with point:=z1 }) (se:={ se with ready:=true,kind:=q1,value:=v1 }) G.h1.core.toCore G.htT (G.h1.fin hb1)
   have e':r2=Jb (r1.2.1.1,r1.2.1.2) r1.2.2.1 i t { cl with point:=z1 } { se with ready:=true,kind:=q1,value:=v1 } r1.2.2.2:=e
   rw[←e']at Q
   have hreg:isR r1.2.2.2→z = -1:=fun h=>by
    have h1:=O.cur.call
    rw[Q.reg h,a1,G.hc]at h1
    injection h1 with h1
    have:z=cl.point:=by rw[h1]
    rw[this]
    exact J.rg t i k se cl G.hk G.hse G.hl G.hc (a5 h)
   refine⟨fun h => ?_,fun h=>hreg (Q.reg' h),fun hf h => ?_⟩
   ·rcases Q.ans with h1|⟨hb,h1|⟨h1,h2,h3,h4⟩⟩
    ·exfalso
     obtain⟨s1,g1,g2⟩:=h1 _ O.cur.seat h
     rw[hcu.seat]at g1
     injection g1 with g1
     rw[←g1]at g2
     simp only[]at g2
     exact hpk (hq1▸g2)
    ·exact⟨hb,.inl (hreg h1)⟩
    ·refine⟨hb,.inr ⟨?_,?_⟩⟩
     ·have g:=O.cur.call
      rw[h4,Ye (by rw[a1];exact hli)]at g
      injection g with g
      injection g with _ _ _ _ _ _ g7 _ _
      rw[←g7,S.now1]
     ·refine D.full ?_ (a4 h1).1
      have:y.m.word (adr c 1 0)=r1.2.2.1.word (adr c 1 0):=by unfold Mch.word;rw[a3]
      rw[this];exact h2
   ·obtain⟨g1,g2⟩:=Q.ca hf h
    obtain⟨g3,g4⟩:=a4 g1
    exact⟨g3,by rw[g2,g4]⟩
 obtain⟨b1,b2,b3⟩:=H2
 have hmv:(Qd y t i se).now=(n:Int):=P.moves
 obtain⟨ds,hd,hdm⟩:=evq_shifts E
 simp only[]at hd hdm
 have hd:(Qc y t i r2).m.shifts=y.m.shifts++ds:=by rw[O.shifts];exact hd
 have hcl0:=J.ok.cl cl (Yc G.hc)
 have hk0:cl.kind=0:=by
  have h0:=hcl0.b0
  rcases hcl0.e with⟨_,h,h'⟩|⟨h,_⟩
  ·exact h
  ·have:=S.end1;omega
 have hold:∀x∈y.m.calls,x.kind=4→0≤x.point→FullAt c (puts (s0 c) (bef (Qc y t i r2).m.shifts x.point)) x.thread:=fun x hx h4 h0=>by
  have hx':=J.ok.cl x hx
  have:x.point<n:=by rcases hx'.p with h|h<;>omega
  rw[hd,bef_add fun d hd'=>by rw[hdm d hd',hmv];omega]
  exact J.hon x hx h4 h0
 have hoth:∀(t':Nat) (k':Zu) (se':Sea),t'≠t→(Qc y t i r2).tasks[t']? = some (some k')→(Qc y t i r2).m.seats[t']? = some se'→y.tasks[t']? = some (some k')∧y.m.seats[t']? = some se':=by
  intro t' k' se' hj h1 h2
  rw[O.seats,set_ne' hj]at h2
  have h1:(y.tasks.set t _)[t']? = some (some k'):=h1
  rw[set_ne' hj]at h1
  exact⟨h1,h2⟩
 have hself:∀(k':Zu) (se':Sea),(Qc y t i r2).tasks[t]? = some (some k')→(Qc y t i r2).m.seats[t]? = some se'→r2.1=false∧k'=r2.2.2.2∧se'={ se with ready:=true,kind:=q,value:=v }:=by
  intro k' se' h1 h2
  have h1:(y.tasks.set t _)[t]? = some (some k'):=h1
  rw[Ye htk]at h1
  rw[O.seats,Ye hst]at h2
  by_cases hb:r2.1=true
  ·rw[if_pos hb]at h1;cases h1
  ·rw[if_neg hb]at h1 h2
   injection h1 with h1
   injection h1 with h1
   injection h2 with h2
   exact⟨by simpa using hb,h1.symm,h2.symm⟩
 refine⟨R',⟨_,_,_,D'⟩,fun x hx h4 h0 => ?_,fun x hx => ?_,fun t' k' se' g1 g2 => ?_,fun t' i' k' se' cl' g1 g2 g3 g4 g5 => ?_,fun t' k' se' g1 g2 g3 g4 => ?_⟩
 ·rw[O.calls]at hx
  rcases QY hx with rfl|⟨j,_,hj⟩
  ·by_cases hb:r2.1=true
   ·rw[if_pos hb]at h4 h0 ⊢
    simp only[]at h4 h0 ⊢
    obtain⟨_,w|⟨w1,w2⟩⟩:=b1 h4
    ·omega
    ·rw[w1,hd,bef_add fun d hd'=>by rw[hdm d hd',hmv];omega,bef_all fun d hd=>J.ok.slt d hd,show puts (s0 c) y.m.shifts=y.s.2.slots from shfs_puts J.ok.srep,S.thr]
     exact w2
   ·rw[if_neg hb]at h4
    have h4:cl.kind=4:=h4
    omega
  ·exact hold x (Yc hj) h4 h0
 ·rw[O.calls]at hx
  rcases QY hx with rfl|⟨j,_,hj⟩
  ·have h0:cl.op≠10:=J.op cl (Yc G.hc)
   split<;>exact h0
  ·exact J.op x (Yc hj)
 ·by_cases hj:t'=t
  ·subst hj
   obtain⟨w1,w2,w3⟩:=hself k' se' g1 g2
   rw[w3]
   intro h4
   have:=(b1 h4).1
   rw[w1]at this;cases this
  ·obtain⟨w1,w2⟩:=hoth t' k' se' hj g1 g2
   exact J.pk t' k' se' w1 w2
 ·by_cases hj:t'=t
  ·subst hj
   obtain⟨w1,w2,w3⟩:=hself k' se' g1 g2
   rw[w3]at g3
   have:i'=i:=by have:=G.hl;simp only[]at g3;omega
   subst this
   rw[O.calls,Ye hli,if_neg (by rw[w1];simp)]at g4
   injection g4 with g4
   rw[←g4]
   exact b2 (w2▸g5)
  ·obtain⟨w1,w2⟩:=hoth t' k' se' hj g1 g2
   obtain⟨i0,cl0,h1,h2,h3,_⟩:=B.run.busy t' k' se' w1 w2
   have:i0=i':=by omega
   subst this
   have hne:i0≠i:=by
    rintro rfl
    rw[G.hc]at h2
    injection h2 with h2
    have:=S.thr
    rw[h2,h3]at this
    omega
   rw[O.calls,set_ne' hne,h2]at g4
   injection g4 with g4
   rw[←g4]
   exact J.rg t' i0 k' se' cl0 w1 w2 h1 h2 g5
 ·by_cases hj:t'=t
  ·subst hj
   obtain⟨w1,w2,w3⟩:=hself k' se' g1 g2
   obtain⟨w4,w5⟩:=b3 w1 (w2▸g4)
   show r2.2.1.2.caches.getD t' []=[]
   rw[w5];exact w4
  ·obtain⟨w1,w2⟩:=hoth t' k' se' hj g1 g2
   have hc:=G.h2.fr.caches t' hj
   show r2.2.1.2.caches.getD t' []=[]
   rw[Yb,hc,←Yb]
   exact J.ca t' k' se' w1 w2 g3 g4
end
theorem hon_ok (c:Cfg)(bh ba:Nat)(CX:Zb):JW c (qkT bh ba c CX) (HonJ c) where
 tick:=fun n y hn P B J=>⟨J.ok.tick,by obtain⟨stk,pr,F,D⟩:=J.dk;exact⟨stk,pr,F,D.tick⟩,J.hon,J.op,J.pk,J.rg,J.ca⟩
 beg:=fun n y mv t k v vc hn P B J ht htT hop hk hm=>by
  have hlt:=(List.getElem?_eq_some_iff.1 hk).1
  have hs:t<y.m.seats.length:=by rw[P.seats,←P.tasks];exact hlt
  have hold:∀(t':Nat) (k':Zu) (se':Sea),t'≠t→(y.tasks.set t (some k))[t']? = some (some k')→(Zz y.m t mv v vc).seats[t']? = some se'→y.tasks[t']? = some (some k')∧y.m.seats[t']? = some se':=by
   intro t' k' se' hj g1 g2
   simp only[Zz]at g2
   rw[set_ne' hj]at g1 g2
   exact⟨g1,g2⟩
  have hself:∀(se':Sea),(Zz y.m t mv v vc).seats[t]? = some se'→se'=⟨v,false,(y.m.calls.length:Int),1,0⟩:=by
   intro se' g2
   simp only[Zz]at g2
   rw[Ye hs]at g2
   injection g2 with g2
   exact g2.symm
  refine⟨J.ok.begin P ht hk,by obtain⟨stk,pr,F,D⟩:=J.dk;exact⟨stk,pr,F,D.begin P htT hk hm⟩,fun x hx h4 h0 => ?_,fun x hx => ?_,fun t' k' se' g1 g2 => ?_,fun t' i' k' se' cl' g1 g2 g3 g4 g5 => ?_,fun t' k' se' g1 g2 g3 g4 => ?_⟩
  ·rcases List.mem_append.1 hx with hx|hx
   ·exact J.hon x hx h4 h0
   ·simp at hx;subst hx;simp only[]at h0;omega
  ·rcases List.mem_append.1 hx with hx|hx
   ·exact J.op x hx
   ·simp at hx;subst hx
    show mv.op≠10
    rcases hop with h|h|h<;>omega
  ·by_cases hj:t'=t
   ·subst hj;rw[hself se' g2];simp
   ·obtain⟨w1,w2⟩:=hold t' k' se' hj g1 g2
    exact J.pk t' k' se' w1 w2
  ·by_cases hj:t'=t
   ·subst hj
    rw[hself se' g2]at g3
    have:i'=y.m.calls.length:=by simp only[]at g3;omega
    subst this
    simp only[Zz]at g4
    rw[List.getElem?_append_right (Nat.le_refl _),Nat.sub_self]at g4
    cases g4
    rfl
   ·obtain⟨w1,w2⟩:=hold t' k' se' hj g1 g2
    obtain⟨⟨i2,e1,e2⟩,_⟩:=P.task t' k' se' w1 w2
    have:i'=i2:=by omega
    subst this
    simp only[Zz]at g4
    rw[List.getElem?_append_left e2]at g4
    exact J.rg t' i' k' se' cl' w1 w2 g3 g4 g5
  ·by_cases hj:t'=t
   ·subst hj;rw[hself se' g2]at g3;cases g3
   ·obtain⟨w1,w2⟩:=hold t' k' se' hj g1 g2
    exact J.ca t' k' se' w1 w2 g3 g4
 step:=fun n y t i cl se k r1 r2 hn P B G P' B' J=>J.step hn P B G
theorem hon_start (c:Cfg)(hok:c.Ok)(km:Nat)(vs:Value):HonJ c 0 (gsq0 c km vs):=by
 have hno:∀(t:Nat) (k:Zu),(gsq0 c km vs).tasks[t]? ≠ some (some k):=by
  intro t k hk
  have hk:(List.replicate c.T.toNat (none:Option Zu))[t]? = some (some k):=hk
  have:=(List.mem_replicate.1 (Yc hk)).2
  cases this
 exact⟨runq_start hok km vs,⟨_,_,_,DK.start hok km vs⟩,fun x hx=>by simp[gsq0,mch0]at hx,fun x hx=>by simp[gsq0,mch0]at hx,fun t k se h=>absurd h (hno t k),fun t i k se cl h=>absurd h (hno t k),fun t k se h=>absurd h (hno t k)⟩
end
section
abbrev eB (b:Bool):List Value:=[.bool b]
theorem mem_take {α:Type}{xs:List α}{k:Nat}{x:α}(h:x∈xs.take k):∃j,j<k∧xs[j]? = some x:=by
 obtain⟨j,hj⟩:=List.getElem?_of_mem h
 rw[List.getElem?_take]at hj
 split at hj
 ·exact⟨j,by assumption,hj⟩
 ·cases hj
theorem take_mem {α:Type}{xs:List α}{j k:Nat}{x:α}(h:j<k)(hj:xs[j]? = some x):x∈xs.take k:=by
 apply Yc (i:=j)
 rw[List.getElem?_take,if_pos h];exact hj
theorem mem_take_succ {α:Type}{xs:List α}{k:Nat}{x z:α}(hz:xs[k]? = some z)(h:x∈xs.take (k+1)):x∈xs.take k∨x=z:=by
 rw[List.take_add_one,hz]at h
 rcases List.mem_append.1 h with h|h
 ·exact .inl h
 ·simp at h;exact .inr h
theorem cen_ends (cs:List Cll)(v:Value)(n:Int)(hn:n≤65536)(hl:cs.length<4294967296)(h0:∀x∈cs,(0≤x.begin_∧x.begin_<n)∧(x.end_ = -1∨0≤x.end_∧x.end_<n))
  (hb:Pw (fun x z=>x.begin_<z.begin_) cs) (he:Pw (fun x z=>x.end_ ≠ -1→x.end_≠z.end_) cs) (hbe:∀x∈cs,∀z∈cs,x.end_≠z.begin_) :
  Zl Tryz.prog 102 #[v] (cslR cs v) (.bool true) (cslR cs v):=by
 intro O w F hs
 obtain⟨a0,cap0,rfl⟩:=Qi (hs.pull (A:=cslR cs v) (by (with_reducible exact Qh)))
 simp only[List.length_map]at hs ⊢
 have h0:=Lh h0
 have hb:=Lh hb
 have he:=Lh he
 have hbe:=Lh hbe
 go_enter Tryz.func102,Tryz.ntmps102
 (repeat'(go_step))
 go_loopw [3,4] (fun tp q wr=>∃(k z:Nat),k≤cs.length∧q=.int .i64 (k:Int)∧tp=.int .i64 (z:Int)∧z≤65536∧Hid (∀x∈cs.take k,x.begin_≤(z:Int)∧x.end_≤(z:Int))∧Sat O wr (cslR cs (.slice a0 cs.length cap0)*F)) (fun _ q _=>cs.length+1-(intOf q).toNat)
 case atStart=>exact⟨0,0,by omega,rfl,rfl,by omega,Lh (by simp),by ((with_reducible apply Sat.fin hs);(with_reducible exact Ql))⟩
 case round=>
  obtain⟨k,z,k1,rfl,rfl,z1,hz,hs⟩:=hrel
  by_cases hkr:k=cs.length
  ·subst hkr
   have hlt:decide ((cs.length:Int)<(cs.length:Int))=false:=by simp
   have hz2:decide ((z:Int)≤262144)=true:=by simp;omega
   have hw:wrap64 ((z:Int)+1)=(z:Int)+1:=by unfold wrap64;omega
   have hz3:z+1≤4294967296:=by omega
   rw[List.take_length]at hz
   (repeat'(first|(go_big_may;(first|((with_reducible apply Zp hs);exact Ii;rfl;(with_reducible exact Qh);rfl;simp only[Uc,Uz])|((with_reducible apply wl_mk hs);exact Ii;exact Ii;rfl;rfl;rfl;rfl;rfl;omega;exact Vb rfl;rfl;clear hs;intro w v hs;simp only[Uc,Uz])))|go_step))
   obtain⟨a5,c5,rfl⟩:=Qi (hs.pull (A:=sl 4 1 _ v) (by (with_reducible exact Qh)))
   simp only[List.length_replicate,List.length_map]at hs ⊢
   go_loopw [6] (fun q wr=>∃(k:Nat) (bs:List Bool),k≤cs.length∧q=.int .i64 (k:Int)∧bs.length=z+1∧Hid (∀j:Nat,bs[j]? = some true→∃x∈cs.take k,x.begin_=(j:Int)∨x.end_=(j:Int)) ∧
    Sat O wr (sl 4 1 (bs.map eB) (.slice a5 (z+1) c5)*(cslR cs (.slice a0 cs.length cap0)*F))) (fun q _=>cs.length+1-(intOf q).toNat)
   case atStart=>
    refine⟨0,List.replicate (z+1) false,by omega,rfl,by simp,Lh (fun j hj => ?_),by rw[List.map_replicate];((with_reducible apply Sat.fin hs);(focus((repeat(first|with_reducible exact Ql|with_reducible apply Qb|exact Qh));done)))⟩
    have:=(List.mem_replicate.1 (Yc hj)).2
    cases this
   case round=>
    obtain⟨k,bs,k1,rfl,hbl,hbs,hs⟩:=hrel
    by_cases hkr:k=cs.length
    ·subst hkr
     have hlt:decide ((cs.length:Int)<(cs.length:Int))=false:=by simp
     (repeat'(first|(go_big_may;((with_reducible apply Zp hs);exact Ii;rfl;(with_reducible repeat first|exact Qh|apply Qk);rfl;simp only[Uc,Uz]))|go_step))
     go_ret
     exact⟨rfl,by (with_reducible apply Sat.fin hs;repeat first|exact Ql|exact Qh|apply Qb|apply Qk)⟩
    ·have hlt:decide ((k:Int)<(cs.length:Int))=true:=by simp;omega
     have hlt2:decide (k<cs.length)=true:=by simp;omega
     have hln:k<(cs.map Cll.e).length:=by simp;omega
     obtain⟨x,hx⟩:∃x,cs[k]? = some x:=⟨_,Yd (by omega)⟩
     obtain⟨⟨x1,x2⟩,x3⟩:=h0.out x (Yc hx)
     obtain⟨x4,x5⟩:=hz.out x (Yc hx)
     have hnB:∀j:Nat,(j:Int)=x.begin_→bs[j]? = some false:=by
      intro j hj
      have hjl:j<bs.length:=by omega
      cases hg:bs[j]'hjl with
      | false=>rw[Yd hjl,hg]
      | true=>
       obtain⟨y,hy,hy2⟩:=hbs.out j (by rw[Yd hjl,hg])
       obtain⟨i,hi,hy⟩:=mem_take hy
       rcases hy2 with hy2|hy2
       ·have:=hb.out i k y x hi hy hx;omega
       ·exact absurd (hy2.trans hj) (hbe.out y (Yc hy) x (Yc hx))
     have hnE:∀j:Nat,(j:Int)=x.end_→x.end_ ≠ -1→(bs.set x.begin_.toNat true)[j]? = some false:=by
      intro j hj hne
      have hjl:j<bs.length:=by omega
      have hjb:x.begin_.toNat≠j:=by
       intro e
       exact hbe.out x (Yc hx) x (Yc hx) (by omega)
      rw[Yf hjb]
      cases hg:bs[j]'hjl with
      | false=>rw[Yd hjl,hg]
      | true=>
       obtain⟨y,hy,hy2⟩:=hbs.out j (by rw[Yd hjl,hg])
       obtain⟨i,hi,hy⟩:=mem_take hy
       rcases hy2 with hy2|hy2
       ·exact absurd (hj.symm.trans hy2.symm) (hbe.out x (Yc hx) y (Yc hy))
       ·exact absurd (hy2.trans hj) (he.out i k y x hi hy hx (by omega))
     have hold:∀(bs':List Bool),(∀j:Nat,bs'[j]? = some true→bs[j]? = some true∨(j:Int)=x.begin_∨(j:Int)=x.end_)→∀j:Nat,bs'[j]? = some true→∃x∈cs.take (k+1),x.begin_=(j:Int)∨x.end_=(j:Int):=by
      intro bs' h j hj
      rcases h j hj with h|h|h
      ·obtain⟨y,hy,hy2⟩:=hbs.out j h
       obtain⟨i,hi,hy⟩:=mem_take hy
       exact⟨y,take_mem (by omega) hy,hy2⟩
      ·exact⟨x,take_mem (by omega) hx,.inl h.symm⟩
      ·exact⟨x,take_mem (by omega) hx,.inr h.symm⟩
     obtain⟨c1,c2,c3,c4,c5,c6,c7,c8,c9⟩:=x
     simp only[]at x1 x2 x3 x4 x5 hnB hnE hold
     obtain⟨B,rfl⟩:∃B:Nat,c5=(B:Int):=⟨c5.toNat,by omega⟩
     have hB:=hnB B rfl
     simp only[Yo]at hnE
     have hBl:B<bs.length:=(List.getElem?_eq_some_iff.1 hB).1
     have hBl2:B<(bs.map eB).length:=by simp;exact hBl
     have hBl3:decide (B<bs.length)=true:=by simpa using hBl
     have hBg:(bs.map eB)[B]? = some [.bool false]:=by rw[Ym,hB];rfl
     have hw:wrap64 ((k:Int)+1)=(k:Int)+1:=by unfold wrap64;omega
     have hgv:(cs.map Cll.e)[k]? = some (Cll.e ⟨c1,c2,c3,c4,(B:Int),c6,c7,c8,c9⟩):=by rw[Ym,hx];rfl
     have set_or:∀(l:List Bool) (i j:Nat),(l.set i true)[j]? = some true→l[j]? = some true∨j=i:=by
      intro l i j hj
      by_cases e:j=i
      ·exact .inr e
      ·rw[Yf (Ne.symm e)]at hj;exact .inl hj
     by_cases hE:c6 = -1
     ·subst hE
      have hge:decide ((-1:Int)≥0)=false:=rfl
      have hold:=Lh (hold (bs.set B true) (fun j hj=>by rcases set_or _ _ _ hj with h|h;exact .inl h;exact .inr (.inl (by omega))))
      have hbl:=Lh hbl
      clear hnE hnB x1 x2 x3 x4 x5 set_or hB hBl
      (repeat'(first|(go_big_may;(first|((with_reducible apply QW hs);exact Ii;rfl;assumption;(with_reducible repeat first|exact Qh|apply Qk);rfl;(assumption);rfl;rfl;simp only[Uc,Uz])|((with_reducible apply Zn hs);exact Ii;rfl;assumption;(with_reducible exact Qh);rfl;(assumption);rfl;rfl;simp only[Uc,Uz])|((with_reducible apply ZS hs);exact Ii;rfl;rfl;assumption;(with_reducible exact Qh);rfl;(assumption);exact Vb rfl;rfl;rfl;clear hs;intro w hs)|((with_reducible apply ZU hs);exact Ii;exact Ii;rfl;assumption;rfl;(with_reducible repeat first|exact Qh|apply Qk);rfl;(assumption);rfl;simp only[Uc,Uz])|((with_reducible apply ZE hs);exact Ii;exact Ii;rfl;rfl;(with_reducible repeat first|exact Qh|apply Qk);rfl;(assumption);rfl;intro b off hat;simp only[Uc,Uz])|((with_reducible apply Zp hs);exact Ii;rfl;(with_reducible repeat first|exact Qh|apply Qk);rfl;simp only[Uc,Uz])))|go_step))
      go_roundw
      case rel=>exact⟨k+1,bs.set B true,by omega,by simp,by simp[hbl.out],hold,by rw[Yk];((with_reducible apply Sat.fin hs);(focus((repeat(first|with_reducible exact Ql|with_reducible apply Qb|exact Qh));done)))⟩
      case measure=>simp[intOf];omega
     ·obtain⟨E,rfl⟩:∃E:Nat,c6=(E:Int):=⟨c6.toNat,by omega⟩
      have hge:decide ((E:Int)≥0)=true:=by simp
      have hEg:=hnE E rfl hE
      have hEl:E<(bs.set B true).length:=(List.getElem?_eq_some_iff.1 hEg).1
      have hEl2:E<((bs.map eB).set B [.bool true]).length:=by simp at hEl ⊢;exact hEl
      have hEl3:decide (E<bs.length)=true:=by simpa using hEl
      have hEg2:((bs.map eB).set B [.bool true])[E]? = some [.bool false]:=by
       have:((bs.set B true).map eB)[E]? = some [.bool false]:=by rw[Ym,hEg];rfl
       rw[Yk]at this
       exact this
      have hold:=Lh (hold ((bs.set B true).set E true) (fun j hj=>by
       rcases set_or _ _ _ hj with h|h
       ·rcases set_or _ _ _ h with h|h
        ·exact .inl h
        ·exact .inr (.inl (by omega))
       ·exact .inr (.inr (by omega))))
      have hbl:=Lh hbl
      clear hnE hnB x1 x2 x3 x4 x5 set_or hE hEg hEl hB hBl
      (repeat'(first|(go_big_may;(first|((with_reducible apply QW hs);exact Ii;rfl;assumption;(with_reducible repeat first|exact Qh|apply Qk);rfl;(assumption);rfl;rfl;simp only[Uc,Uz])|((with_reducible apply Zn hs);exact Ii;rfl;assumption;(with_reducible exact Qh);rfl;(assumption);rfl;rfl;simp only[Uc,Uz])|((with_reducible apply ZS hs);exact Ii;rfl;rfl;assumption;(with_reducible exact Qh);rfl;(assumption);exact Vb rfl;rfl;rfl;clear hs;intro w hs)|((with_reducible apply ZU hs);exact Ii;exact Ii;rfl;assumption;rfl;(with_reducible repeat first|exact Qh|apply Qk);rfl;(assumption);rfl;simp only[Uc,Uz])|((with_reducible apply ZE hs);exact Ii;exact Ii;rfl;rfl;(with_reducible repeat first|exact Qh|apply Qk);rfl;(assumption);rfl;intro b off hat;simp only[Uc,Uz])|((with_reducible apply Zp hs);exact Ii;rfl;(with_reducible repeat first|exact Qh|apply Qk);rfl;simp only[Uc,Uz])))|go_step))
      go_roundw
      case rel=>exact⟨k+1,(bs.set B true).set E true,by omega,by simp,by simp[hbl.out],hold,by rw[Yk,Yk];((with_reducible apply Sat.fin hs);(focus((repeat(first|with_reducible exact Ql|with_reducible apply Qb|exact Qh));done)))⟩
      case measure=>simp[intOf];omega
  ·have hlt:decide ((k:Int)<(cs.length:Int))=true:=by simp;omega
   have hlt2:decide (k<cs.length)=true:=by simp;omega
   have hln:k<(cs.map Cll.e).length:=by simp;omega
   obtain⟨x,hx⟩:∃x,cs[k]? = some x:=⟨_,Yd (by omega)⟩
   obtain⟨⟨x1,x2⟩,x3⟩:=h0.out x (Yc hx)
   have hnew:∀z':Nat,z≤z'→x.begin_≤(z':Int)→x.end_≤(z':Int)→∀y∈cs.take (k+1),y.begin_≤(z':Int)∧y.end_≤(z':Int):=by
    intro z' h1 h2 h3 y hy
    rcases mem_take_succ hx hy with hy|rfl
    ·have:=hz.out y hy;omega
    ·exact⟨h2,h3⟩
   obtain⟨c1,c2,c3,c4,c5,c6,c7,c8,c9⟩:=x
   simp only[]at x1 x2 x3 hnew
   obtain⟨B,rfl⟩:∃B:Nat,c5=(B:Int):=⟨c5.toNat,by omega⟩
   have hw:wrap64 ((k:Int)+1)=(k:Int)+1:=by unfold wrap64;omega
   have hgv:(cs.map Cll.e)[k]? = some (Cll.e ⟨c1,c2,c3,c4,(B:Int),c6,c7,c8,c9⟩):=by rw[Ym,hx];rfl
   by_cases e1:c6>(z:Int)
   ·obtain⟨E,rfl⟩:∃E:Nat,c6=(E:Int):=⟨c6.toNat,by omega⟩
    have f1:decide ((E:Int)>(z:Int))=true:=by simp;omega
    have f1':decide (z<E)=true:=by simp;omega
    by_cases e2:(B:Int)>(E:Int)
    ·have f2:decide ((B:Int)>(E:Int))=true:=by simp;omega
     have f2':decide (E<B)=true:=by simp;omega
     have hnew:=Lh (hnew B (by omega) (by omega) (by omega))
     have hB:=Lh (show B≤65536 by omega)
     clear e1 e2 x1 x2 x3
     (repeat'(first|(go_big_may;(first|((with_reducible apply QW hs);exact Ii;rfl;assumption;(with_reducible exact Qh);rfl;(assumption);rfl;rfl;simp only[Uc,Uz])|((with_reducible apply ZU hs);exact Ii;exact Ii;rfl;assumption;rfl;(with_reducible exact Qh);rfl;(assumption);rfl;simp only[Uc,Uz])|((with_reducible apply ZE hs);exact Ii;exact Ii;rfl;rfl;(with_reducible exact Qh);rfl;(assumption);rfl;intro b off hat;simp only[Uc,Uz])|((with_reducible apply Zp hs);exact Ii;rfl;(with_reducible exact Qh);rfl;simp only[Uc,Uz])))|go_step))
     go_roundw
     case rel=>exact⟨k+1,B,by omega,by simp,rfl,hB.out,hnew,by ((with_reducible apply Sat.fin hs);(with_reducible exact Ql))⟩
     case measure=>simp[intOf];omega
    ·have f2:decide ((B:Int)>(E:Int))=false:=by simp;omega
     have f2':decide (E<B)=false:=by simp;omega
     have hnew:=Lh (hnew E (by omega) (by omega) (by omega))
     have hB:=Lh (show E≤65536 by omega)
     clear e1 e2 x1 x2 x3
     (repeat'(first|(go_big_may;(first|((with_reducible apply QW hs);exact Ii;rfl;assumption;(with_reducible exact Qh);rfl;(assumption);rfl;rfl;simp only[Uc,Uz])|((with_reducible apply ZU hs);exact Ii;exact Ii;rfl;assumption;rfl;(with_reducible exact Qh);rfl;(assumption);rfl;simp only[Uc,Uz])|((with_reducible apply ZE hs);exact Ii;exact Ii;rfl;rfl;(with_reducible exact Qh);rfl;(assumption);rfl;intro b off hat;simp only[Uc,Uz])|((with_reducible apply Zp hs);exact Ii;rfl;(with_reducible exact Qh);rfl;simp only[Uc,Uz])))|go_step))
     go_roundw
     case rel=>exact⟨k+1,E,by omega,by simp,rfl,hB.out,hnew,by ((with_reducible apply Sat.fin hs);(with_reducible exact Ql))⟩
     case measure=>simp[intOf];omega
   ·have f1:decide (c6>(z:Int))=false:=by simp;omega
    by_cases e2:(B:Int)>(z:Int)
    ·have f2:decide ((B:Int)>(z:Int))=true:=by simp;omega
     have f2':decide (z<B)=true:=by simp;omega
     have hnew:=Lh (hnew B (by omega) (by omega) (by omega))
     have hB:=Lh (show B≤65536 by omega)
     clear e1 e2 x1 x2 x3
     (repeat'(first|(go_big_may;(first|((with_reducible apply QW hs);exact Ii;rfl;assumption;(with_reducible exact Qh);rfl;(assumption);rfl;rfl;simp only[Uc,Uz])|((with_reducible apply ZU hs);exact Ii;exact Ii;rfl;assumption;rfl;(with_reducible exact Qh);rfl;(assumption);rfl;simp only[Uc,Uz])|((with_reducible apply ZE hs);exact Ii;exact Ii;rfl;rfl;(with_reducible exact Qh);rfl;(assumption);rfl;intro b off hat;simp only[Uc,Uz])|((with_reducible apply Zp hs);exact Ii;rfl;(with_reducible exact Qh);rfl;simp only[Uc,Uz])))|go_step))
     go_roundw
     case rel=>exact⟨k+1,B,by omega,by simp,rfl,hB.out,hnew,by ((with_reducible apply Sat.fin hs);(with_reducible exact Ql))⟩
     case measure=>simp[intOf];omega
    ·have f2:decide ((B:Int)>(z:Int))=false:=by simp;omega
     have f2':decide (z<B)=false:=by simp;omega
     have hnew:=Lh (hnew z (by omega) (by omega) (by omega))
     have hB:=Lh (show z≤65536 by omega)
     clear e1 e2 x1 x2 x3
     (repeat'(first|(go_big_may;(first|((with_reducible apply QW hs);exact Ii;rfl;assumption;(with_reducible exact Qh);rfl;(assumption);rfl;rfl;simp only[Uc,Uz])|((with_reducible apply ZU hs);exact Ii;exact Ii;rfl;assumption;rfl;(with_reducible exact Qh);rfl;(assumption);rfl;simp only[Uc,Uz])|((with_reducible apply ZE hs);exact Ii;exact Ii;rfl;rfl;(with_reducible exact Qh);rfl;(assumption);rfl;intro b off hat;simp only[Uc,Uz])|((with_reducible apply Zp hs);exact Ii;rfl;(with_reducible exact Qh);rfl;simp only[Uc,Uz])))|go_step))
     go_roundw
     case rel=>exact⟨k+1,z,by omega,by simp,rfl,hB.out,hnew,by ((with_reducible apply Sat.fin hs);(with_reducible exact Ql))⟩
     case measure=>simp[intOf];omega
end
end Go.Proofs.YtefjbdajgakgpaaGreat
