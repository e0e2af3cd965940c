import Derived.Test.YtefjbdajgakgpaaGreatDRo
set_option linter.all false
namespace Go.Proofs.YtefjbdajgakgpaaGreat
open Go.RowKit Hp
set_option maxRecDepth 100000
set_option maxHeartbeats 1000000
attribute [local irreducible] Go.Calls
section
variable [TopR]
theorem count_set:∀ {l:List Int} {i:Nat} {u:Int} (v s:Int),l[i]? = some u→(l.set i v).count s+[u].count s=l.count s+[v].count s
 | [],_,_,_,_,h=>by simp at h
 | a::r,0,u,v,s,h=>by simp at h;subst h;simp only[Uz,List.count_cons,List.count_nil];omega
 | a::r,i+1,u,v,s,h=>by
  simp only[Ue]at h
  have:=count_set v s h
  simp only[Uc,List.count_cons]at this ⊢;omega
section
variable {c:Cfg}{n:Int}{Z Y:Int→Nat}{F:List Int}{x:Sx}{K L:List Int}{t:Nat}{W:Int→Prop}
theorem getD_some {l:List (List Int)}{i:Nat}{y:List Int}(h:l[i]? = some y):l.getD i []=y:=by
 rw[Yb,h];rfl
theorem Gd.lock (G:Gd c n Z Y F x K []){r q:Int}(r0:0≤r)(r1:r<c.R)(h:x.held[t]? = some r)(q0:0≤q)(q1:q<c.R)(hne:q≠r)(ha:x.V.act q=0){l l':List Int}(hl:x.lists[r.toNat]? = some l)(hl':x.lists[q.toNat]? = some l') :
  Gd c n Z Y F { x with V:={ x.V with act:=upd x.V.act q 1 },lists:=(x.lists.set r.toNat (l++l')).set q.toNat [] } K [q]∧Rl Z t W x { x with V:={ x.V with act:=upd x.V.act q 1 },lists:=(x.lists.set r.toNat (l++l')).set q.toNat [] }:=by
 have hq:x.held.count q+Y q=0:=by
  have:=G.rcd q q0 q1
  rw[ha]at this
  simp only[List.count_nil]at this
  omega
 have hlq:(x.lists.set r.toNat (l++l'))[q.toNat]? = some l':=by rw[ZT (by omega)];exact hl'
 refine⟨⟨?_,G.stF,G.stC,G.stX,?_,G.stZ,G.chain,G.hd0,G.tag,?_,?_,G.pr1,G.pr2,G.stK,G.lk⟩,.inl rfl,fun _ _ _ _=>rfl,fun _ _=>rfl,fun _ _=>rfl,fun _ _=>rfl,fun _ _=>rfl,?_,fun _ _=>⟨rfl,id⟩,fun _ h=>.inl ⟨h,rfl⟩,fun _ _=>rfl,fun _ _=>rfl⟩
 ·intro s'
  have:=G.tot s'
  have h1:=cnt2_set (l++l') s' hl
  have h2:=cnt2_set [] s' hlq
  show F.count s'+cnt2 x.caches s'+Z s'+K.count s'+ind (0≤s'∧x.V.cell=s'+1)+cnt2 ((x.lists.set r.toNat (l++l')).set q.toNat []) s'+x.stk.count s'=_
  simp only[List.count_append,List.count_nil]at h1 h2
  omega
 ·intro l2 h2 s' h'
  have h2:l2∈(x.lists.set r.toNat (l++l')).set q.toNat []:=h2
  rcases List.mem_or_eq_of_mem_set h2 with h2|rfl
  ·rcases List.mem_or_eq_of_mem_set h2 with h2|rfl
   ·exact G.stL l2 h2 s' h'
   ·rcases List.mem_append.1 h' with h'|h'
    ·exact G.stL l (Yc hl) s' h'
    ·exact G.stL l' (Yc hl') s' h'
  ·simp at h'
 ·intro r' r0' r1'
  have:=G.rcd r' r0' r1'
  show((x.held.count r'+Y r'+[q].count r':Nat):Int)=upd x.V.act q 1 r'
  simp only[List.count_nil]at this
  by_cases e:r'=q
  ·subst e
   rw[Qm]
   have:[r'].count r'=1:=by simp
   omega
  ·rw[Jw _ _ e]
   have:[q].count r'=0:=by simp[Ne.symm e]
   omega
 ·intro r' r0' r1'
  show upd x.V.act q 1 r'=0∨upd x.V.act q 1 r'=1
  by_cases e:r'=q
  ·subst e;rw[Qm];exact .inr rfl
  ·rw[Jw _ _ e];exact G.act1 r' r0' r1'
 ·intro j r' hj hr' r0'
  show((x.lists.set r.toNat (l++l')).set q.toNat []).getD r'.toNat []=_
  have h1:r'.toNat≠r.toNat:=by
   intro e
   have:r'=r:=by omega
   subst this
   exact hj (G.alone r0 r1 h hr')
  have h2:r'.toNat≠q.toNat:=by
   intro e
   have:r'=q:=by omega
   subst this
   have:=cpos (Yc hr')
   omega
  simp only[Yb,ZT h2,ZT h1]
theorem Gd.unlock {q:Int}(G:Gd c n Z Y F x K [q]) :
  Gd c n Z Y F { x with V:={ x.V with act:=upd x.V.act q 0 } } K []∧Rl Z t W x { x with V:={ x.V with act:=upd x.V.act q 0 } }:=by
 refine⟨⟨G.tot,G.stF,G.stC,G.stX,G.stL,G.stZ,G.chain,G.hd0,G.tag,?_,?_,G.pr1,G.pr2,G.stK,G.lk⟩,.inl rfl,fun _ _ _ _=>rfl,fun _ _=>rfl,fun _ _=>rfl,fun _ _=>rfl,fun _ _=>rfl,fun _ _ _ _ _=>rfl,fun _ _=>⟨rfl,id⟩,fun _ h=>.inl ⟨h,rfl⟩,fun _ _=>rfl,fun _ _=>rfl⟩
 ·intro r' r0' r1'
  have h1:=G.rcd r' r0' r1'
  have h2:=G.act1 r' r0' r1'
  show((x.held.count r'+Y r'+[].count r':Nat):Int)=upd x.V.act q 0 r'
  by_cases e:r'=q
  ·subst e
   rw[Qm]
   have:[r'].count r'=1:=by simp
   simp only[List.count_nil]
   omega
  ·rw[Jw _ _ e]
   have:[q].count r'=0:=by simp[Ne.symm e]
   simp only[List.count_nil]
   omega
 ·intro r' r0' r1'
  show upd x.V.act q 0 r'=0∨upd x.V.act q 0 r'=1
  by_cases e:r'=q
  ·subst e;rw[Qm];exact .inl rfl
  ·rw[Jw _ _ e];exact G.act1 r' r0' r1'
theorem Gd.register (G:Gd c n Z Y F x K L){r u:Int}(r0:0≤r)(r1:r<c.R)(h:x.held[t]? = some u)(hu:u<0)(ha:x.V.act r=0) :
  Gd c n Z Y F { x with V:={ x.V with act:=upd x.V.act r 1 },held:=x.held.set t r } K L∧Rl Z t W x { x with V:={ x.V with act:=upd x.V.act r 1 },held:=x.held.set t r }:=by
 refine⟨⟨G.tot,G.stF,G.stC,G.stX,G.stL,G.stZ,G.chain,G.hd0,G.tag,?_,?_,G.pr1,G.pr2,G.stK,G.lk⟩,.inl rfl,fun _ _ _ _=>rfl,fun _ _=>rfl,fun _ _=>rfl,fun _ _=>rfl,fun j hj=>ZT hj,fun _ _ _ _ _=>rfl,fun _ _=>⟨rfl,id⟩,fun _ h=>.inl ⟨h,rfl⟩,fun _ _=>rfl,fun _ _=>rfl⟩
 ·intro r' r0' r1'
  have h1:=G.rcd r' r0' r1'
  have h2:=count_set r r' h
  have h3:[u].count r'=0:=List.count_eq_zero.2 (by simp only[List.mem_singleton];omega)
  show(((x.held.set t r).count r'+Y r'+L.count r':Nat):Int)=upd x.V.act r 1 r'
  by_cases e:r'=r
  ·subst e
   rw[Qm]
   have:[r'].count r'=1:=by simp
   omega
  ·rw[Jw _ _ e]
   have:[r].count r'=0:=by simp[Ne.symm e]
   omega
 ·intro r' r0' r1'
  show upd x.V.act r 1 r'=0∨upd x.V.act r 1 r'=1
  by_cases e:r'=r
  ·subst e;rw[Qm];exact .inr rfl
  ·rw[Jw _ _ e];exact G.act1 r' r0' r1'
theorem Gd.unregister (G:Gd c n Z Y F x K L){r:Int}(r0:0≤r)(r1:r<c.R)(h:x.held[t]? = some r) :
  Gd c n Z Y F { x with V:={ x.V with act:=upd x.V.act r 0 },held:=x.held.set t (-1) } K L∧Rl Z t W x { x with V:={ x.V with act:=upd x.V.act r 0 },held:=x.held.set t (-1) }:=by
 refine⟨⟨G.tot,G.stF,G.stC,G.stX,G.stL,G.stZ,G.chain,G.hd0,G.tag,?_,?_,G.pr1,G.pr2,G.stK,G.lk⟩,.inl rfl,fun _ _ _ _=>rfl,fun _ _=>rfl,fun _ _=>rfl,fun _ _=>rfl,fun j hj=>ZT hj,fun _ _ _ _ _=>rfl,fun _ _=>⟨rfl,id⟩,fun _ h=>.inl ⟨h,rfl⟩,fun _ _=>rfl,fun _ _=>rfl⟩
 ·intro r' r0' r1'
  have h1:=G.rcd r' r0' r1'
  have h4:=G.act1 r' r0' r1'
  have h2:=count_set (-1) r' h
  have h3:[(-1:Int)].count r'=0:=List.count_eq_zero.2 (by simp only[List.mem_singleton];omega)
  show(((x.held.set t (-1)).count r'+Y r'+L.count r':Nat):Int)=upd x.V.act r 0 r'
  by_cases e:r'=r
  ·subst e
   rw[Qm]
   have:[r'].count r'=1:=by simp
   omega
  ·rw[Jw _ _ e]
   have:[r].count r'=0:=by simp[Ne.symm e]
   omega
 ·intro r' r0' r1'
  show upd x.V.act r 0 r'=0∨upd x.V.act r 0 r'=1
  by_cases e:r'=r
  ·subst e;rw[Qm];exact .inl rfl
  ·rw[Jw _ _ e];exact G.act1 r' r0' r1'
end
/-! ## what a call knows -/
def PD (x:Sx)(p:Psh):Prop:=p.at_=3→x.V.nx p.slot=p.head%4294967296
structure TkD (x:Sx)(k:Tak):Prop where
 tag:k.at_≠1→k.head / 4294967296≤x.V.hd / 4294967296
 next:k.at_=3→x.V.hd=k.head→x.V.nx (k.head%4294967296-1)=k.next
def giveL (g:Option Psh)(l:List Int):List Int:=match g with|some p=>p.slot::l|none=>l
def scnP (s:Scn):List Int:=if s.stage=5 then giveL s.give s.pending else []
structure ScD (t:Nat)(x:Sx)(s:Scn):Prop where
 rcd:x.held[t]? = some s.record
 look:s.stage=3→∀s0∈x.lists.getD s.record.toNat [],∀j,0≤j→j<s.at_→x.pr j→x.V.hz j=s0+1→0<s.named s0
 give:s.stage=5→∀p,s.give=some p→PD x p
 st:∀s0∈scnP s,(x.sl s0).state=5
 pr:∀s0∈scnP s,∀j,x.pr j→x.V.hz j≠s0+1
def scOf:Z8→Option Scn
 | .scn s=>some s
 | .unr u=>if u.stage=1 then u.scan else none
 | .pst p=>if p.stage=4 then (match p.retire with|some r=>r.scan|none=>none) else none
 | _=>none
def hO:Z8→List Int
 | .pst p=>if p.stage=1∨p.stage=2∨p.stage=3 then [p.link-1] else []
 | _=>[]
def hP (k:Z8):List Int:=match scOf k with|some s=>scnP s|none=>[]
def hL (k:Z8):List Int:=match scOf k with|some s=>(if s.stage=2 then [s.at_] else [])|none=>[]
def hS (k:Z8):List Int:=hO k++hP k
def tS:Option Z8→List Int
 | some k=>hS k
 | none=>[]
def tL:Option Z8→List Int
 | some k=>hL k
 | none=>[]
def Own (c:Cfg)(t:Nat)(x:Sx)(j:Int):Prop:=∃r,x.held[t]? = some r∧0≤r∧r<c.R∧r*c.Hz≤j∧j<r*c.Hz+c.Hz
structure TD (c:Cfg)(t:Nat)(x:Sx)(k:Z8):Prop where
 scan:∀s,scOf k=some s→ScD t x s
 own:∀s∈hO k,x.sl s=⟨2,(t:Int)⟩
 flush:∀u,k=.unr u→u.stage=2→∀p,u.flush=some p→PD x p∧∃y,x.caches[t]? = some (y++[p.slot])
 take:∀p,k=.pst p→p.stage=0→∀k',p.take=some k'→TkD x k'
 val:∀p,k=.pst p→p.stage=2∨p.stage=3→x.V.val (p.link-1)=p.value%18446744073709551616
 rd:∀r,k=.rdg r→Own c t x (r.addr-base c 9)∧(r.stage=2→x.V.hz (r.addr-base c 9)=r.w)∧(r.stage=3→x.pr (r.addr-base c 9)∧x.V.hz (r.addr-base c 9)=r.w)
 cl:∀ad:Nat,k=.clr ad→Own c t x (ad-base c 9)
 reg:∀r,k=.reg r→∃u,x.held[t]? = some u∧u<0
section
variable {c:Cfg}{n:Int}{Z Y:Int→Nat}{F:List Int}{x x':Sx}{K L:List Int}{t t':Nat}{W:Int→Prop}
theorem PD.rely {p:Psh}(D:PD x p)(R:Rl Z t W x x')(h:0<Z p.slot∨Oc t x p.slot):PD x' p:=by
 intro h3;rw[R.nx _ h];exact D h3
theorem TkD.rely {k:Tak}(D:TkD x k)(R:Rl Z t W x x')(h:k.at_=3→1≤k.head%4294967296):TkD x' k:=by
 refine⟨fun h1 => ?_,fun h3 e => ?_⟩
 ·have:=D.tag h1
  rcases R.hd with e|e
  ·rw[e];exact this
  ·omega
 ·have h1:=D.tag (by omega)
  rcases R.hd with a|a
  ·have e':x.V.hd=k.head:=by rw[←a];exact e
   rw[R.top a (k.head%4294967296-1) (by have:=h h3;omega) (by rw[e'];omega)]
   exact D.next h3 e'
  ·exfalso;rw[e]at a;omega
theorem Own.he {j:Int}(h:Own c t x j)(e:x'.held[t]? = x.held[t]?):Own c t x' j:=by
 obtain⟨r,h1,h2⟩:=h
 exact⟨r,by rw[e];exact h1,h2⟩
theorem own_two (G:Gd c n Z Y F x K L)(hok:c.Ok){j:Int}(h1:Own c t x j)(h2:Own c t' x j):t'=t:=by
 obtain⟨r,a1,a2,a3,a4,a5⟩:=h1
 obtain⟨q,b1,b2,b3,b4,b5⟩:=h2
 have hH:=hok.H1
 have e:r=q:=by
  rcases Int.lt_trichotomy r q with h|h|h
  ·have:(r+1)*c.Hz≤q*c.Hz:=Int.mul_le_mul_of_nonneg_right (by omega) (by omega)
   rw[Int.add_mul,Int.one_mul]at this;omega
  ·exact h
  ·have:(q+1)*c.Hz≤r*c.Hz:=Int.mul_le_mul_of_nonneg_right (by omega) (by omega)
   rw[Int.add_mul,Int.one_mul]at this;omega
 subst e
 exact G.alone a2 a3 a1 b1
theorem ScD.rely {s:Scn}(D:ScD t' x s)(R:Rl Z t W x x')(hne:t'≠t)(r0:0≤s.record)(hZ:∀s0∈scnP s,0<Z s0):ScD t' x' s:=by
 have hl:=R.li t' s.record hne D.rcd r0
 refine⟨by rw[R.he t' hne];exact D.rcd,?_,?_,?_,?_⟩
 ·intro h3 s0 hs0 j j0 j1 hp hz
  rw[hl]at hs0
  rcases R.prn j hp with⟨h1,h2⟩|h1
  ·exact D.look h3 s0 hs0 j j0 j1 h1 (by rw[←h2];exact hz)
  ·exfalso;apply h1
   rw[hz,show s0+1-1=s0 by omega]
   exact .inr ⟨t',s.record,hne,D.rcd,r0,hs0⟩
 ·intro h5 p hp
  exact(D.give h5 p hp).rely R (.inl (hZ _ (by unfold scnP;rw[if_pos h5,hp];exact List.mem_cons_self ..)))
 ·intro s0 h0;rw[R.sl s0 (hZ s0 h0)];exact D.st s0 h0
 ·intro s0 h0 j hp hz
  rcases R.prn j hp with⟨h1,h2⟩|h1
  ·exact D.pr s0 h0 j h1 (by rw[←h2];exact hz)
  ·apply h1
   rw[hz,show s0+1-1=s0 by omega]
   exact .inl (hZ s0 h0)
def TkS (k:Z8):Prop:=(∀s,scOf k=some s→0≤s.record)∧∀p,k=.pst p→p.stage=0→∀k',p.take=some k'→k'.at_=3→1≤k'.head%4294967296
theorem TD.rely {k:Z8}(D:TD c t' x k)(R:Rl Z t W x x')(hne:t'≠t)(hT:TkS k)(hZ:∀s∈hS k,0<Z s)(hW:∀j,W j→¬Own c t' x j):TD c t' x' k:=by
 refine⟨?_,?_,?_,?_,?_,?_,?_,?_⟩
 ·intro s hs
  refine(D.scan s hs).rely R hne (hT.1 s hs) fun s0 h0=>hZ s0 ?_
  unfold Go.Proofs.YtefjbdajgakgpaaGreat.hS hP
  rw[hs]
  exact List.mem_append_right _ h0
 ·intro s hs
  rw[R.sl s (hZ s (List.mem_append_left _ hs))];exact D.own s hs
 ·intro u hu h2 p hp
  obtain⟨d1,y,d2⟩:=D.flush u hu h2 p hp
  exact⟨d1.rely R (.inr ⟨t',_,hne,d2,by simp⟩),y,by rw[R.ca t' hne];exact d2⟩
 ·intro p hp h0 k' hk
  exact(D.take p hp h0 k' hk).rely R (hT.2 p hp h0 k' hk)
 ·intro p hp h2
  rw[R.val _ (.inl (hZ _ (List.mem_append_left _ ?_)))]
  ·exact D.val p hp h2
  ·subst hp;simp only[hO];rw[if_pos (by omega)];exact List.mem_cons_self ..
 ·intro r hr
  obtain⟨d1,d2,d3⟩:=D.rd r hr
  have hw:=R.hz _ (fun h=>hW _ h d1)
  exact⟨d1.he (R.he t' hne),fun h=>by rw[hw.1];exact d2 h,fun h=>⟨hw.2 (d3 h).1,by rw[hw.1];exact(d3 h).2⟩⟩
 ·intro ad h
  exact(D.cl ad h).he (R.he t' hne)
 ·intro r hr
  rw[R.he t' hne];exact D.reg r hr
end
end
section
variable [TopR]
def sx (stk:List Int)(pr:Int→Prop)(c:Cfg)(h:Haz)(a:Are)(m:Mch):Sx:=⟨stk,pr,mv c m,a.sl,a.caches,h.lists,h.held⟩
theorem ZL {stk:List Int}{pr:Int→Prop}{c:Cfg}{h:Haz}{a:Are}{m m':Mch}(e:m'.mem.words=m.mem.words):sx stk pr c h a m'=sx stk pr c h a m:=by
 unfold sx;rw[mv_same e]
def lkS (s:Scn):List Int:=if s.stage=2 then [s.at_] else []
section
variable {c:Cfg}{Lg S N:Nat}{h:Haz}{a:Are}{m:Mch}
variable {n:Int}{Z Y:Int→Nat}{F stk:List Int}{pr:Int→Prop}{K L:List Int}{t:Nat}{W:Int→Prop}
theorem nx_at {s:Int}(hs0:0≤s)(hs1:s<c.Sl):(mv c m).nx s=m.word (adr c 10 s):=by simp[mv,hs0,hs1]
theorem hz_at {j:Int}(j0:0≤j)(j1:j<c.R*c.Hz):(mv c m).hz j=m.word (adr c 9 j):=by simp[mv,j0,j1]
theorem act_at {r:Int}(r0:0≤r)(r1:r<c.R):(mv c m).act r=m.word (adr c 8 r):=by simp[mv,r0,r1]
theorem val_at {s:Int}(hs0:0≤s)(hs1:s<c.Sl):(mv c m).val s=m.word (adr c 11 s):=by simp[mv,hs0,hs1]
theorem push_gd {p:Psh}(C:Core c Lg S N h a m)(P:PInv c p)(G:Gd c n Z Y F (sx stk pr c h a m) (p.slot::K) L)(D:PD (sx stk pr c h a m) p)(hn:n<4294967295)(hp:∀j,pr j→(mv c m).hz j≠p.slot+1) :
  ∃F',Gd c (n+1) Z Y F' (sx stk pr c h (Za a m p).2.1 (Za a m p).2.2.1) (if (Za a m p).1=true then K else p.slot::K) L∧Rl Z t W (sx stk pr c h a m) (sx stk pr c h (Za a m p).2.1 (Za a m p).2.2.1) ∧
   ((Za a m p).1=false→PD (sx stk pr c h (Za a m p).2.1 (Za a m p).2.2.1) (Za a m p).2.2.2∧(Za a m p).2.1=a)∧(Za a m p).2.2.2.slot=p.slot∧∀s,s≠p.slot→(Za a m p).2.1.sl s=a.sl s:=by
 obtain⟨p1,p2,p3,p4⟩:=P
 have hac:=C.ac
 have hok:=C.ok
 have hS2:=hok.S2
 have hA1:=C.lt (adr_lt14 hok).1
 have hA2:=C.lt (adr_lt' hok (.inr ⟨.inl rfl,rfl⟩) p1 p2)
 have hsl:p.slot.toNat<a.slots.length:=by rw[C.slots];omega
 unfold Za
 rw[hac]
 split
 ·have e:sx stk pr c h a (m.load (adr c 1 0) (m.word (adr c 1 0)))=sx stk pr c h a m:=ZL rfl
  refine⟨F,?_,?_,fun _=>⟨?_,rfl⟩,rfl,fun _ _=>rfl⟩
  ·simp only[Yn,if_false,e];exact G.mono (by omega)
  ·simp only[e];exact Rl.refl ..
  ·intro h3;simp at h3
 ·rename_i h1
  have p4:=p4 h1
  split
  ·rename_i h2
   have e:sx stk pr c h a (m.store (adr c 10 p.slot) (m.word (adr c 10 p.slot)) (p.head%4294967296))={ sx stk pr c h a m with V:={ (sx stk pr c h a m).V with nx:=upd (sx stk pr c h a m).V.nx p.slot (p.head%4294967296) } }:=by
    unfold sx;rw[mv_nx hok p1 p2 rfl hA2]
   have G2:=G.next (t:=t) (W:=W) (s:=p.slot) (List.mem_cons_self ..) (p.head%4294967296)
   refine⟨F,?_,?_,fun _=>⟨?_,rfl⟩,rfl,fun _ _=>rfl⟩
   ·simp only[Yn,if_false,e];exact G2.1.mono (by omega)
   ·simp only[e];exact G2.2
   ·simp only[e];intro _;exact Qm ..
  ·rename_i h2
   have h3:p.at_=3:=by omega
   have D:=D h3
   simp only[]
   split
   ·rename_i hw
    have e:sx stk pr c h (a.shift p.slot.toNat m.thread 0) ((m.swap (adr c 1 0) (m.word (adr c 1 0)) p.head ((p.head / 4294967296+1)%4294967296*4294967296+(p.slot+1))).shift p.slot (a.slots.getD p.slot.toNat ⟨0,0⟩).state 0) =
      { sx stk pr c h a m with V:={ (sx stk pr c h a m).V with hd:=((sx stk pr c h a m).V.hd / 4294967296+1)%4294967296*4294967296+(p.slot+1) },sl:=updS (sx stk pr c h a m).sl p.slot ⟨0,-1⟩ }:=by
     unfold sx
     rw[mv_hd hok (z:=(p.head / 4294967296+1)%4294967296*4294967296+(p.slot+1)) (by simp only[Mch.shift,Mch.swap];rw[if_pos hw]) hA1,Jn p1 hsl]
     have hw2:(mv c m).hd=p.head:=hw
     simp only[hw2]
     rfl
    simp only[if_true,e]
    have G2:=G.state (t:=t) (W:=W) (s:=p.slot) (List.mem_cons_self ..) ⟨0,-1⟩ (by simp) (.inr (.inr hp))
    have hw2:(mv c m).hd=p.head:=hw
    have G3:=G2.1.push (t:=t) (W:=W) hn (by show(updS a.sl p.slot ⟨0,-1⟩ p.slot).state=0;rw[Qo]) (by show(mv c m).nx p.slot=(mv c m).hd%4294967296;rw[hw2];exact D) (by omega)
    refine⟨_,G3.1,G2.2.trans G3.2,fun hf=>(by cases hf),trivial,fun s hs => ?_⟩
    rw[Jn p1 hsl,updS_ne _ _ hs]
   ·rename_i hw
    have e:sx stk pr c h a (m.swap (adr c 1 0) (m.word (adr c 1 0)) p.head ((p.head / 4294967296+1)%4294967296*4294967296+(p.slot+1)))=sx stk pr c h a m:=ZL (by simp only[Mch.swap];rw[if_neg hw])
    refine⟨F,?_,?_,fun _=>⟨?_,rfl⟩,rfl,fun _ _=>rfl⟩
    ·simp only[Yn,if_false,e];exact G.mono (by omega)
    ·simp only[e];exact Rl.refl ..
    ·intro h3;simp at h3
def frP (r:Bool×List Int×Option Psh×Are×Mch):List Int:=if r.1=true then [] else giveL r.2.2.1 r.2.1
structure FrD (stk:List Int)(c:Cfg)(n:Int)(Z Y:Int→Nat)(F:List Int)(pr:Int→Prop)(h:Haz)(a:Are)(m:Mch)(L:List Int)(t:Nat)(W:Int→Prop)(pend:List Int)(r:Bool×List Int×Option Psh×Are×Mch):Prop where
 gd:Gd c n Z Y F (sx stk pr c h r.2.2.2.1 r.2.2.2.2) (frP r) L
 rl:Rl Z t W (sx stk pr c h a m) (sx stk pr c h r.2.2.2.1 r.2.2.2.2)
 st:∀s∈frP r,(r.2.2.2.1.sl s).state=5∧s∈pend
 words:r.2.2.2.2.mem.words=m.mem.words
 give:r.1=false→∃p,r.2.2.1=some p∧p.at_=1
theorem free_gd (hc:a.c=c)(ht:t<a.caches.length):∀(pend:List Int) (g:Option Psh) (a:Are) (m:Mch),a.slots.length=c.Sl.toNat→t<a.caches.length→m.thread=(t:Int)→Gd c n Z Y F (sx stk pr c h a m) pend L→(∀s∈pend,(a.sl s).state=5∧∀j,pr j→(mv c m).hz j≠s+1) →
  FrD stk c n Z Y F pr h a m L t W pend (Zu (t:Int) pend g a m)
 | [],g,a,m,_,_,_,G,_=>⟨by unfold Zu frP;simp only[if_true];exact G,Rl.refl ..,by unfold Zu frP;simp,rfl,fun hf=>(by cases hf)⟩
 | s::r,g,a,m,hl,htc,hth,G,hst=>by
  have hN:=G.not (List.mem_cons_self ..)
  have hR:=G.range (s:=s) (by simp only[List.count_cons_self];omega)
  have hsl:s.toNat<a.slots.length:=by rw[hl];omega
  obtain⟨h5,hpr⟩:=hst s (List.mem_cons_self ..)
  have hsr:s∉r:=by
   intro hf
   have h1:=G.le s
   have h2:=cpos hf
   simp only[List.count_cons_self]at h1
   omega
  unfold Zu
  have hy:a.caches[t]? = some (a.caches.getD t []):=by rw[Yb,Yd htc];rfl
  unfold Zq
  simp only[Yo]
  by_cases hf:a.c.Ca≤((a.caches.getD t []).length:Int)
  ·rw[if_pos hf]
   simp only[Yn,if_false]
   exact⟨by unfold frP;simp only[Yn,if_false];exact G,Rl.refl ..,by
    unfold frP
    simp only[Yn,if_false]
    exact fun s' h'=>⟨(hst s' h').1,h'⟩,rfl,fun _=>⟨_,rfl,rfl⟩⟩
  ·rw[if_neg hf]
   simp only[if_true]
   have e:sx stk pr c h ({ a with caches:=a.caches.set t (a.caches.getD t []++[s]) }.shift s.toNat m.thread 1) (m.shift s (a.slots.getD s.toNat ⟨0,0⟩).state 1) =
     { sx stk pr c h a m with sl:=updS a.sl s ⟨1,(t:Int)⟩,caches:=a.caches.set t (a.caches.getD t []++[s]) }:=by
    unfold sx
    rw[mv_same (show(m.shift s (a.slots.getD s.toNat ⟨0,0⟩).state 1).mem.words=m.mem.words from rfl)]
    have:=Jn (a:={ a with caches:=a.caches.set t (a.caches.getD t []++[s]) }) (th:=m.thread) (to:=1) hR.1 hsl
    rw[this,hth]
    rfl
   have G2:=G.state (t:=t) (W:=W) (s:=s) (List.mem_cons_self ..) ⟨1,(t:Int)⟩ (by simp) (.inr (.inr hpr))
   have G3:=G2.1.cache (t:=t) (W:=W) hy (Qo ..)
   have hrl:=G2.2.trans G3.2
   have I:=free_gd hc ht r (some ⟨s,0,0,(t:Int)⟩) ({ a with caches:=a.caches.set t (a.caches.getD t []++[s]) }.shift s.toNat m.thread 1) (m.shift s (a.slots.getD s.toNat ⟨0,0⟩).state 1)
    (by simp only[Are.shift,List.length_set];exact hl) (by simp only[Are.shift,List.length_set];exact htc) hth (by rw[e];exact G3.1) (fun s' h'=>by
     obtain⟨q1,q2⟩:=hst s' (List.mem_cons_of_mem _ h')
     have hne:s'≠s:=fun e=>hsr (e▸h')
     refine⟨?_,q2⟩
     have:=Jn (a:={ a with caches:=a.caches.set t (a.caches.getD t []++[s]) }) (th:=m.thread) (to:=1) hR.1 hsl
     rw[this,updS_ne _ _ hne]
     exact q1)
   obtain⟨i1,i2,i3,i4,i5⟩:=I
   exact⟨i1,Rl.trans (by rw[e];exact hrl) i2,fun s' h'=>⟨(i3 s' h').1,List.mem_cons_of_mem _ (i3 s' h').2⟩,i4,i5⟩
theorem count_split (f:Int→Bool)(l:List Int)(s:Int):(l.filter fun k => !f k).count s+(l.filter f).count s=l.count s:=by
 induction l with
 | nil=>rfl
 | cons a l ih=>
  simp only[List.filter_cons]
  cases hf:f a<;>simp only[Bool.not_false,Bool.not_true,if_true,Yn,if_false,List.count_cons]<;>omega
structure ScPost (stk:List Int)(c:Cfg)(n:Int)(Z Y:Int→Nat)(pr:Int→Prop)(h:Haz)(a:Are)(m:Mch)(t:Nat)(W:Int→Prop)(r:Bool×Haz×Are×Mch×Scn):Prop where
 gd:∃F',Gd c (n+1) Z Y F' (sx stk pr c r.2.1 r.2.2.1 r.2.2.2.1) (scnP r.2.2.2.2) (lkS r.2.2.2.2)
 rl:Rl Z t W (sx stk pr c h a m) (sx stk pr c r.2.1 r.2.2.1 r.2.2.2.1)
 sd:ScD t (sx stk pr c r.2.1 r.2.2.1 r.2.2.2.1) r.2.2.2.2
 fin:r.1=true→r.2.2.2.2.stage=6
theorem next_sd {s:Scn}(x:Sx)(hc:x.held[t]? = some s.record) :
  ScD t x (Zy h s).2∧scnP (Zy h s).2=[]∧lkS (Zy h s).2=[]∧((Zy h s).1=true→(Zy h s).2.stage=6):=by
 have hnil:∀z:Scn,z.stage≠5→scnP z=[]:=fun z hz=>by unfold scnP;rw[if_neg hz]
 have hlk:∀z:Scn,z.stage≠2→lkS z=[]:=fun z hz=>by unfold lkS;rw[if_neg hz]
 unfold Zy
 simp only[]
 generalize (if s.at_+1=s.record then s.at_+2 else s.at_+1)=k
 split
 ·have e:=hnil ({ s with at_:=k,stage:=0 }:Scn) (by simp)
  refine⟨⟨hc,fun hf=>by simp at hf,fun hf=>by simp at hf,by rw[e];simp,by rw[e];simp⟩,e,hlk _ (by simp),fun hf=>(by cases hf)⟩
 ·split
  ·have e:=hnil ({ s with at_:=0,named:=fun _=>0,hasMap:=true,stage:=6 }:Scn) (by simp)
   refine⟨⟨hc,fun hf=>by simp at hf,fun hf=>by simp at hf,by rw[e];simp,by rw[e];simp⟩,e,hlk _ (by simp),fun _=>rfl⟩
  ·have e:=hnil ({ s with at_:=0,named:=fun _=>0,hasMap:=true,stage:=3 }:Scn) (by simp)
   refine⟨⟨hc,fun _ s0 _ j j0 j1=>by simp only[]at j1;omega,fun hf=>by simp at hf,by rw[e];simp,by rw[e];simp⟩,e,hlk _ (by simp),fun hf=>(by cases hf)⟩
theorem free_sd {s:Scn}{r:Bool×List Int×Option Psh×Are×Mch}{x:Sx}{h':Haz}(FD:FrD stk c n Z Y F pr h' a m L t W K r)(hx:x=sx stk pr c h' r.2.2.2.1 r.2.2.2.2)(hr:x.held[t]? = some s.record)(hp:∀s∈K,∀j,pr j→(mv c m).hz j≠s+1)(nm:Int→Int) :
  ScD t x { s with named:=nm,stage:=ZK r.1,pending:=r.2.1,give:=r.2.2.1 }∧scnP { s with named:=nm,stage:=ZK r.1,pending:=r.2.1,give:=r.2.2.1 }=frP r∧lkS { s with named:=nm,stage:=ZK r.1,pending:=r.2.1,give:=r.2.2.1 }=[] ∧
  (r.1=true→ZK r.1=6):=by
 obtain⟨i1,i2,i3,i4,i5⟩:=FD
 have e:scnP { s with named:=nm,stage:=ZK r.1,pending:=r.2.1,give:=r.2.2.1 }=frP r:=by
  unfold scnP frP
  simp only[]
  cases hb:r.1 with
  | true=>simp[ZK]
  | false=>simp only[ZK,Yn,if_false,if_true]
 subst hx
 refine⟨⟨hr,fun hf => ?_,fun h5 p hp' => ?_,?_,?_⟩,e,?_,fun hb=>by rw[hb];rfl⟩
 ·exfalso
  cases hb:r.1 with
  | true=>simp only[hb,ZK,if_true]at hf;omega
  | false=>simp only[hb,ZK,Yn,if_false]at hf;omega
 ·have hp':r.2.2.1=some p:=hp'
  intro h3
  cases hb:r.1 with
  | true=>simp only[hb,ZK,if_true]at h5;omega
  | false=>
   obtain⟨p',q1,q2⟩:=i5 hb
   rw[hp']at q1;cases q1;omega
 ·rw[e];exact fun s' h'=>(i3 s' h').1
 ·rw[e]
  intro s' h' j hj
  show(mv c r.2.2.2.2).hz j≠_
  rw[mv_same i4]
  exact hp s' (i3 s' h').2 j hj
 ·unfold lkS
  simp only[]
  cases hb:r.1 with
  | true=>simp[ZK]
  | false=>simp[ZK]
theorem scan_gd {s:Scn}(C:Core c Lg S N h a m)(I:ScI c s)(hs:s.thread=(t:Int))(hm:m.thread=(t:Int))(ht:(t:Int)<c.T)(hn:n<4294967295)(G:Gd c n Z Y F (sx stk pr c h a m) (scnP s) (lkS s))(D:ScD t (sx stk pr c h a m) s) :
  ScPost stk c n Z Y pr h a m t W (Zl h a m s):=by
 have hok:=C.ok
 have hac:=C.ac
 have hb:=Qg hok
 obtain rfl:=C.hc
 obtain⟨i1,i2,i3,i4,i5,i6,i7,i8,i9⟩:=I
 obtain⟨d1,d2,d3,d4,d5⟩:=D
 have htc:t<a.caches.length:=by rw[C.caches];omega
 have hK:s.stage≠5→scnP s=[]:=fun hz=>by unfold scnP;rw[if_neg hz]
 have hL:s.stage≠2→lkS s=[]:=fun hz=>by unfold lkS;rw[if_neg hz]
 obtain⟨e1,e2,e3⟩:=C.lget i1 i2
 unfold Zl
 by_cases s0:s.stage=0
 ·rw[if_pos s0]
  obtain⟨a0,a1,a2⟩:=i6 (by omega)
  rw[hK (by omega),hL (by omega)]at G
  have e:sx stk pr h.c h a (m.load (adr h.c 8 s.at_) (m.word (adr h.c 8 s.at_)))=sx stk pr h.c h a m:=ZL rfl
  unfold Jp
  simp only[]
  split
  ·obtain⟨n1,n2,n3,n4⟩:=next_sd (h:=h) (s:=s) (t:=t) (sx stk pr h.c h a m) d1
   exact⟨⟨F,by simp only[e,n2,n3];exact G.mono (by omega)⟩,by simp only[e];exact Rl.refl ..,by simp only[e];exact n1,n4⟩
  ·refine⟨⟨F,?_⟩,by simp only[e];exact Rl.refl ..,?_,fun hf=>(by cases hf)⟩
   ·have k1:scnP { s with stage:=1 }=[]:=by unfold scnP;simp
    have k2:lkS { s with stage:=1 }=[]:=by unfold lkS;simp
    simp only[e,k1,k2];exact G.mono (by omega)
   ·have k1:scnP { s with stage:=1 }=[]:=by unfold scnP;simp
    simp only[e]
    exact⟨d1,fun hf=>by simp at hf,fun hf=>by simp at hf,by rw[k1];simp,by rw[k1];simp⟩
 rw[if_neg s0]
 by_cases s1:s.stage=1
 ·rw[if_pos s1]
  obtain⟨a0,a1,a2⟩:=i6 (by omega)
  rw[hK (by omega),hL (by omega)]at G
  have hA:=C.lt (adr_lt' hok (.inl ⟨rfl,rfl⟩) a0 a1)
  unfold QJ
  simp only[]
  split
  ·rename_i hw
   obtain⟨f1,f2,f3⟩:=C.lget a0 a1
   have e:sx stk pr h.c { h with lists:=(h.lists.set s.record.toNat (h.lists.getD s.record.toNat []++h.lists.getD s.at_.toNat [])).set s.at_.toNat [] } a (m.swap (adr h.c 8 s.at_) (m.word (adr h.c 8 s.at_)) 0 1) =
     { sx stk pr h.c h a m with V:={ (sx stk pr h.c h a m).V with act:=upd (sx stk pr h.c h a m).V.act s.at_ 1 },lists:=(h.lists.set s.record.toNat (h.lists.getD s.record.toNat []++h.lists.getD s.at_.toNat [])).set s.at_.toNat [] }:=by
    unfold sx
    rw[mv_act hok a0 a1 (z:=1) (by simp only[Mch.swap];rw[if_pos hw]) hA]
   have G2:=G.lock (t:=t) (W:=W) i1 i2 d1 a0 a1 a2 (by show(mv h.c m).act s.at_=0;rw[act_at a0 a1];exact hw) e1 f1
   have k1:scnP { s with stage:=2 }=[]:=by unfold scnP;simp
   have k2:lkS { s with stage:=2 }=[s.at_]:=by unfold lkS;simp
   refine⟨⟨F,?_⟩,?_,?_,fun hf=>(by cases hf)⟩
   ·simp only[k1,k2]
    rw[e];exact G2.1.mono (by omega)
   ·simp only[];rw[e];exact G2.2
   ·simp only[];rw[e]
    exact⟨d1,fun hf=>by simp at hf,fun hf=>by simp at hf,by rw[k1];simp,by rw[k1];simp⟩
  ·rename_i hw
   have e:sx stk pr h.c h a (m.swap (adr h.c 8 s.at_) (m.word (adr h.c 8 s.at_)) 0 1)=sx stk pr h.c h a m:=ZL (by simp only[Mch.swap];rw[if_neg hw])
   obtain⟨n1,n2,n3,n4⟩:=next_sd (h:=h) (s:=s) (t:=t) (sx stk pr h.c h a m) d1
   exact⟨⟨F,by simp only[e,n2,n3];exact G.mono (by omega)⟩,by simp only[e];exact Rl.refl ..,by simp only[e];exact n1,n4⟩
 rw[if_neg s1]
 by_cases s2:s.stage=2
 ·rw[if_pos s2]
  obtain⟨a0,a1,a2⟩:=i6 (by omega)
  have hA:=C.lt (adr_lt' hok (.inl ⟨rfl,rfl⟩) a0 a1)
  have hl2:lkS s=[s.at_]:=by unfold lkS;rw[if_pos s2]
  rw[hK (by omega),hl2]at G
  have e:sx stk pr h.c h a (m.store (adr h.c 8 s.at_) (m.word (adr h.c 8 s.at_)) 0)={ sx stk pr h.c h a m with V:={ (sx stk pr h.c h a m).V with act:=upd (sx stk pr h.c h a m).V.act s.at_ 0 } }:=by
   unfold sx
   rw[mv_act hok a0 a1 (z:=0) rfl hA]
  have G2:=G.unlock (t:=t) (W:=W)
  unfold Jj
  simp only[]
  obtain⟨n1,n2,n3,n4⟩:=next_sd (h:=h) (s:=s) (t:=t) { sx stk pr h.c h a m with V:={ (sx stk pr h.c h a m).V with act:=upd (sx stk pr h.c h a m).V.act s.at_ 0 } } d1
  exact⟨⟨F,by simp only[e,n2,n3];exact G2.1.mono (by omega)⟩,by simp only[e];exact G2.2,by simp only[e];exact n1,n4⟩
 rw[if_neg s2]
 by_cases s3:s.stage=3
 ·rw[if_pos s3]
  obtain⟨⟨a0,a1⟩,a2,a3⟩:=i8 s3
  have hp:=i7 (by omega)
  rw[hK (by omega),hL (by omega)]at G
  have hb9:=(ZD hok 9).1
  have hA:(base h.c 9+s.at_).toNat=adr h.c 9 s.at_:=rfl
  have d2:=d2 s3
  have hw:m.word (adr h.c 9 s.at_)=(mv h.c m).hz s.at_:=(hz_at a0 a1).symm
  have look':∀s0∈h.lists.getD s.record.toNat [],∀j,0≤j→j<s.at_+1→pr j→(mv h.c m).hz j=s0+1→0<Qi s.named (m.word (adr h.c 9 s.at_)-1) s0:=by
   intro s0 hs0 j j0 j1 hpj hz
   have h0:=(a3 s0).1
   unfold Qi
   by_cases e:j=s.at_
   ·subst e
    rw[if_pos (by omega)]
    have:s0=m.word (adr h.c 9 s.at_)-1:=by omega
    have:=(a3 (m.word (adr h.c 9 s.at_)-1)).1
    omega
   ·have:=d2 s0 hs0 j j0 (by omega) hpj hz
    split
    ·rename_i e2;rw[←e2];omega
    ·exact this
  have e:∀h',sx stk pr h.c h' a (m.load (adr h.c 9 s.at_) (m.word (adr h.c 9 s.at_)))=sx stk pr h.c h' a m:=fun h'=>ZL rfl
  unfold QU
  simp only[Qq,hA]
  split
  ·have k1:scnP { s with named:=Qi s.named (m.word (adr h.c 9 s.at_)-1),at_:=s.at_+1 }=[]:=by unfold scnP;simp[s3]
   have k2:lkS { s with named:=Qi s.named (m.word (adr h.c 9 s.at_)-1),at_:=s.at_+1 }=[]:=by unfold lkS;simp[s3]
   refine⟨⟨F,?_⟩,?_,?_,fun hf=>(by cases hf)⟩
   ·simp only[k1,k2,e];exact G.mono (by omega)
   ·simp only[e];exact Rl.refl ..
   ·simp only[e]
    exact⟨d1,fun _=>look',fun hf=>by simp only[s3]at hf;omega,by rw[k1];simp,by rw[k1];simp⟩
  ·rename_i hlast
   simp only[QC,hp,List.nil_append]
   generalize hnm:Qi s.named (m.word (adr h.c 9 s.at_)-1)=nm at look' ⊢
   generalize hx:h.lists.getD s.record.toNat []=x0 at e1 e2 e3 look' ⊢
   have hst:∀s0∈x0,(a.sl s0).state=5:=fun s0 h0=>G.stL x0 (Yc e1) s0 h0
   have G2:=G.list (t:=t) (W:=W) i1 i2 d1 e1 (l':=x0.filter (QQ nm)) (K':=x0.filter (Z5 nm)) (fun s'=>by
    have:=count_split (QQ nm) x0 s'
    simp only[List.count_nil,Nat.zero_add]
    exact this) (fun s0 h0=>hst s0 (List.mem_filter.1 h0).1)
   have hun:∀s0∈x0.filter (Z5 nm),∀j,pr j→(mv h.c m).hz j≠s0+1:=by
    intro s0 h0 j hj hz
    obtain⟨h1,h2⟩:=List.mem_filter.1 h0
    obtain⟨⟨p1,p1'⟩,_,_⟩:=G.pr1 j hj
    have:=look' s0 h1 j p1 (by omega) hj hz
    have hs0:=(e3 s0 h1).1
    have h2:¬0<unNone nm s0:=by simpa[Z5,QQ] using h2
    unfold unNone at h2
    rw[if_neg (by omega)]at h2
    exact h2 this
   have FD:=free_gd (c:=h.c) (n:=n) (Z:=Z) (Y:=Y) (F:=F) (pr:=pr) (h:={ h with lists:=h.lists.set s.record.toNat (x0.filter (QQ nm)) }) (L:=[]) (t:=t) (W:=W) hac htc (x0.filter (Z5 nm)) s.give a (m.load (adr h.c 9 s.at_) (m.word (adr h.c 9 s.at_))) C.slots htc hm
    (by rw[e];exact G2.1) (fun s0 h0=>⟨hst s0 (List.mem_filter.1 h0).1,hun s0 h0⟩)
   rw[←hs]at FD
   obtain⟨n1,n2,n3,n4⟩:=free_sd (s:={ s with at_:=s.at_+1 }) FD rfl d1 hun (unNone nm)
   refine⟨⟨F,?_⟩,?_,n1,n4⟩
   ·simp only[]
    rw[n2,n3]
    exact FD.gd.mono (by omega)
   ·refine Rl.trans ?_ FD.rl
    rw[e];exact G2.2
 rw[if_neg s3]
 obtain⟨p,p1,p2,p3,p4⟩:=i9 (by omega)
 have s5:s.stage=5:=by omega
 have hk5:scnP s=p.slot::s.pending:=by unfold scnP;rw[if_pos s5,p1];rfl
 rw[hk5]at G d4 d5
 rw[hL (by omega)]at G
 have hPD:=d3 s5 p p1
 rw[p1]
 simp only[]
 obtain⟨F',g1,g2,g3,g4,g5⟩:=push_gd (t:=t) (W:=W) C p2 G hPD hn (d5 _ (List.mem_cons_self ..))
 have hhz:(mv h.c (Za a m p).2.2.1).hz=(mv h.c m).hz:=by
  obtain⟨_,_,q2,_⟩:=push_gd (t:=t) (W:=fun _=>False) C p2 G hPD hn (d5 _ (List.mem_cons_self ..))
  funext j
  exact(q2.hz j id).1
 have hfr:=push_core C p2
 have hmt:(Za a m p).2.2.1.thread=(t:Int):=by rw[(same_push a m p).thread];exact hm
 have hnd:p.slot∉s.pending:=by
  intro hf
  have h1:=G.le p.slot
  have h2:=cpos hf
  simp only[List.count_cons_self]at h1
  omega
 unfold QK
 simp only[]
 split
 ·rename_i hb
  rw[if_pos hb]at g1
  have FD:=free_gd (c:=h.c) (n:=n+1) (Z:=Z) (Y:=Y) (F:=F') (pr:=pr) (h:=h) (L:=[]) (t:=t) (W:=W) hac htc s.pending (some (Za a m p).2.2.2) (Za a m p).2.1 (Za a m p).2.2.1 hfr.1.slots (by rw[hfr.1.caches];omega) hmt
   g1 (fun s0 h0=>⟨by rw[g5 s0 (fun e=>hnd (e▸h0))];exact d4 s0 (List.mem_cons_of_mem _ h0),fun j hj=>by rw[hhz];exact d5 s0 (List.mem_cons_of_mem _ h0) j hj⟩)
  rw[←hs]at FD
  obtain⟨n1,n2,n3,n4⟩:=free_sd (s:=s) FD rfl d1 (fun s0 h0 j hj=>by rw[hhz];exact d5 s0 (List.mem_cons_of_mem _ h0) j hj) s.named
  refine⟨⟨F',?_⟩,g2.trans FD.rl,n1,n4⟩
  simp only[]
  rw[n2,n3]
  exact FD.gd
 ·rename_i hb
  have hb:(Za a m p).1=false:=by simpa using hb
  rw[if_neg (by simp[hb])]at g1
  obtain⟨g3,g6⟩:=g3 hb
  have k1:scnP { s with give:=some (Za a m p).2.2.2 }=p.slot::s.pending:=by unfold scnP giveL;simp[s5,g4]
  have k2:lkS { s with give:=some (Za a m p).2.2.2 }=[]:=by unfold lkS;simp[s5]
  refine⟨⟨F',?_⟩,g2,⟨d1,fun hf=>by simp only[s5]at hf;omega,fun _ p' hp' => ?_,?_,?_⟩,fun hf=>(by cases hf)⟩
  ·simp only[k1,k2];exact g1
  ·simp only[Option.some.injEq]at hp';subst hp';exact g3
  ·rw[k1]
   intro s0 h0
   show((Za a m p).2.1.sl s0).state=5
   rw[g6];exact d4 s0 h0
  ·rw[k1]
   intro s0 h0 j hj
   show(mv h.c (Za a m p).2.2.1).hz j≠_
   rw[hhz];exact d5 s0 h0 j hj
end
end
end Go.Proofs.YtefjbdajgakgpaaGreat
