import Derived.Test.YtefjbdajgakgpaaGreatDRs4
set_option linter.all false
namespace Go.Proofs.YtefjbdajgakgpaaGreat
open Go.RowKit Hp
set_option maxRecDepth 100000
set_option maxHeartbeats 1000000
attribute [local irreducible] Go.Calls
section
theorem fillu_ge {ws:List Int}{b:Int}{u0:Nat}(hb:0≤b):∀(n:Nat) (i:Nat),(∀k:Nat,k<n→(i:Int)≠b+u0+k)→(QR ws b u0 n).getD i 0=ws.getD i 0
 | 0,i,_=>rfl
 | n+1,i,h=>by
  simp only[QR,Yb]
  have h1:=h n (by omega)
  rw[ZT (by omega),←Yb,←Yb]
  exact fillu_ge hb n i fun k hk=>h k (by omega)
theorem fillu_lt {ws:List Int}{b:Int}{u0:Nat}(hb:0≤b):∀(n:Nat) (k:Nat),k<n→(b+u0+k).toNat<ws.length→(QR ws b u0 n).getD (b+u0+k).toNat 0=(u0:Int)+k+2
 | 0,k,h,_=>by omega
 | n+1,k,h,hl=>by
  simp only[QR,Yb]
  by_cases e:k=n
  ·subst e
   have e1:(b+((u0+k:Nat):Int)).toNat=(b+u0+k).toNat:=by omega
   rw[e1,Ye (by rw[fillW_len];exact hl)]
   simp
  ·rw[ZT (by omega),←Yb]
   exact fillu_lt hb n k (by omega) hl
def seqF (k:Int):Nat→List Int
 | 0=>[]
 | n+1=>k::seqF (k+1) n
theorem seqF_count (s:Int):∀(n:Nat) (k:Int),(seqF k n).count s=ind (k≤s∧s<k+n)
 | 0,k=>by rw[ind_neg (by omega)];rfl
 | n+1,k=>by
  simp only[seqF,List.count_cons,seqF_count s n (k+1)]
  by_cases e:k=s
  ·subst e
   rw[ind_neg (by omega),ind_pos (by omega)];simp
  ·have:(k==s)=false:=by simpa using e
   rw[this]
   by_cases h:k+1≤s∧s<k+1+n
   ·rw[ind_pos h,ind_pos (by omega)];rfl
   ·rw[ind_neg h,ind_neg (by omega)];rfl
theorem seqF_mem {s:Int}:∀ {n:Nat} {k:Int},s∈seqF k n→k≤s∧s<k+n
 | 0,k,h=>by simp[seqF]at h
 | n+1,k,h=>by
  rcases List.mem_cons.1 h with rfl|h
  ·omega
  ·have:=seqF_mem h;omega
theorem seqF_chain {nx:Int→Int}{E:Int}(h1:∀s,1≤s→s+1<E→nx s=s+2)(h2:nx (E-1)=0):∀(n:Nat) (k:Int),1≤k→k+n=E→0<n→Jt nx (k+1) (seqF k n)
 | 0,k,_,_,h=>by omega
 | n+1,k,k0,he,_=>by
  refine⟨rfl,by omega,?_⟩
  cases n with
  | zero=>
   have:k=E-1:=by omega
   show Jt nx (nx k) []
   rw[this,h2];rfl
  | succ n=>
   rw[h1 k k0 (by omega),show k+2=(k+1)+1 by omega]
   exact seqF_chain h1 h2 (n+1) (k+1) (by omega) (by omega) (by omega)
theorem mv0 {c:Cfg}(hok:c.Ok){m:Mch}(hw:m.mem.words=Q9 c 1) :
  (mv c m).hd=(if 1<c.Sl then 2 else 0)∧(mv c m).cell=0∧(mv c m).top=1∧(∀s,1≤s→s+1<c.Sl→(mv c m).nx s=s+2)∧(mv c m).nx (c.Sl-1)=0∧(∀r,(mv c m).act r=0)∧(∀j,(mv c m).hz j=0)∧(mv c m).ln 0=0∧m.word (adr c 5 0)=1:=by
 have hS:=hok.S1
 have hR:=hok.R1
 have e4:=ZY hok 4 (Int.le_refl 0)
 have e5:=ZY hok 5 (Int.le_refl 0)
 obtain⟨q4,q5⟩:=base45 c
 obtain⟨b1,b2,b8,b9,b10,b11,b12,b13,b14,rh,rh2,b3⟩:=Qg hok
 obtain⟨a1,a2,a3,a8,a9,a10,a11,a13⟩:=adrs hok
 have hl:20<(base c 14).toNat∨10<(base c 14).toNat:=by omega
 have hl:10<(base c 14).toNat:=by omega
 generalize hW0:(if ((1:Nat):Int)<c.Sl then (List.replicate (base c 14).toNat (0:Int)).set 0 ((1+1:Nat):Int) else List.replicate (base c 14).toNat (0:Int))=W0
 have hW0l:W0.length=(base c 14).toNat:=by rw[←hW0];split<;>simp
 have hwd:∀i:Nat,m.word i=(((QR W0 (base c 10) 1 (c.Sl.toNat-1-1)).set 3 1).set 4 1).getD i 0:=by
  intro i
  unfold Mch.word
  rw[hw]
  simp only[Q9]
  rw[if_pos (by omega),hW0]
 have hz0:W0.getD 0 0=if 1<c.Sl then 2 else 0:=by
  rw[←hW0]
  by_cases h1:1<c.Sl
  ·rw[if_pos (by omega),if_pos h1,Yb,Ye (by simp;omega)];rfl
  ·rw[if_neg (by omega),if_neg h1,Yb,List.getElem?_replicate]
   split<;>rfl
 have hz:∀i:Nat,i≠0→W0.getD i 0=0:=by
  intro i hi
  rw[←hW0]
  split
  ·rw[Yb,ZT hi,List.getElem?_replicate]
   split<;>rfl
  ·rw[Yb,List.getElem?_replicate]
   split<;>rfl
 have hfl:(QR W0 (base c 10) 1 (c.Sl.toNat-1-1)).length=(base c 14).toNat:=by rw[fillW_len,hW0l]
 have hn34:∀i:Nat,i≠3→i≠4→m.word i=(QR W0 (base c 10) 1 (c.Sl.toNat-1-1)).getD i 0:=by
  intro i h3 h4
  rw[hwd i,Yb,ZT h4,ZT h3,←Yb]
 have h0:∀i:Nat,i≠0→i≠3→i≠4→((i:Int)<base c 10+1∨base c 10+c.Sl≤i+1)→m.word i=0:=by
  intro i hi h3 h4 hi2
  rw[hn34 i h3 h4,fillu_ge (by omega) _ _ (fun k hk=>by omega)]
  exact hz i hi
 refine⟨?_,?_,?_,?_,?_,?_,?_,?_,?_⟩
 ·show m.word (adr c 1 0)=_
  have:adr c 1 0=0:=by omega
  rw[this,hn34 0 (by omega) (by omega),fillu_ge (by omega) _ _ (fun k hk=>by omega)]
  exact hz0
 ·show m.word (adr c 2 0)=0
  exact h0 _ (by omega) (by omega) (by omega) (.inl (by omega))
 ·show m.word (adr c 4 0)=1
  have:adr c 4 0=3:=by omega
  rw[this,hwd 3,Yb,ZT (by omega),Ye (by omega)];rfl
 ·intro s s0 s1
  rw[nx_at (by omega) (by omega)]
  have e:adr c 10 s=(base c 10+((1:Nat):Int)+((s-1).toNat:Int)).toNat:=by unfold adr;congr 1;omega
  have hb10:7≤base c 10:=by omega
  rw[hn34 _ (by omega) (by omega),e,fillu_lt (by omega) _ _ (by omega) (by omega)]
  omega
 ·rw[nx_at (by omega) (by omega)]
  have:=a10 (c.Sl-1) (by omega)
  exact h0 _ (by omega) (by omega) (by omega) (.inr (by omega))
 ·intro r
  show(if 0≤r∧r<c.R then m.word (adr c 8 r) else 0)=0
  split
  ·rename_i h
   have:=a8 r h.1
   exact h0 _ (by omega) (by omega) (by omega) (.inl (by omega))
  ·rfl
 ·intro r
  show(if 0≤r∧r<c.R*c.Hz then m.word (adr c 9 r) else 0)=0
  split
  ·rename_i h
   have:=a9 r h.1
   exact h0 _ (by omega) (by omega) (by omega) (.inl (by omega))
  ·rfl
 ·show(if 0≤(0:Int)∧0<c.Sl then m.word (adr c 13 0) else 0)=0
  split
  ·have:=a13 0 (by omega)
   exact h0 _ (by omega) (by omega) (by omega) (.inr (by omega))
  ·rfl
 ·have:adr c 5 0=4:=by omega
  rw[this,hwd 4,Yb,Ye (by simp;omega)];rfl
theorem kcnt2_none (f:Option Zx→List Int)(f0:f none=[])(n:Nat)(s:Int):cnt2 ((List.replicate n (none:Option Zx)).map f) s=0:=by
 rw[List.map_replicate,f0];exact cnt2_nils s n
theorem DK.start {c:Cfg}(hok:c.Ok)(km:Nat)(vs:Value):DK c [0] (fun _=>False) (seqF 1 (c.Sl.toNat-1)) (0:Nat) (gsq0 c km vs):=by
 have hS:=hok.S1
 obtain⟨w1,w2,w2',w3,w4,w5,w6,w7,w8⟩:=mv0 hok (m:=(gsq0 c km vs).m) rfl
 have hsl:∀s,1≤s→s<c.Sl→(are1 c).sl s=⟨0,-1⟩:=by
  intro s s0 s1
  unfold Are.sl are1
  rw[if_pos (by omega)]
  simp only[Yb]
  rw[ZT (by omega),List.getElem?_replicate,if_pos (by omega)];rfl
 have hsl0:(are1 c).sl 0=⟨3,-1⟩:=by
  unfold Are.sl are1
  rw[if_pos (by omega)]
  simp only[Yb,Int.toNat_zero]
  rw[Ye (by simp;omega)];rfl
 have hTS:∀s,cnt2 ((gsq0 c km vs).tasks.map kSo) s=0:=fun s=>kcnt2_none kSo rfl _ s
 have hTL:∀s,cnt2 ((gsq0 c km vs).tasks.map kLo) s=0:=fun s=>kcnt2_none kLo rfl _ s
 have hno:∀(t:Nat) (k:Zx),(gsq0 c km vs).tasks[t]? = some (some k)→False:=by
  intro t k hk
  simp only[gsq0,List.getElem?_replicate]at hk
  split at hk<;>simp at hk
 refine⟨⟨?_,?_,?_,?_,?_,?_,?_,?_,?_,?_,?_,fun j hf=>hf.elim,?_,?_,?_⟩,fun t k hk=>(hno t k hk).elim,fun t k se hk=>(hno t k hk).elim,⟨[],0,[],rfl,by simp,w8⟩⟩
 ·intro s
  rw[hTS,seqF_count]
  show _+cnt2 (List.replicate c.T.toNat []) s+0+0+ind (0≤s∧(mv c (gsq0 c km vs).m).cell=s+1)+cnt2 (List.replicate c.R.toNat []) s+([0]:List Int).count s=_
  rw[cnt2_nils,cnt2_nils,w2,ind_neg (p:=0≤s∧(0:Int)=s+1) (by omega)]
  by_cases h0:s=0
  ·subst h0
   rw[ind_neg (p:=1≤(0:Int)∧(0:Int)<1+((c.Sl.toNat-1:Nat):Int)) (by omega),ind_pos (by omega)];rfl
  ·have hc:([0]:List Int).count s=0:=List.count_eq_zero.2 (by simp;omega)
   rw[hc]
   by_cases h:0≤s∧s<c.Sl
   ·rw[ind_pos h,ind_pos (p:=1≤s∧s<1+((c.Sl.toNat-1:Nat):Int)) (by omega)]
   ·rw[ind_neg h,ind_neg (p:=1≤s∧s<1+((c.Sl.toNat-1:Nat):Int)) (by omega)]
 ·intro s hs
  have:=seqF_mem hs
  show((are1 c).sl s).state=0
  rw[hsl s (by omega) (by omega)]
 ·intro t y hy s hs
  have:y=[]:=(List.mem_replicate.1 (Yc hy)).2
  subst this;simp at hs
 ·intro s s0 h
  have h:(mv c (gsq0 c km vs).m).cell=s+1:=h
  omega
 ·intro l hl s hs
  have:l=[]:=(List.mem_replicate.1 hl).2
  subst this;simp at hs
 ·intro s hs
  rw[hTS]at hs;omega
 ·show Jt (mv c (gsq0 c km vs).m).nx ((mv c (gsq0 c km vs).m).hd%4294967296) _
  rw[w1]
  by_cases h1:1<c.Sl
  ·rw[if_pos h1]
   exact seqF_chain w3 w4 (c.Sl.toNat-1) 1 (by omega) (by omega) (by omega)
  ·rw[if_neg h1,show c.Sl.toNat-1=0 by omega]
   rfl
 ·show 0≤(mv c (gsq0 c km vs).m).hd
  rw[w1];split<;>omega
 ·show(mv c (gsq0 c km vs).m).hd / 4294967296≤_
  rw[w1];split<;>omega
 ·intro r r0 r1
  rw[hTL]
  show(((List.replicate c.T.toNat (-1:Int)).count r+0+0:Nat):Int)=(mv c (gsq0 c km vs).m).act r
  rw[w5]
  have:(List.replicate c.T.toNat (-1:Int)).count r=0:=List.count_eq_zero.2 (fun h=>by have:=(List.mem_replicate.1 h).2;omega)
  omega
 ·intro r r0 r1
  exact .inl (w5 r)
 ·intro j j0 j1 h
  have h:1≤(mv c (gsq0 c km vs).m).hz j:=h
  rw[w6]at h;omega
 ·intro s hs
  have hs:s∈([0]:List Int):=hs
  rw[List.mem_singleton.1 hs]
  show((are1 c).sl 0).state=3
  rw[hsl0]
 ·show Jt (mv c (gsq0 c km vs).m).ln (mv c (gsq0 c km vs).m).top [0]
  rw[w2']
  exact⟨rfl,by omega,w7⟩
end
section
def psC (hd:Int)(p:Psh):Int:=if p.at_=1 then 3 else if p.at_=2 then (if hd=p.head then 2 else 5) else (if hd=p.head then 1 else 4)
def tkC (hd:Int)(k:Tak):Int:=if k.at_=1 then 3 else if k.at_=2 then (if hd=k.head then 2 else 5) else (if hd=k.head then 1 else 4)
def scA (c:Cfg):Int:=c.R*c.Hz+3*c.Sl+1
def scB (c:Cfg):Int:=3*c.R+scA c
def giC (hd:Int)(s:Scn):Int:=match s.give with|some p=>psC hd p+3*(s.pending.length:Int)|none=>1
def scC (c:Cfg)(hd:Int)(s:Scn):Int:=
 if s.stage=0 then 3*(c.R-s.at_)+scA c
 else if s.stage=1 then 3*(c.R-s.at_)-1+scA c
 else if s.stage=2 then 3*(c.R-s.at_)-2+scA c
 else if s.stage=3 then scA c-s.at_
 else giC hd s
def soC (c:Cfg)(hd:Int)(o:Option Scn):Int:=match o with|some s=>scC c hd s|none=>1
def poC (hd:Int)(o:Option Psh):Int:=match o with|some p=>psC hd p|none=>1
def toC (hd:Int)(o:Option Tak):Int:=match o with|some p=>tkC hd p|none=>1
def roC (c:Cfg)(hd:Int)(o:Option Ret):Int:=match o with|some r=>soC c hd r.scan|none=>1
def unC (c:Cfg)(hd ca:Int)(u:Unr):Int:=
 if u.stage=0 then (c.Hz-u.k)+scB c+3*c.Ca+1
 else if u.stage=1 then soC c hd u.scan+3*c.Ca+1
 else if u.stage=2 then poC hd u.flush+3*(ca-1)+1
 else 1
def psqC (c:Cfg)(hd cell:Int)(p:Pst):Int:=
 if p.stage=0 then toC hd p.take+3+scB c
 else if p.stage=1 then 3+scB c
 else if p.stage=2 then 2+scB c
 else if p.stage=3 then (if cell=p.saw then 1 else 3)+scB c
 else roC c hd p.retire
def rdC (cell:Int)(r:Rdg):Int:=
 if r.stage=0 then 4 else if r.stage=1 then (if cell=r.w then 3 else 5) else if r.stage=2 then (if cell=r.w then 2 else 4) else 1
def rgC (c:Cfg)(r:Reg):Int:=2*(c.R-r.i)-(if r.seen=true then 1 else 0)
def coC (c:Cfg)(hd cell ca:Int):Z8→Int
 | .reg r=>rgC c r
 | .unr u=>unC c hd ca u
 | .pst p=>psqC c hd cell p
 | .rdg r=>rdC cell r
 | .clr _=>1
 | .scn s=>scC c hd s
theorem psC_1 (hd:Int)(p:Psh):1≤psC hd p∧psC hd p≤5:=by
 unfold psC
 split
 ·omega
 ·split<;>split<;>omega
theorem tkC_1 (hd:Int)(p:Tak):1≤tkC hd p∧tkC hd p≤5:=by
 unfold tkC
 split
 ·omega
 ·split<;>split<;>omega
theorem swap_no {m:Mch}{A:Nat}{u o z:Int}(h:u≠o)(i:Nat):(m.swap A u o z).word i=m.word i:=by
 simp only[Mch.swap,Mch.word,if_neg h]
section
variable {c:Cfg}{Lg S N:Nat}{h:Haz}{a:Are}{m:Mch}{t:Nat}
theorem a1_ne (hok:c.Ok){A:Nat}(h2:2≤A):adr c 1 0≠A:=by
 have:=(adrs hok).a1;omega
theorem a2_ne (hok:c.Ok){A:Nat}(h2:2≤A):adr c 2 0≠A:=by
 have:=(adrs hok).a2;omega
theorem push_c {p:Psh}(C:Core c Lg S N h a m)(P:PInv c p)(hf:(Za a m p).1=false) :
  psC ((Za a m p).2.2.1.word (adr c 1 0)) (Za a m p).2.2.2≤psC (m.word (adr c 1 0)) p-1:=by
 have hok:=C.ok
 have hac:=C.ac
 have hA10:(adr c 10 p.slot:Nat)<m.mem.words.length:=by
  have:=(adrs hok).a10 p.slot P.s0
  have:=P.s0
  have:=P.s1
  have:=hok.R1
  obtain⟨b1,b2,b8,b9,b10,b11,b12,b13,b14,rh,rh2⟩:=Qg hok
  have:=C.words
  omega
 have hA2:2≤adr c 10 p.slot:=by
  have:=(adrs hok).a10 p.slot P.s0
  have:=P.s0
  obtain⟨b1,b2,b8,b9,b10,b11,b12,b13,b14,rh,rh2⟩:=Qg hok
  have:=hok.R1
  omega
 unfold Za at hf ⊢
 rw[hac]at hf ⊢
 split
 ·rename_i h1
  have e:(m.load (adr c 1 0) (m.word (adr c 1 0))).word (adr c 1 0)=m.word (adr c 1 0):=rfl
  simp only[e,psC,h1]
  simp
 ·rename_i h1
  split
  ·rename_i h2
   have e:(m.store (adr c 10 p.slot) (m.word (adr c 10 p.slot)) (p.head%4294967296)).word (adr c 1 0)=m.word (adr c 1 0):=by
    rw[Q4 (m:=m) (A:=adr c 10 p.slot) rfl hA10,if_neg (a1_ne hok hA2)]
   simp only[e,psC,h2]
   simp
   split<;>omega
  ·rename_i h2
   rw[if_neg h1,if_neg h2]at hf
   simp only[]at hf ⊢
   split
   ·rename_i h3
    rw[if_pos h3]at hf
    cases hf
   ·rename_i h3
    simp only[swap_no h3,psC,if_neg h1,if_neg h2,if_neg h3]
    simp
theorem take_c {k:Tak}(C:Core c Lg S N h a m)(hf:(Zh a m k).1=false) :
  tkC ((Zh a m k).2.2.1.word (adr c 1 0)) (Zh a m k).2.2.2≤tkC (m.word (adr c 1 0)) k-1:=by
 have hac:=C.ac
 unfold Zh at hf ⊢
 rw[hac]at hf ⊢
 split
 ·rename_i h1
  rw[if_pos h1]at hf
  simp only[decide_eq_false_iff_not]at hf
  have e:(m.load (adr c 1 0) (m.word (adr c 1 0))).word (adr c 1 0)=m.word (adr c 1 0):=rfl
  simp only[e,tkC,h1,if_neg hf]
  simp
 ·rename_i h1
  split
  ·rename_i h2
   have e:(m.load (adr c 10 (k.head%4294967296-1)) (m.word (adr c 10 (k.head%4294967296-1)))).word (adr c 1 0)=m.word (adr c 1 0):=rfl
   simp only[e,tkC,h2]
   simp
   split<;>omega
  ·rename_i h2
   rw[if_neg h1,if_neg h2]at hf
   simp only[]at hf ⊢
   split
   ·rename_i h3
    rw[if_pos h3]at hf
    cases hf
   ·rename_i h3
    simp only[swap_no h3,tkC,if_neg h1,if_neg h2,if_neg h3]
    simp
theorem free_c (th:Int):∀(l:List Int) (g:Option Psh) (a:Are) (m:Mch),(Zu th l g a m).1=false →
  ∃s,(Zu th l g a m).2.2.1=some ⟨s,1,0,th⟩∧(Zu th l g a m).2.1.length+1≤l.length
 | [],g,a,m=>by intro h;simp[Zu]at h
 | s::r,g,a,m=>by
  unfold Zu
  split
  ·intro hf
   obtain⟨z,e1,e2⟩:=free_c th r _ _ _ hf
   exact⟨z,e1,by simp only[List.length_cons];omega⟩
  ·rename_i hg
   intro _
   refine⟨s,?_,by simp⟩
   unfold Zq at hg ⊢
   split
   ·rfl
   ·rename_i h2
    rw[if_neg h2]at hg
    exact absurd rfl hg
theorem next_c {s:Scn}(hc:h.c=c)(hlt:s.at_<c.R)(hd:Int)(hf:(Zy h s).1=false):scC c hd (Zy h s).2≤3*(c.R-s.at_-1)+scA c:=by
 unfold Zy at hf ⊢
 simp only[hc]at hf ⊢
 have hk:s.at_+1≤(if s.at_+1=s.record then s.at_+2 else s.at_+1):=by split<;>omega
 generalize (if s.at_+1=s.record then s.at_+2 else s.at_+1)=k at hf hk ⊢
 by_cases h1:k<c.R
 ·rw[if_pos h1]
  simp only[scC,if_true]
  omega
 ·rw[if_neg h1]at hf ⊢
  by_cases h2:(h.lists.getD s.record.toNat []).length=0
  ·rw[if_pos h2]at hf
   cases hf
  ·rw[if_neg h2]
   simp only[scC]
   simp only[show ¬(3:Int)=0 by decide,show ¬(3:Int)=1 by decide,show ¬(3:Int)=2 by decide,if_false,if_true]
   omega
theorem ready_c {s:Scn}(hok:c.Ok)(hc:h.c=c)(hd:Int)(hf:(ZF h s).1=false):scC c hd (ZF h s).2≤scB c:=by
 have hR:=hok.R1
 have:=next_c (s:={ s with at_ := -1 }) hc (by simp only[];omega) hd hf
 unfold scB
 have e:ZF h s=Zy h { s with at_ := -1 }:=rfl
 rw[e]
 simp only[]at this
 omega
theorem gi_free {th:Int}{l:List Int}{g:Option Psh}{a:Are}{m:Mch}(hd:Int)(s:Scn)(h5:s.stage=5)(h:(Zu th l g a m).1=false)(hp:s.pending=(Zu th l g a m).2.1)(hg:s.give=(Zu th l g a m).2.2.1):scC c hd s≤3*(l.length:Int):=by
 obtain⟨z,e1,e2⟩:=free_c _ _ _ _ _ h
 have:giC hd s=3+3*(s.pending.length:Int):=by
  unfold giC
  rw[hg,e1]
  rfl
 unfold scC
 rw[h5]
 simp only[show(5:Int)≠0 by decide,show(5:Int)≠1 by decide,show(5:Int)≠2 by decide,show(5:Int)≠3 by decide,if_false]
 rw[this,hp]
 omega
theorem look_c {s2:Scn}{g:Option Psh}{a:Are}{m:Mch}(hd th:Int)(hf:(Zu th s2.pending g a m).1=false) :
  scC c hd { s2 with stage:=ZK (Zu th s2.pending g a m).1,pending:=(Zu th s2.pending g a m).2.1,give:=(Zu th s2.pending g a m).2.2.1 }≤3*(s2.pending.length:Int):=
 gi_free hd _ (by simp only[hf,ZK];simp) hf rfl rfl
theorem scan_c {s:Scn}(C:Core c Lg S N h a m)(I:ScI c s)(hl:((h.lists.getD s.record.toNat []).length:Int)≤c.Sl)(hf:(Zl h a m s).1=false) :
  scC c ((Zl h a m s).2.2.2.1.word (adr c 1 0)) (Zl h a m s).2.2.2.2≤scC c (m.word (adr c 1 0)) s-1:=by
 have hc:=C.hc
 obtain⟨i1,i2,i3,i4,i5,i6,i7,i8,i9⟩:=I
 unfold Zl at hf ⊢
 split
 ·rename_i h0
  rw[if_pos h0]at hf
  obtain⟨j1,j2,j3⟩:=i6 (by omega)
  have e0:scC c (m.word (adr c 1 0)) s=3*(c.R-s.at_)+scA c:=by simp only[scC,if_pos h0]
  rw[e0]
  unfold Jp at hf ⊢
  simp only[]at hf ⊢
  split
  ·rename_i h1
   rw[if_pos h1]at hf
   have:=next_c hc j2 ((m.load (adr h.c 8 s.at_) (m.word (adr h.c 8 s.at_))).word (adr c 1 0)) hf
   simp only[]
   omega
  ·simp[scC]
   omega
 ·rename_i h0
  rw[if_neg h0]at hf
  split
  ·rename_i h1
   rw[if_pos h1]at hf
   obtain⟨j1,j2,j3⟩:=i6 (by omega)
   have e0:scC c (m.word (adr c 1 0)) s=3*(c.R-s.at_)-1+scA c:=by simp only[scC,if_neg h0,if_pos h1]
   rw[e0]
   unfold QJ at hf ⊢
   simp only[]at hf ⊢
   split
   ·simp[scC]
    omega
   ·rename_i h2
    rw[if_neg h2]at hf
    have:=next_c hc j2 ((m.swap (adr h.c 8 s.at_) (m.word (adr h.c 8 s.at_)) 0 1).word (adr c 1 0)) hf
    simp only[]
    omega
  ·rename_i h1
   rw[if_neg h1]at hf
   split
   ·rename_i h2
    rw[if_pos h2]at hf
    obtain⟨j1,j2,j3⟩:=i6 (by omega)
    have e0:scC c (m.word (adr c 1 0)) s=3*(c.R-s.at_)-2+scA c:=by simp only[scC,if_neg h0,if_neg h1,if_pos h2]
    rw[e0]
    exact Int.le_trans (next_c hc j2 _ hf) (by omega)
   ·rename_i h2
    rw[if_neg h2]at hf
    split
    ·rename_i h3
     rw[if_pos h3]at hf
     obtain⟨⟨l1,l2⟩,_,_⟩:=i8 h3
     have e0:scC c (m.word (adr c 1 0)) s=scA c-s.at_:=by simp only[scC,if_neg h0,if_neg h1,if_neg h2,if_pos h3]
     rw[e0]
     unfold QU at hf ⊢
     simp only[]at hf ⊢
     split
     ·have e1:(Qq h m s).2.stage=3:=h3
      have e2:(Qq h m s).2.at_=s.at_+1:=rfl
      simp only[scC,e1,e2]
      simp
      omega
     ·rename_i h4
      rw[if_neg h4]at hf
      have hp0:s.pending=[]:=i7 (by omega)
      refine Int.le_trans (look_c (s2:=(QC h (Qq h m s).2).2) _ _ hf) ?_
      have e3:(QC h (Qq h m s).2).2.pending=s.pending++(h.lists.getD s.record.toNat []).filter (Z5 (Qq h m s).2.named):=rfl
      have e4:((QC h (Qq h m s).2).2.pending.length:Int)≤c.Sl:=by
       rw[e3,hp0,List.nil_append]
       have:=List.length_filter_le (Z5 (Qq h m s).2.named) (h.lists.getD s.record.toNat [])
       omega
      unfold scA
      omega
    ·rename_i h3
     rw[if_neg h3]at hf
     obtain⟨p,e1,e2,e3,e4⟩:=i9 (by omega)
     rw[e1]at hf ⊢
     simp only[]at hf ⊢
     have e0:scC c (m.word (adr c 1 0)) s=psC (m.word (adr c 1 0)) p+3*(s.pending.length:Int):=by simp only[scC,if_neg h0,if_neg h1,if_neg h2,if_neg h3,giC,e1]
     rw[e0]
     have hq:=push_c C e2
     have hp1:=(psC_1 (m.word (adr c 1 0)) p).1
     unfold QK at hf ⊢
     simp only[]at hf ⊢
     split
     ·rename_i h4
      rw[if_pos h4]at hf
      refine Int.le_trans (look_c (s2:=s) _ _ hf) (by omega)
     ·rename_i h4
      have:=hq (by simpa using h4)
      simp only[scC,if_neg h0,if_neg h1,if_neg h2,if_neg h3,giC]
      omega
theorem scC_1 {s:Scn}(hok:c.Ok)(I:ScI c s)(hp:(s.pending.length:Int)≤c.Sl)(hd:Int):1≤scC c hd s∧scC c hd s≤scB c+5:=by
 obtain⟨i1,i2,i3,i4,i5,i6,i7,i8,i9⟩:=I
 have hR:=hok.R1
 have hS:=hok.S1
 have hA:0≤c.R*c.Hz:=Int.mul_nonneg (by omega) (by have:=hok.H1;omega)
 unfold scC scB scA
 split
 ·have:=i6 (by omega);omega
 ·split
  ·have:=i6 (by omega);omega
  ·split
   ·have:=i6 (by omega);omega
   ·split
    ·have:=(i8 (by omega)).1;omega
    ·obtain⟨p,e1,e2,e3,e4⟩:=i9 (by omega)
     have:=psC_1 hd p
     simp only[giC,e1]
     omega
theorem empty_c {u:Unr}(C:Core c Lg S N h a m)(ht:(t:Int)<c.T)(hu:u.thread=(t:Int))(hd:Int):unC c hd ((a.caches.getD t []).length:Int) (QA a u)≤3*c.Ca+1:=by
 have hC:=C.ok.C1
 have e:u.thread.toNat=t:=by omega
 have htc:t<a.caches.length:=by rw[C.caches];omega
 have hy:a.caches[t]? = some (a.caches.getD t []):=by rw[Yb,Yd htc];rfl
 have hl:=C.clens _ (Yc hy)
 unfold QA QH
 simp only[e]
 generalize a.caches.getD t []=x at hl ⊢
 by_cases h0:x.length=0
 ·simp only[if_pos h0,if_true,unC]
  simp only[show ¬(3:Int)=0 by decide,show ¬(3:Int)=1 by decide,show ¬(3:Int)=2 by decide,if_false]
  omega
 ·simp only[if_neg h0,unC,poC,psC]
  simp only[show ¬(2:Int)=0 by decide,show ¬(2:Int)=1 by decide,show ¬false=true by decide,if_false,if_true]
  omega
theorem flush_c {p:Psh}(C:Core c Lg S N h a m)(P:PInv c p)(ht:(t:Int)<c.T)(hu:p.thread=(t:Int))(hn:0<(a.caches.getD t []).length)(hf:(ZC a m p).1=false) :
  psC ((ZC a m p).2.2.1.word (adr c 1 0)) (ZC a m p).2.2.2+3*(((ZC a m p).2.1.caches.getD t []).length:Int)≤psC (m.word (adr c 1 0)) p+3*((a.caches.getD t []).length:Int)-1:=by
 have e:p.thread.toNat=t:=by omega
 have htc:t<a.caches.length:=by rw[C.caches];omega
 have hca:=(push_core C P).2.2.1
 have hp1:=(psC_1 (m.word (adr c 1 0)) p).1
 unfold ZC at hf ⊢
 by_cases h1:(Za a m p).1=false
 ·rw[if_pos h1]
  have:=push_c C P h1
  rw[hca]
  omega
 ·rw[if_neg h1]at hf ⊢
  simp only[e]at hf ⊢
  by_cases h2:(a.caches.getD t []).length=1
  ·rw[if_pos h2]at hf
   cases hf
  ·rw[if_neg h2]
   have e2:(a.caches.set t (List.take ((a.caches.getD t []).length-1) (a.caches.getD t []))).getD t []=List.take ((a.caches.getD t []).length-1) (a.caches.getD t []):=by
    rw[Yb,Ye htc];rfl
   have e3:∀(hd s:Int) (q:Psh),psC hd { q with slot:=s,at_:=1 }=3:=fun hd s q=>by simp[psC]
   rw[e3,e2,List.length_take]
   omega
end
end
section
section
variable {c:Cfg}{Lg S N Lg' S' N':Nat}{h:Haz}{a:Are}{m:Mch}{t:Nat}
theorem scC_ge {s:Scn}(hok:c.Ok)(I:ScI c s)(hd:Int):1≤scC c hd s:=by
 obtain⟨i1,i2,i3,i4,i5,i6,i7,i8,i9⟩:=I
 have hR:=hok.R1
 have hS:=hok.S1
 have hA:0≤c.R*c.Hz:=Int.mul_nonneg (by omega) (by have:=hok.H1;omega)
 unfold scC scA
 split
 ·have:=i6 (by omega);omega
 ·split
  ·have:=i6 (by omega);omega
  ·split
   ·have:=i6 (by omega);omega
   ·split
    ·have:=(i8 (by omega)).1;omega
    ·obtain⟨p,e1,e2,e3,e4⟩:=i9 (by omega)
     have:=psC_1 hd p
     simp only[giC,e1]
     omega
theorem unr_c {u:Unr}(C:Core c Lg S N h a m)(ht:(t:Int)<c.T)(hu:u.thread=(t:Int))(I:UnI c (a.caches.getD t []) u)(hl:∀r:Nat,((h.lists.getD r []).length:Int)≤c.Sl)
  (C':Core c Lg' S' N' (Zs h a m u).2.1 (Zs h a m u).2.2.1 (Zs h a m u).2.2.2.1) (hf:(Zs h a m u).1=false) :
  unC c ((Zs h a m u).2.2.2.1.word (adr c 1 0)) (((Zs h a m u).2.2.1.caches.getD t []).length:Int) (Zs h a m u).2.2.2.2≤unC c (m.word (adr c 1 0)) ((a.caches.getD t []).length:Int) u-1:=by
 have hok:=C.ok
 have hc:=C.hc
 have hC1:=hok.C1
 have hS1:=hok.S1
 have hR1:=hok.R1
 have hH1:=hok.H1
 have hA:0≤c.R*c.Hz:=Int.mul_nonneg (by omega) (by omega)
 obtain⟨j1,j2,j3,j4⟩:=I
 unfold Zs at C' hf ⊢
 simp only[hc]at C' hf ⊢
 split
 ·rename_i h0
  rw[if_pos h0]at C' hf
  obtain⟨k0,k1⟩:=j2 h0
  have e0:unC c (m.word (adr c 1 0)) ((a.caches.getD t []).length:Int) u=(c.Hz-u.k)+scB c+3*c.Ca+1:=by simp only[unC,if_pos h0]
  rw[e0]
  split
  ·simp only[unC,if_pos h0];omega
  ·rename_i h1
   rw[if_neg h1]at C' hf
   have hB:0≤scB c:=by unfold scB scA;omega
   split
   ·refine Int.le_trans (empty_c C ht ?_ _) ?_
    ·exact hu
    ·omega
   ·rename_i h2
    simp only[unC,soC]
    simp only[show ¬(1:Int)=0 by decide,if_false,if_true]
    have:=ready_c hok hc ((m.store (base c 9+h.held.getD u.thread.toNat 0*c.Hz+u.k).toNat (m.word (base c 9+h.held.getD u.thread.toNat 0*c.Hz+u.k).toNat) 0).word (adr c 1 0)) (Bool.eq_false_iff.2 h2)
    omega
 ·rename_i h0
  rw[if_neg h0]at C' hf
  split
  ·rename_i h1
   rw[if_pos h1]at C' hf
   obtain⟨s,e1,e2,e3⟩:=j3 h1
   have e0:unC c (m.word (adr c 1 0)) ((a.caches.getD t []).length:Int) u=scC c (m.word (adr c 1 0)) s+3*c.Ca+1:=by simp only[unC,if_neg h0,if_pos h1,e1,soC]
   rw[e0]
   have g1:=scC_ge hok e2 (m.word (adr c 1 0))
   have g2:=scan_c C e2 (hl _)
   rw[e1]at C' hf ⊢
   simp only[]at C' hf ⊢
   split
   ·rename_i h2
    rw[if_pos h2]at C'
    refine Int.le_trans (empty_c C' ht ?_ _) ?_
    ·exact hu
    ·omega
   ·rename_i h2
    have:=g2 (by simpa using h2)
    simp only[unC,if_neg h0,if_pos h1,soC]
    omega
  ·rename_i h1
   rw[if_neg h1]at C' hf
   split
   ·rename_i h2
    rw[if_pos h2]at C' hf
    obtain⟨p,e1,e2,e3,e4⟩:=j4 h2
    have e0:unC c (m.word (adr c 1 0)) ((a.caches.getD t []).length:Int) u=psC (m.word (adr c 1 0)) p+3*(((a.caches.getD t []).length:Int)-1)+1:=by simp only[unC,if_neg h0,if_neg h1,if_pos h2,e1,poC]
    rw[e0]
    have g1:=(psC_1 (m.word (adr c 1 0)) p).1
    have g2:=flush_c C e2 ht (e3.trans hu) e4
    rw[e1]at C' hf ⊢
    simp only[]at C' hf ⊢
    by_cases h3:(ZC a m p).1=true
    ·simp only[if_pos h3,unC]
     simp only[show ¬(3:Int)=0 by decide,show ¬(3:Int)=1 by decide,show ¬(3:Int)=2 by decide,if_false]
     omega
    ·have:=g2 (by simpa using h3)
     simp only[if_neg h3,unC,poC]
     simp only[show ¬(2:Int)=0 by decide,show ¬(2:Int)=1 by decide,if_false,if_true]
     omega
   ·rename_i h2
    rw[if_neg h2]at hf
    cases hf
theorem post_c {p:Pst}{i:Nat}{cl:Cll}{se:Sea}(C:Core c Lg S N h a m)(T:PoI c p)(hl:∀r:Nat,((h.lists.getD r []).length:Int)≤c.Sl)(hf:(ZP h a m i t cl se p).1=false) :
  psqC c ((ZP h a m i t cl se p).2.2.2.1.word (adr c 1 0)) ((ZP h a m i t cl se p).2.2.2.1.word (adr c 2 0)) (ZP h a m i t cl se p).2.2.2.2≤psqC c (m.word (adr c 1 0)) (m.word (adr c 2 0)) p-1:=by
 have hok:=C.ok
 have hc:=C.hc
 obtain⟨⟨k,e1,t0,t1⟩,j1,j2,j3⟩:=T
 unfold ZP at hf ⊢
 rw[e1]at hf ⊢
 simp only[hc]at hf ⊢
 split
 ·rename_i h0
  rw[if_pos h0]at hf
  have e0:psqC c (m.word (adr c 1 0)) (m.word (adr c 2 0)) p=tkC (m.word (adr c 1 0)) k+3+scB c:=by simp only[psqC,if_pos h0,e1,toC]
  rw[e0]
  have g1:=(tkC_1 (m.word (adr c 1 0)) k).1
  have g2:=take_c (k:=k) C
  split
  ·rename_i h1
   rw[if_pos h1]at hf
   simp only[]at hf ⊢
   unfold ZH at hf ⊢
   split
   ·rename_i h2
    rw[if_pos h2]at hf
    cases hf
   ·simp only[psqC]
    simp only[show ¬(1:Int)=0 by decide,if_false,if_true]
    omega
  ·rename_i h1
   have:=g2 (by simpa using h1)
   simp only[psqC,if_pos h0,toC]
   omega
 ·rename_i h0
  rw[if_neg h0]at hf
  split
  ·rename_i h1
   have e0:psqC c (m.word (adr c 1 0)) (m.word (adr c 2 0)) p=3+scB c:=by simp only[psqC,if_neg h0,if_pos h1]
   rw[e0]
   simp only[psqC]
   simp only[show ¬(2:Int)=0 by decide,show ¬(2:Int)=1 by decide,if_false,if_true]
   omega
  ·rename_i h1
   rw[if_neg h1]at hf
   split
   ·rename_i h2
    have e0:psqC c (m.word (adr c 1 0)) (m.word (adr c 2 0)) p=2+scB c:=by simp only[psqC,if_neg h0,if_neg h1,if_pos h2]
    rw[e0]
    have e3:(m.load (adr c 2 0) (m.word (adr c 2 0))).word (adr c 2 0)=m.word (adr c 2 0):=rfl
    simp only[psqC,e3]
    simp only[show ¬(3:Int)=0 by decide,show ¬(3:Int)=1 by decide,show ¬(3:Int)=2 by decide,if_false,if_true]
    omega
   ·rename_i h2
    rw[if_neg h2]at hf
    split
    ·rename_i h3
     rw[if_pos h3]at hf
     split
     ·rename_i h4
      rw[if_pos h4]at hf
      have e0:psqC c (m.word (adr c 1 0)) (m.word (adr c 2 0)) p=1+scB c:=by simp only[psqC,if_neg h0,if_neg h1,if_neg h2,if_pos h3,if_pos h4]
      rw[e0]
      unfold Je at hf ⊢
      simp only[]at hf ⊢
      split
      ·rename_i h5
       rw[if_pos h5]at hf
       cases hf
      ·rename_i h5
       rw[if_neg h5]at hf
       simp only[]at hf ⊢
       unfold Zr at hf ⊢
       simp only[]at hf ⊢
       split
       ·rename_i h6
        rw[if_pos h6]at hf
        cases hf
       ·rename_i h6
        rw[if_neg h6]at hf
        simp only[]at hf
        simp only[psqC,roC,soC]
        simp only[show ¬(4:Int)=0 by decide,show ¬(4:Int)=1 by decide,show ¬(4:Int)=2 by decide,show ¬(4:Int)=3 by decide,if_false]
        refine Int.le_trans (ready_c hok ?_ _ hf) (by omega)
        exact hc
     ·rename_i h4
      have e0:psqC c (m.word (adr c 1 0)) (m.word (adr c 2 0)) p=3+scB c:=by simp only[psqC,if_neg h0,if_neg h1,if_neg h2,if_pos h3,if_neg h4]
      rw[e0]
      simp only[psqC]
      simp only[show ¬(2:Int)=0 by decide,show ¬(2:Int)=1 by decide,if_false,if_true]
      omega
    ·rename_i h3
     rw[if_neg h3]at hf
     have h4:p.stage=4:=by clear j2 j3 t1;omega
     obtain⟨r,sc,e2,e3,e4,e5⟩:=j3 h4
     have e0:psqC c (m.word (adr c 1 0)) (m.word (adr c 2 0)) p=scC c (m.word (adr c 1 0)) sc:=by simp only[psqC,if_neg h0,if_neg h1,if_neg h2,if_neg h3,e2,roC,e3,soC]
     rw[e0]
     have g:=scan_c C e4 (hl _)
     rw[e2]at hf ⊢
     simp only[]at hf ⊢
     rw[e3]at hf ⊢
     simp only[]at hf ⊢
     have:=g hf
     simp only[psqC,if_neg h0,if_neg h1,if_neg h2,if_neg h3,roC,soC]
     exact this
theorem read_c {r:Rdg}{i:Nat}{cl:Cll}{se:Sea}(C:Core c Lg S N h a m)(I:RdI c r)(hf:(ZZ h m i t cl se r).1=false) :
  rdC ((ZZ h m i t cl se r).2.1.word (adr c 2 0)) (ZZ h m i t cl se r).2.2≤rdC (m.word (adr c 2 0)) r-1:=by
 have hok:=C.ok
 have hc:=C.hc
 have saw:∀(u:Int),u=m.word (adr c 2 0)→(Qf (m.load (adr c 2 0) (m.word (adr c 2 0))) i t cl se r u).1=false→rdC ((Qf (m.load (adr c 2 0) (m.word (adr c 2 0))) i t cl se r u).2.1.word (adr c 2 0)) (Qf (m.load (adr c 2 0) (m.word (adr c 2 0))) i t cl se r u).2.2≤3:=by
  intro u hu hf
  unfold Qf at hf ⊢
  split
  ·rename_i h1
   rw[if_pos h1]at hf
   cases hf
  ·have e:(m.load (adr c 2 0) (m.word (adr c 2 0))).word (adr c 2 0)=u:=hu.symm
   simp only[e,rdC]
   simp
 unfold ZZ at hf ⊢
 simp only[hc]at hf ⊢
 split
 ·rename_i h0
  rw[if_pos h0]at hf
  have:=saw _ rfl hf
  have e0:rdC (m.word (adr c 2 0)) r=4:=by simp only[rdC,if_pos h0]
  omega
 ·rename_i h0
  rw[if_neg h0]at hf
  split
  ·rename_i h1
   obtain⟨a0,a1,_,_⟩:=I
   have hA:r.addr.toNat<m.mem.words.length:=by
    obtain⟨b1,b2,b8,b9,b10,b11,b12,b13,b14,rh,rh2⟩:=Qg hok
    have:=C.words
    have:=hok.S1
    have:=hok.R1
    omega
   have hA2:2≤r.addr.toNat:=by
    obtain⟨b1,b2,b8,b9,b10,b11,b12,b13,b14,rh,rh2⟩:=Qg hok
    have:=hok.R1
    omega
   have e:(m.store r.addr.toNat (m.word r.addr.toNat) r.w).word (adr c 2 0)=m.word (adr c 2 0):=by
    rw[Q4 (m:=m) (A:=r.addr.toNat) rfl hA,if_neg (a2_ne hok hA2)]
   simp only[e,rdC,h1]
   simp
   split<;>omega
  ·rename_i h1
   rw[if_neg h1]at hf
   split
   ·rename_i h2
    rw[if_pos h2]at hf
    split
    ·rename_i h3
     have e0:rdC (m.word (adr c 2 0)) r=2:=by simp only[rdC,if_neg h0,if_neg h1,if_pos h2,if_pos h3]
     rw[e0]
     simp[rdC]
    ·rename_i h3
     rw[if_neg h3]at hf
     have:=saw _ rfl hf
     have e0:rdC (m.word (adr c 2 0)) r=4:=by simp only[rdC,if_neg h0,if_neg h1,if_pos h2,if_neg h3]
     omega
   ·rename_i h2
    rw[if_neg h2]at hf
    cases hf
theorem reg_c {r:Reg}{se:Sea}(C:Core c Lg S N h a m)(hf:(Z4 h m t se r).1=false):rgC c (Z4 h m t se r).2.2.2≤rgC c r-1:=by
 have hc:=C.hc
 have nx:∀m',(Qv h m' t se r).1=false→rgC c (Qv h m' t se r).2.2.2≤2*(c.R-r.i)-2:=by
  intro m' hf
  unfold Qv at hf ⊢
  rw[hc]at hf ⊢
  split
  ·simp[rgC];omega
  ·rename_i h1
   rw[if_neg h1]at hf
   cases hf
 unfold Z4 at hf ⊢
 simp only[]at hf ⊢
 split
 ·rename_i h0
  rw[if_pos h0]at hf
  have e0:rgC c r=2*(c.R-r.i):=by simp[rgC,h0]
  rw[e0]
  split
  ·rename_i h1
   rw[if_pos h1]at hf
   have:=nx _ hf
   omega
  ·simp[rgC]
 ·rename_i h0
  rw[if_neg h0]at hf
  have h0':r.seen=true:=by simpa using h0
  have e0:rgC c r=2*(c.R-r.i)-1:=by simp[rgC,h0']
  rw[e0]
  split
  ·rename_i h1
   rw[if_pos h1]at hf
   cases hf
  ·rename_i h1
   rw[if_neg h1]at hf
   have:=nx _ hf
   omega
theorem cost_step {k:Z8}{i:Nat}{cl:Cll}{se:Sea}(C:Core c Lg S N h a m)(ht:(t:Int)<c.T)(I:TI c t true (h.held.getD t 0) (a.caches.getD t []) k)(hl:∀r:Nat,((h.lists.getD r []).length:Int)≤c.Sl)
  (C':Core c Lg' S' N' (ZQ (h,a) m i t cl se k).2.1.1 (ZQ (h,a) m i t cl se k).2.1.2 (ZQ (h,a) m i t cl se k).2.2.1) (hf:(ZQ (h,a) m i t cl se k).1=false) :
  coC c ((ZQ (h,a) m i t cl se k).2.2.1.word (adr c 1 0)) ((ZQ (h,a) m i t cl se k).2.2.1.word (adr c 2 0)) (((ZQ (h,a) m i t cl se k).2.1.2.caches.getD t []).length:Int) (ZQ (h,a) m i t cl se k).2.2.2 ≤
   coC c (m.word (adr c 1 0)) (m.word (adr c 2 0)) ((a.caches.getD t []).length:Int) k-1:=by
 cases k with
 | reg r=>exact reg_c C hf
 | unr u=>exact unr_c C ht I.1 I.2.2 hl C' hf
 | pst p=>exact post_c C (I.2.2.1 rfl) hl hf
 | rdg r=>exact read_c C I hf
 | clr ad=>cases hf
 | scn s=>exact scan_c C (I.2.2 rfl) (hl _) hf
theorem co_1 {k:Z8}{hd:Int}{ca:List Int}(hok:c.Ok)(I:TI c t true hd ca k)(w1 w2:Int):1≤coC c w1 w2 (ca.length:Int) k:=by
 have hR:=hok.R1
 have hS:=hok.S1
 have hC:=hok.C1
 have hA:0≤c.R*c.Hz:=Int.mul_nonneg (by omega) (by have:=hok.H1;omega)
 have hB:0≤scB c:=by unfold scB scA;omega
 cases k with
 | reg r=>
  obtain⟨_,i1,i2⟩:=I
  simp only[coC,rgC]
  split<;>omega
 | unr u=>
  obtain⟨_,_,j1,j2,j3,j4⟩:=I
  simp only[coC,unC]
  split
  ·have:=j2 (by omega);omega
  ·split
   ·obtain⟨s,e1,e2,e3⟩:=j3 (by omega)
    have:=scC_ge hok e2 w1
    simp only[e1,soC];omega
   ·split
    ·obtain⟨p,e1,e2,e3,e4⟩:=j4 (by omega)
     have:=(psC_1 w1 p).1
     simp only[e1,poC];omega
    ·omega
 | pst p=>
  obtain⟨⟨k,e1,t0,t1⟩,j1,j2,j3⟩:=I.2.2.1 rfl
  simp only[coC,psqC]
  split
  ·have:=(tkC_1 w1 k).1
   simp only[e1,toC];omega
  ·split
   ·omega
   ·split
    ·omega
    ·split
     ·split<;>omega
     ·have h4:p.stage=4:=by clear j2 j3 t1 I;omega
      obtain⟨r,sc,e2,e3,e4,e5⟩:=j3 h4
      have:=scC_ge hok e4 w1
      simp only[e2,roC,e3,soC];omega
 | rdg r=>
  simp only[coC,rdC]
  split
  ·omega
  ·split
   ·split<;>omega
   ·split
    ·split<;>omega
    ·omega
 | clr ad=>exact Int.le_refl 1
 | scn s=>exact scC_ge hok (I.2.2 rfl) w1
theorem co_2 {k:Z8}{hd:Int}{ca:List Int}(hok:c.Ok)(I:TI c t true hd ca k)(hca:(ca.length:Int)≤c.Ca)(hp:∀s,scOf k=some s→(s.pending.length:Int)≤c.Sl)(w1 w2:Int):coC c w1 w2 (ca.length:Int) k≤scB c+c.Hz+3*c.Ca+10:=by
 have hR:=hok.R1
 have hS:=hok.S1
 have hC:=hok.C1
 have hH:=hok.H1
 have hA:0≤c.R*c.Hz:=Int.mul_nonneg (by omega) (by omega)
 have hB:3*c.R≤scB c:=by unfold scB scA;omega
 cases k with
 | reg r=>
  obtain⟨_,i1,i2⟩:=I
  simp only[coC,rgC]
  split<;>omega
 | unr u=>
  obtain⟨_,_,j1,j2,j3,j4⟩:=I
  simp only[coC,unC]
  split
  ·have:=j2 (by omega);omega
  ·split
   ·rename_i h1
    obtain⟨s,e1,e2,e3⟩:=j3 (by omega)
    have:=(scC_1 hok e2 (hp s (by simp only[scOf,if_pos h1,e1])) w1).2
    simp only[e1,soC];omega
   ·split
    ·obtain⟨p,e1,e2,e3,e4⟩:=j4 (by omega)
     have:=(psC_1 w1 p).2
     simp only[e1,poC];omega
    ·omega
 | pst p=>
  obtain⟨⟨k,e1,t0,t1⟩,j1,j2,j3⟩:=I.2.2.1 rfl
  simp only[coC,psqC]
  split
  ·have:=(tkC_1 w1 k).2
   simp only[e1,toC];omega
  ·split
   ·omega
   ·split
    ·omega
    ·split
     ·split<;>omega
     ·have h4:p.stage=4:=by clear j2 j3 t1 I;omega
      obtain⟨r,sc,e2,e3,e4,e5⟩:=j3 h4
      have:=(scC_1 hok e4 (hp sc (by simp only[scOf,if_pos h4,e2,e3])) w1).2
      simp only[e2,roC,e3,soC];omega
 | rdg r=>
  simp only[coC,rdC]
  split
  ·omega
  ·split
   ·split<;>omega
   ·split
    ·split<;>omega
    ·omega
 | clr ad=>show(1:Int)≤_;omega
 | scn s=>
  have:=(scC_1 hok (I.2.2 rfl) (hp s rfl) w1).2
  show scC c w1 s≤_;omega
end
end
end Go.Proofs.YtefjbdajgakgpaaGreat
