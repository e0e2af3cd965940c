import Derived.Test.YtefjbdajgakgpaaGreatDRAln2
set_option linter.all false
namespace Go.Proofs.YtefjbdajgakgpaaGreat
open Go.RowKit Hp
set_option maxRecDepth 100000
set_option maxHeartbeats 2000000
attribute [local irreducible] Go.Calls
def qT (c:Cfg)(m:Mch):Int:=m.word (adr c 5 0)
def qH (c:Cfg)(m:Mch):Int:=m.word (adr c 4 0)
def qK (c:Cfg)(m:Mch)(z:Int):Int:=m.word (adr c 13 (z-1))
structure QF (c:Cfg)(m:Mch):Prop where
 f1:qK c m (qT c m)≠0→qK c m (qK c m (qT c m))=0
 f2:qK c m (qH c m)≠0→qK c m (qH c m)≠qH c m
def lagC (c:Cfg)(m:Mch):Int:=if qK c m (qT c m)=0 then 6 else 11
def pmC (c:Cfg)(m:Mch)(p:Pt):Int:=
 if p.stage=1 then tkC (m.word (adr c 1 0)) p.take+14
 else if p.stage=2 then 14
 else if p.stage=3 then 13
 else if p.stage=4 then 1+lagC c m
 else if p.stage=5 then (if qT c m=p.t then lagC c m else 2+lagC c m)
 else if p.stage=6 then (if qT c m=p.t then lagC c m-1 else 1+lagC c m)
 else if p.stage=7 then (if qK c m p.t=0 then 4 else if qT c m=p.t then 9 else 3+lagC c m)
 else if p.stage=8 then (if qK c m p.t=0 then 3 else 2+lagC c m)
 else if p.stage=9 then 2
 else if p.stage=10 then 1
 else (if qT c m=p.t then (if p.n=qK c m (qT c m) then 8 else 13) else 2+lagC c m)
def rndC (c:Cfg)(H T:Int):Int:=if H=T then 19+scB c else 11+scB c
def atC (c:Cfg)(m:Mch)(h0 t n:Int):Int:=if qH c m=h0 then (if h0=t then 2+rndC c (qH c m) (if qT c m=t then n else qT c m) else 5+scB c) else rndC c (qH c m) (qT c m)
def gmC (c:Cfg)(m:Mch)(g:Gt):Int:=
 if g.stage=1 then rndC c (qH c m) (qT c m)
 else if g.stage=2 then (if g.h0=qH c m then rndC c (qH c m) (qT c m)-1 else rndC c (qH c m) (qT c m)+1)
 else if g.stage=3 then (if g.h0=qH c m then rndC c (qH c m) (qT c m)-2 else rndC c (qH c m) (qT c m))
 else if g.stage=4 then (if g.h0=qH c m then rndC c (qH c m) (qT c m)-3 else rndC c (qH c m) (qT c m)+3)
 else if g.stage=5 then (if qK c m g.h0=0 then 3+(if g.got=true then scB c else 0) else 2+atC c m g.h0 g.t (qK c m g.h0))
 else if g.stage=6 then 1+atC c m g.h0 g.t g.n
 else if g.stage=7 then atC c m g.h0 g.t g.n
 else if g.stage=8 then 1+rndC c (qH c m) (if qT c m=g.t then g.n else qT c m)
 else if g.stage=9 then (if qH c m=g.h0 then 4+scB c else 2+rndC c (qH c m) (qT c m))
 else if g.stage=10 then (if qH c m=g.h0 then 3+scB c else 1+rndC c (qH c m) (qT c m))
 else if g.stage=11 then (2-g.cleared)+(if g.got=true then scB c else 0)
 else roC c (m.word (adr c 1 0)) g.retire
theorem store_word {m:Mch}{A:Nat}{u z:Int}{i:Nat}(h:i≠A):(m.store A u z).word i=m.word i:=by
 simp only[Mch.store,Mch.word,Yb]
 rw[Yf (Ne.symm h)]
theorem swap_word {m:Mch}{A:Nat}{u o z:Int}{i:Nat}(h:i≠A):(m.swap A u o z).word i=m.word i:=by
 simp only[Mch.swap,Mch.word,Yb]
 split
 ·rw[Yf (Ne.symm h)]
 ·rfl
theorem swap_at {m:Mch}{A:Nat}{o z:Int}(hA:A<m.mem.words.length):(m.swap A (m.word A) o z).word A=if m.word A=o then z else m.word A:=by
 by_cases h:m.word A=o
 ·rw[if_pos h]
  simp only[Mch.swap,Mch.word,Yb]at h ⊢
  rw[if_pos h,Ye hA];rfl
 ·rw[if_neg h,swap_no h]
section
variable {c:Cfg}{Lg S N:Nat}{h:Haz}{a:Are}{m m':Mch}{t i:Nat}{cl:Cll}{se:Sea}
theorem pm_1 {m:Mch}{p:Pt}(h:p.stage=1):pmC c m p=tkC (m.word (adr c 1 0)) p.take+14:=by
 unfold pmC
 rw[if_pos h]
theorem pm_2 {m:Mch}{p:Pt}(h:p.stage=2):pmC c m p=14:=by
 unfold pmC
 rw[if_neg (show ¬p.stage=1 by omega),if_pos h]
theorem pm_3 {m:Mch}{p:Pt}(h:p.stage=3):pmC c m p=13:=by
 unfold pmC
 rw[if_neg (show ¬p.stage=1 by omega),if_neg (show ¬p.stage=2 by omega),if_pos h]
theorem pm_4 {m:Mch}{p:Pt}(h:p.stage=4):pmC c m p=1+lagC c m:=by
 unfold pmC
 rw[if_neg (show ¬p.stage=1 by omega),if_neg (show ¬p.stage=2 by omega),if_neg (show ¬p.stage=3 by omega),if_pos h]
theorem pm_5 {m:Mch}{p:Pt}(h:p.stage=5):pmC c m p=(if qT c m=p.t then lagC c m else 2+lagC c m):=by
 unfold pmC
 rw[if_neg (show ¬p.stage=1 by omega),if_neg (show ¬p.stage=2 by omega),if_neg (show ¬p.stage=3 by omega),if_neg (show ¬p.stage=4 by omega),if_pos h]
theorem pm_6 {m:Mch}{p:Pt}(h:p.stage=6):pmC c m p=(if qT c m=p.t then lagC c m-1 else 1+lagC c m):=by
 unfold pmC
 rw[if_neg (show ¬p.stage=1 by omega),if_neg (show ¬p.stage=2 by omega),if_neg (show ¬p.stage=3 by omega),if_neg (show ¬p.stage=4 by omega),if_neg (show ¬p.stage=5 by omega),if_pos h]
theorem pm_7 {m:Mch}{p:Pt}(h:p.stage=7):pmC c m p=(if qK c m p.t=0 then 4 else if qT c m=p.t then 9 else 3+lagC c m):=by
 unfold pmC
 rw[if_neg (show ¬p.stage=1 by omega),if_neg (show ¬p.stage=2 by omega),if_neg (show ¬p.stage=3 by omega),if_neg (show ¬p.stage=4 by omega),if_neg (show ¬p.stage=5 by omega),if_neg (show ¬p.stage=6 by omega),if_pos h]
theorem pm_8 {m:Mch}{p:Pt}(h:p.stage=8):pmC c m p=(if qK c m p.t=0 then 3 else 2+lagC c m):=by
 unfold pmC
 rw[if_neg (show ¬p.stage=1 by omega),if_neg (show ¬p.stage=2 by omega),if_neg (show ¬p.stage=3 by omega),if_neg (show ¬p.stage=4 by omega),if_neg (show ¬p.stage=5 by omega),if_neg (show ¬p.stage=6 by omega),if_neg (show ¬p.stage=7 by omega),if_pos h]
theorem pm_9 {m:Mch}{p:Pt}(h:p.stage=9):pmC c m p=2:=by
 unfold pmC
 rw[if_neg (show ¬p.stage=1 by omega),if_neg (show ¬p.stage=2 by omega),if_neg (show ¬p.stage=3 by omega),if_neg (show ¬p.stage=4 by omega),if_neg (show ¬p.stage=5 by omega),if_neg (show ¬p.stage=6 by omega),if_neg (show ¬p.stage=7 by omega),if_neg (show ¬p.stage=8 by omega),if_pos h]
theorem pm_10 {m:Mch}{p:Pt}(h:p.stage=10):pmC c m p=1:=by
 unfold pmC
 rw[if_neg (show ¬p.stage=1 by omega),if_neg (show ¬p.stage=2 by omega),if_neg (show ¬p.stage=3 by omega),if_neg (show ¬p.stage=4 by omega),if_neg (show ¬p.stage=5 by omega),if_neg (show ¬p.stage=6 by omega),if_neg (show ¬p.stage=7 by omega),if_neg (show ¬p.stage=8 by omega),if_neg (show ¬p.stage=9 by omega),if_pos h]
theorem pm_11 {m:Mch}{p:Pt}(h:p.stage=11):pmC c m p=(if qT c m=p.t then (if p.n=qK c m (qT c m) then 8 else 13) else 2+lagC c m):=by
 unfold pmC
 rw[if_neg (show ¬p.stage=1 by omega),if_neg (show ¬p.stage=2 by omega),if_neg (show ¬p.stage=3 by omega),if_neg (show ¬p.stage=4 by omega),if_neg (show ¬p.stage=5 by omega),if_neg (show ¬p.stage=6 by omega),if_neg (show ¬p.stage=7 by omega),if_neg (show ¬p.stage=8 by omega),if_neg (show ¬p.stage=9 by omega),if_neg (show ¬p.stage=10 by omega)]
theorem gm_1 {m:Mch}{g:Gt}(h:g.stage=1):gmC c m g=rndC c (qH c m) (qT c m):=by
 unfold gmC
 rw[if_pos h]
theorem gm_2 {m:Mch}{g:Gt}(h:g.stage=2):gmC c m g=(if g.h0=qH c m then rndC c (qH c m) (qT c m)-1 else rndC c (qH c m) (qT c m)+1):=by
 unfold gmC
 rw[if_neg (show ¬g.stage=1 by omega),if_pos h]
theorem gm_3 {m:Mch}{g:Gt}(h:g.stage=3):gmC c m g=(if g.h0=qH c m then rndC c (qH c m) (qT c m)-2 else rndC c (qH c m) (qT c m)):=by
 unfold gmC
 rw[if_neg (show ¬g.stage=1 by omega),if_neg (show ¬g.stage=2 by omega),if_pos h]
theorem gm_4 {m:Mch}{g:Gt}(h:g.stage=4):gmC c m g=(if g.h0=qH c m then rndC c (qH c m) (qT c m)-3 else rndC c (qH c m) (qT c m)+3):=by
 unfold gmC
 rw[if_neg (show ¬g.stage=1 by omega),if_neg (show ¬g.stage=2 by omega),if_neg (show ¬g.stage=3 by omega),if_pos h]
theorem gm_5 {m:Mch}{g:Gt}(h:g.stage=5):gmC c m g=(if qK c m g.h0=0 then 3+(if g.got=true then scB c else 0) else 2+atC c m g.h0 g.t (qK c m g.h0)):=by
 unfold gmC
 rw[if_neg (show ¬g.stage=1 by omega),if_neg (show ¬g.stage=2 by omega),if_neg (show ¬g.stage=3 by omega),if_neg (show ¬g.stage=4 by omega),if_pos h]
theorem gm_6 {m:Mch}{g:Gt}(h:g.stage=6):gmC c m g=1+atC c m g.h0 g.t g.n:=by
 unfold gmC
 rw[if_neg (show ¬g.stage=1 by omega),if_neg (show ¬g.stage=2 by omega),if_neg (show ¬g.stage=3 by omega),if_neg (show ¬g.stage=4 by omega),if_neg (show ¬g.stage=5 by omega),if_pos h]
theorem gm_7 {m:Mch}{g:Gt}(h:g.stage=7):gmC c m g=atC c m g.h0 g.t g.n:=by
 unfold gmC
 rw[if_neg (show ¬g.stage=1 by omega),if_neg (show ¬g.stage=2 by omega),if_neg (show ¬g.stage=3 by omega),if_neg (show ¬g.stage=4 by omega),if_neg (show ¬g.stage=5 by omega),if_neg (show ¬g.stage=6 by omega),if_pos h]
theorem gm_8 {m:Mch}{g:Gt}(h:g.stage=8):gmC c m g=1+rndC c (qH c m) (if qT c m=g.t then g.n else qT c m):=by
 unfold gmC
 rw[if_neg (show ¬g.stage=1 by omega),if_neg (show ¬g.stage=2 by omega),if_neg (show ¬g.stage=3 by omega),if_neg (show ¬g.stage=4 by omega),if_neg (show ¬g.stage=5 by omega),if_neg (show ¬g.stage=6 by omega),if_neg (show ¬g.stage=7 by omega),if_pos h]
theorem gm_9 {m:Mch}{g:Gt}(h:g.stage=9):gmC c m g=(if qH c m=g.h0 then 4+scB c else 2+rndC c (qH c m) (qT c m)):=by
 unfold gmC
 rw[if_neg (show ¬g.stage=1 by omega),if_neg (show ¬g.stage=2 by omega),if_neg (show ¬g.stage=3 by omega),if_neg (show ¬g.stage=4 by omega),if_neg (show ¬g.stage=5 by omega),if_neg (show ¬g.stage=6 by omega),if_neg (show ¬g.stage=7 by omega),if_neg (show ¬g.stage=8 by omega),if_pos h]
theorem gm_10 {m:Mch}{g:Gt}(h:g.stage=10):gmC c m g=(if qH c m=g.h0 then 3+scB c else 1+rndC c (qH c m) (qT c m)):=by
 unfold gmC
 rw[if_neg (show ¬g.stage=1 by omega),if_neg (show ¬g.stage=2 by omega),if_neg (show ¬g.stage=3 by omega),if_neg (show ¬g.stage=4 by omega),if_neg (show ¬g.stage=5 by omega),if_neg (show ¬g.stage=6 by omega),if_neg (show ¬g.stage=7 by omega),if_neg (show ¬g.stage=8 by omega),if_neg (show ¬g.stage=9 by omega),if_pos h]
theorem gm_11 {m:Mch}{g:Gt}(h:g.stage=11):gmC c m g=(2-g.cleared)+(if g.got=true then scB c else 0):=by
 unfold gmC
 rw[if_neg (show ¬g.stage=1 by omega),if_neg (show ¬g.stage=2 by omega),if_neg (show ¬g.stage=3 by omega),if_neg (show ¬g.stage=4 by omega),if_neg (show ¬g.stage=5 by omega),if_neg (show ¬g.stage=6 by omega),if_neg (show ¬g.stage=7 by omega),if_neg (show ¬g.stage=8 by omega),if_neg (show ¬g.stage=9 by omega),if_neg (show ¬g.stage=10 by omega),if_pos h]
theorem gm_12 {m:Mch}{g:Gt}(h:g.stage=12):gmC c m g=roC c (m.word (adr c 1 0)) g.retire:=by
 unfold gmC
 rw[if_neg (show ¬g.stage=1 by omega),if_neg (show ¬g.stage=2 by omega),if_neg (show ¬g.stage=3 by omega),if_neg (show ¬g.stage=4 by omega),if_neg (show ¬g.stage=5 by omega),if_neg (show ¬g.stage=6 by omega),if_neg (show ¬g.stage=7 by omega),if_neg (show ¬g.stage=8 by omega),if_neg (show ¬g.stage=9 by omega),if_neg (show ¬g.stage=10 by omega),if_neg (show ¬g.stage=11 by omega)]
theorem scB_0 (hok:c.Ok):0≤scB c:=by
 have hR:=hok.R1
 have hS:=hok.S1
 have hA:0≤c.R*c.Hz:=Int.mul_nonneg (by omega) (by have:=hok.H1;omega)
 unfold scB scA;omega
theorem lag_b (m:Mch):6≤lagC c m∧lagC c m≤11:=by unfold lagC;split<;>omega
theorem rnd_b (H T:Int):11+scB c≤rndC c H T∧rndC c H T≤19+scB c:=by unfold rndC;split<;>omega
theorem at_b (m:Mch)(h0 t n:Int):5+scB c≤atC c m h0 t n∧atC c m h0 t n≤21+scB c:=by
 have h1:=rnd_b (c:=c) (qH c m) (qT c m)
 have h2:=rnd_b (c:=c) (qH c m) (if qT c m=t then n else qT c m)
 unfold atC
 split
 ·split<;>omega
 ·omega
theorem pm_b {p:Pt}(I:PtI c p):1≤pmC c m p∧pmC c m p≤19:=by
 have h1:=tkC_1 (m.word (adr c 1 0)) p.take
 have h2:=lag_b (c:=c) m
 have hs:p.stage=1∨p.stage=2∨p.stage=3∨p.stage=4∨p.stage=5∨p.stage=6∨p.stage=7∨p.stage=8∨p.stage=9∨p.stage=10∨p.stage=11:=by have:=I.stage;omega
 rcases hs with s|s|s|s|s|s|s|s|s|s|s
 ·rw[pm_1 s];omega
 ·rw[pm_2 s];omega
 ·rw[pm_3 s];omega
 ·rw[pm_4 s];omega
 ·rw[pm_5 s];split<;>omega
 ·rw[pm_6 s];split<;>omega
 ·rw[pm_7 s]
  split
  ·omega
  ·split<;>omega
 ·rw[pm_8 s];split<;>omega
 ·rw[pm_9 s];omega
 ·rw[pm_10 s];omega
 ·rw[pm_11 s]
  split
  ·split<;>omega
  ·omega
structure SmW (c:Cfg)(m m':Mch):Prop where
 t:qT c m'=qT c m
 h:qH c m'=qH c m
 k:∀z,1≤z→qK c m' z=qK c m z
theorem SmW.of (h:m'.mem.words=m.mem.words):SmW c m m':=by
 refine⟨?_,?_,fun z _ => ?_⟩
 all_goals(simp only[qT,qH,qK,Mch.word];rw[h])
theorem SmW.lag (s:SmW c m m')(hT:1≤qT c m):lagC c m'=lagC c m:=by unfold lagC;rw[s.t,s.k _ hT]
theorem SmW.at (s:SmW c m m')(h0 t n:Int):atC c m' h0 t n=atC c m h0 t n:=by unfold atC;rw[s.t,s.h]
theorem hz_sm (C:Core c Lg S N h a m)(ht:(t:Int)<c.T){th k u z:Int}(hu:th=(t:Int))(hd:0≤h.held.getD t 0)(k0:0≤k)(k1:k≤1):SmW c m (m.store (qHz h th k) u z):=by
 have hok:=C.ok
 obtain⟨hr1,_⟩:=C.hget ht
 obtain⟨g1,g2⟩:=hz_adr hok hd hr1 k0 (by have:=hok.H1;omega)
 have e:qHz h th k=(base c 9+h.held.getD t 0*c.Hz+k).toNat:=by
  unfold qHz
  rw[hu,C.hc,Yo]
 obtain⟨b1,b2,b8,b9,b10,b11,b12,b13,b14,rh,rh2,b3⟩:=Qg hok
 have e4:=ZY hok 4 (Int.le_refl 0)
 have e5:=ZY hok 5 (Int.le_refl 0)
 obtain⟨q4,q5⟩:=base45 c
 have:=hok.S1
 have:=hok.R1
 rw[e]
 refine⟨store_word (by omega),store_word (by omega),fun y hy=>store_word ?_⟩
 have:=ZY hok 13 (show 0≤y-1 by omega)
 omega
theorem tail_sm (C:Core c Lg S N h a m){o z:Int}:qT c (m.swap (adr c 5 0) (m.word (adr c 5 0)) o z)=(if qT c m=o then z else qT c m)∧qH c (m.swap (adr c 5 0) (m.word (adr c 5 0)) o z)=qH c m∧∀y,1≤y→qK c (m.swap (adr c 5 0) (m.word (adr c 5 0)) o z) y=qK c m y:=by
 have hok:=C.ok
 have hA:adr c 5 0<m.mem.words.length:=C.lt (adr5_lt hok)
 obtain⟨b1,b2,b8,b9,b10,b11,b12,b13,b14,rh,rh2,b3⟩:=Qg hok
 have e5:=ZY hok 5 (Int.le_refl 0)
 obtain⟨q4,q5⟩:=base45 c
 have:=hok.S1
 have:=hok.R1
 refine⟨swap_at hA,swap_word (q45 hok),fun y hy=>swap_word ?_⟩
 have:=ZY hok 13 (show 0≤y-1 by omega)
 omega
theorem qk_0 (C:Core c Lg S N h a m){z:Int}(hz:1≤z∧z≤c.Sl):0≤qK c m z:=by
 have hok:=C.ok
 have e:=ZY hok 13 (show 0≤z-1 by omega)
 obtain⟨b1,b2,b8,b9,b10,b11,b12,b13,b14,rh,rh2,b3⟩:=Qg hok
 exact((C.word (i:=adr c 13 (z-1)) (by omega)).link (by omega) (by omega)).1
theorem QF.sm (q:QF c m)(s:SmW c m m')(hT:1≤qT c m)(hH:1≤qH c m)(hK:0≤qK c m (qT c m)):QF c m':=by
 refine⟨fun e => ?_,fun e => ?_⟩
 ·rw[s.t,s.k _ hT]at e ⊢
  rw[s.k _ (by omega)]
  exact q.f1 e
 ·rw[s.h,s.k _ hH]at e ⊢
  exact q.f2 e
theorem put_c {p:Pt}(C:Core c Lg S N h a m)(Q:QF c m)(hT:1≤qT c m)(ht:(t:Int)<c.T)(hu:p.thread=(t:Int))(hd:0≤h.held.getD t 0)(I:PtI c p)(hf:(Qc h a m i t cl se p).1=false) :
  pmC c (Qc h a m i t cl se p).2.2.1 (Qc h a m i t cl se p).2.2.2≤pmC c m p-1:=by
 have hc:=C.hc
 have hL:=lag_b (c:=c) m
 have hs:p.stage=1∨p.stage=2∨p.stage=3∨p.stage=4∨p.stage=5∨p.stage=6∨p.stage=7∨p.stage=8∨p.stage=9∨p.stage=10∨p.stage=11:=by have:=I.stage;omega
 have eT:m.word (adr c 5 0)=qT c m:=rfl
 have eK:∀z,m.word (adr c 13 (z-1))=qK c m z:=fun _=>rfl
 unfold Qc at hf ⊢
 rw[hc]at hf ⊢
 simp only[]at hf ⊢
 rcases hs with s|s|s|s|s|s|s|s|s|s|s
 ·rw[pm_1 s]
  have g1:=(tkC_1 (m.word (adr c 1 0)) p.take).1
  have g2:=take_c (k:=p.take) C
  rw[if_pos s]at hf ⊢
  unfold ptTake at hf ⊢
  simp only[]at hf ⊢
  by_cases h1:(Zh a m p.take).1=true
  ·rw[if_pos h1]at hf ⊢
   unfold ZV at hf ⊢
   simp only[]at hf ⊢
   by_cases h2:Zd (Zh a m p.take).2.2.2<0
   ·rw[if_pos h2]at hf;cases hf
   ·rw[if_neg h2]
    rw[pm_2 rfl]
    omega
  ·rw[if_neg h1]
   (try dsimp only)
   rw[pm_1 (p:={ p with take:=(Zh a m p.take).2.2.2 }) s]
   have:=g2 (by simpa using h1)
   simp only[]
   omega
 ·rw[pm_2 s]
  rw[if_neg (by omega),if_pos s]
  (try dsimp only)
  rw[pm_3 rfl]
  omega
 ·rw[pm_3 s]
  rw[if_neg (by omega),if_neg (by omega),if_pos s]
  (try dsimp only)
  rw[pm_4 rfl]
  have:=(lag_b (c:=c) (m.store (adr c 13 p.slot) (m.word (adr c 13 p.slot)) 0)).2
  omega
 ·rw[pm_4 s]
  rw[if_neg (by omega),if_neg (by omega),if_neg (by omega),if_pos s]
  (try dsimp only)
  rw[pm_5 rfl]
  show(if qT c m=qT c m then lagC c m else 2+lagC c m)≤_
  rw[if_pos rfl]
  omega
 ·rw[pm_5 s]
  rw[if_neg (by omega),if_neg (by omega),if_neg (by omega),if_neg (by omega),if_pos s]
  (try dsimp only)
  have W:=hz_sm (u:=m.word (qHz h p.thread 0)) (z:=p.t) C ht hu hd (Int.le_refl 0) (by omega)
  rw[pm_6 rfl,W.lag hT,W.t]
  simp only[]
  split<;>omega
 ·rw[pm_6 s]
  rw[if_neg (by omega),if_neg (by omega),if_neg (by omega),if_neg (by omega),if_neg (by omega),if_pos s]
  (try dsimp only)
  rw[eT]
  by_cases e:qT c m=p.t
  ·rw[if_pos e,if_pos e];(try dsimp only);rw[pm_7 rfl]
   show(if qK c m p.t=0 then 4 else if qT c m=p.t then 9 else 3+lagC c m)≤_
   rw[if_pos e,←e]
   unfold lagC
   split<;>omega
  ·rw[if_neg e,if_neg e];(try dsimp only);rw[pm_5 rfl]
   show(if qT c m=qT c m then lagC c m else 2+lagC c m)≤_
   rw[if_pos rfl]
   omega
 ·rw[pm_7 s]
  rw[if_neg (by omega),if_neg (by omega),if_neg (by omega),if_neg (by omega),if_neg (by omega),if_neg (by omega),if_pos s]
  (try dsimp only)
  rw[eK]
  have hk0:0≤qK c m p.t:=qk_0 C (I.t (by omega))
  by_cases e:qK c m p.t=0
  ·rw[if_pos e,if_neg (by omega)];(try dsimp only);rw[pm_8 rfl]
   show(if qK c m p.t=0 then 3 else 2+lagC c m)≤_
   rw[if_pos e]
   omega
  ·rw[if_neg e,if_pos (by omega)];(try dsimp only);rw[pm_11 rfl]
   show(if qT c m=p.t then (if qK c m p.t=qK c m (qT c m) then 8 else 13) else 2+lagC c m)≤_
   split
   ·rename_i e2
    rw[if_pos (by rw[e2])]
    omega
   ·omega
 ·rw[pm_8 s]
  rw[if_neg (by omega),if_neg (by omega),if_neg (by omega),if_neg (by omega),if_neg (by omega),if_neg (by omega),if_neg (by omega),if_pos s]
  (try dsimp only)
  rw[eK]
  by_cases e:qK c m p.t=0
  ·rw[if_pos e,if_pos e];(try dsimp only);rw[pm_9 rfl]
   omega
  ·rw[if_neg e,if_neg e];(try dsimp only);rw[pm_4 rfl]
   have W:SmW c m (m.swap (adr c 13 (p.t-1)) (qK c m p.t) 0 (p.slot+1)):=⟨swap_no e _,swap_no e _,fun _ _=>swap_no e _⟩
   rw[W.lag hT]
   omega
 ·rw[pm_9 s]
  rw[if_neg (by omega),if_neg (by omega),if_neg (by omega),if_neg (by omega),if_neg (by omega),if_neg (by omega),if_neg (by omega),if_neg (by omega),if_pos s]
  (try dsimp only)
  rw[pm_10 rfl]
  omega
 ·rw[if_neg (by omega),if_neg (by omega),if_neg (by omega),if_neg (by omega),if_neg (by omega),if_neg (by omega),if_neg (by omega),if_neg (by omega),if_neg (by omega),if_pos s]at hf
  cases hf
 ·rw[pm_11 s]
  rw[if_neg (by omega),if_neg (by omega),if_neg (by omega),if_neg (by omega),if_neg (by omega),if_neg (by omega),if_neg (by omega),if_neg (by omega),if_neg (by omega),if_neg (by omega)]
  (try dsimp only)
  obtain⟨w1,w2,w3⟩:=tail_sm (o:=p.t) (z:=p.n) C
  rw[pm_4 rfl]
  have hn:=(I.n s).1
  have hL':=lag_b (c:=c) (m.swap (adr c 5 0) (m.word (adr c 5 0)) p.t p.n)
  by_cases e:qT c m=p.t
  ·rw[if_pos e]at w1 ⊢
   by_cases e2:p.n=qK c m (qT c m)
   ·rw[if_pos e2]
    have:lagC c (m.swap (adr c 5 0) (m.word (adr c 5 0)) p.t p.n)=6:=by
     unfold lagC
     rw[w1,w3 _ hn,e2,if_pos (Q.f1 (by omega))]
    omega
   ·rw[if_neg e2]
    omega
  ·rw[if_neg e]at w1 ⊢
   have:lagC c (m.swap (adr c 5 0) (m.word (adr c 5 0)) p.t p.n)=lagC c m:=by
    unfold lagC
    rw[w1,w3 _ hT]
   omega
theorem gm_b {g:Gt}(hok:c.Ok)(I:GtI c g)(hp:∀r sc,g.stage=12→g.retire=some r→r.scan=some sc→(sc.pending.length:Int)≤c.Sl):1≤gmC c m g∧gmC c m g≤30+scB c:=by
 have hB:=scB_0 hok
 have h1:=rnd_b (c:=c) (qH c m) (qT c m)
 have hs:g.stage=1∨g.stage=2∨g.stage=3∨g.stage=4∨g.stage=5∨g.stage=6∨g.stage=7∨g.stage=8∨g.stage=9∨g.stage=10∨g.stage=11∨g.stage=12:=by have:=I.stage;omega
 rcases hs with s|s|s|s|s|s|s|s|s|s|s|s
 ·rw[gm_1 s];omega
 ·rw[gm_2 s];split<;>omega
 ·rw[gm_3 s];split<;>omega
 ·rw[gm_4 s];split<;>omega
 ·have:=at_b (c:=c) m g.h0 g.t (qK c m g.h0)
  rw[gm_5 s]
  split
  ·split<;>omega
  ·omega
 ·have:=at_b (c:=c) m g.h0 g.t g.n
  rw[gm_6 s];omega
 ·have:=at_b (c:=c) m g.h0 g.t g.n
  rw[gm_7 s];omega
 ·have:=rnd_b (c:=c) (qH c m) (if qT c m=g.t then g.n else qT c m)
  rw[gm_8 s];omega
 ·rw[gm_9 s];split<;>omega
 ·rw[gm_10 s];split<;>omega
 ·have:=I.cl1 s
  rw[gm_11 s];split<;>omega
 ·obtain⟨r,sc,e1,e2,e3,e4⟩:=I.ret s
  have:=scC_1 hok e3 (hp r sc s e1 e2) (m.word (adr c 1 0))
  rw[gm_12 s,e1]
  simp only[roC,e2,soC]
  omega
theorem get_c {g:Gt}(C:Core c Lg S N h a m)(Q:QF c m)(hT:1≤qT c m)(hH:1≤qH c m)(ht:(t:Int)<c.T)(hu:g.thread=(t:Int))(hd:0≤h.held.getD t 0)(I:GtI c g)(hl:∀r:Nat,((h.lists.getD r []).length:Int)≤c.Sl)(hf:(Z6 h a m i t cl se g).1=false) :
  gmC c (Z6 h a m i t cl se g).2.2.2.1 (Z6 h a m i t cl se g).2.2.2.2≤gmC c m g-1:=by
 have hc:=C.hc
 have hok:=C.ok
 have hB:=scB_0 hok
 have hR:=rnd_b (c:=c) (qH c m) (qT c m)
 have hs:g.stage=1∨g.stage=2∨g.stage=3∨g.stage=4∨g.stage=5∨g.stage=6∨g.stage=7∨g.stage=8∨g.stage=9∨g.stage=10∨g.stage=11∨g.stage=12:=by have:=I.stage;omega
 have eT:m.word (adr c 5 0)=qT c m:=rfl
 have eH:m.word (adr c 4 0)=qH c m:=rfl
 have eK:∀z,m.word (adr c 13 (z-1))=qK c m z:=fun _=>rfl
 unfold Z6 at hf ⊢
 rw[hc]at hf ⊢
 simp only[]at hf ⊢
 rcases hs with s|s|s|s|s|s|s|s|s|s|s|s
 ·rw[gm_1 s]
  rw[if_pos s]
  (try dsimp only)
  rw[gm_2 rfl]
  show(if qH c m=qH c m then rndC c (qH c m) (qT c m)-1 else rndC c (qH c m) (qT c m)+1)≤_
  rw[if_pos rfl]
  omega
 ·rw[gm_2 s]
  rw[if_neg (by omega),if_pos s]
  (try dsimp only)
  have W:=hz_sm (u:=m.word (qHz h g.thread 0)) (z:=g.h0) C ht hu hd (Int.le_refl 0) (by omega)
  rw[gm_3 rfl,W.h,W.t]
  (try dsimp only)
  split<;>omega
 ·rw[gm_3 s]
  rw[if_neg (by omega),if_neg (by omega),if_pos s]
  (try dsimp only)
  rw[eH]
  by_cases e:qH c m=g.h0
  ·rw[if_pos e,if_pos e.symm];(try dsimp only);rw[gm_4 rfl]
   show(if g.h0=qH c m then rndC c (qH c m) (qT c m)-3 else rndC c (qH c m) (qT c m)+3)≤_
   rw[if_pos e.symm]
   omega
  ·rw[if_neg e,if_neg (Ne.symm e)];(try dsimp only);rw[gm_2 rfl]
   show(if qH c m=qH c m then rndC c (qH c m) (qT c m)-1 else rndC c (qH c m) (qT c m)+1)≤_
   rw[if_pos rfl]
   omega
 ·rw[gm_4 s]
  rw[if_neg (by omega),if_neg (by omega),if_neg (by omega),if_pos s]
  (try dsimp only)
  rw[gm_5 rfl]
  show(if qK c m g.h0=0 then 3+(if g.got=true then scB c else 0) else 2+atC c m g.h0 (qT c m) (qK c m g.h0))≤_
  by_cases e0:qK c m g.h0=0
  ·rw[if_pos e0]
   split<;>split<;>omega
  ·rw[if_neg e0]
   unfold atC
   by_cases e:qH c m=g.h0
   ·rw[if_pos e,if_pos e.symm,if_pos rfl]
    have hf2:=Q.f2 (by rw[e];exact e0)
    by_cases e2:g.h0=qT c m
    ·rw[if_pos e2]
     have r1:rndC c (qH c m) (qK c m g.h0)=11+scB c:=by unfold rndC;rw[if_neg (by rw[←e];exact Ne.symm hf2)]
     have r2:rndC c (qH c m) (qT c m)=19+scB c:=by unfold rndC;rw[if_pos (by rw[e,e2])]
     omega
    ·rw[if_neg e2]
     omega
   ·rw[if_neg e,if_neg (Ne.symm e)]
    omega
 ·rw[gm_5 s]
  rw[if_neg (by omega),if_neg (by omega),if_neg (by omega),if_neg (by omega),if_pos s]
  (try dsimp only)
  rw[eK]
  have hk0:=qk_0 C (I.h0 (by omega))
  by_cases e:qK c m g.h0=0
  ·rw[if_neg (by omega),if_pos e];(try dsimp only);rw[gm_11 rfl]
   have:=I.cl (by omega)
   (try dsimp only)
   omega
  ·rw[if_pos (by omega),if_neg e];(try dsimp only);rw[gm_6 rfl]
   show 1+atC c m g.h0 g.t (qK c m g.h0)≤_
   omega
 ·rw[gm_6 s]
  rw[if_neg (by omega),if_neg (by omega),if_neg (by omega),if_neg (by omega),if_neg (by omega),if_pos s]
  (try dsimp only)
  have W:=hz_sm (u:=m.word (qHz h g.thread 1)) (z:=g.n) C ht hu hd (by omega) (Int.le_refl 1)
  rw[gm_7 rfl,W.at]
  (try dsimp only)
  omega
 ·rw[gm_7 s]
  rw[if_neg (by omega),if_neg (by omega),if_neg (by omega),if_neg (by omega),if_neg (by omega),if_neg (by omega),if_pos s]
  (try dsimp only)
  rw[eH]
  unfold atC
  by_cases e:qH c m=g.h0
  ·rw[if_pos e,if_pos e]
   by_cases e2:g.h0=g.t
   ·rw[if_pos e2,if_pos e2];(try dsimp only);rw[gm_8 rfl]
    show 1+rndC c (qH c m) (if qT c m=g.t then g.n else qT c m)≤_
    omega
   ·rw[if_neg e2,if_neg e2];(try dsimp only);rw[gm_9 rfl]
    show(if qH c m=g.h0 then 4+scB c else 2+rndC c (qH c m) (qT c m))≤_
    rw[if_pos e]
    omega
  ·rw[if_neg e,if_neg e];(try dsimp only);rw[gm_2 rfl]
   show(if qH c m=qH c m then rndC c (qH c m) (qT c m)-1 else rndC c (qH c m) (qT c m)+1)≤_
   rw[if_pos rfl]
   omega
 ·rw[gm_8 s]
  rw[if_neg (by omega),if_neg (by omega),if_neg (by omega),if_neg (by omega),if_neg (by omega),if_neg (by omega),if_neg (by omega),if_pos s]
  (try dsimp only)
  obtain⟨w1,w2,w3⟩:=tail_sm (o:=g.t) (z:=g.n) C
  rw[gm_1 rfl,w1,w2]
  omega
 ·rw[gm_9 s]
  rw[if_neg (by omega),if_neg (by omega),if_neg (by omega),if_neg (by omega),if_neg (by omega),if_neg (by omega),if_neg (by omega),if_neg (by omega),if_pos s]
  (try dsimp only)
  rw[gm_10 rfl]
  show(if qH c m=g.h0 then 3+scB c else 1+rndC c (qH c m) (qT c m))≤_
  split<;>omega
 ·rw[gm_10 s]
  rw[if_neg (by omega),if_neg (by omega),if_neg (by omega),if_neg (by omega),if_neg (by omega),if_neg (by omega),if_neg (by omega),if_neg (by omega),if_neg (by omega),if_pos s]
  (try dsimp only)
  rw[eH]
  by_cases e:qH c m=g.h0
  ·rw[if_pos e,if_pos e];(try dsimp only);rw[gm_11 rfl]
   have:=I.cl (by omega)
   (try dsimp only)
   rw[if_pos rfl]
   omega
  ·rw[if_neg e,if_neg e];(try dsimp only);rw[gm_1 rfl]
   have e1:qH c (m.swap (adr c 4 0) (qH c m) g.h0 g.n)=qH c m:=swap_no e _
   have e2:qT c (m.swap (adr c 4 0) (qH c m) g.h0 g.n)=qT c m:=swap_no e _
   rw[e1,e2]
   omega
 ·have hcl:=I.cl1 s
  rw[gm_11 s]
  rw[if_neg (by omega),if_neg (by omega),if_neg (by omega),if_neg (by omega),if_neg (by omega),if_neg (by omega),if_neg (by omega),if_neg (by omega),if_neg (by omega),if_neg (by omega),if_pos s]at hf ⊢
  unfold gtEnd at hf ⊢
  simp only[]at hf ⊢
  by_cases e:g.cleared+1<2
  ·rw[if_pos e]
   (try dsimp only)
   rw[gm_11 (g:={ g with cleared:=g.cleared+1 }) s]
   (try dsimp only)
   omega
  ·rw[if_neg e]at hf ⊢
   by_cases e2:g.got=false
   ·rw[if_pos e2]at hf;cases hf
   ·rw[if_neg e2]at hf ⊢
    have e3:g.got=true:=by simpa using e2
    rw[if_pos e3]
    simp only[]at hf ⊢
    unfold Zr at hf ⊢
    simp only[]at hf ⊢
    split
    ·rename_i h6
     rw[if_pos h6]at hf
     cases hf
    ·rename_i h6
     rw[if_neg h6]at hf
     simp only[]at hf
     rw[gm_12 rfl]
     simp only[roC,soC]
     refine Int.le_trans (ready_c hok ?_ _ hf) (by omega)
     exact hc
 ·obtain⟨r,sc,e2,e3,e4,e5⟩:=I.ret s
  have e0:gmC c m g=scC c (m.word (adr c 1 0)) sc:=by rw[gm_12 s];simp only[e2,roC,e3,soC]
  rw[e0]
  have g1:=scan_c C e4 (hl _)
  rw[if_neg (by omega),if_neg (by omega),if_neg (by omega),if_neg (by omega),if_neg (by omega),if_neg (by omega),if_neg (by omega),if_neg (by omega),if_neg (by omega),if_neg (by omega),if_neg (by omega)]at hf ⊢
  rw[e2]at hf ⊢
  simp only[]at hf ⊢
  rw[e3]at hf ⊢
  simp only[]at hf ⊢
  have:=g1 hf
  rw[gm_12 (g:={ g with retire:=some { r with scan:=some (Zl h a m sc).2.2.2.2 } }) s]
  simp only[roC,soC]
  exact this
end
end Go.Proofs.YtefjbdajgakgpaaGreat
