/-
  What the tasks leave of the machine as it was.
-/
import Derived.Test.YtefjbdajgakgpaaGreatATask5
set_option linter.all false
namespace Go.Proofs.YtefjbdajgakgpaaGreat
open Go.RowKit Hp
section
structure Same (m m':Mch):Prop where
 cur:m'.cur=m.cur
 vs:m'.vs=m.vs
 vc:m'.vc=m.vc
 kit:m'.kit=m.kit
 moves:m'.moves=m.moves
 now:m'.now=m.now
 thread:m'.thread=m.thread
 calls:m'.calls=m.calls
 seats:m'.seats=m.seats
theorem Same.refl (m:Mch):Same m m:=⟨rfl,rfl,rfl,rfl,rfl,rfl,rfl,rfl,rfl⟩
theorem Same.trans {m m' m'':Mch}(h:Same m m')(k:Same m' m''):Same m m'' :=
 ⟨k.cur.trans h.cur,k.vs.trans h.vs,k.vc.trans h.vc,k.kit.trans h.kit,k.moves.trans h.moves,k.now.trans h.now,k.thread.trans h.thread,k.calls.trans h.calls,k.seats.trans h.seats⟩
theorem ZD (m:Mch)(i:Nat)(u:Int):Same m (m.load i u):=⟨rfl,rfl,rfl,rfl,rfl,rfl,rfl,rfl,rfl⟩
theorem ZI (m:Mch)(i:Nat)(u z:Int):Same m (m.store i u z):=⟨rfl,rfl,rfl,rfl,rfl,rfl,rfl,rfl,rfl⟩
theorem ZM (m:Mch)(i:Nat)(u o z:Int):Same m (m.swap i u o z):=⟨rfl,rfl,rfl,rfl,rfl,rfl,rfl,rfl,rfl⟩
theorem QE (m:Mch)(s f t:Int):Same m (m.shift s f t):=⟨rfl,rfl,rfl,rfl,rfl,rfl,rfl,rfl,rfl⟩
theorem same_push (a:Are)(m:Mch)(p:Psh):Same m (Zi a m p).2.2.1:=by
 unfold Zi
 split
 ·exact ZD ..
 ·split
  ·exact ZI ..
  ·simp only[]
   split
   ·exact(ZM ..).trans (QE ..)
   ·exact ZM ..
theorem same_give (a:Are)(m:Mch)(p:Psh):Same m (Zr a m p).2.2.1:=by
 unfold Zr
 split
 ·exact .refl m
 ·exact QE ..
theorem same_flush (a:Are)(m:Mch)(p:Psh):Same m (ZF a m p).2.2.1:=by
 unfold ZF
 split
 ·exact same_push ..
 ·simp only[]
  split<;>exact same_push ..
theorem Z8 (a:Are)(m:Mch)(t:Tak):Same m (Zj a m t).2.2.1:=by
 unfold Zj
 simp only[]
 split
 ·exact .refl m
 ·exact QE ..
theorem same_take (a:Are)(m:Mch)(t:Tak):Same m (Zp a m t).2.2.1:=by
 unfold Zp
 split
 ·exact ZD ..
 ·split
  ·exact ZD ..
  ·simp only[]
   split
   ·exact(ZM ..).trans (QE ..)
   ·exact ZM ..
theorem same_free (th:Int):∀(l:List Int) (g:Option Psh) (a:Are) (m:Mch),Same m (ZG th l g a m).2.2.2.2
 | [],g,a,m=>.refl m
 | s::r,g,a,m=>by
  unfold ZG
  split
  ·exact(same_give ..).trans (same_free th r _ _ _)
  ·exact same_give ..
theorem same_scan (h:Haz)(a:Are)(m:Mch)(s:Scn):Same m (Zq h a m s).2.2.2.1:=by
 unfold Zq
 split
 ·simp only[scanTry]
  split<;>exact ZD ..
 ·split
  ·simp only[Qw]
   split<;>exact ZM ..
  ·split
   ·simp only[Jg];exact ZI ..
   ·split
    ·simp only[QT]
     split
     ·exact ZD ..
     ·exact(ZD m _ _).trans (same_free ..)
    ·split
     ·simp only[Qx]
      split
      ·exact(same_push ..).trans (same_free ..)
      ·exact same_push ..
     ·exact .refl m
theorem same_retire (h:Haz)(a:Are)(m:Mch)(r:Ret):Same m (Zv h a m r).2.2.2.1:=by
 unfold Zv
 simp only[]
 split<;>exact QE ..
variable {i t:Nat}{c:Cll}{s:Sea}{m m' m'':Mch}
theorem Same.curIn (k:Same m m')(h:ZO m i t c s):ZO m' i t c s:=⟨k.cur▸h.cur,k.calls▸h.call,k.seats▸h.seat⟩
theorem Same.frame (k:Same m m')(h:ZO m i t c s):Z9 i t c s m m' :=
 ⟨k.cur,k.vs,k.vc,k.kit,k.moves,k.now,k.thread,⟨c.point,by rw[k.calls];exact(List.set_getElem?_self' h.call).symm⟩,⟨s.kind,s.value,by rw[k.seats];exact(List.set_getElem?_self' h.seat).symm⟩⟩
theorem frame_answer (h:ZO m i t c s)(k v:Int):Z9 i t c s m (m.answer t s k v):=
 ⟨rfl,rfl,rfl,rfl,rfl,rfl,rfl,⟨c.point,(List.set_getElem?_self' h.call).symm⟩,⟨k,v,rfl⟩⟩
theorem frame_point (h:ZO m i t c s)(z:Int):Z9 i t c s m (m.point i c z):=
 ⟨rfl,rfl,rfl,rfl,rfl,rfl,rfl,⟨z,rfl⟩,⟨s.kind,s.value,(List.set_getElem?_self' h.seat).symm⟩⟩
theorem frame_both (z k v:Int):Z9 i t c s m ((m.point i c z).answer t s k v):=
 ⟨rfl,rfl,rfl,rfl,rfl,rfl,rfl,⟨z,rfl⟩,⟨k,v,rfl⟩⟩
theorem Same.then (k:Same m m')(f:Z9 i t c s m' m''):Z9 i t c s m m'':=by
 obtain⟨z,hz⟩:=f.calls
 obtain⟨x,y,hxy⟩:=f.seats
 exact⟨f.cur.trans k.cur,f.vs.trans k.vs,f.vc.trans k.vc,f.kit.trans k.kit,f.moves.trans k.moves,f.now.trans k.now,f.thread.trans k.thread,⟨z,by rw[hz,k.calls]⟩,⟨x,y,by rw[hxy,k.seats]⟩⟩
theorem Z9.same (f:Z9 i t c s m m')(k:Same m' m''):Z9 i t c s m m'':=by
 obtain⟨z,hz⟩:=f.calls
 obtain⟨x,y,hxy⟩:=f.seats
 exact⟨k.cur.trans f.cur,k.vs.trans f.vs,k.vc.trans f.vc,k.kit.trans f.kit,k.moves.trans f.moves,k.now.trans f.now,k.thread.trans f.thread,⟨z,by rw[k.calls,hz]⟩,⟨x,y,by rw[k.seats,hxy]⟩⟩
theorem frame_reg (h:Haz)(r:Reg)(hc:ZO m i t c s):Z9 i t c s m (Z3 h m t s r).2.2.1:=by
 have hn:∀ {m'} (k:Same m m'),Z9 i t c s m (QK h m' t s r).2.2.1:=fun {m'} k=>by
  unfold QK
  split
  ·exact k.frame hc
  ·exact k.then (frame_answer (k.curIn hc) _ _)
 unfold Z3
 simp only[]
 split
 ·split
  ·exact hn (ZD ..)
  ·exact(ZD ..).frame hc
 ·split
  ·exact(ZM m _ _ _ _).then (frame_answer ((ZM m _ _ _ _).curIn hc) _ _)
  ·exact hn (ZM ..)
theorem frame_saw (r:Rdg)(u:Int)(hc:ZO m i t c s):Z9 i t c s m (Qy m i t c s r u).2.1:=by
 unfold Qy
 split
 ·exact frame_both ..
 ·exact(Same.refl m).frame hc
theorem frame_read (h:Haz)(r:Rdg)(hc:ZO m i t c s):Z9 i t c s m (Z5 h m i t c s r).2.1:=by
 unfold Z5
 simp only[]
 split
 ·exact(ZD m _ _).then (frame_saw _ _ ((ZD m _ _).curIn hc))
 ·split
  ·exact(ZI ..).frame hc
  ·split
   ·split
    ·exact(ZD ..).frame hc
    ·exact(ZD m _ _).then (frame_saw _ _ ((ZD m _ _).curIn hc))
   ·exact(ZD m _ _).then (frame_both ..)
theorem frame_unr (h:Haz)(a:Are)(u:Unr)(hc:ZO m i t c s):Z9 i t c s m (Zz h a m u).2.2.2.1:=by
 unfold Zz
 simp only[]
 split
 ·split
  ·exact(ZI ..).frame hc
  ·split<;>exact(ZI ..).frame hc
 ·split
  ·split
   ·exact(Same.refl m).frame hc
   ·split<;>exact(same_scan ..).frame hc
  ·split
   ·split
    ·exact(Same.refl m).frame hc
    ·exact(same_flush ..).frame hc
   ·exact(ZI ..).frame hc
theorem frame_took (p:Pst)(k:Tak)(hc:ZO m i t c s):Z9 i t c s m (ZS m i t c s p k).2.1:=by
 unfold ZS
 split
 ·exact frame_both ..
 ·exact(Same.refl m).frame hc
theorem frame_postReady (a:Are)(p:Pst)(hc:ZO m i t c s):Z9 i t c s m (ZL a m i t c s p).2.2.1:=by
 unfold ZL
 simp only[]
 split
 ·exact(Z8 a m _).then (frame_took _ _ ((Z8 a m _).curIn hc))
 ·exact(Z8 ..).frame hc
theorem frame_done (h:Haz)(a:Are)(p:Pst)(z:Int):Z9 i t c s m (Ji h a m i t c s p z).2.2.2.1:=by
 unfold Ji
 simp only[]
 split
 ·exact(frame_both ..).same (QE ..)
 ·exact((frame_both ..).same (QE ..)).same ((QE ..).trans (same_retire ..))
theorem frame_post (h:Haz)(a:Are)(p:Pst)(hc:ZO m i t c s):Z9 i t c s m (ZT h a m i t c s p).2.2.2.1:=by
 unfold ZT
 split
 ·exact(Same.refl m).frame hc
 ·simp only[]
  split
  ·split
   ·exact(same_take a m _).then (frame_took _ _ ((same_take a m _).curIn hc))
   ·exact(same_take ..).frame hc
  ·split
   ·exact(ZI ..).frame hc
   ·split
    ·exact(ZD ..).frame hc
    ·split
     ·split
      ·exact(ZM m _ _ _ _).then (frame_done ..)
      ·exact(ZM ..).frame hc
     ·split
      ·exact(Same.refl m).frame hc
      ·split
       ·exact(Same.refl m).frame hc
       ·exact(same_scan ..).frame hc
end
section
set_option maxRecDepth 100000
set_option maxHeartbeats 1000000
attribute [local irreducible] Go.Calls
inductive Q3 where
 | reg (r:Reg)
 | unr (u:Unr)
 | pst (p:Pst)
 | rdg (r:Rdg)
 | clr (ad:Nat)
 | scn (s:Scn)
def ifR (ty:TypeId)(G:Nat→Zb)(v:Value):Zb:=ex fun g=>pu (v=.iface ty (.pointer (some ⟨g,0,none⟩)))*G g
theorem Jj {ty:TypeId}{G:Nat→Zb}{v:Value}{O w:World}{F:Zb}:Sat O w (ifR ty G v*F)↔∃g,v=.iface ty (.pointer (some ⟨g,0,none⟩))∧Sat O w (G g*F):=by
 unfold ifR
 simp only[ZA,Ma,Zw]
def htR (bh ba:Nat):Q3→Value→Zb
 | .reg r=>ifR 179 fun g=>RegR g bh r
 | .unr u=>ifR 182 fun g=>UnrR g bh ba u
 | .pst p=>ifR 187 fun g=>PstR g bh ba p
 | .rdg r=>ifR 191 fun g=>RdgR g bh r
 | .clr ad=>ifR 194 fun g=>ClrR g ad
 | .scn s=>ifR 183 fun g=>ScnR g bh ba s
def Qz (s:Haz×Are)(m:Mch)(i t:Nat)(c:Cll)(se:Sea):Q3→Bool×(Haz×Are)×Mch×Q3
 | .pst p=>((ZL s.2 m i t c se p).1,(s.1,(ZL s.2 m i t c se p).2.1),(ZL s.2 m i t c se p).2.2.1,.pst (ZL s.2 m i t c se p).2.2.2)
 | .scn x=>((Qo s.1 x).1,s,m,.scn (Qo s.1 x).2)
 | k=>(false,s,m,k)
def QA (s:Haz×Are)(m:Mch)(i t:Nat)(c:Cll)(se:Sea):Q3→Bool×(Haz×Are)×Mch×Q3
 | .reg r=>((Z3 s.1 m t se r).1,((Z3 s.1 m t se r).2.1,s.2),(Z3 s.1 m t se r).2.2.1,.reg (Z3 s.1 m t se r).2.2.2)
 | .unr u=>((Zz s.1 s.2 m u).1,((Zz s.1 s.2 m u).2.1,(Zz s.1 s.2 m u).2.2.1),(Zz s.1 s.2 m u).2.2.2.1,.unr (Zz s.1 s.2 m u).2.2.2.2)
 | .pst p=>((ZT s.1 s.2 m i t c se p).1,((ZT s.1 s.2 m i t c se p).2.1,(ZT s.1 s.2 m i t c se p).2.2.1),(ZT s.1 s.2 m i t c se p).2.2.2.1,.pst (ZT s.1 s.2 m i t c se p).2.2.2.2)
 | .rdg r=>((Z5 s.1 m i t c se r).1,s,(Z5 s.1 m i t c se r).2.1,.rdg (Z5 s.1 m i t c se r).2.2)
 | .clr ad=>(true,s,m.store ad (m.word ad) 0,.clr ad)
 | .scn x=>((Zq s.1 s.2 m x).1,((Zq s.1 s.2 m x).2.1,(Zq s.1 s.2 m x).2.2.1),(Zq s.1 s.2 m x).2.2.2.1,.scn (Zq s.1 s.2 m x).2.2.2.2)
def htOkr (s:Haz×Are)(m:Mch)(_t:Nat):Q3→Prop
 | .pst p=>HazOk s.1 s.2 m∧0≤p.thread∧p.thread<s.1.c.T
 | .scn x=>HazOk s.1 s.2 m∧0≤x.record∧x.record<s.1.c.R
 | _=>True
def htOks (s:Haz×Are)(m:Mch)(_t:Nat):Q3→Prop
 | .reg r=>HazOk s.1 s.2 m∧0≤r.thread∧r.thread<s.1.c.T∧0≤r.i∧r.i<s.1.c.R
 | .unr u=>UnrOk s.1 s.2 m u
 | .pst p=>∃k,PstOk s.1 s.2 m p k
 | .rdg r=>ReadOk s.1 s.2 m r
 | .clr ad=>m.May ad
 | .scn x=>ScanOk s.1 s.2 m x
def hzT (bh ba:Nat)(CX:Zb):Tasks (Haz×Are) Q3 where
 X s:=HazR bh ba s.1*(AreR ba s.2*CX)
 R:=htR bh ba
 rdy:=Qz
 stp:=QA
 okr:=htOkr
 oks:=htOks
theorem dyn_if {f:FuncId}{ty:TypeId}{name:String}{d:Value}{G G':Nat→Zb}{Y Y' Z XD XD':Zb}{b:Bool}{v:Value}
  (h:∀g,Zh Tryz.prog f #[.pointer (some ⟨g,0,none⟩),d] (G g*Y) (.bool b) (G' g*Y'))
  (hr:∀g w,(callMethod (.iface ty (.pointer (some ⟨g,0,none⟩))) name #[d]).run Tryz.prog w=.ok (.enter f #[.pointer (some ⟨g,0,none⟩),d]) w)
  (hA:XD=Y*Z) (hB:XD'=Y'*Z) :
  Dyn Tryz.prog (callMethod v name #[d]) (ifR ty G v*XD) (fun u=>pu (u=.bool b)*(ifR ty G' v*XD')):=by
 intro O w F hs
 subst hA hB
 rw[Ma]at hs
 obtain⟨g,rfl,hs1⟩:=Jj.1 hs
 refine⟨f,_,hr g w,((h g) O w (Z*F) (hs1.cast (by ac_rfl))).mono ?_⟩
 rintro e w' ⟨rfl,hs'⟩
 refine⟨_,rfl,?_⟩
 simp only[Ma,Zw]
 exact⟨trivial,Jj.2 ⟨g,rfl,hs'.cast (by ac_rfl)⟩⟩
theorem reg_ready (g d:Nat):Zh Tryz.prog 185 #[.pointer (some ⟨g,0,none⟩),.pointer (some ⟨d,0,none⟩)] emp (.bool false) emp:=by
 intro O w F hs
 go_enter Tryz.func185,Tryz.ntmps185
 go_wp2_with (fail)
 (go_ret)
 exact⟨rfl,hs⟩
theorem unr_ready (g d:Nat):Zh Tryz.prog 187 #[.pointer (some ⟨g,0,none⟩),.pointer (some ⟨d,0,none⟩)] emp (.bool false) emp:=by
 intro O w F hs
 go_enter Tryz.func187,Tryz.ntmps187
 go_wp2_with (fail)
 (go_ret)
 exact⟨rfl,hs⟩
theorem rdg_ready (g d:Nat):Zh Tryz.prog 198 #[.pointer (some ⟨g,0,none⟩),.pointer (some ⟨d,0,none⟩)] emp (.bool false) emp:=by
 intro O w F hs
 go_enter Tryz.func198,Tryz.ntmps198
 go_wp2_with (fail)
 (go_ret)
 exact⟨rfl,hs⟩
theorem clr_ready (g d:Nat):Zh Tryz.prog 201 #[.pointer (some ⟨g,0,none⟩),.pointer (some ⟨d,0,none⟩)] emp (.bool false) emp:=by
 intro O w F hs
 go_enter Tryz.func201,Tryz.ntmps201
 go_wp2_with (fail)
 (go_ret)
 exact⟨rfl,hs⟩
theorem gives_emp {f:FuncId}{args:Array Value}{v:Value}(h:Zh Tryz.prog f args emp v emp)(R:Zb):Zh Tryz.prog f args R v R:=by
 have:=h.frame R
 rwa [Em]at this
theorem pst_ready_ok {s:Haz×Are}{m:Mch}{p:Pst}(h:HazOk s.1 s.2 m∧0≤p.thread∧p.thread<s.1.c.T)(g bh ba d bx bm:Nat){i t:Nat}{c:Cll}{se:Sea}(hc:ZO m i t c se) :
  Zh Tryz.prog 194 #[.pointer (some ⟨g,0,none⟩),.pointer (some ⟨d,0,none⟩)] (PstR g bh ba p*(HazR bh ba s.1*(AreR ba s.2*DkR d bx bm m))) (.bool (ZL s.2 m i t c se p).1)
   (PstR g bh ba (ZL s.2 m i t c se p).2.2.2*(HazR bh ba s.1*(AreR ba (ZL s.2 m i t c se p).2.1*DkR d bx bm (ZL s.2 m i t c se p).2.2.1))):=by
 obtain⟨hz,h0,h1⟩:=h
 obtain⟨x,hx,hxl,hin⟩:=hz.cache h0 h1
 have hok:=hz.ok
 have hS:=hz.sh
 have hsl:s.2.slots.length=s.2.c.Sl.toNat:=by have:=hok.slots;omega
 have hS1:=hok.c.S1
 have hS2:=hok.c.S2
 have hk : -1≤Zg (Zj s.2 m ⟨p.thread,1,0,0,0,false⟩).2.2.2∧Zg (Zj s.2 m ⟨p.thread,1,0,0,0,false⟩).2.2.2≤2147483646:=by
  unfold Zj
  have hd:s.2.caches.getD p.thread.toNat []=x:=by rw[Yb,hx];rfl
  simp only[hd]
  split
  ·simp[Zg]
  ·rename_i hne
   simp only[takeGot,Zg,if_true]
   have hlt:x.length-1<x.length:=by omega
   have hm:x.getD (x.length-1) 0∈x:=by
    rw[Yb,Yd hlt];simp
   have:=hin _ hm
   omega
 exact post_ready g bh ba d bx bm s.1 s.2 m i t c se p p.thread.toNat x (by omega) hx hin (by omega) (by omega) (by omega) ((Z8 ..).curIn hc) hk.2 hk.1
theorem hzT_good (bh ba:Nat)(CX:Zb):(hzT bh ba CX).Good where
 iface:=by
  intro O w k v F hs
  cases k<;>(obtain⟨g,rfl,_⟩:=Jj.1 hs;exact⟨_,_,rfl⟩)
 cr:=by
  intro d bx bm s m i t c se k v hok hc
  cases k with
  | reg r=>exact dyn_if (fun g=>gives_emp (reg_ready g d) _) (fun g w=>by kernel_rfl) (Y:=emp) (Y':=emp) (Em _).symm (Em _).symm
  | unr u=>exact dyn_if (fun g=>gives_emp (unr_ready g d) _) (fun g w=>by kernel_rfl) (Y:=emp) (Y':=emp) (Em _).symm (Em _).symm
  | rdg r=>exact dyn_if (fun g=>gives_emp (rdg_ready g d) _) (fun g w=>by kernel_rfl) (Y:=emp) (Y':=emp) (Em _).symm (Em _).symm
  | clr ad=>exact dyn_if (fun g=>gives_emp (clr_ready g d) _) (fun g w=>by kernel_rfl) (Y:=emp) (Y':=emp) (Em _).symm (Em _).symm
  | pst p=>exact dyn_if (Z:=CX) (fun g=>pst_ready_ok hok g bh ba d bx bm hc) (fun g w=>by kernel_rfl) (by simp only[hzT];ac_rfl) (by simp only[hzT,Qz];ac_rfl)
  | scn x=>
   obtain⟨hz,h0,h1⟩:=hok
   obtain⟨y,hy,_⟩:=hz.list h0 h1
   exact dyn_if (Z:=AreR ba s.2*(CX*DkR d bx bm m)) (fun g=>scan_ready g bh ba (.pointer (some ⟨d,0,none⟩)) s.1 x x.record.toNat y (by omega) hy (by have:=hz.ok.c.R2;rw[hz.c];omega)) (fun g w=>by kernel_rfl) (by simp only[hzT];ac_rfl) (by simp only[hzT,Qz];ac_rfl)
 cs:=by
  intro d bx bm s m i t c se k v hok hc
  cases k with
  | reg r=>exact dyn_if (Z:=AreR ba s.2*CX) (fun g=>reg_step g bh ba d bx bm s.1 s.2 m r i t c se hok.1 hc hok.2.1 hok.2.2.1 hok.2.2.2.1 hok.2.2.2.2) (fun g w=>by kernel_rfl) (by simp only[hzT];ac_rfl) (by simp only[hzT,QA];ac_rfl)
  | unr u=>exact dyn_if (Z:=CX) (fun g=>unreg_step g bh ba d bx bm s.1 s.2 m u hok) (fun g w=>by kernel_rfl) (by simp only[hzT];ac_rfl) (by simp only[hzT,QA];ac_rfl)
  | rdg r=>exact dyn_if (Z:=AreR ba s.2*CX) (fun g=>read_step g bh ba d bx bm s.1 s.2 m i t c se r hok hc) (fun g w=>by kernel_rfl) (by simp only[hzT];ac_rfl) (by simp only[hzT,QA];ac_rfl)
  | clr ad=>exact dyn_if (Z:=HazR bh ba s.1*(AreR ba s.2*CX)) (fun g=>clr_step g d bx bm m ad hok) (fun g w=>by kernel_rfl) (by simp only[hzT];ac_rfl) (by simp only[hzT,QA];ac_rfl)
  | pst p=>
   obtain⟨k,hok⟩:=hok
   exact dyn_if (Z:=CX) (fun g=>post_step g bh ba d bx bm s.1 s.2 m i t c se p k hok hc) (fun g w=>by kernel_rfl) (by simp only[hzT];ac_rfl) (by simp only[hzT,QA];ac_rfl)
  | scn x=>exact dyn_if (Z:=CX) (fun g=>scan_step g bh ba d bx bm s.1 s.2 m x hok) (fun g w=>by kernel_rfl) (by simp only[hzT];ac_rfl) (by simp only[hzT,QA];ac_rfl)
 fr:=by
  intro s m i t c se k hc
  cases k with
  | pst p=>exact frame_postReady _ _ hc
  | scn x=>exact(Same.refl m).frame hc
  | _=>exact(Same.refl m).frame hc
 fs:=by
  intro s m i t c se k hc
  cases k with
  | reg r=>exact frame_reg _ _ hc
  | unr u=>exact frame_unr _ _ _ hc
  | pst p=>exact frame_post _ _ _ hc
  | rdg r=>exact frame_read _ _ hc
  | clr ad=>exact(ZI ..).frame hc
  | scn x=>exact(same_scan ..).frame hc
end
end Go.Proofs.YtefjbdajgakgpaaGreat
