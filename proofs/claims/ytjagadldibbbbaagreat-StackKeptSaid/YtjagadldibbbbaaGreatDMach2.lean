/-
  What the tasks leave of the machine as it was.
-/
import Derived.Test.YtjagadldibbbbaaGreatDTask5
import Derived.Test.YtjagadldibbbbaaGreatDMach
set_option linter.all false
namespace Go.Proofs.YtjagadldibbbbaaGreat
open Go.RowKit Hp
section
structure Same (m m':Mch):Prop where
 cur:m'.cur=m.cur
 vs:m'.vs=m.vs
 vc:m'.vc=m.vc
 kit:m'.kit=m.kit
 moves:m'.moves=m.moves
 now:m'.now=m.now
 thread:m'.thread=m.thread
 calls:m'.calls=m.calls
 seats:m'.seats=m.seats
theorem Same.refl (m:Mch):Same m m:=⟨rfl,rfl,rfl,rfl,rfl,rfl,rfl,rfl,rfl⟩
theorem Same.trans {m m' m'':Mch}(h:Same m m')(k:Same m' m''):Same m m'' :=
 ⟨k.cur.trans h.cur,k.vs.trans h.vs,k.vc.trans h.vc,k.kit.trans h.kit,k.moves.trans h.moves,k.now.trans h.now,k.thread.trans h.thread,k.calls.trans h.calls,k.seats.trans h.seats⟩
theorem ZB (m:Mch)(i:Nat)(u:Int):Same m (m.load i u):=⟨rfl,rfl,rfl,rfl,rfl,rfl,rfl,rfl,rfl⟩
theorem ZS (m:Mch)(i:Nat)(u z:Int):Same m (m.store i u z):=⟨rfl,rfl,rfl,rfl,rfl,rfl,rfl,rfl,rfl⟩
theorem Z7 (m:Mch)(i:Nat)(u o z:Int):Same m (m.swap i u o z):=⟨rfl,rfl,rfl,rfl,rfl,rfl,rfl,rfl,rfl⟩
theorem QO (m:Mch)(s f t:Int):Same m (m.shift s f t):=⟨rfl,rfl,rfl,rfl,rfl,rfl,rfl,rfl,rfl⟩
theorem same_push (a:Are)(m:Mch)(p:Psh):Same m (Za a m p).2.2.1:=by
 unfold Za
 split
 ·exact ZB ..
 ·split
  ·exact ZS ..
  ·simp only[]
   split
   ·exact(Z7 ..).trans (QO ..)
   ·exact Z7 ..
theorem same_give (a:Are)(m:Mch)(p:Psh):Same m (Zs a m p).2.2.1:=by
 unfold Zs
 split
 ·exact .refl m
 ·exact QO ..
theorem same_flush (a:Are)(m:Mch)(p:Psh):Same m (ZM a m p).2.2.1:=by
 unfold ZM
 split
 ·exact same_push ..
 ·simp only[]
  split<;>exact same_push ..
theorem ZN (a:Are)(m:Mch)(t:Tak):Same m (Zg a m t).2.2.1:=by
 unfold Zg
 simp only[]
 split
 ·exact .refl m
 ·exact QO ..
theorem same_take (a:Are)(m:Mch)(t:Tak):Same m (Zj a m t).2.2.1:=by
 unfold Zj
 split
 ·exact ZB ..
 ·split
  ·exact ZB ..
  ·simp only[]
   split
   ·exact(Z7 ..).trans (QO ..)
   ·exact Z7 ..
theorem same_free (th:Int):∀(l:List Int) (g:Option Psh) (a:Are) (m:Mch),Same m (ZK th l g a m).2.2.2.2
 | [],g,a,m=>.refl m
 | s::r,g,a,m=>by
  unfold ZK
  split
  ·exact(same_give ..).trans (same_free th r _ _ _)
  ·exact same_give ..
theorem same_scan (h:Haz)(a:Are)(m:Mch)(s:Scn):Same m (Zt h a m s).2.2.2.1:=by
 unfold Zt
 split
 ·simp only[Ji]
  split<;>exact ZB ..
 ·split
  ·simp only[QK]
   split<;>exact Z7 ..
  ·split
   ·simp only[Ja];exact ZS ..
   ·split
    ·simp only[QW]
     split
     ·exact ZB ..
     ·exact(ZB m _ _).trans (same_free ..)
    ·split
     ·simp only[QL]
      split
      ·exact(same_push ..).trans (same_free ..)
      ·exact same_push ..
     ·exact .refl m
theorem same_retire (h:Haz)(a:Are)(m:Mch)(r:Ret):Same m (Zv h a m r).2.2.2.1:=by
 unfold Zv
 simp only[]
 split<;>exact QO ..
variable {i t:Nat}{c:Cll}{s:Sea}{m m' m'':Mch}
theorem Same.curIn (k:Same m m')(h:ZG m i t c s):ZG m' i t c s:=⟨k.cur▸h.cur,k.calls▸h.call,k.seats▸h.seat⟩
theorem Same.frame (k:Same m m')(h:ZG m i t c s):Qp i t c s m m' :=
 ⟨k.cur,k.vs,k.vc,k.kit,k.moves,k.now,k.thread,⟨c.point,by rw[k.calls];exact(List.set_getElem?_self' h.call).symm⟩,⟨s.kind,s.value,by rw[k.seats];exact(List.set_getElem?_self' h.seat).symm⟩⟩
theorem frame_answer (h:ZG m i t c s)(k v:Int):Qp i t c s m (m.answer t s k v):=
 ⟨rfl,rfl,rfl,rfl,rfl,rfl,rfl,⟨c.point,(List.set_getElem?_self' h.call).symm⟩,⟨k,v,rfl⟩⟩
theorem frame_point (h:ZG m i t c s)(z:Int):Qp i t c s m (m.point i c z):=
 ⟨rfl,rfl,rfl,rfl,rfl,rfl,rfl,⟨z,rfl⟩,⟨s.kind,s.value,(List.set_getElem?_self' h.seat).symm⟩⟩
theorem frame_both (z k v:Int):Qp i t c s m ((m.point i c z).answer t s k v):=
 ⟨rfl,rfl,rfl,rfl,rfl,rfl,rfl,⟨z,rfl⟩,⟨k,v,rfl⟩⟩
theorem Same.then (k:Same m m')(f:Qp i t c s m' m''):Qp i t c s m m'':=by
 obtain⟨z,hz⟩:=f.calls
 obtain⟨x,y,hxy⟩:=f.seats
 exact⟨f.cur.trans k.cur,f.vs.trans k.vs,f.vc.trans k.vc,f.kit.trans k.kit,f.moves.trans k.moves,f.now.trans k.now,f.thread.trans k.thread,⟨z,by rw[hz,k.calls]⟩,⟨x,y,by rw[hxy,k.seats]⟩⟩
theorem Qp.same (f:Qp i t c s m m')(k:Same m' m''):Qp i t c s m m'':=by
 obtain⟨z,hz⟩:=f.calls
 obtain⟨x,y,hxy⟩:=f.seats
 exact⟨k.cur.trans f.cur,k.vs.trans f.vs,k.vc.trans f.vc,k.kit.trans f.kit,k.moves.trans f.moves,k.now.trans f.now,k.thread.trans f.thread,⟨z,by rw[k.calls,hz]⟩,⟨x,y,by rw[k.seats,hxy]⟩⟩
theorem frame_reg (h:Haz)(r:Reg)(hc:ZG m i t c s):Qp i t c s m (Qg h m t s r).2.2.1:=by
 have hn:∀ {m'} (k:Same m m'),Qp i t c s m (Qv h m' t s r).2.2.1:=fun {m'} k=>by
  unfold Qv
  split
  ·exact k.frame hc
  ·exact k.then (frame_answer (k.curIn hc) _ _)
 unfold Qg
 simp only[]
 split
 ·split
  ·exact hn (ZB ..)
  ·exact(ZB ..).frame hc
 ·split
  ·exact(Z7 m _ _ _ _).then (frame_answer ((Z7 m _ _ _ _).curIn hc) _ _)
  ·exact hn (Z7 ..)
theorem frame_saw (r:Rdg)(u:Int)(hc:ZG m i t c s):Qp i t c s m (Qq m i t c s r u).2.1:=by
 unfold Qq
 split
 ·exact frame_both ..
 ·exact(Same.refl m).frame hc
theorem frame_read (h:Haz)(r:Rdg)(hc:ZG m i t c s):Qp i t c s m (Qo h m i t c s r).2.1:=by
 unfold Qo
 simp only[]
 split
 ·exact(ZB m _ _).then (frame_saw _ _ ((ZB m _ _).curIn hc))
 ·split
  ·exact(ZS ..).frame hc
  ·split
   ·split
    ·exact(ZB ..).frame hc
    ·exact(ZB m _ _).then (frame_saw _ _ ((ZB m _ _).curIn hc))
   ·exact(ZB m _ _).then (frame_both ..)
theorem frame_unr (h:Haz)(a:Are)(u:Unr)(hc:ZG m i t c s):Qp i t c s m (Zy h a m u).2.2.2.1:=by
 unfold Zy
 simp only[]
 split
 ·split
  ·exact(ZS ..).frame hc
  ·split<;>exact(ZS ..).frame hc
 ·split
  ·split
   ·exact(Same.refl m).frame hc
   ·split<;>exact(same_scan ..).frame hc
  ·split
   ·split
    ·exact(Same.refl m).frame hc
    ·exact(same_flush ..).frame hc
   ·exact(ZS ..).frame hc
theorem frame_took (p:Pst)(k:Tak)(hc:ZG m i t c s):Qp i t c s m (ZJ m i t c s p k).2.1:=by
 unfold ZJ
 split
 ·exact frame_both ..
 ·exact(Same.refl m).frame hc
theorem frame_postReady (a:Are)(p:Pst)(hc:ZG m i t c s):Qp i t c s m (ZQ a m i t c s p).2.2.1:=by
 unfold ZQ
 simp only[]
 split
 ·exact(ZN a m _).then (frame_took _ _ ((ZN a m _).curIn hc))
 ·exact(ZN ..).frame hc
theorem frame_done (h:Haz)(a:Are)(p:Pst)(z:Int):Qp i t c s m (Jc h a m i t c s p z).2.2.2.1:=by
 unfold Jc
 simp only[]
 split
 ·exact(frame_both ..).same (QO ..)
 ·exact((frame_both ..).same (QO ..)).same ((QO ..).trans (same_retire ..))
theorem frame_post (h:Haz)(a:Are)(p:Pst)(hc:ZG m i t c s):Qp i t c s m (Z0 h a m i t c s p).2.2.2.1:=by
 unfold Z0
 split
 ·exact(Same.refl m).frame hc
 ·simp only[]
  split
  ·split
   ·exact(same_take a m _).then (frame_took _ _ ((same_take a m _).curIn hc))
   ·exact(same_take ..).frame hc
  ·split
   ·exact(ZS ..).frame hc
   ·split
    ·exact(ZB ..).frame hc
    ·split
     ·split
      ·exact(Z7 m _ _ _ _).then (frame_done ..)
      ·exact(Z7 ..).frame hc
     ·split
      ·exact(Same.refl m).frame hc
      ·split
       ·exact(Same.refl m).frame hc
       ·exact(same_scan ..).frame hc
end
section
set_option maxRecDepth 100000
set_option maxHeartbeats 1000000
attribute [local irreducible] Go.Calls
inductive Qd where
 | reg (r:Reg)
 | unr (u:Unr)
 | pst (p:Pst)
 | rdg (r:Rdg)
 | clr (ad:Nat)
 | scn (s:Scn)
def ifR (ty:TypeId)(G:Nat→Zc)(v:Value):Zc:=ex fun g=>pu (v=.iface ty (.pointer (some ⟨g,0,none⟩)))*G g
theorem ifR_iff {ty:TypeId}{G:Nat→Zc}{v:Value}{O w:World}{F:Zc}:Sat O w (ifR ty G v*F)↔∃g,v=.iface ty (.pointer (some ⟨g,0,none⟩))∧Sat O w (G g*F):=by
 unfold ifR
 simp only[ZI,Ma,Zx]
def htR (bh ba:Nat):Qd→Value→Zc
 | .reg r=>ifR 117 fun g=>RegR g bh r
 | .unr u=>ifR 120 fun g=>UnrR g bh ba u
 | .pst p=>ifR 125 fun g=>PstR g bh ba p
 | .rdg r=>ifR 131 fun g=>RdgR g bh r
 | .clr ad=>ifR 134 fun g=>ClrR g ad
 | .scn s=>ifR 121 fun g=>ScnR g bh ba s
def Qw (s:Haz×Are)(m:Mch)(i t:Nat)(c:Cll)(se:Sea):Qd→Bool×(Haz×Are)×Mch×Qd
 | .pst p=>((ZQ s.2 m i t c se p).1,(s.1,(ZQ s.2 m i t c se p).2.1),(ZQ s.2 m i t c se p).2.2.1,.pst (ZQ s.2 m i t c se p).2.2.2)
 | .scn x=>((ZL s.1 x).1,s,m,.scn (ZL s.1 x).2)
 | k=>(false,s,m,k)
def Z8 (s:Haz×Are)(m:Mch)(i t:Nat)(c:Cll)(se:Sea):Qd→Bool×(Haz×Are)×Mch×Qd
 | .reg r=>((Qg s.1 m t se r).1,((Qg s.1 m t se r).2.1,s.2),(Qg s.1 m t se r).2.2.1,.reg (Qg s.1 m t se r).2.2.2)
 | .unr u=>((Zy s.1 s.2 m u).1,((Zy s.1 s.2 m u).2.1,(Zy s.1 s.2 m u).2.2.1),(Zy s.1 s.2 m u).2.2.2.1,.unr (Zy s.1 s.2 m u).2.2.2.2)
 | .pst p=>((Z0 s.1 s.2 m i t c se p).1,((Z0 s.1 s.2 m i t c se p).2.1,(Z0 s.1 s.2 m i t c se p).2.2.1),(Z0 s.1 s.2 m i t c se p).2.2.2.1,.pst (Z0 s.1 s.2 m i t c se p).2.2.2.2)
 | .rdg r=>((Qo s.1 m i t c se r).1,s,(Qo s.1 m i t c se r).2.1,.rdg (Qo s.1 m i t c se r).2.2)
 | .clr ad=>(true,s,m.store ad (m.word ad) 0,.clr ad)
 | .scn x=>((Zt s.1 s.2 m x).1,((Zt s.1 s.2 m x).2.1,(Zt s.1 s.2 m x).2.2.1),(Zt s.1 s.2 m x).2.2.2.1,.scn (Zt s.1 s.2 m x).2.2.2.2)
def htOkr (s:Haz×Are)(m:Mch)(_t:Nat):Qd→Prop
 | .pst p=>HazOk s.1 s.2 m∧0≤p.thread∧p.thread<s.1.c.T
 | .scn x=>HazOk s.1 s.2 m∧0≤x.record∧x.record<s.1.c.R
 | _=>True
def htOks (s:Haz×Are)(m:Mch)(_t:Nat):Qd→Prop
 | .reg r=>HazOk s.1 s.2 m∧0≤r.thread∧r.thread<s.1.c.T∧0≤r.i∧r.i<s.1.c.R
 | .unr u=>UnrOk s.1 s.2 m u
 | .pst p=>∃k,PstOk s.1 s.2 m p k
 | .rdg r=>ReadOk s.1 s.2 m r
 | .clr ad=>m.May ad
 | .scn x=>ScanOk s.1 s.2 m x
def hzT (bh ba:Nat)(CX:Zc):Tasks (Haz×Are) Qd where
 X s:=HazR bh ba s.1*(AreR ba s.2*CX)
 R:=htR bh ba
 rdy:=Qw
 stp:=Z8
 okr:=htOkr
 oks:=htOks
theorem dyn_if {f:FuncId}{ty:TypeId}{name:String}{d:Value}{G G':Nat→Zc}{Y Y' Z XD XD':Zc}{b:Bool}{v:Value}
  (h:∀g,Zk Tryz.prog f #[.pointer (some ⟨g,0,none⟩),d] (G g*Y) (.bool b) (G' g*Y'))
  (hr:∀g w,(callMethod (.iface ty (.pointer (some ⟨g,0,none⟩))) name #[d]).run Tryz.prog w=.ok (.enter f #[.pointer (some ⟨g,0,none⟩),d]) w)
  (hA:XD=Y*Z) (hB:XD'=Y'*Z) :
  Dyn Tryz.prog (callMethod v name #[d]) (ifR ty G v*XD) (fun u=>pu (u=.bool b)*(ifR ty G' v*XD')):=by
 intro O w F hs
 subst hA hB
 rw[Ma]at hs
 obtain⟨g,rfl,hs1⟩:=ifR_iff.1 hs
 refine⟨f,_,hr g w,((h g) O w (Z*F) (hs1.cast (by ac_rfl))).mono ?_⟩
 rintro e w' ⟨rfl,hs'⟩
 refine⟨_,rfl,?_⟩
 simp only[Ma,Zx]
 exact⟨trivial,ifR_iff.2 ⟨g,rfl,hs'.cast (by ac_rfl)⟩⟩
theorem reg_ready (g d:Nat):Zk Tryz.prog 83 #[.pointer (some ⟨g,0,none⟩),.pointer (some ⟨d,0,none⟩)] emp (.bool false) emp:=by
 intro O w F hs
 go_enter Tryz.func83,Tryz.ntmps83
 go_wp2_with (fail)
 (go_ret)
 exact⟨rfl,hs⟩
theorem unr_ready (g d:Nat):Zk Tryz.prog 94 #[.pointer (some ⟨g,0,none⟩),.pointer (some ⟨d,0,none⟩)] emp (.bool false) emp:=by
 intro O w F hs
 go_enter Tryz.func94,Tryz.ntmps94
 go_wp2_with (fail)
 (go_ret)
 exact⟨rfl,hs⟩
theorem rdg_ready (g d:Nat):Zk Tryz.prog 135 #[.pointer (some ⟨g,0,none⟩),.pointer (some ⟨d,0,none⟩)] emp (.bool false) emp:=by
 intro O w F hs
 go_enter Tryz.func135,Tryz.ntmps135
 go_wp2_with (fail)
 (go_ret)
 exact⟨rfl,hs⟩
theorem clr_ready (g d:Nat):Zk Tryz.prog 139 #[.pointer (some ⟨g,0,none⟩),.pointer (some ⟨d,0,none⟩)] emp (.bool false) emp:=by
 intro O w F hs
 go_enter Tryz.func139,Tryz.ntmps139
 go_wp2_with (fail)
 (go_ret)
 exact⟨rfl,hs⟩
theorem gives_emp {f:FuncId}{args:Array Value}{v:Value}(h:Zk Tryz.prog f args emp v emp)(R:Zc):Zk Tryz.prog f args R v R:=by
 have:=h.frame R
 rwa [Em]at this
theorem pst_ready_ok {s:Haz×Are}{m:Mch}{p:Pst}(h:HazOk s.1 s.2 m∧0≤p.thread∧p.thread<s.1.c.T)(g bh ba d bx bm:Nat){i t:Nat}{c:Cll}{se:Sea}(hc:ZG m i t c se) :
  Zk Tryz.prog 121 #[.pointer (some ⟨g,0,none⟩),.pointer (some ⟨d,0,none⟩)] (PstR g bh ba p*(HazR bh ba s.1*(AreR ba s.2*DkR d bx bm m))) (.bool (ZQ s.2 m i t c se p).1)
   (PstR g bh ba (ZQ s.2 m i t c se p).2.2.2*(HazR bh ba s.1*(AreR ba (ZQ s.2 m i t c se p).2.1*DkR d bx bm (ZQ s.2 m i t c se p).2.2.1))):=by
 obtain⟨hz,h0,h1⟩:=h
 obtain⟨x,hx,hxl,hin⟩:=hz.cache h0 h1
 have hok:=hz.ok
 have hS:=hz.sh
 have hsl:s.2.slots.length=s.2.c.Sl.toNat:=by have:=hok.slots;omega
 have hS1:=hok.c.S1
 have hS2:=hok.c.S2
 have hk : -1≤Ze (Zg s.2 m ⟨p.thread,1,0,0,0,false⟩).2.2.2∧Ze (Zg s.2 m ⟨p.thread,1,0,0,0,false⟩).2.2.2≤2147483646:=by
  unfold Zg
  have hd:s.2.caches.getD p.thread.toNat []=x:=by rw[Yb,hx];rfl
  simp only[hd]
  split
  ·simp[Ze]
  ·rename_i hne
   simp only[Jd,Ze,if_true]
   have hlt:x.length-1<x.length:=by omega
   have hm:x.getD (x.length-1) 0∈x:=by
    rw[Yb,Yd hlt];simp
   have:=hin _ hm
   omega
 exact post_ready g bh ba d bx bm s.1 s.2 m i t c se p p.thread.toNat x (by omega) hx hin (by omega) (by omega) (by omega) ((ZN ..).curIn hc) hk.2 hk.1
theorem hzT_good (bh ba:Nat)(CX:Zc):(hzT bh ba CX).Good where
 iface:=by
  intro O w k v F hs
  cases k<;>(obtain⟨g,rfl,_⟩:=ifR_iff.1 hs;exact⟨_,_,rfl⟩)
 cr:=by
  intro d bx bm s m i t c se k v hok hc
  cases k with
  | reg r=>exact dyn_if (fun g=>gives_emp (reg_ready g d) _) (fun g w=>by kernel_rfl) (Y:=emp) (Y':=emp) (Em _).symm (Em _).symm
  | unr u=>exact dyn_if (fun g=>gives_emp (unr_ready g d) _) (fun g w=>by kernel_rfl) (Y:=emp) (Y':=emp) (Em _).symm (Em _).symm
  | rdg r=>exact dyn_if (fun g=>gives_emp (rdg_ready g d) _) (fun g w=>by kernel_rfl) (Y:=emp) (Y':=emp) (Em _).symm (Em _).symm
  | clr ad=>exact dyn_if (fun g=>gives_emp (clr_ready g d) _) (fun g w=>by kernel_rfl) (Y:=emp) (Y':=emp) (Em _).symm (Em _).symm
  | pst p=>exact dyn_if (Z:=CX) (fun g=>pst_ready_ok hok g bh ba d bx bm hc) (fun g w=>by kernel_rfl) (by simp only[hzT];ac_rfl) (by simp only[hzT,Qw];ac_rfl)
  | scn x=>
   obtain⟨hz,h0,h1⟩:=hok
   obtain⟨y,hy,_⟩:=hz.list h0 h1
   exact dyn_if (Z:=AreR ba s.2*(CX*DkR d bx bm m)) (fun g=>scan_ready g bh ba (.pointer (some ⟨d,0,none⟩)) s.1 x x.record.toNat y (by omega) hy (by have:=hz.ok.c.R2;rw[hz.c];omega)) (fun g w=>by kernel_rfl) (by simp only[hzT];ac_rfl) (by simp only[hzT,Qw];ac_rfl)
 cs:=by
  intro d bx bm s m i t c se k v hok hc
  cases k with
  | reg r=>exact dyn_if (Z:=AreR ba s.2*CX) (fun g=>reg_step g bh ba d bx bm s.1 s.2 m r i t c se hok.1 hc hok.2.1 hok.2.2.1 hok.2.2.2.1 hok.2.2.2.2) (fun g w=>by kernel_rfl) (by simp only[hzT];ac_rfl) (by simp only[hzT,Z8];ac_rfl)
  | unr u=>exact dyn_if (Z:=CX) (fun g=>unreg_step g bh ba d bx bm s.1 s.2 m u hok) (fun g w=>by kernel_rfl) (by simp only[hzT];ac_rfl) (by simp only[hzT,Z8];ac_rfl)
  | rdg r=>exact dyn_if (Z:=AreR ba s.2*CX) (fun g=>read_step g bh ba d bx bm s.1 s.2 m i t c se r hok hc) (fun g w=>by kernel_rfl) (by simp only[hzT];ac_rfl) (by simp only[hzT,Z8];ac_rfl)
  | clr ad=>exact dyn_if (Z:=HazR bh ba s.1*(AreR ba s.2*CX)) (fun g=>clr_step g d bx bm m ad hok) (fun g w=>by kernel_rfl) (by simp only[hzT];ac_rfl) (by simp only[hzT,Z8];ac_rfl)
  | pst p=>
   obtain⟨k,hok⟩:=hok
   exact dyn_if (Z:=CX) (fun g=>post_step g bh ba d bx bm s.1 s.2 m i t c se p k hok hc) (fun g w=>by kernel_rfl) (by simp only[hzT];ac_rfl) (by simp only[hzT,Z8];ac_rfl)
  | scn x=>exact dyn_if (Z:=CX) (fun g=>scan_step g bh ba d bx bm s.1 s.2 m x hok) (fun g w=>by kernel_rfl) (by simp only[hzT];ac_rfl) (by simp only[hzT,Z8];ac_rfl)
 fr:=by
  intro s m i t c se k hc
  cases k with
  | pst p=>exact frame_postReady _ _ hc
  | scn x=>exact(Same.refl m).frame hc
  | _=>exact(Same.refl m).frame hc
 fs:=by
  intro s m i t c se k hc
  cases k with
  | reg r=>exact frame_reg _ _ hc
  | unr u=>exact frame_unr _ _ _ hc
  | pst p=>exact frame_post _ _ _ hc
  | rdg r=>exact frame_read _ _ hc
  | clr ad=>exact(ZS ..).frame hc
  | scn x=>exact(same_scan ..).frame hc
end
section
structure Pu where
 thread:Int
 value:Int
 take:Tak
 slot:Int
 top:Int
 stage:Int
structure Po where
 thread:Int
 top:Int
 behind:Int
 value:Int
 named:Bool
 retire:Option Ret
 stage:Int
def ZZ (m:Mch)(i t:Nat)(c:Cll)(s:Sea)(p:Pu):Bool×Mch×Pu:=
 if Ze p.take<0 then (true,(m.point i c m.now).answer t s 4 0,{ p with slot:=Ze p.take })
 else (false,m,{ p with slot:=Ze p.take,stage:=2 })
def QF (a:Are)(m:Mch)(i t:Nat)(c:Cll)(s:Sea)(p:Pu):Bool×Are×Mch×Pu:=
 let r:=Zg a m p.take
 let p1:={ p with take:=r.2.2.2,stage:=1 }
 if r.1=true then
  let q:=ZZ r.2.2.1 i t c s p1
  (q.1,r.2.1,q.2.1,q.2.2)
 else (false,r.2.1,r.2.2.1,p1)
def puTake (a:Are)(m:Mch)(i t:Nat)(c:Cll)(s:Sea)(p:Pu):Bool×Are×Mch×Pu:=
 let r:=Zj a m p.take
 let p1:={ p with take:=r.2.2.2 }
 if r.1=true then
  let q:=ZZ r.2.2.1 i t c s p1
  (q.1,r.2.1,q.2.1,q.2.2)
 else (false,r.2.1,r.2.2.1,p1)
def puDone (a:Are)(m:Mch)(i t:Nat)(c:Cll)(s:Sea)(p:Pu):Are×Mch:=
 (a.shift p.slot.toNat m.thread 3,((m.point i c m.now).shift p.slot (a.slots.getD p.slot.toNat ⟨0,0⟩).state 3).answer t s 1 0)
def Jf (h:Haz)(a:Are)(m:Mch)(i t:Nat)(c:Cll)(s:Sea)(p:Pu):Bool×Are×Mch×Pu:=
 let T:=adr h.c 3 0
 if p.stage=1 then puTake a m i t c s p
 else if p.stage=2 then
  let A:=adr h.c 11 p.slot
  (false,a,m.store A (m.word A) (p.value%18446744073709551616),{ p with stage:=3 })
 else if p.stage=3 then (false,a,m.load T (m.word T),{ p with top:=m.word T,stage:=4 })
 else if p.stage=4 then
  let A:=adr h.c 13 p.slot
  (false,a,m.store A (m.word A) p.top,{ p with stage:=5 })
 else if m.word T=p.top then
  let q:=puDone a (m.swap T (m.word T) p.top (p.slot+1)) i t c s p
  (true,q.1,q.2,p)
 else (false,a,m.swap T (m.word T) p.top (p.slot+1),{ p with stage:=3 })
def Z4 (m:Mch)(i t:Nat)(c:Cll)(s:Sea)(p:Po):Bool×Mch×Po:=
 if 0≤p.top-1 then (false,m,{ p with stage:=2 })
 else (!p.named,(m.point i c m.now).answer t s 3 0,{ p with stage:=8 })
def poHz (h:Haz)(p:Po):Nat:=(base h.c 9+h.held.getD p.thread.toNat 0*h.c.Hz+0).toNat
def QX (h:Haz)(a:Are)(m:Mch)(i t:Nat)(c:Cll)(s:Sea)(p:Po):Bool×Haz×Are×Mch×Po:=
 let T:=adr h.c 3 0
 if p.stage=1 then
  let q:=Z4 (m.load T (m.word T)) i t c s { p with top:=m.word T }
  (q.1,h,a,q.2.1,q.2.2)
 else if p.stage=2 then (false,h,a,m.store (poHz h p) (m.word (poHz h p)) p.top,{ p with named:=true,stage:=3 })
 else if p.stage=3 then
  if m.word T=p.top then (false,h,a,m.load T (m.word T),{ p with stage:=4 })
  else
   let q:=Z4 (m.load T (m.word T)) i t c s { p with top:=m.word T }
   (q.1,h,a,q.2.1,q.2.2)
 else if p.stage=4 then
  let A:=adr h.c 13 (p.top-1)
  (false,h,a,m.load A (m.word A),{ p with behind:=m.word A,stage:=5 })
 else if p.stage=5 then
  if m.word T=p.top then
   (false,h,a.shift (p.top-1).toNat m.thread 4,((m.swap T (m.word T) p.top p.behind).point i c m.now).shift (p.top-1) (a.slots.getD (p.top-1).toNat ⟨0,0⟩).state 4,{ p with stage:=6 })
  else (false,h,a,m.swap T (m.word T) p.top p.behind,{ p with stage:=1 })
 else if p.stage=6 then
  let A:=adr h.c 11 (p.top-1)
  (false,h,a,m.load A (m.word A),{ p with value:=wrap64 (m.word A),stage:=7 })
 else if p.stage=7 then
  let q:=Zv h a ((m.store (poHz h p) (m.word (poHz h p)) 0).answer t s 2 p.value) ⟨p.thread,p.top-1,none⟩
  (q.1,q.2.1,q.2.2.1,q.2.2.2.1,{ p with retire:=some q.2.2.2.2,stage:=9 })
 else if p.stage=8 then (true,h,a,m.store (poHz h p) (m.word (poHz h p)) 0,p)
 else match p.retire with
  | none=>(true,h,a,m,p)
  | some r=>match r.scan with
   | none=>(true,h,a,m,p)
   | some sc=>
    let q:=Zt h a m sc
    (q.1,q.2.1,q.2.2.1,q.2.2.2.1,{ p with retire:=some { r with scan:=some q.2.2.2.2 } })
structure PuOk (h:Haz)(a:Are)(m:Mch)(p:Pu):Prop where
 hz:HazOk h a m
 t0:0≤p.thread
 t1:p.thread<h.c.T
 stage:p.stage=1∨p.stage=2∨p.stage=3∨p.stage=4∨p.stage=5
 tk:p.stage=1→TakeOk a m p.take∧Ze (Zj a m p.take).2.2.2≤2147483646 ∧ -1≤Ze (Zj a m p.take).2.2.2
 slot:p.stage≠1→0≤p.slot∧p.slot<h.c.Sl
structure PoOk (h:Haz)(a:Are)(m:Mch)(p:Po):Prop where
 hz:HazOk h a m
 t0:0≤p.thread
 t1:p.thread<h.c.T
 held:0≤h.held.getD p.thread.toNat 0
 stage:p.stage=1∨p.stage=2∨p.stage=3∨p.stage=4∨p.stage=5∨p.stage=6∨p.stage=7∨p.stage=8∨p.stage=9
 wtop:0≤m.word (adr h.c 3 0)∧m.word (adr h.c 3 0)≤h.c.Sl
 top:2≤p.stage→p.stage≤7→1≤p.top∧p.top≤h.c.Sl
 ret:p.stage=9→∃r sc,p.retire=some r∧r.scan=some sc∧ScanOk h a m sc
inductive Zm where
 | hz (k:Qd)
 | psh (p:Pu)
 | pop (p:Po)
def QV (s:Haz×Are)(m:Mch)(i t:Nat)(c:Cll)(se:Sea):Zm→Bool×(Haz×Are)×Mch×Zm
 | .hz k=>((Qw s m i t c se k).1,(Qw s m i t c se k).2.1,(Qw s m i t c se k).2.2.1,.hz (Qw s m i t c se k).2.2.2)
 | .psh p=>((QF s.2 m i t c se p).1,(s.1,(QF s.2 m i t c se p).2.1),(QF s.2 m i t c se p).2.2.1,.psh (QF s.2 m i t c se p).2.2.2)
 | .pop p=>(false,s,m,.pop { p with stage:=1 })
def Qm (s:Haz×Are)(m:Mch)(i t:Nat)(c:Cll)(se:Sea):Zm→Bool×(Haz×Are)×Mch×Zm
 | .hz k=>((Z8 s m i t c se k).1,(Z8 s m i t c se k).2.1,(Z8 s m i t c se k).2.2.1,.hz (Z8 s m i t c se k).2.2.2)
 | .psh p=>((Jf s.1 s.2 m i t c se p).1,(s.1,(Jf s.1 s.2 m i t c se p).2.1),(Jf s.1 s.2 m i t c se p).2.2.1,.psh (Jf s.1 s.2 m i t c se p).2.2.2)
 | .pop p=>((QX s.1 s.2 m i t c se p).1,((QX s.1 s.2 m i t c se p).2.1,(QX s.1 s.2 m i t c se p).2.2.1),(QX s.1 s.2 m i t c se p).2.2.2.1,.pop (QX s.1 s.2 m i t c se p).2.2.2.2)
def skOkr (s:Haz×Are)(m:Mch)(t:Nat):Zm→Prop
 | .hz k=>htOkr s m t k
 | .psh p=>(HazOk s.1 s.2 m∧0≤p.thread∧p.thread<s.1.c.T)∧p.take=⟨p.thread,1,0,0,0,false⟩
 | .pop _=>True
def skOks (s:Haz×Are)(m:Mch)(t:Nat):Zm→Prop
 | .hz k=>htOks s m t k
 | .psh p=>PuOk s.1 s.2 m p
 | .pop p=>PoOk s.1 s.2 m p
end
section
set_option maxRecDepth 100000
set_option maxHeartbeats 1000000
attribute [local irreducible] Go.Calls
structure Mv where
 thread:Int
 op:Int
 arg:Int
 data:Int
abbrev Mv.v (m:Mv):Value:=.agg #[.int .i64 m.thread,.int .i64 m.op,.int .i64 m.arg,.int .i64 m.data]
abbrev Mv.e (m:Mv):List Value:=[.int .i64 m.thread,.int .i64 m.op,.int .i64 m.arg,.int .i64 m.data]
def madeR {σ τ:Type}(T:Tasks σ τ)(s:σ)(o:Option τ)(v:Value):Zc:=match o with
 | none=>pu (v=.nilIface)*T.X s
 | some k=>T.R k v*T.X s
theorem made_none {σ τ:Type}{T:Tasks σ τ}{s:σ}{v:Value}{O w:World}{F:Zc}:Sat O w (madeR T s none v*F)↔v=.nilIface∧Sat O w (T.X s*F):=by
 unfold madeR;simp only[Ma,Zx]
theorem made_some {σ τ:Type}{T:Tasks σ τ}{s:σ}{v:Value}{k:τ}{O w:World}{F:Zc}:Sat O w (madeR T s (some k) v*F)↔Sat O w (T.R k v*(T.X s*F)):=by
 unfold madeR;simp only[Ma]
structure KitOk {σ τ:Type}(T:Tasks σ τ)(K:Int→Option Value)(mkr:σ→Nat→Mv→Option τ)(ok:σ→Prop)(n:Nat):Prop where
 func:∀op u,K op=some u→∃f a b,u=.func f a b
 make:∀op u s t mv,K op=some u→mv.op=op→t<n→mv.thread=(t:Int)→ok s→Dyn Tryz.prog (Qj u #[.int .i64 (t:Int),mv.v]) (T.X s) (fun v=>madeR T s (mkr s t mv) v)
def ZC (m:Mch)(t:Nat)(mv:Mv)(v vc':Value):Mch:=
 { m with moves:=m.moves+1,vc:=vc',seats:=m.seats.set t ⟨v,false,(m.calls.length:Int),1,0⟩,calls:=m.calls++[⟨mv.thread,mv.op,mv.arg,mv.data,m.moves,-1,-1,0,0⟩] }
section
variable {σ τ:Type}(T:Tasks σ τ)(bx bm:Nat)
variable (m:Mch)(mv:Mv)
theorem move_thread (hl:m.moves<65536)(hm0:0≤m.moves)(h0:0<m.seats.length)(ht:mv.thread<0∨(m.seats.length:Int)≤mv.thread) :
  Zk Tryz.prog 31 #[.pointer (some ⟨bx,0,none⟩),mv.v] (MchR bx bm m) (.bool false) (MchR bx bm { m with moves:=m.moves+1 }):=by
 obtain⟨v1,v2,v3,v4⟩:=mv
 intro O w F hs
 (obtain⟨vh,call,told,hcur,hs⟩:=mchR.1 hs)
 have h0':((m.seats.length:Int)==0)=false:=by simp;intro e;simp[e]at h0
 have h1:decide (m.moves≥65536)=false:=by simpa using hl
 simp only[]at ht
 by_cases hn:v1<0
 ·have h2:decide (v1<0)=true:=by simpa using hn
  clear ht
  go_enter Tryz.func31,Tryz.ntmps31
  go_wp2_with (first|(first|(first|(with_reducible refine NQ.mk ?_)|((with_reducible apply Zh);rfl;rfl)|(with_reducible refine Zi ?_))|((with_reducible apply Zb hs);exact Ii;rfl;(with_reducible repeat first|exact Qh|apply Qk);rfl;rfl;(simp only[Uc,Uz]))|((with_reducible apply ZA hs);exact Ii;rfl;rfl;(with_reducible repeat first|exact Qh|apply Qk);(rfl);(exact Vb rfl);rfl;clear hs;intro w hs;simp only[Yg,Uc,Uz]at hs)|((with_reducible apply Zr hs);rfl;rfl;rfl;clear hs;intro w b hs;(simp only[Uc,Uz]))|((with_reducible apply Zw hs);exact Ii;rfl;(with_reducible repeat first|exact Qh|apply Qk);rfl;(simp only[Uc,Uz])))|((with_reducible refine Wp (id:=5) (Paz (Pbz [.neu 10,.neu 11,.neu 12])) hs rfl ?_ ?_);kernel_rfl;clear hs;intro w hs))
  (go_ret)
  refine⟨rfl,?_⟩
  apply Q5 (m:={ m with moves:=m.moves+1 }) hcur
  ((with_reducible apply Sat.fin hs);(with_reducible repeat first|exact Ql|exact Qh|apply Qb|apply Qk))
 ·have h2:decide (v1<0)=false:=by simpa using hn
  have h3:decide (v1≥(m.seats.length:Int))=true:=by simp;omega
  clear ht
  go_enter Tryz.func31,Tryz.ntmps31
  go_wp2_with (first|(first|(first|(with_reducible refine NQ.mk ?_)|((with_reducible apply Zh);rfl;rfl)|(with_reducible refine Zi ?_))|((with_reducible apply Zb hs);exact Ii;rfl;(with_reducible repeat first|exact Qh|apply Qk);rfl;rfl;(simp only[Uc,Uz]))|((with_reducible apply ZA hs);exact Ii;rfl;rfl;(with_reducible repeat first|exact Qh|apply Qk);(rfl);(exact Vb rfl);rfl;clear hs;intro w hs;simp only[Yg,Uc,Uz]at hs)|((with_reducible apply Zr hs);rfl;rfl;rfl;clear hs;intro w b hs;(simp only[Uc,Uz]))|((with_reducible apply Zw hs);exact Ii;rfl;(with_reducible repeat first|exact Qh|apply Qk);rfl;(simp only[Uc,Uz])))|((with_reducible refine Wp (id:=5) (Paz (Pbz [.neu 10,.neu 11,.neu 12])) hs rfl ?_ ?_);kernel_rfl;clear hs;intro w hs))
  (go_ret)
  refine⟨rfl,?_⟩
  apply Q5 (m:={ m with moves:=m.moves+1 }) hcur
  ((with_reducible apply Sat.fin hs);(with_reducible repeat first|exact Ql|exact Qh|apply Qb|apply Qk))
variable {m}{mv}
theorem move_no (hl:m.moves<65536)(hm0:0≤m.moves){t:Nat}{se:Sea}(ht:mv.thread=(t:Int))(hse:m.seats[t]? = some se)(h:(mv.op=0∧se.task=.nilIface)∨(mv.op≠0∧∃ty x,se.task=.iface ty x)) :
  Zk Tryz.prog 31 #[.pointer (some ⟨bx,0,none⟩),mv.v] (MchR bx bm m) (.bool false) (MchR bx bm { m with moves:=m.moves+1 }):=by
 obtain⟨v1,v2,v3,v4⟩:=mv
 obtain⟨s1,s2,s3,s4,s5⟩:=se
 simp only[]at ht h
 subst ht
 intro O w F hs
 (obtain⟨vh,call,told,hcur,hs⟩:=mchR.1 hs)
 have lt:=(List.getElem?_eq_some_iff.1 hse).1
 have h0':((m.seats.length:Int)==0)=false:=by simp;intro e;simp[e]at lt
 have h1:decide (m.moves≥65536)=false:=by simpa using hl
 have h2:decide ((t:Int)<0)=false:=by simp
 have h3:decide ((t:Int)≥(m.seats.length:Int))=false:=by simp;omega
 rcases h with⟨rfl,rfl⟩|⟨hne,ty,x,rfl⟩
 ·go_enter Tryz.func31,Tryz.ntmps31
  go_wp2_with (first|(first|(first|(with_reducible refine NQ.mk ?_)|((with_reducible apply Zh);rfl;rfl)|(with_reducible refine Zi ?_))|((with_reducible apply Zb hs);exact Ii;rfl;(with_reducible repeat first|exact Qh|apply Qk);rfl;rfl;(simp only[Uc,Uz]))|((with_reducible apply ZA hs);exact Ii;rfl;rfl;(with_reducible repeat first|exact Qh|apply Qk);(rfl);(exact Vb rfl);rfl;clear hs;intro w hs;simp only[Yg,Uc,Uz]at hs)|((with_reducible apply Zr hs);rfl;rfl;rfl;clear hs;intro w b hs;(simp only[Uc,Uz]))|((with_reducible apply Zu hs);exact Ii;rfl;assumption;(with_reducible repeat first|exact Qh|apply Qk);rfl;(exact Zd (by assumption));rfl;rfl;(simp only[Uc,Uz]))|((with_reducible apply ZP hs);exact Ii;exact Ii;rfl;rfl;(with_reducible repeat first|exact Qh|apply Qk);(rfl);(simp only[Wm,Ws,Wa,Wc,Wn,Wr]at *;omega);rfl;intro b off hat;(simp only[Uc,Uz]))|((with_reducible apply Zw hs);exact Ii;rfl;(with_reducible repeat first|exact Qh|apply Qk);rfl;(simp only[Uc,Uz])))|((with_reducible refine Wp (id:=5) (Paz (Pbz [.neu 10,.neu 11,.neu 12])) hs rfl ?_ ?_);kernel_rfl;clear hs;intro w hs)|((with_reducible refine Wp (id:=7) (Paz [.neu 5,.neu 6,.neu 7]) hs rfl ?_ ?_);kernel_rfl;clear hs;intro w hs))
  (go_ret)
  refine⟨rfl,?_⟩
  apply Q5 (m:={ m with moves:=m.moves+1 }) hcur
  ((with_reducible apply Sat.fin hs);(with_reducible repeat first|exact Ql|exact Qh|apply Qb|apply Qk))
 ·have h4:(v2==0)=false:=by simpa using hne
  have HN:=Lh hne;clear hne
  go_enter Tryz.func31,Tryz.ntmps31
  go_wp2_with (first|(first|(first|(with_reducible refine NQ.mk ?_)|((with_reducible apply Zh);rfl;rfl)|(with_reducible refine Zi ?_))|((with_reducible apply Zb hs);exact Ii;rfl;(with_reducible repeat first|exact Qh|apply Qk);rfl;rfl;(simp only[Uc,Uz]))|((with_reducible apply ZA hs);exact Ii;rfl;rfl;(with_reducible repeat first|exact Qh|apply Qk);(rfl);(exact Vb rfl);rfl;clear hs;intro w hs;simp only[Yg,Uc,Uz]at hs)|((with_reducible apply Zr hs);rfl;rfl;rfl;clear hs;intro w b hs;(simp only[Uc,Uz]))|((with_reducible apply Zu hs);exact Ii;rfl;assumption;(with_reducible repeat first|exact Qh|apply Qk);rfl;(exact Zd (by assumption));rfl;rfl;(simp only[Uc,Uz]))|((with_reducible apply ZP hs);exact Ii;exact Ii;rfl;rfl;(with_reducible repeat first|exact Qh|apply Qk);(rfl);(simp only[Wm,Ws,Wa,Wc,Wn,Wr]at *;omega);rfl;intro b off hat;(simp only[Uc,Uz]))|((with_reducible apply Zw hs);exact Ii;rfl;(with_reducible repeat first|exact Qh|apply Qk);rfl;(simp only[Uc,Uz])))|((with_reducible refine Wp (id:=5) (Paz (Pbz [.neu 10,.neu 11,.neu 12])) hs rfl ?_ ?_);kernel_rfl;clear hs;intro w hs)|((with_reducible refine Wp (id:=7) (Paz [.neu 5,.neu 6,.neu 7]) hs rfl ?_ ?_);kernel_rfl;clear hs;intro w hs))
  (go_ret)
  refine⟨rfl,?_⟩
  apply Q5 (m:={ m with moves:=m.moves+1 }) hcur
  ((with_reducible apply Sat.fin hs);(with_reducible repeat first|exact Ql|exact Qh|apply Qb|apply Qk))
end
end
end Go.Proofs.YtjagadldibbbbaaGreat
