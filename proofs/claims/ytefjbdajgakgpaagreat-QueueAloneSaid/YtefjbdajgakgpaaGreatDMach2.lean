import Derived.Test.YtefjbdajgakgpaaGreatDTask5
set_option linter.all false
namespace Go.Proofs.YtefjbdajgakgpaaGreat
open Go.RowKit Hp
section
structure Same (m m':Mch):Prop where
 cur:m'.cur=m.cur
 vs:m'.vs=m.vs
 vc:m'.vc=m.vc
 kit:m'.kit=m.kit
 moves:m'.moves=m.moves
 now:m'.now=m.now
 thread:m'.thread=m.thread
 calls:m'.calls=m.calls
 seats:m'.seats=m.seats
theorem Same.refl (m:Mch):Same m m:=⟨rfl,rfl,rfl,rfl,rfl,rfl,rfl,rfl,rfl⟩
theorem Same.trans {m m' m'':Mch}(h:Same m m')(k:Same m' m''):Same m m'' :=
 ⟨k.cur.trans h.cur,k.vs.trans h.vs,k.vc.trans h.vc,k.kit.trans h.kit,k.moves.trans h.moves,k.now.trans h.now,k.thread.trans h.thread,k.calls.trans h.calls,k.seats.trans h.seats⟩
theorem ZJ (m:Mch)(i:Nat)(u:Int):Same m (m.load i u):=⟨rfl,rfl,rfl,rfl,rfl,rfl,rfl,rfl,rfl⟩
theorem ZR (m:Mch)(i:Nat)(u z:Int):Same m (m.store i u z):=⟨rfl,rfl,rfl,rfl,rfl,rfl,rfl,rfl,rfl⟩
theorem Z3 (m:Mch)(i:Nat)(u o z:Int):Same m (m.swap i u o z):=⟨rfl,rfl,rfl,rfl,rfl,rfl,rfl,rfl,rfl⟩
theorem Q2 (m:Mch)(s f t:Int):Same m (m.shift s f t):=⟨rfl,rfl,rfl,rfl,rfl,rfl,rfl,rfl,rfl⟩
theorem same_push (a:Are)(m:Mch)(p:Psh):Same m (Za a m p).2.2.1:=by
 unfold Za
 split
 ·exact ZJ ..
 ·split
  ·exact ZR ..
  ·simp only[]
   split
   ·exact(Z3 ..).trans (Q2 ..)
   ·exact Z3 ..
theorem same_give (a:Are)(m:Mch)(p:Psh):Same m (Zq a m p).2.2.1:=by
 unfold Zq
 split
 ·exact .refl m
 ·exact Q2 ..
theorem same_flush (a:Are)(m:Mch)(p:Psh):Same m (ZC a m p).2.2.1:=by
 unfold ZC
 split
 ·exact same_push ..
 ·simp only[]
  split<;>exact same_push ..
theorem Z2 (a:Are)(m:Mch)(t:Tak):Same m (Zf a m t).2.2.1:=by
 unfold Zf
 simp only[]
 split
 ·exact .refl m
 ·exact Q2 ..
theorem same_take (a:Are)(m:Mch)(t:Tak):Same m (Zh a m t).2.2.1:=by
 unfold Zh
 split
 ·exact ZJ ..
 ·split
  ·exact ZJ ..
  ·simp only[]
   split
   ·exact(Z3 ..).trans (Q2 ..)
   ·exact Z3 ..
theorem same_free (th:Int):∀(l:List Int) (g:Option Psh) (a:Are) (m:Mch),Same m (Zu th l g a m).2.2.2.2
 | [],g,a,m=>.refl m
 | s::r,g,a,m=>by
  unfold Zu
  split
  ·exact(same_give ..).trans (same_free th r _ _ _)
  ·exact same_give ..
theorem same_scan (h:Haz)(a:Are)(m:Mch)(s:Scn):Same m (Zl h a m s).2.2.2.1:=by
 unfold Zl
 split
 ·simp only[Jp]
  split<;>exact ZJ ..
 ·split
  ·simp only[QJ]
   split<;>exact Z3 ..
  ·split
   ·simp only[Jj];exact ZR ..
   ·split
    ·simp only[QU]
     split
     ·exact ZJ ..
     ·exact(ZJ m _ _).trans (same_free ..)
    ·split
     ·simp only[QK]
      split
      ·exact(same_push ..).trans (same_free ..)
      ·exact same_push ..
     ·exact .refl m
theorem same_retire (h:Haz)(a:Are)(m:Mch)(r:Ret):Same m (Zr h a m r).2.2.2.1:=by
 unfold Zr
 simp only[]
 split<;>exact Q2 ..
variable {i t:Nat}{c:Cll}{s:Sea}{m m' m'':Mch}
theorem Same.curIn (k:Same m m')(h:ZX m i t c s):ZX m' i t c s:=⟨k.cur▸h.cur,k.calls▸h.call,k.seats▸h.seat⟩
theorem Same.frame (k:Same m m')(h:ZX m i t c s):Qz i t c s m m' :=
 ⟨k.cur,k.vs,k.vc,k.kit,k.moves,k.now,k.thread,⟨c.point,by rw[k.calls];exact(List.set_getElem?_self' h.call).symm⟩,⟨s.kind,s.value,by rw[k.seats];exact(List.set_getElem?_self' h.seat).symm⟩⟩
theorem frame_answer (h:ZX m i t c s)(k v:Int):Qz i t c s m (m.answer t s k v):=
 ⟨rfl,rfl,rfl,rfl,rfl,rfl,rfl,⟨c.point,(List.set_getElem?_self' h.call).symm⟩,⟨k,v,rfl⟩⟩
theorem frame_point (h:ZX m i t c s)(z:Int):Qz i t c s m (m.point i c z):=
 ⟨rfl,rfl,rfl,rfl,rfl,rfl,rfl,⟨z,rfl⟩,⟨s.kind,s.value,(List.set_getElem?_self' h.seat).symm⟩⟩
theorem frame_both (z k v:Int):Qz i t c s m ((m.point i c z).answer t s k v):=
 ⟨rfl,rfl,rfl,rfl,rfl,rfl,rfl,⟨z,rfl⟩,⟨k,v,rfl⟩⟩
theorem Same.then (k:Same m m')(f:Qz i t c s m' m''):Qz i t c s m m'':=by
 obtain⟨z,hz⟩:=f.calls
 obtain⟨x,y,hxy⟩:=f.seats
 exact⟨f.cur.trans k.cur,f.vs.trans k.vs,f.vc.trans k.vc,f.kit.trans k.kit,f.moves.trans k.moves,f.now.trans k.now,f.thread.trans k.thread,⟨z,by rw[hz,k.calls]⟩,⟨x,y,by rw[hxy,k.seats]⟩⟩
theorem Qz.same (f:Qz i t c s m m')(k:Same m' m''):Qz i t c s m m'':=by
 obtain⟨z,hz⟩:=f.calls
 obtain⟨x,y,hxy⟩:=f.seats
 exact⟨k.cur.trans f.cur,k.vs.trans f.vs,k.vc.trans f.vc,k.kit.trans f.kit,k.moves.trans f.moves,k.now.trans f.now,k.thread.trans f.thread,⟨z,by rw[k.calls,hz]⟩,⟨x,y,by rw[k.seats,hxy]⟩⟩
theorem frame_reg (h:Haz)(r:Reg)(hc:ZX m i t c s):Qz i t c s m (Z4 h m t s r).2.2.1:=by
 have hn:∀ {m'} (k:Same m m'),Qz i t c s m (Qv h m' t s r).2.2.1:=fun {m'} k=>by
  unfold Qv
  split
  ·exact k.frame hc
  ·exact k.then (frame_answer (k.curIn hc) _ _)
 unfold Z4
 simp only[]
 split
 ·split
  ·exact hn (ZJ ..)
  ·exact(ZJ ..).frame hc
 ·split
  ·exact(Z3 m _ _ _ _).then (frame_answer ((Z3 m _ _ _ _).curIn hc) _ _)
  ·exact hn (Z3 ..)
theorem frame_saw (r:Rdg)(u:Int)(hc:ZX m i t c s):Qz i t c s m (Qf m i t c s r u).2.1:=by
 unfold Qf
 split
 ·exact frame_both ..
 ·exact(Same.refl m).frame hc
theorem frame_read (h:Haz)(r:Rdg)(hc:ZX m i t c s):Qz i t c s m (ZZ h m i t c s r).2.1:=by
 unfold ZZ
 simp only[]
 split
 ·exact(ZJ m _ _).then (frame_saw _ _ ((ZJ m _ _).curIn hc))
 ·split
  ·exact(ZR ..).frame hc
  ·split
   ·split
    ·exact(ZJ ..).frame hc
    ·exact(ZJ m _ _).then (frame_saw _ _ ((ZJ m _ _).curIn hc))
   ·exact(ZJ m _ _).then (frame_both ..)
theorem frame_unr (h:Haz)(a:Are)(u:Unr)(hc:ZX m i t c s):Qz i t c s m (Zs h a m u).2.2.2.1:=by
 unfold Zs
 simp only[]
 split
 ·split
  ·exact(ZR ..).frame hc
  ·split<;>exact(ZR ..).frame hc
 ·split
  ·split
   ·exact(Same.refl m).frame hc
   ·split<;>exact(same_scan ..).frame hc
  ·split
   ·split
    ·exact(Same.refl m).frame hc
    ·exact(same_flush ..).frame hc
   ·exact(ZR ..).frame hc
theorem frame_took (p:Pst)(k:Tak)(hc:ZX m i t c s):Qz i t c s m (ZH m i t c s p k).2.1:=by
 unfold ZH
 split
 ·exact frame_both ..
 ·exact(Same.refl m).frame hc
theorem frame_postReady (a:Are)(p:Pst)(hc:ZX m i t c s):Qz i t c s m (ZM a m i t c s p).2.2.1:=by
 unfold ZM
 simp only[]
 split
 ·exact(Z2 a m _).then (frame_took _ _ ((Z2 a m _).curIn hc))
 ·exact(Z2 ..).frame hc
theorem frame_done (h:Haz)(a:Are)(p:Pst)(z:Int):Qz i t c s m (Je h a m i t c s p z).2.2.2.1:=by
 unfold Je
 simp only[]
 split
 ·exact(frame_both ..).same (Q2 ..)
 ·exact((frame_both ..).same (Q2 ..)).same ((Q2 ..).trans (same_retire ..))
theorem frame_post (h:Haz)(a:Are)(p:Pst)(hc:ZX m i t c s):Qz i t c s m (ZP h a m i t c s p).2.2.2.1:=by
 unfold ZP
 split
 ·exact(Same.refl m).frame hc
 ·simp only[]
  split
  ·split
   ·exact(same_take a m _).then (frame_took _ _ ((same_take a m _).curIn hc))
   ·exact(same_take ..).frame hc
  ·split
   ·exact(ZR ..).frame hc
   ·split
    ·exact(ZJ ..).frame hc
    ·split
     ·split
      ·exact(Z3 m _ _ _ _).then (frame_done ..)
      ·exact(Z3 ..).frame hc
     ·split
      ·exact(Same.refl m).frame hc
      ·split
       ·exact(Same.refl m).frame hc
       ·exact(same_scan ..).frame hc
end
section
set_option maxRecDepth 100000
set_option maxHeartbeats 1000000
attribute [local irreducible] Go.Calls
inductive Z8 where
 | reg (r:Reg)
 | unr (u:Unr)
 | pst (p:Pst)
 | rdg (r:Rdg)
 | clr (ad:Nat)
 | scn (s:Scn)
def ifR (ty:TypeId)(G:Nat→Zc)(v:Value):Zc:=ex fun g=>pu (v=.iface ty (.pointer (some ⟨g,0,none⟩)))*G g
theorem JE {ty:TypeId}{G:Nat→Zc}{v:Value}{O w:World}{F:Zc}:Sat O w (ifR ty G v*F)↔∃g,v=.iface ty (.pointer (some ⟨g,0,none⟩))∧Sat O w (G g*F):=by
 unfold ifR
 simp only[ZG,Ma,Zz]
def htR (bh ba:Nat):Z8→Value→Zc
 | .reg r=>ifR 179 fun g=>RegR g bh r
 | .unr u=>ifR 182 fun g=>UnrR g bh ba u
 | .pst p=>ifR 187 fun g=>PstR g bh ba p
 | .rdg r=>ifR 191 fun g=>RdgR g bh r
 | .clr ad=>ifR 194 fun g=>ClrR g ad
 | .scn s=>ifR 183 fun g=>ScnR g bh ba s
def Qw (s:Haz×Are)(m:Mch)(i t:Nat)(c:Cll)(se:Sea):Z8→Bool×(Haz×Are)×Mch×Z8
 | .pst p=>((ZM s.2 m i t c se p).1,(s.1,(ZM s.2 m i t c se p).2.1),(ZM s.2 m i t c se p).2.2.1,.pst (ZM s.2 m i t c se p).2.2.2)
 | .scn x=>((ZF s.1 x).1,s,m,.scn (ZF s.1 x).2)
 | k=>(false,s,m,k)
def ZQ (s:Haz×Are)(m:Mch)(i t:Nat)(c:Cll)(se:Sea):Z8→Bool×(Haz×Are)×Mch×Z8
 | .reg r=>((Z4 s.1 m t se r).1,((Z4 s.1 m t se r).2.1,s.2),(Z4 s.1 m t se r).2.2.1,.reg (Z4 s.1 m t se r).2.2.2)
 | .unr u=>((Zs s.1 s.2 m u).1,((Zs s.1 s.2 m u).2.1,(Zs s.1 s.2 m u).2.2.1),(Zs s.1 s.2 m u).2.2.2.1,.unr (Zs s.1 s.2 m u).2.2.2.2)
 | .pst p=>((ZP s.1 s.2 m i t c se p).1,((ZP s.1 s.2 m i t c se p).2.1,(ZP s.1 s.2 m i t c se p).2.2.1),(ZP s.1 s.2 m i t c se p).2.2.2.1,.pst (ZP s.1 s.2 m i t c se p).2.2.2.2)
 | .rdg r=>((ZZ s.1 m i t c se r).1,s,(ZZ s.1 m i t c se r).2.1,.rdg (ZZ s.1 m i t c se r).2.2)
 | .clr ad=>(true,s,m.store ad (m.word ad) 0,.clr ad)
 | .scn x=>((Zl s.1 s.2 m x).1,((Zl s.1 s.2 m x).2.1,(Zl s.1 s.2 m x).2.2.1),(Zl s.1 s.2 m x).2.2.2.1,.scn (Zl s.1 s.2 m x).2.2.2.2)
def htOkr (s:Haz×Are)(m:Mch)(_t:Nat):Z8→Prop
 | .pst p=>HazOk s.1 s.2 m∧0≤p.thread∧p.thread<s.1.c.T
 | .scn x=>HazOk s.1 s.2 m∧0≤x.record∧x.record<s.1.c.R
 | _=>True
def htOks (s:Haz×Are)(m:Mch)(_t:Nat):Z8→Prop
 | .reg r=>HazOk s.1 s.2 m∧0≤r.thread∧r.thread<s.1.c.T∧0≤r.i∧r.i<s.1.c.R
 | .unr u=>UnrOk s.1 s.2 m u
 | .pst p=>∃k,PstOk s.1 s.2 m p k
 | .rdg r=>ReadOk s.1 s.2 m r
 | .clr ad=>m.May ad
 | .scn x=>ScanOk s.1 s.2 m x
def hzT (bh ba:Nat)(CX:Zc):JH (Haz×Are) Z8 where
 X s:=HazR bh ba s.1*(AreR ba s.2*CX)
 R:=htR bh ba
 rdy:=Qw
 stp:=ZQ
 okr:=htOkr
 oks:=htOks
theorem dyn_if {f:FuncId}{ty:TypeId}{name:String}{d:Value}{G G':Nat→Zc}{Y Y' Z XD XD':Zc}{b:Bool}{v:Value}
  (h:∀g,Zk Tryz.prog f #[.pointer (some ⟨g,0,none⟩),d] (G g*Y) (.bool b) (G' g*Y'))
  (hr:∀g w,(callMethod (.iface ty (.pointer (some ⟨g,0,none⟩))) name #[d]).run Tryz.prog w=.ok (.enter f #[.pointer (some ⟨g,0,none⟩),d]) w)
  (hA:XD=Y*Z) (hB:XD'=Y'*Z) :
  Dyn Tryz.prog (callMethod v name #[d]) (ifR ty G v*XD) (fun u=>pu (u=.bool b)*(ifR ty G' v*XD')):=by
 intro O w F hs
 subst hA hB
 rw[Ma]at hs
 obtain⟨g,rfl,hs1⟩:=JE.1 hs
 refine⟨f,_,hr g w,((h g) O w (Z*F) (hs1.cast (by ac_rfl))).mono ?_⟩
 rintro e w' ⟨rfl,hs'⟩
 refine⟨_,rfl,?_⟩
 simp only[Ma,Zz]
 exact⟨trivial,JE.2 ⟨g,rfl,hs'.cast (by ac_rfl)⟩⟩
theorem reg_ready (g d:Nat):Zk Tryz.prog 185 #[.pointer (some ⟨g,0,none⟩),.pointer (some ⟨d,0,none⟩)] emp (.bool false) emp:=by
 intro O w F hs
 go_enter Tryz.func185,Tryz.ntmps185
 go_wp2_with (fail)
 go_ret
 exact⟨rfl,hs⟩
theorem unr_ready (g d:Nat):Zk Tryz.prog 187 #[.pointer (some ⟨g,0,none⟩),.pointer (some ⟨d,0,none⟩)] emp (.bool false) emp:=by
 intro O w F hs
 go_enter Tryz.func187,Tryz.ntmps187
 go_wp2_with (fail)
 go_ret
 exact⟨rfl,hs⟩
theorem rdg_ready (g d:Nat):Zk Tryz.prog 198 #[.pointer (some ⟨g,0,none⟩),.pointer (some ⟨d,0,none⟩)] emp (.bool false) emp:=by
 intro O w F hs
 go_enter Tryz.func198,Tryz.ntmps198
 go_wp2_with (fail)
 go_ret
 exact⟨rfl,hs⟩
theorem clr_ready (g d:Nat):Zk Tryz.prog 201 #[.pointer (some ⟨g,0,none⟩),.pointer (some ⟨d,0,none⟩)] emp (.bool false) emp:=by
 intro O w F hs
 go_enter Tryz.func201,Tryz.ntmps201
 go_wp2_with (fail)
 go_ret
 exact⟨rfl,hs⟩
theorem gives_emp {f:FuncId}{args:Array Value}{v:Value}(h:Zk Tryz.prog f args emp v emp)(R:Zc):Zk Tryz.prog f args R v R:=by
 have:=h.frame R
 rwa [Em]at this
theorem pst_ready_ok {s:Haz×Are}{m:Mch}{p:Pst}(h:HazOk s.1 s.2 m∧0≤p.thread∧p.thread<s.1.c.T)(g bh ba d bx bm:Nat){i t:Nat}{c:Cll}{se:Sea}(hc:ZX m i t c se) :
  Zk Tryz.prog 194 #[.pointer (some ⟨g,0,none⟩),.pointer (some ⟨d,0,none⟩)] (PstR g bh ba p*(HazR bh ba s.1*(AreR ba s.2*DkR d bx bm m))) (.bool (ZM s.2 m i t c se p).1)
   (PstR g bh ba (ZM s.2 m i t c se p).2.2.2*(HazR bh ba s.1*(AreR ba (ZM s.2 m i t c se p).2.1*DkR d bx bm (ZM s.2 m i t c se p).2.2.1))):=by
 obtain⟨hz,h0,h1⟩:=h
 obtain⟨x,hx,hxl,hin⟩:=hz.cache h0 h1
 have hok:=hz.ok
 have hS:=hz.sh
 have hsl:s.2.slots.length=s.2.c.Sl.toNat:=by have:=hok.slots;omega
 have hS1:=hok.c.S1
 have hS2:=hok.c.S2
 have hk : -1≤Zd (Zf s.2 m ⟨p.thread,1,0,0,0,false⟩).2.2.2∧Zd (Zf s.2 m ⟨p.thread,1,0,0,0,false⟩).2.2.2≤2147483646:=by
  unfold Zf
  have hd:s.2.caches.getD p.thread.toNat []=x:=by rw[Yb,hx];rfl
  simp only[hd]
  split
  ·simp[Zd]
  ·rename_i hne
   simp only[Jo,Zd,if_true]
   have hlt:x.length-1<x.length:=by omega
   have hm:x.getD (x.length-1) 0∈x:=by
    rw[Yb,Yd hlt];simp
   have:=hin _ hm
   omega
 exact post_ready g bh ba d bx bm s.1 s.2 m i t c se p p.thread.toNat x (by omega) hx hin (by omega) (by omega) (by omega) ((Z2 ..).curIn hc) hk.2 hk.1
theorem hzT_good (bh ba:Nat)(CX:Zc):(hzT bh ba CX).Good where
 iface:=by
  intro O w k v F hs
  cases k<;>(obtain⟨g,rfl,_⟩:=JE.1 hs;exact⟨_,_,rfl⟩)
 cr:=by
  intro d bx bm s m i t c se k v hok hc
  cases k with
  | reg r=>exact dyn_if (fun g=>gives_emp (reg_ready g d) _) (fun g w=>by kernel_rfl) (Y:=emp) (Y':=emp) (Em _).symm (Em _).symm
  | unr u=>exact dyn_if (fun g=>gives_emp (unr_ready g d) _) (fun g w=>by kernel_rfl) (Y:=emp) (Y':=emp) (Em _).symm (Em _).symm
  | rdg r=>exact dyn_if (fun g=>gives_emp (rdg_ready g d) _) (fun g w=>by kernel_rfl) (Y:=emp) (Y':=emp) (Em _).symm (Em _).symm
  | clr ad=>exact dyn_if (fun g=>gives_emp (clr_ready g d) _) (fun g w=>by kernel_rfl) (Y:=emp) (Y':=emp) (Em _).symm (Em _).symm
  | pst p=>exact dyn_if (Z:=CX) (fun g=>pst_ready_ok hok g bh ba d bx bm hc) (fun g w=>by kernel_rfl) (by simp only[hzT];ac_rfl) (by simp only[hzT,Qw];ac_rfl)
  | scn x=>
   obtain⟨hz,h0,h1⟩:=hok
   obtain⟨y,hy,_⟩:=hz.list h0 h1
   exact dyn_if (Z:=AreR ba s.2*(CX*DkR d bx bm m)) (fun g=>scan_ready g bh ba (.pointer (some ⟨d,0,none⟩)) s.1 x x.record.toNat y (by omega) hy (by have:=hz.ok.c.R2;rw[hz.c];omega)) (fun g w=>by kernel_rfl) (by simp only[hzT];ac_rfl) (by simp only[hzT,Qw];ac_rfl)
 cs:=by
  intro d bx bm s m i t c se k v hok hc
  cases k with
  | reg r=>exact dyn_if (Z:=AreR ba s.2*CX) (fun g=>reg_step g bh ba d bx bm s.1 s.2 m r i t c se hok.1 hc hok.2.1 hok.2.2.1 hok.2.2.2.1 hok.2.2.2.2) (fun g w=>by kernel_rfl) (by simp only[hzT];ac_rfl) (by simp only[hzT,ZQ];ac_rfl)
  | unr u=>exact dyn_if (Z:=CX) (fun g=>unreg_step g bh ba d bx bm s.1 s.2 m u hok) (fun g w=>by kernel_rfl) (by simp only[hzT];ac_rfl) (by simp only[hzT,ZQ];ac_rfl)
  | rdg r=>exact dyn_if (Z:=AreR ba s.2*CX) (fun g=>read_step g bh ba d bx bm s.1 s.2 m i t c se r hok hc) (fun g w=>by kernel_rfl) (by simp only[hzT];ac_rfl) (by simp only[hzT,ZQ];ac_rfl)
  | clr ad=>exact dyn_if (Z:=HazR bh ba s.1*(AreR ba s.2*CX)) (fun g=>clr_step g d bx bm m ad hok) (fun g w=>by kernel_rfl) (by simp only[hzT];ac_rfl) (by simp only[hzT,ZQ];ac_rfl)
  | pst p=>
   obtain⟨k,hok⟩:=hok
   exact dyn_if (Z:=CX) (fun g=>post_step g bh ba d bx bm s.1 s.2 m i t c se p k hok hc) (fun g w=>by kernel_rfl) (by simp only[hzT];ac_rfl) (by simp only[hzT,ZQ];ac_rfl)
  | scn x=>exact dyn_if (Z:=CX) (fun g=>scan_step g bh ba d bx bm s.1 s.2 m x hok) (fun g w=>by kernel_rfl) (by simp only[hzT];ac_rfl) (by simp only[hzT,ZQ];ac_rfl)
 fr:=by
  intro s m i t c se k hc
  cases k with
  | pst p=>exact frame_postReady _ _ hc
  | scn x=>exact(Same.refl m).frame hc
  | _=>exact(Same.refl m).frame hc
 fs:=by
  intro s m i t c se k hc
  cases k with
  | reg r=>exact frame_reg _ _ hc
  | unr u=>exact frame_unr _ _ _ hc
  | pst p=>exact frame_post _ _ _ hc
  | rdg r=>exact frame_read _ _ hc
  | clr ad=>exact(ZR ..).frame hc
  | scn x=>exact(same_scan ..).frame hc
end
section
set_option maxRecDepth 100000
set_option maxHeartbeats 1000000
attribute [local irreducible] Go.Calls
structure Mv where
 thread:Int
 op:Int
 arg:Int
 data:Int
abbrev Mv.v (m:Mv):Value:=.agg #[.int .i64 m.thread,.int .i64 m.op,.int .i64 m.arg,.int .i64 m.data]
abbrev Mv.e (m:Mv):List Value:=[.int .i64 m.thread,.int .i64 m.op,.int .i64 m.arg,.int .i64 m.data]
def madeR {σ τ:Type}(T:JH σ τ)(s:σ)(o:Option τ)(v:Value):Zc:=match o with
 | none=>pu (v=.nilIface)*T.X s
 | some k=>T.R k v*T.X s
theorem made_none {σ τ:Type}{T:JH σ τ}{s:σ}{v:Value}{O w:World}{F:Zc}:Sat O w (madeR T s none v*F)↔v=.nilIface∧Sat O w (T.X s*F):=by
 unfold madeR;simp only[Ma,Zz]
theorem made_some {σ τ:Type}{T:JH σ τ}{s:σ}{v:Value}{k:τ}{O w:World}{F:Zc}:Sat O w (madeR T s (some k) v*F)↔Sat O w (T.R k v*(T.X s*F)):=by
 unfold madeR;simp only[Ma]
structure KitOk {σ τ:Type}(T:JH σ τ)(K:Int→Option Value)(mkr:σ→Nat→Mv→Option τ)(ok:σ→Prop)(n:Nat):Prop where
 func:∀op u,K op=some u→∃f a b,u=.func f a b
 make:∀op u s t mv,K op=some u→mv.op=op→t<n→mv.thread=(t:Int)→ok s→Dyn Tryz.prog (Ja u #[.int .i64 (t:Int),mv.v]) (T.X s) (fun v=>madeR T s (mkr s t mv) v)
def ZB (m:Mch)(t:Nat)(mv:Mv)(v vc':Value):Mch:=
 { m with moves:=m.moves+1,vc:=vc',seats:=m.seats.set t ⟨v,false,(m.calls.length:Int),1,0⟩,calls:=m.calls++[⟨mv.thread,mv.op,mv.arg,mv.data,m.moves,-1,-1,0,0⟩] }
section
variable {σ τ:Type}(T:JH σ τ)(bx bm:Nat)
variable (m:Mch)(mv:Mv)
theorem move_thread (hl:m.moves<65536)(hm0:0≤m.moves)(h0:0<m.seats.length)(ht:mv.thread<0∨(m.seats.length:Int)≤mv.thread) :
  Zk Tryz.prog 59 #[.pointer (some ⟨bx,0,none⟩),mv.v] (MchR bx bm m) (.bool false) (MchR bx bm { m with moves:=m.moves+1 }):=by
 obtain⟨v1,v2,v3,v4⟩:=mv
 intro O w F hs
 (obtain⟨vh,call,told,hcur,hs⟩:=mchR.1 hs)
 have h0':((m.seats.length:Int)==0)=false:=by simp;intro e;simp[e]at h0
 have h1:decide (m.moves≥65536)=false:=by simpa using hl
 simp only[]at ht
 by_cases hn:v1<0
 ·have h2:decide (v1<0)=true:=by simpa using hn
  clear ht
  go_enter Tryz.func59,Tryz.ntmps59
  go_wp2_with (first|(with_reducible refine NQ.mk ?_)|((with_reducible apply Zi);rfl;rfl)|(with_reducible refine Zj ?_)|((with_reducible apply Zb hs);exact Ii;rfl;(with_reducible repeat first|exact Qh|apply Qk);rfl;rfl;simp only[Uc,Uz])|((with_reducible apply Zv hs);exact Ii;rfl;rfl;(with_reducible repeat first|exact Qh|apply Qk);rfl;exact Vb rfl;rfl;clear hs;intro w hs;simp only[Yg,Uc,Uz]at hs)|((with_reducible apply Zt hs);rfl;rfl;rfl;clear hs;intro w b hs;simp only[Uc,Uz])|((with_reducible apply ZS hs);exact Ii;rfl;(with_reducible repeat first|exact Qh|apply Qk);rfl;simp only[Uc,Uz])|((with_reducible refine Wp (id:=5) (Paz (Pbz [.neu 10,.neu 11,.neu 12])) hs rfl ?_ ?_);kernel_rfl;clear hs;intro w hs))
  go_ret
  refine⟨rfl,?_⟩
  apply Jg (m:={ m with moves:=m.moves+1 }) hcur
  (with_reducible apply Sat.fin hs;repeat first|exact Ql|exact Qh|apply Qb|apply Qk)
 ·have h2:decide (v1<0)=false:=by simpa using hn
  have h3:decide (v1≥(m.seats.length:Int))=true:=by simp;omega
  clear ht
  go_enter Tryz.func59,Tryz.ntmps59
  go_wp2_with (first|(with_reducible refine NQ.mk ?_)|((with_reducible apply Zi);rfl;rfl)|(with_reducible refine Zj ?_)|((with_reducible apply Zb hs);exact Ii;rfl;(with_reducible repeat first|exact Qh|apply Qk);rfl;rfl;simp only[Uc,Uz])|((with_reducible apply Zv hs);exact Ii;rfl;rfl;(with_reducible repeat first|exact Qh|apply Qk);rfl;exact Vb rfl;rfl;clear hs;intro w hs;simp only[Yg,Uc,Uz]at hs)|((with_reducible apply Zt hs);rfl;rfl;rfl;clear hs;intro w b hs;simp only[Uc,Uz])|((with_reducible apply ZS hs);exact Ii;rfl;(with_reducible repeat first|exact Qh|apply Qk);rfl;simp only[Uc,Uz])|((with_reducible refine Wp (id:=5) (Paz (Pbz [.neu 10,.neu 11,.neu 12])) hs rfl ?_ ?_);kernel_rfl;clear hs;intro w hs))
  go_ret
  refine⟨rfl,?_⟩
  apply Jg (m:={ m with moves:=m.moves+1 }) hcur
  (with_reducible apply Sat.fin hs;repeat first|exact Ql|exact Qh|apply Qb|apply Qk)
variable {m}{mv}
theorem move_no (hl:m.moves<65536)(hm0:0≤m.moves){t:Nat}{se:Sea}(ht:mv.thread=(t:Int))(hse:m.seats[t]? = some se)(h:(mv.op=0∧se.task=.nilIface)∨(mv.op≠0∧∃ty x,se.task=.iface ty x)) :
  Zk Tryz.prog 59 #[.pointer (some ⟨bx,0,none⟩),mv.v] (MchR bx bm m) (.bool false) (MchR bx bm { m with moves:=m.moves+1 }):=by
 obtain⟨v1,v2,v3,v4⟩:=mv
 obtain⟨s1,s2,s3,s4,s5⟩:=se
 simp only[]at ht h
 subst ht
 intro O w F hs
 (obtain⟨vh,call,told,hcur,hs⟩:=mchR.1 hs)
 have lt:=(List.getElem?_eq_some_iff.1 hse).1
 have h0':((m.seats.length:Int)==0)=false:=by simp;intro e;simp[e]at lt
 have h1:decide (m.moves≥65536)=false:=by simpa using hl
 have h2:decide ((t:Int)<0)=false:=by simp
 have h3:decide ((t:Int)≥(m.seats.length:Int))=false:=by simp;omega
 rcases h with⟨rfl,rfl⟩|⟨hne,ty,x,rfl⟩
 ·go_enter Tryz.func59,Tryz.ntmps59
  go_wp2_with (first|(with_reducible refine NQ.mk ?_)|((with_reducible apply Zi);rfl;rfl)|(with_reducible refine Zj ?_)|((with_reducible apply Zb hs);exact Ii;rfl;(with_reducible repeat first|exact Qh|apply Qk);rfl;rfl;simp only[Uc,Uz])|((with_reducible apply Zv hs);exact Ii;rfl;rfl;(with_reducible repeat first|exact Qh|apply Qk);rfl;exact Vb rfl;rfl;clear hs;intro w hs;simp only[Yg,Uc,Uz]at hs)|((with_reducible apply Zt hs);rfl;rfl;rfl;clear hs;intro w b hs;simp only[Uc,Uz])|((with_reducible apply ZE hs);exact Ii;rfl;assumption;(with_reducible repeat first|exact Qh|apply Qk);rfl;(exact Ze (by assumption));rfl;rfl;simp only[Uc,Uz])|((with_reducible apply Qe hs);exact Ii;exact Ii;rfl;rfl;(with_reducible repeat first|exact Qh|apply Qk);rfl;(simp only[Wm,Ws,Wa,Wc,Wn,Wr]at *;omega);rfl;intro b off hat;simp only[Uc,Uz])|((with_reducible apply ZS hs);exact Ii;rfl;(with_reducible repeat first|exact Qh|apply Qk);rfl;simp only[Uc,Uz])|((with_reducible refine Wp (id:=5) (Paz (Pbz [.neu 10,.neu 11,.neu 12])) hs rfl ?_ ?_);kernel_rfl;clear hs;intro w hs)|((with_reducible refine Wp (id:=7) (Paz [.neu 5,.neu 6,.neu 7]) hs rfl ?_ ?_);kernel_rfl;clear hs;intro w hs))
  go_ret
  refine⟨rfl,?_⟩
  apply Jg (m:={ m with moves:=m.moves+1 }) hcur
  (with_reducible apply Sat.fin hs;repeat first|exact Ql|exact Qh|apply Qb|apply Qk)
 ·have h4:(v2==0)=false:=by simpa using hne
  have HN:=Lh hne;clear hne
  go_enter Tryz.func59,Tryz.ntmps59
  go_wp2_with (first|(with_reducible refine NQ.mk ?_)|((with_reducible apply Zi);rfl;rfl)|(with_reducible refine Zj ?_)|((with_reducible apply Zb hs);exact Ii;rfl;(with_reducible repeat first|exact Qh|apply Qk);rfl;rfl;simp only[Uc,Uz])|((with_reducible apply Zv hs);exact Ii;rfl;rfl;(with_reducible repeat first|exact Qh|apply Qk);rfl;exact Vb rfl;rfl;clear hs;intro w hs;simp only[Yg,Uc,Uz]at hs)|((with_reducible apply Zt hs);rfl;rfl;rfl;clear hs;intro w b hs;simp only[Uc,Uz])|((with_reducible apply ZE hs);exact Ii;rfl;assumption;(with_reducible repeat first|exact Qh|apply Qk);rfl;(exact Ze (by assumption));rfl;rfl;simp only[Uc,Uz])|((with_reducible apply Qe hs);exact Ii;exact Ii;rfl;rfl;(with_reducible repeat first|exact Qh|apply Qk);rfl;(simp only[Wm,Ws,Wa,Wc,Wn,Wr]at *;omega);rfl;intro b off hat;simp only[Uc,Uz])|((with_reducible apply ZS hs);exact Ii;rfl;(with_reducible repeat first|exact Qh|apply Qk);rfl;simp only[Uc,Uz])|((with_reducible refine Wp (id:=5) (Paz (Pbz [.neu 10,.neu 11,.neu 12])) hs rfl ?_ ?_);kernel_rfl;clear hs;intro w hs)|((with_reducible refine Wp (id:=7) (Paz [.neu 5,.neu 6,.neu 7]) hs rfl ?_ ?_);kernel_rfl;clear hs;intro w hs))
  go_ret
  refine⟨rfl,?_⟩
  apply Jg (m:={ m with moves:=m.moves+1 }) hcur
  (with_reducible apply Sat.fin hs;repeat first|exact Ql|exact Qh|apply Qb|apply Qk)
end
end
end Go.Proofs.YtefjbdajgakgpaaGreat
