/-
  More arms: maps.
-/
import Derived.Test.YtjagadldibbbbaaGreatATypes
import Derived.Test.YtjagadldibbbbaaGreatAMap
import Derived.ScopeJumps
import Derived.Test.YtjagadldibbbbaaGreatAParts4
import Derived.Test.YtjagadldibbbbaaGreatAParts5
set_option linter.all false
namespace Go.Proofs.YtjagadldibbbbaaGreat
section
open Go.RowKit
namespace Hp
end Hp
end
section
open Go.Proofs.YtjagadldibbbbaaGreat.Hp
instance :MapC Tryz.prog 76 37 114 .i64 (.nilFunc):=⟨by kernel_rfl,by kernel_rfl,by kernel_rfl⟩
instance :MapC Tryz.prog 168 3 3 .i64 (.int .i64 0):=⟨by kernel_rfl,by kernel_rfl,by kernel_rfl⟩
end
section
open Go.RowKit Hp
set_option maxRecDepth 100000
set_option maxHeartbeats 1000000
attribute [local irreducible] Go.Calls
structure Haz where
 c:Cfg
 held:List Int
 lists:List (List Int)
def HazR (b ba:Nat)(h:Haz):Za:=ex fun vh=>ex fun vl=>
 pt b (.cells #[.pointer (some ⟨ba,0,none⟩),.int .i64 h.c.T,.int .i64 h.c.R,.int .i64 h.c.Hz,.int .i64 h.c.Rt,.int .i64 h.c.Ca,.int .i64 h.c.Sl,.int .i64 h.c.Bu,vh,vl,.int .i64 (base h.c 8),.int .i64 (base h.c 9),.int .i64 (base h.c 2),.int .i64 (base h.c 11)] 91)*(sl 3 1 (h.held.map eI) vh*nest 35 3 h.lists vl)
theorem hazR {O w:World}{b ba:Nat}{h:Haz}{R:Za}:Sat O w (HazR b ba h*R)↔∃vh vl,Sat O w (pt b (.cells #[.pointer (some ⟨ba,0,none⟩),.int .i64 h.c.T,.int .i64 h.c.R,.int .i64 h.c.Hz,.int .i64 h.c.Rt,.int .i64 h.c.Ca,.int .i64 h.c.Sl,.int .i64 h.c.Bu,vh,vl,.int .i64 (base h.c 8),.int .i64 (base h.c 9),.int .i64 (base h.c 2),.int .i64 (base h.c 11)] 91)*(sl 3 1 (h.held.map eI) vh*(nest 35 3 h.lists vl*R))):=by
 unfold HazR
 simp only[ZB,Ma]
theorem Zs {O w:World}{b ba:Nat}{h:Haz}{R:Za}{vh vl:Value}(hs:Sat O w (pt b (.cells #[.pointer (some ⟨ba,0,none⟩),.int .i64 h.c.T,.int .i64 h.c.R,.int .i64 h.c.Hz,.int .i64 h.c.Rt,.int .i64 h.c.Ca,.int .i64 h.c.Sl,.int .i64 h.c.Bu,vh,vl,.int .i64 (base h.c 8),.int .i64 (base h.c 9),.int .i64 (base h.c 2),.int .i64 (base h.c 11)] 91)*(sl 3 1 (h.held.map eI) vh*(nest 35 3 h.lists vl*R)))):Sat O w (HazR b ba h*R):=hazR.2 ⟨_,_,hs⟩
attribute [irreducible] HazR
section
end
theorem Qt (b ba:Nat)(h:Haz)(t:Nat)(r:Int)(ht:h.held[t]? = some r):Ze Tryz.prog 40 #[.pointer (some ⟨b,0,none⟩),.int .i64 (t:Int)] (HazR b ba h) (.int .i64 r) (HazR b ba h):=by
 intro O w F hs
 (obtain⟨vhh,vhl,hs⟩:=hazR.1 hs)
 have hlt:=(List.getElem?_eq_some_iff.1 ht).1
 have n1:decide ((t:Int)<0)=false:=by simp
 have n2:decide ((t:Int)≥(h.held.length:Int))=false:=by simp;omega
 go_enter Tryz.func40,Tryz.ntmps40
 go_wp2_with (first|((with_reducible apply Zc hs);exact Ii;rfl;(with_reducible repeat first|exact Qh|apply Qk);rfl;rfl;(simp only[Uc,Uz]))|((with_reducible apply Zx hs);exact Ii;rfl;assumption;(with_reducible repeat first|exact Qh|apply Qk);rfl;(exact Zb (by assumption));rfl;rfl;(simp only[Uc,Uz]))|((with_reducible apply ZW hs);exact Ii;exact Ii;rfl;rfl;(with_reducible repeat first|exact Qh|apply Qk);(rfl);(simp only[Wm,Ws,Wa,Wc,Wn,Wr]at *;omega);rfl;intro b off hat;(simp only[Uc,Uz]))|((with_reducible apply ZF hs);exact Ii;rfl;(with_reducible repeat first|exact Qh|apply Qk);rfl;(simp only[Uc,Uz])))
 (go_ret)
 refine⟨rfl,?_⟩
 (apply Zs;((try simp only[Yh,Yi,Yj,Yk,Yl]);(try simp only[Yh,Yi,Yj,Yk,Yl]at hs);((with_reducible apply Sat.fin hs);(with_reducible exact Ql))))
theorem haz_addr (b ba:Nat)(h:Haz)(hc:h.c.Ok)(t:Nat)(r k:Int)(ht:h.held[t]? = some r)(r0:0≤r)(r1:r<h.c.R)(k0:0≤k)(k1:k<h.c.Hz) :
  Ze Tryz.prog 45 #[.pointer (some ⟨b,0,none⟩),.int .i64 (t:Int),.int .i64 k] (HazR b ba h) (.int .i64 (base h.c 9+r*h.c.Hz+k)) (HazR b ba h):=by
 intro O w F hs
 have hR:=Lh (Qt b ba h t r ht)
 have n1:decide (r<0)=false:=by simp;omega
 have n2:decide (k<0)=false:=by simp;omega
 have n3:decide (k≥h.c.Hz)=false:=by simp;omega
 have hm:0≤r*h.c.Hz∧r*h.c.Hz≤128:=by
  have:=hc.H2;have:=hc.R2
  exact⟨Int.mul_nonneg r0 (by omega),by
   calc r*h.c.Hz≤16*8:=Int.mul_le_mul (by omega) (by omega) (by omega) (by omega)
    _=128:=rfl⟩
 obtain⟨m0,m1⟩:=hm
 have hb:=ZH hc 9
 obtain⟨b0,b1⟩:=hb
 have hw:wrap64 (r*h.c.Hz)=r*h.c.Hz:=by unfold wrap64;omega
 have hH2:=hc.H2
 go_enter Tryz.func45,Tryz.ntmps45
 go_wp2_with (first|(first|(first|(with_reducible refine NQ.mk ?_)|((with_reducible apply Zf);rfl;rfl)|(with_reducible refine Zg ?_))|((with_reducible apply Zc hs);exact Ii;rfl;(with_reducible exact Qh);rfl;rfl;(simp only[Uc,Uz])))|(go_at_call 40;((refine(hR.out).at hs (by (with_reducible exact Qh)) ?_);clear hs;intro w hs;(try simp only[Em,Ma]at hs));(obtain⟨vhh,vhl,hs⟩:=hazR.1 hs))|((with_reducible refine Wp (id:=4) (Paz (Pbz [.neu 10,.neu 11,.neu 12,.neu 13,.neu 14])) hs rfl ?_ ?_);kernel_rfl;clear hs;intro w hs))
 (go_ret)
 refine⟨rfl,?_⟩
 (apply Zs;((try simp only[Yh,Yi,Yj,Yk,Yl]);(try simp only[Yh,Yi,Yj,Yk,Yl]at hs);((with_reducible apply Sat.fin hs);(with_reducible exact Ql))))
/-! ### One record's list in hand -/
theorem hazT {O w:World}{b ba:Nat}{h:Haz}{R:Za}{t:Nat}{x:List Int}(hs:Sat O w (HazR b ba h*R))(hi:h.lists[t]? = some x):∃(vh vl:Value) (us:List Value) (u:Value),us.length=h.lists.length∧us[t]? = some u ∧
  Sat O w (pt b (.cells #[.pointer (some ⟨ba,0,none⟩),.int .i64 h.c.T,.int .i64 h.c.R,.int .i64 h.c.Hz,.int .i64 h.c.Rt,.int .i64 h.c.Ca,.int .i64 h.c.Sl,.int .i64 h.c.Bu,vh,vl,.int .i64 (base h.c 8),.int .i64 (base h.c 9),.int .i64 (base h.c 2),.int .i64 (base h.c 11)] 91)*(sl 3 1 (h.held.map eI) vh *
   (sl 35 1 (us.map fun u=>[u]) vl*(sl 3 1 (x.map eI) u*(QC 3 (h.lists.eraseIdx t) (us.eraseIdx t)*R))))):=by
 obtain⟨vh,vl,hs⟩:=hazR.1 hs
 obtain⟨us,u,h1,h2,hs⟩:=nest_at (hs.pull (A:=nest 35 3 h.lists vl) (by (with_reducible repeat first|exact Qh|apply Qk))) hi
 refine⟨vh,vl,us,u,h1,h2,?_⟩
 ((with_reducible apply Sat.fin hs);(with_reducible repeat first|exact Ql|exact Qh|apply Qb|apply Qk))
theorem hazT_back {O w:World}{b ba:Nat}{h:Haz}{R:Za}{t:Nat}{x:List Int}{vh vl u:Value}{us:List Value}(hl:us.length=h.lists.length)(hu:us[t]? = some u)(hi:h.lists[t]? = some x)
  (hs:Sat O w (pt b (.cells #[.pointer (some ⟨ba,0,none⟩),.int .i64 h.c.T,.int .i64 h.c.R,.int .i64 h.c.Hz,.int .i64 h.c.Rt,.int .i64 h.c.Ca,.int .i64 h.c.Sl,.int .i64 h.c.Bu,vh,vl,.int .i64 (base h.c 8),.int .i64 (base h.c 9),.int .i64 (base h.c 2),.int .i64 (base h.c 11)] 91)*(sl 3 1 (h.held.map eI) vh *
   (sl 35 1 (us.map fun u=>[u]) vl*(sl 3 1 (x.map eI) u*(QC 3 (h.lists.eraseIdx t) (us.eraseIdx t)*R)))))):Sat O w (HazR b ba h*R):=by
 apply Zs
 have:=nest_back (xss:=h.lists) hl hi hu (hs.fin (T:=sl 35 1 (us.map fun u=>[u]) vl*(sl 3 1 (x.map eI) u*(QC 3 (h.lists.eraseIdx t) (us.eraseIdx t)*(pt b (.cells #[.pointer (some ⟨ba,0,none⟩),.int .i64 h.c.T,.int .i64 h.c.R,.int .i64 h.c.Hz,.int .i64 h.c.Rt,.int .i64 h.c.Ca,.int .i64 h.c.Sl,.int .i64 h.c.Bu,vh,vl,.int .i64 (base h.c 8),.int .i64 (base h.c 9),.int .i64 (base h.c 2),.int .i64 (base h.c 11)] 91)*(sl 3 1 (h.held.map eI) vh*R))))) (by (with_reducible repeat first|exact Ql|exact Qh|apply Qb|apply Qk)))
 have hs:=this
 ((with_reducible apply Sat.fin hs);(with_reducible repeat first|exact Ql|exact Qh|apply Qb|apply Qk))
theorem hazT_mk {O w:World}{b ba:Nat}{h:Haz}{R:Za}{t:Nat}{x:List Int}{xc:List (List Value)}{vh vl u:Value}{us:List Value}(hl:us.length=h.lists.length)(ht:t<h.lists.length)
  (hs:Sat O w (pt b (.cells #[.pointer (some ⟨ba,0,none⟩),.int .i64 h.c.T,.int .i64 h.c.R,.int .i64 h.c.Hz,.int .i64 h.c.Rt,.int .i64 h.c.Ca,.int .i64 h.c.Sl,.int .i64 h.c.Bu,vh,vl,.int .i64 (base h.c 8),.int .i64 (base h.c 9),.int .i64 (base h.c 2),.int .i64 (base h.c 11)] 91)*(sl 3 1 (h.held.map eI) vh *
   (sl 35 1 ((us.map fun u=>[u]).set t [u]) vl*(sl 3 1 xc u*(QC 3 (h.lists.eraseIdx t) (us.eraseIdx t)*R)))))) (hxc:xc=x.map eI):Sat O w (HazR b ba { h with lists:=h.lists.set t x }*R):=by
 subst hxc
 have e:(us.map fun u=>[u]).set t [u]=(us.set t u).map fun u=>[u]:=by rw[Yk]
 rw[e]at hs
 apply Zs
 have:=nest_mk (xss:=h.lists) hl ht (hs.fin (T:=sl 35 1 ((us.set t u).map fun u=>[u]) vl*(sl 3 1 (x.map eI) u*(QC 3 (h.lists.eraseIdx t) (us.eraseIdx t)*(pt b (.cells #[.pointer (some ⟨ba,0,none⟩),.int .i64 h.c.T,.int .i64 h.c.R,.int .i64 h.c.Hz,.int .i64 h.c.Rt,.int .i64 h.c.Ca,.int .i64 h.c.Sl,.int .i64 h.c.Bu,vh,vl,.int .i64 (base h.c 8),.int .i64 (base h.c 9),.int .i64 (base h.c 2),.int .i64 (base h.c 11)] 91)*(sl 3 1 (h.held.map eI) vh*R))))) (by (with_reducible repeat first|exact Ql|exact Qh|apply Qb|apply Qk)))
 have hs:=this
 ((with_reducible apply Sat.fin hs);(with_reducible repeat first|exact Ql|exact Qh|apply Qb|apply Qk))
section
end
/-! ### A scan -/
structure Scn where
 thread:Int
 record:Int
 stage:Int
 at_:Int
 hasMap:Bool
 named:Int→Int
 pending:List Int
 give:Option Psh
def namedR (b:Bool)(c:Int→Int)(v:Value):Za:=match b with
 | true=>ex fun f=>pu (∀k,(f k).getD (.int .i64 0)=.int .i64 (c k))*mp .i64 f v
 | false=>pu (v=.map none)
def giveR (ba:Nat)(o:Option Psh)(v:Value):Za:=match o with
 | none=>pu (v=.pointer none)
 | some p=>ex fun g=>pu (v=.pointer (some ⟨g,0,none⟩))*PshR g ba 219 p
def ScnR (g bh ba:Nat)(s:Scn):Za:=ex fun vn=>ex fun vp=>ex fun vg=>
 pt g (.cells #[.pointer (some ⟨bh,0,none⟩),.int .i64 s.thread,.int .i64 s.record,.int .i64 s.stage,.int .i64 s.at_,vn,vp,vg] 171)*(namedR s.hasMap s.named vn*(sl 3 1 (s.pending.map eI) vp*giveR ba s.give vg))
theorem scnR {O w:World}{g bh ba:Nat}{s:Scn}{R:Za}:Sat O w (ScnR g bh ba s*R)↔∃vn vp vg,Sat O w (pt g (.cells #[.pointer (some ⟨bh,0,none⟩),.int .i64 s.thread,.int .i64 s.record,.int .i64 s.stage,.int .i64 s.at_,vn,vp,vg] 171)*(namedR s.hasMap s.named vn*(sl 3 1 (s.pending.map eI) vp*(giveR ba s.give vg*R)))):=by
 unfold ScnR
 simp only[ZB,Ma]
theorem Z4 {O w:World}{g bh ba:Nat}{s:Scn}{R:Za}{vn vp vg:Value}(hs:Sat O w (pt g (.cells #[.pointer (some ⟨bh,0,none⟩),.int .i64 s.thread,.int .i64 s.record,.int .i64 s.stage,.int .i64 s.at_,vn,vp,vg] 171)*(namedR s.hasMap s.named vn*(sl 3 1 (s.pending.map eI) vp*(giveR ba s.give vg*R))))):Sat O w (ScnR g bh ba s*R):=scnR.2 ⟨_,_,_,hs⟩
theorem named_empty {O w:World}{v:Value}{R:Za}(hs:Sat O w (mp .i64 (fun _=>none) v*R)):Sat O w (namedR true (fun _=>0) v*R):=by
 unfold namedR
 simp only[ZB,Ma,Zw]
 exact⟨_,fun k=>rfl,hs⟩
theorem named_get {O w:World}{v:Value}{c:Int→Int}{R:Za}:Sat O w (namedR true c v*R)↔∃f,(∀k,(f k).getD (.int .i64 0)=.int .i64 (c k))∧Sat O w (mp .i64 f v*R):=by
 unfold namedR
 simp only[ZB,Ma,Zw]
theorem named_no {O w:World}{c:Int→Int}{R:Za}(hs:Sat O w R):Sat O w (namedR false c (.map none)*R):=by
 unfold namedR
 simp only[Zw]
 exact⟨trivial,hs⟩
theorem give_none {O w:World}{ba:Nat}{R:Za}(hs:Sat O w R):Sat O w (giveR ba none (.pointer none)*R):=by
 unfold giveR
 simp only[Zw]
 exact⟨trivial,hs⟩
theorem give_get {O w:World}{ba:Nat}{p:Psh}{v:Value}{R:Za}:Sat O w (giveR ba (some p) v*R)↔∃g,v=.pointer (some ⟨g,0,none⟩)∧Sat O w (PshR g ba 219 p*R):=by
 unfold giveR
 simp only[ZB,Ma,Zw]
attribute [irreducible] ScnR namedR giveR
theorem haz_scan (b ba:Nat)(h:Haz)(t:Nat)(r:Int)(ht:h.held[t]? = some r) :
  Makes Tryz.prog 48 #[.pointer (some ⟨b,0,none⟩),.int .i64 (t:Int)] (HazR b ba h) (fun g=>ScnR g b ba ⟨t,r,6,0,false,fun _=>0,[],none⟩*HazR b ba h):=by
 intro O w F hs
 have hR:=Lh (Qt b ba h t r ht)
 go_enter Tryz.func48,Tryz.ntmps48
 go_wp2_with (first|((with_reducible apply Zm hs);rfl;rfl;rfl;clear hs;intro w b hs;(simp only[Uc,Uz]))|(go_at_call 40;((refine(hR.out).at hs (by (with_reducible exact Qh)) ?_);clear hs;intro w hs;(try simp only[Em,Ma]at hs))))
 (go_ret)
 refine⟨_,rfl,?_⟩
 rw[Ma]
 apply Z4 (vn:=.map none) (vp:=.slice none 0 0) (vg:=.pointer none)
 have h2:=give_none (ba:=ba) (sl_nil (E:=3) (sz:=1) hs (by omega))
 have hs:=named_no (c:=fun _=>0) h2
 ((with_reducible apply Sat.fin hs);(focus((repeat(first|with_reducible exact Ql|with_reducible exact Qh|with_reducible apply Qb|exact Qh|with_reducible apply Qk));done)))
def ZC (h:Haz)(s:Scn):Bool×Scn:=
 let k:=if s.at_+1=s.record then s.at_+2 else s.at_+1
 if k<h.c.R then (false,{ s with at_:=k,stage:=0 })
 else if (h.lists.getD s.record.toNat []).length=0 then (true,{ s with at_:=0,named:=fun _=>0,hasMap:=true,stage:=6 })
 else (false,{ s with at_:=0,named:=fun _=>0,hasMap:=true,stage:=3 })
end
end Go.Proofs.YtjagadldibbbbaaGreat
