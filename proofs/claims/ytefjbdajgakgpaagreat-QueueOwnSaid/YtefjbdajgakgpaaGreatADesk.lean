/-
  The machine's desk.
-/
import Derived.Test.YtefjbdajgakgpaaGreatAWord1
set_option linter.all false
namespace Go.Proofs.YtefjbdajgakgpaaGreat
open Go.RowKit Hp
set_option maxRecDepth 100000
set_option maxHeartbeats 1000000
structure Shf where
 move:Int
 thread:Int
 slot:Int
 fr:Int
 to:Int
abbrev Shf.e (s:Shf):List Value:=[.int .i64 s.move,.int .i64 s.thread,.int .i64 s.slot,.int .i64 s.fr,.int .i64 s.to]
structure Cll where
 thread:Int
 op:Int
 arg:Int
 data:Int
 begin_:Int
 end_:Int
 point:Int
 kind:Int
 value:Int
abbrev Cll.e (c:Cll):List Value:=[.int .i64 c.thread,.int .i64 c.op,.int .i64 c.arg,.int .i64 c.data,.int .i64 c.begin_,.int .i64 c.end_,.int .i64 c.point,.int .i64 c.kind,.int .i64 c.value]
structure Sea where
 task:Value
 ready:Bool
 last:Int
 kind:Int
 value:Int
abbrev Sea.e (s:Sea):List Value:=[s.task,.bool s.ready,.int .i64 s.last,.int .i64 s.kind,.int .i64 s.value]
structure Mch where
 mem:Mem
 thread:Int
 now:Int
 cur:Option (Nat×Nat)
 used:Bool
 shifts:List Shf
 kit:Value
 vs:Value
 vc:Value
 seats:List Sea
 moves:Int
 calls:List Cll
structure CurOk (cur:Option (Nat×Nat))(vs vc call told:Value):Prop where
 no:cur=none→call=.pointer none∧told=.pointer none
 yes:∀i t,cur=some (i,t)→(∃b off,IsAt vc b off∧call=.pointer (some ⟨b,off+i*9,none⟩))∧(∃b off,IsAt vs b off∧told=.pointer (some ⟨b,off+t*5+3,none⟩))
def MchR (b bm:Nat)(m:Mch):Zb:=ex fun vh=>ex fun call=>ex fun told=>pu (CurOk m.cur m.vs m.vc call told) *
 (pt b (.cells #[.pointer (some ⟨bm,0,none⟩),.int .i64 m.thread,.int .i64 m.now,call,told,.bool m.used,vh,m.kit,m.vs,.int .i64 m.moves,m.vc] 173)*(MemR bm m.mem*(sl 102 5 (m.shifts.map Shf.e) vh*(sl 175 5 (m.seats.map Sea.e) m.vs*sl 59 9 (m.calls.map Cll.e) m.vc))))
theorem mchR {O w:World}{b bm:Nat}{m:Mch}{R:Zb}:Sat O w (MchR b bm m*R)↔∃vh call told,CurOk m.cur m.vs m.vc call told∧Sat O w (pt b (.cells #[.pointer (some ⟨bm,0,none⟩),.int .i64 m.thread,.int .i64 m.now,call,told,.bool m.used,vh,m.kit,m.vs,.int .i64 m.moves,m.vc] 173)*(MemR bm m.mem*(sl 102 5 (m.shifts.map Shf.e) vh*(sl 175 5 (m.seats.map Sea.e) m.vs*(sl 59 9 (m.calls.map Cll.e) m.vc*R))))):=by
 unfold MchR
 simp only[ZA,Ma,Zw]
theorem QW {O w:World}{b bm:Nat}{m:Mch}{R:Zb}{vh call told:Value}(hc:CurOk m.cur m.vs m.vc call told)(h:Sat O w (pt b (.cells #[.pointer (some ⟨bm,0,none⟩),.int .i64 m.thread,.int .i64 m.now,call,told,.bool m.used,vh,m.kit,m.vs,.int .i64 m.moves,m.vc] 173)*(MemR bm m.mem*(sl 102 5 (m.shifts.map Shf.e) vh*(sl 175 5 (m.seats.map Sea.e) m.vs*(sl 59 9 (m.calls.map Cll.e) m.vc*R)))))):Sat O w (MchR b bm m*R):=mchR.2 ⟨_,_,_,hc,h⟩
attribute [irreducible] MchR
def DkR (d b bm:Nat)(m:Mch):Zb:=MchR b bm m*pt d (.cells #[.pointer (some ⟨b,0,none⟩)] 227)
theorem dkR {O w:World}{d b bm:Nat}{m:Mch}{R:Zb}:Sat O w (DkR d b bm m*R)↔Sat O w (MchR b bm m*(pt d (.cells #[.pointer (some ⟨b,0,none⟩)] 227)*R)):=by
 unfold DkR;rw[Ma]
theorem dkR_mk {O w:World}{d b bm:Nat}{m:Mch}{R:Zb}{vh call told:Value}(hc:CurOk m.cur m.vs m.vc call told)(h:Sat O w (pt b (.cells #[.pointer (some ⟨bm,0,none⟩),.int .i64 m.thread,.int .i64 m.now,call,told,.bool m.used,vh,m.kit,m.vs,.int .i64 m.moves,m.vc] 173)*(MemR bm m.mem*(sl 102 5 (m.shifts.map Shf.e) vh*(sl 175 5 (m.seats.map Sea.e) m.vs*(sl 59 9 (m.calls.map Cll.e) m.vc*(pt d (.cells #[.pointer (some ⟨b,0,none⟩)] 227)*R))))))):Sat O w (DkR d b bm m*R):=
 dkR.2 (QW hc h)
attribute [irreducible] DkR
section
end
theorem desk_open (d b bm:Nat)(m:Mch)(i:Nat)(hu:m.used=false)(hi:i<m.mem.words.length) :
  Zh Tryz.prog 158 #[.pointer (some ⟨d,0,none⟩),.int .i64 (i:Int)] (DkR d b bm m) (.bool true) (DkR d b bm { m with used:=true }):=by
 intro O w F hs
 (obtain⟨vh,call,told,hcur,hs⟩:=mchR.1 (dkR.1 hs))
 rw[hu]at hs
 have hz:=Lh (mem_size bm m.mem)
 have h0:decide ((i:Int)<0)=false:=by simp
 have h1:decide ((i:Int)≥(m.mem.words.length:Int))=false:=by simp;omega
 go_enter Tryz.func158,Tryz.ntmps158
 go_wp2_with (first|(first|((with_reducible apply Za hs);exact Ii;rfl;(with_reducible repeat first|exact Qh|apply Qk);rfl;rfl;(simp only[Uc,Uz]))|((with_reducible apply Zt hs);exact Ii;rfl;rfl;(with_reducible repeat first|exact Qh|apply Qk);(rfl);(exact Vb rfl);rfl;clear hs;intro w hs;simp only[Yg,Uc,Uz]at hs))|(go_at_call 164;((refine(hz.out).at hs (by (with_reducible repeat first|exact Qh|apply Qk)) ?_);clear hs;intro w hs;(try simp only[Em,Ma]at hs))))
 (go_ret)
 refine⟨rfl,?_⟩
 (apply dkR_mk;exact hcur;((try simp only[Yh,Yi,Yj,Yk,Yl]);(try simp only[Yh,Yi,Yj,Yk,Yl]at hs);((with_reducible apply Sat.fin hs);(with_reducible exact Ql))))
theorem desk_thread (d b bm:Nat)(m:Mch):Zh Tryz.prog 162 #[.pointer (some ⟨d,0,none⟩)] (DkR d b bm m) (.int .i64 m.thread) (DkR d b bm m):=by
 intro O w F hs
 (obtain⟨vh,call,told,hcur,hs⟩:=mchR.1 (dkR.1 hs))
 go_enter Tryz.func162,Tryz.ntmps162
 go_wp2_with ((with_reducible apply Za hs);exact Ii;rfl;(with_reducible repeat first|exact Qh|apply Qk);rfl;rfl;(simp only[Uc,Uz]))
 (go_ret)
 refine⟨rfl,?_⟩
 (apply dkR_mk;exact hcur;((try simp only[Yh,Yi,Yj,Yk,Yl]);(try simp only[Yh,Yi,Yj,Yk,Yl]at hs);((with_reducible apply Sat.fin hs);(with_reducible exact Ql))))
theorem desk_now (d b bm:Nat)(m:Mch):Zh Tryz.prog 148 #[.pointer (some ⟨d,0,none⟩)] (DkR d b bm m) (.int .i64 m.now) (DkR d b bm m):=by
 intro O w F hs
 (obtain⟨vh,call,told,hcur,hs⟩:=mchR.1 (dkR.1 hs))
 go_enter Tryz.func148,Tryz.ntmps148
 go_wp2_with ((with_reducible apply Za hs);exact Ii;rfl;(with_reducible repeat first|exact Qh|apply Qk);rfl;rfl;(simp only[Uc,Uz]))
 (go_ret)
 refine⟨rfl,?_⟩
 (apply dkR_mk;exact hcur;((try simp only[Yh,Yi,Yj,Yk,Yl]);(try simp only[Yh,Yi,Yj,Yk,Yl]at hs);((with_reducible apply Sat.fin hs);(with_reducible exact Ql))))
structure Acs (m:Mch)(i:Nat)(u:Int):Prop where
 used:m.used=false
 at_:m.mem.words[i]? = some u
 log:m.mem.log.length<4294967296
 ahead:m.mem.ahead.length<4294967296
def Mch.load (m:Mch)(i:Nat)(u:Int):Mch:={ m with used:=true,mem:={ m.mem with log:=m.mem.log++[⟨m.mem.move,m.thread,1,i,0,0,u⟩],ahead:=m.mem.ahead++[u] } }
def Mch.store (m:Mch)(i:Nat)(u z:Int):Mch:={ m with used:=true,mem:={ m.mem with words:=m.mem.words.set i z,log:=m.mem.log++[⟨m.mem.move,m.thread,2,i,0,z,0⟩],ahead:=m.mem.ahead++[u] } }
def Mch.swap (m:Mch)(i:Nat)(u o z:Int):Mch:={ m with used:=true,mem:={ m.mem with words:=if u=o then m.mem.words.set i z else m.mem.words,log:=m.mem.log++[⟨m.mem.move,m.thread,3,i,o,z,u⟩],ahead:=m.mem.ahead++[u] } }
def Mch.shift (m:Mch)(s f t:Int):Mch:={ m with shifts:=m.shifts++[⟨m.now,m.thread,s,f,t⟩] }
theorem ZZ (d b bm:Nat)(m:Mch)(i:Nat)(u:Int)(h:Acs m i u) :
  Zh Tryz.prog 144 #[.pointer (some ⟨d,0,none⟩),.int .i64 (i:Int)] (DkR d b bm m) (.int .u64 u) (DkR d b bm (m.load i u)):=by
 intro O w F hs
 have ho:=Lh (desk_open d b bm m i h.used (List.getElem?_eq_some_iff.1 h.at_).1)
 have hl:=Lh (mem_load bm m.mem m.thread i u h.at_ h.log h.ahead)
 go_enter Tryz.func144,Tryz.ntmps144
 go_wp2_with (first|(first|(first|(with_reducible refine NQ.mk ?_)|((with_reducible apply Zd);rfl;rfl)|((with_reducible apply Zm);rfl)|(with_reducible refine EQ.mk ?_ ?_)|(with_reducible exact Zf)|(with_reducible refine Ze ?_))|((with_reducible apply Za hs);exact Ii;rfl;(with_reducible repeat first|exact Qh|apply Qk);rfl;rfl;(simp only[Uc,Uz])))|(go_at_call 158;((refine(ho.out).at hs (by (with_reducible exact Qh)) ?_);clear hs;intro w hs;(try simp only[Em,Ma]at hs));(obtain⟨vh,call,told,hcur,hs⟩:=mchR.1 (dkR.1 hs));simp only[]at hs)|((with_reducible refine Wp (id:=3) (Paz (Pbz (Pcz [.eff 15 [],.neu 16,.neu 17,.neu 18,.neu 19,.neu 20]))) hs rfl ?_ ?_);kernel_rfl;clear hs;intro w hs)|(go_at_call 160;((refine(hl.out).at hs (by (with_reducible repeat first|exact Qh|apply Qk)) ?_);clear hs;intro w hs;(try simp only[Em,Ma]at hs))))
 (go_ret)
 refine⟨rfl,?_⟩
 unfold Mch.load
 (apply dkR_mk;exact hcur;((try simp only[Yh,Yi,Yj,Yk,Yl]);(try simp only[Yh,Yi,Yj,Yk,Yl]at hs);((with_reducible apply Sat.fin hs);(with_reducible repeat first|exact Ql|exact Qh|apply Qb|apply Qk))))
theorem ZP (d b bm:Nat)(m:Mch)(i:Nat)(u z:Int)(h:Acs m i u) :
  Zh Tryz.prog 141 #[.pointer (some ⟨d,0,none⟩),.int .i64 (i:Int),.int .u64 z] (DkR d b bm m) (.tuple #[]) (DkR d b bm (m.store i u z)):=by
 intro O w F hs
 have ho:=Lh (desk_open d b bm m i h.used (List.getElem?_eq_some_iff.1 h.at_).1)
 have hl:=Lh (mem_store bm m.mem m.thread i u z h.at_ h.log h.ahead)
 go_enter Tryz.func141,Tryz.ntmps141
 go_wp2_with (first|(first|(first|(with_reducible refine NQ.mk ?_)|((with_reducible apply Zd);rfl;rfl)|((with_reducible apply Zm);rfl)|(with_reducible refine EQ.mk ?_ ?_)|(with_reducible exact Zf)|(with_reducible refine Ze ?_))|((with_reducible apply Za hs);exact Ii;rfl;(with_reducible repeat first|exact Qh|apply Qk);rfl;rfl;(simp only[Uc,Uz])))|(go_at_call 158;((refine(ho.out).at hs (by (with_reducible exact Qh)) ?_);clear hs;intro w hs;(try simp only[Em,Ma]at hs));(obtain⟨vh,call,told,hcur,hs⟩:=mchR.1 (dkR.1 hs));simp only[]at hs)|((with_reducible refine Wp (id:=1) (Paz (Pbz (Pcz [.neu 15,.eff 16 []]))) hs rfl ?_ ?_);kernel_rfl;clear hs;intro w hs)|(go_at_call 159;((refine(hl.out).at hs (by (with_reducible repeat first|exact Qh|apply Qk)) ?_);clear hs;intro w hs;(try simp only[Em,Ma]at hs))))
 (go_end0)
 refine⟨rfl,?_⟩
 unfold Mch.store
 (apply dkR_mk;exact hcur;((try simp only[Yh,Yi,Yj,Yk,Yl]);(try simp only[Yh,Yi,Yj,Yk,Yl]at hs);((with_reducible apply Sat.fin hs);(with_reducible repeat first|exact Ql|exact Qh|apply Qb|apply Qk))))
theorem Q2 (d b bm:Nat)(m:Mch)(i:Nat)(u o z:Int)(h:Acs m i u) :
  Zh Tryz.prog 146 #[.pointer (some ⟨d,0,none⟩),.int .i64 (i:Int),.int .u64 o,.int .u64 z] (DkR d b bm m) (.bool (decide (u=o))) (DkR d b bm (m.swap i u o z)):=by
 intro O w F hs
 have ho:=Lh (desk_open d b bm m i h.used (List.getElem?_eq_some_iff.1 h.at_).1)
 have hl:=Lh (mem_swap bm m.mem m.thread i u o z h.at_ h.log h.ahead)
 go_enter Tryz.func146,Tryz.ntmps146
 go_wp2_with (first|(first|(first|(with_reducible refine NQ.mk ?_)|((with_reducible apply Zd);rfl;rfl)|((with_reducible apply Zm);rfl)|(with_reducible refine EQ.mk ?_ ?_)|(with_reducible exact Zf)|(with_reducible refine Ze ?_))|((with_reducible apply Za hs);exact Ii;rfl;(with_reducible repeat first|exact Qh|apply Qk);rfl;rfl;(simp only[Uc,Uz])))|(go_at_call 158;((refine(ho.out).at hs (by (with_reducible exact Qh)) ?_);clear hs;intro w hs;(try simp only[Em,Ma]at hs));(obtain⟨vh,call,told,hcur,hs⟩:=mchR.1 (dkR.1 hs));simp only[]at hs)|((with_reducible refine Wp (id:=3) (Paz (Pbz (Pcz [.neu 15,.neu 16,.eff 17 [],.neu 18,.neu 19,.neu 20,.neu 21,.neu 22,.neu 23,.neu 24]))) hs rfl ?_ ?_);kernel_rfl;clear hs;intro w hs)|(go_at_call 161;((refine(hl.out).at hs (by (with_reducible repeat first|exact Qh|apply Qk)) ?_);clear hs;intro w hs;(try simp only[Em,Ma]at hs))))
 (go_ret)
 refine⟨rfl,?_⟩
 unfold Mch.swap
 (apply dkR_mk;exact hcur;((try simp only[Yh,Yi,Yj,Yk,Yl]);(try simp only[Yh,Yi,Yj,Yk,Yl]at hs);((with_reducible apply Sat.fin hs);(with_reducible repeat first|exact Ql|exact Qh|apply Qb|apply Qk))))
theorem desk_shift (d b bm:Nat)(m:Mch)(s f t:Int)(h:m.shifts.length<4294967296) :
  Zh Tryz.prog 163 #[.pointer (some ⟨d,0,none⟩),.int .i64 s,.int .i64 f,.int .i64 t] (DkR d b bm m) (.tuple #[]) (DkR d b bm (m.shift s f t)):=by
 intro O w F hs
 (obtain⟨vh,call,told,hcur,hs⟩:=mchR.1 (dkR.1 hs))
 go_enter Tryz.func163,Tryz.ntmps163
 go_wp2_with (first|(first|(first|(with_reducible refine NQ.mk ?_)|((with_reducible apply Zd);rfl;rfl)|((with_reducible apply Zm);rfl)|(with_reducible refine EQ.mk ?_ ?_)|(first|(with_reducible exact Zf)|((with_reducible refine Zl ?_ ?_);(focus((with_reducible apply ZC);rfl;rfl))))|(with_reducible refine Ze ?_)|(show ZW _ _ _;rfl))|((with_reducible apply Za hs);exact Ii;rfl;(with_reducible repeat first|exact Qh|apply Qk);rfl;rfl;(simp only[Uc,Uz]))|((with_reducible apply Zt hs);exact Ii;rfl;rfl;(with_reducible repeat first|exact Qh|apply Qk);(apply Qs;apply hs.pull;(with_reducible exact Qh));(exact Vb rfl);rfl;clear hs;intro w hs;simp only[Yg,Uc,Uz]at hs)|((with_reducible apply wl_bs hs);exact Ii;exact Ii;rfl;rfl;rfl;rfl;(exact Vb rfl);rfl;clear hs;intro w v hs;(simp only[Uc,Uz]))|((with_reducible apply QY hs);exact Ii;exact Ii;rfl;rfl;(focus with_reducible (repeat first|exact Qh|apply Qk);done);(with_reducible exact Qh);(simp only[Wm,Ws,Wa,Wc,Wn,Wr]at *;omega);(exact Vb rfl);rfl;clear hs;intro w v hs;(simp only[Uc,Uz])))|((with_reducible refine Wp (id:=1) (Paz (Pbz (Pcz (Pdz (Pez [.neu 25,.neu 26,.neu 27,.neu 28,.eff 29 [0,1,2,3,4,5,6,7,8,9,10],.eff 30 [0,1,2,3],.neu 31,.neu 32,.eff 33 []]))))) hs rfl ?_ ?_);kernel_rfl;clear hs;intro w hs))
 (go_end0)
 refine⟨rfl,?_⟩
 unfold Mch.shift
 (apply dkR_mk;exact hcur;((try simp only[Yh,Yi,Yj,Yk,Yl]);(try simp only[Yh,Yi,Yj,Yk,Yl]at hs);((with_reducible apply Sat.fin hs);(with_reducible repeat first|exact Ql|exact Qh|apply Qb|apply Qk))))
def Mch.point (m:Mch)(i:Nat)(c:Cll)(z:Int):Mch:={ m with calls:=m.calls.set i { c with point:=z } }
def Mch.answer (m:Mch)(t:Nat)(s:Sea)(k v:Int):Mch:={ m with seats:=m.seats.set t { s with kind:=k,value:=v } }
theorem Jb (d b bm:Nat)(m:Mch)(i t:Nat)(c:Cll)(z:Int)(h:m.cur=some (i,t))(hi:m.calls[i]? = some c) :
  Zh Tryz.prog 147 #[.pointer (some ⟨d,0,none⟩),.int .i64 z] (DkR d b bm m) (.tuple #[]) (DkR d b bm (m.point i c z)):=by
 intro O w F hs
 (obtain⟨vh,call,told,hcur,hs⟩:=mchR.1 (dkR.1 hs))
 obtain⟨⟨pc,oc,hc1,hc2⟩,⟨ps,os_,ht1,ht2⟩⟩:=hcur.yes i t h
 rw[hc2]at hs
 go_enter Tryz.func147,Tryz.ntmps147
 go_wp2_with (first|((with_reducible apply Za hs);exact Ii;rfl;(with_reducible repeat first|exact Qh|apply Qk);rfl;rfl;(simp only[Uc,Uz]))|((with_reducible apply wl_stS hs);exact Ii;rfl;rfl;assumption;(with_reducible repeat first|exact Qh|apply Qk);rfl;(exact Zc (by assumption));(exact Vb rfl);(rfl);rfl;clear hs;intro w hs))
 (go_end0)
 refine⟨rfl,?_⟩
 subst hc2
 unfold Mch.point
 (apply dkR_mk;exact hcur;((try simp only[Yh,Yi,Yj,Yk,Yl]);(try simp only[Yh,Yi,Yj,Yk,Yl]at hs);((with_reducible apply Sat.fin hs);(focus((repeat(first|with_reducible exact Ql|with_reducible exact Qh|with_reducible apply Qb|exact Qh|with_reducible apply Qk));done)))))
theorem Qd (d b bm:Nat)(m:Mch)(i t:Nat)(s:Sea)(k z:Int)(h:m.cur=some (i,t))(hi:m.seats[t]? = some s) :
  Zh Tryz.prog 150 #[.pointer (some ⟨d,0,none⟩),.agg #[.int .i64 k,.int .i64 z]] (DkR d b bm m) (.tuple #[]) (DkR d b bm (m.answer t s k z)):=by
 intro O w F hs
 (obtain⟨vh,call,told,hcur,hs⟩:=mchR.1 (dkR.1 hs))
 obtain⟨⟨pc,oc,hc1,hc2⟩,⟨ps,os_,ht1,ht2⟩⟩:=hcur.yes i t h
 rw[ht2]at hs
 go_enter Tryz.func150,Tryz.ntmps150
 go_wp2_with (first|(first|(first|(with_reducible refine NQ.mk ?_)|((with_reducible apply Zd);rfl;rfl)|((with_reducible apply Zm);rfl)|(with_reducible refine EQ.mk ?_ ?_)|(with_reducible exact Zf)|(with_reducible refine Ze ?_))|((with_reducible apply Za hs);exact Ii;rfl;(with_reducible repeat first|exact Qh|apply Qk);rfl;rfl;(simp only[Uc,Uz]))|((with_reducible apply Qg hs);exact Ii;rfl;(with_reducible exact Qh);rfl;rfl;(simp only[Uc,Uz]))|((with_reducible apply Zo hs);rfl;rfl;rfl;clear hs;intro w b hs;(simp only[Uc,Uz]))|((with_reducible apply Q4 hs);exact Ii;rfl;rfl;assumption;(with_reducible repeat first|exact Qh|apply Qk);rfl;(exact Zc (by assumption));(exact Vb rfl);rfl;rfl;rfl;rfl;clear hs;intro w hs;simp only[List.take_succ_cons,List.take_zero,List.drop_succ_cons,List.drop_zero,List.cons_append,List.nil_append,List.append_nil]at hs))|((with_reducible refine Wp (id:=2) (Paz [.neu 5,.neu 6,.neu 7,.neu 8,.eff 9 []]) hs rfl ?_ ?_);kernel_rfl;clear hs;intro w hs))
 (go_end0)
 refine⟨rfl,?_⟩
 subst ht2
 unfold Mch.answer
 (apply dkR_mk;exact hcur;((try simp only[Yh,Yi,Yj,Yk,Yl]);(try simp only[Yh,Yi,Yj,Yk,Yl]at hs);((with_reducible apply Sat.fin hs);(with_reducible repeat first|exact Ql|exact Qh|apply Qb|apply Qk))))
end Go.Proofs.YtefjbdajgakgpaaGreat
