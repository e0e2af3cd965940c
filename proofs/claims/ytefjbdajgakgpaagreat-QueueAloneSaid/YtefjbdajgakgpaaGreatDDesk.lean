import Derived.Test.YtefjbdajgakgpaaGreatDTypes
import Derived.Laws.BitsAllLaws
set_option linter.all false
namespace Go.Proofs.YtefjbdajgakgpaaGreat
open Go.RowKit Hp
set_option maxRecDepth 100000
set_option maxHeartbeats 1000000
section
abbrev eI (z:Int):List Value:=[.int .i64 z]
abbrev eU (z:Int):List Value:=[.int .u64 z]
structure Acc where
 move:Int
 thread:Int
 kind:Int
 addr:Int
 old:Int
 new:Int
 saw:Int
abbrev Acc.e (a:Acc):List Value:=[.int .i64 a.move,.int .i64 a.thread,.int .i64 a.kind,.int .i64 a.addr,.int .u64 a.old,.int .u64 a.new,.int .u64 a.saw]
structure Mem where
 words:List Int
 log:List Acc
 ahead:List Int
 move:Int
def MemR (b:Nat)(m:Mem):Zc:=ex fun vw=>ex fun vl=>ex fun va=>
 pt b (.cells #[vw,vl,va,.int .i64 m.move] 218)*(sl 79 1 (m.words.map eU) vw*(sl 87 7 (m.log.map Acc.e) vl*sl 79 1 (m.ahead.map eU) va))
theorem memR {O w:World}{b:Nat}{m:Mem}{R:Zc}:Sat O w (MemR b m*R)↔∃vw vl va,Sat O w (pt b (.cells #[vw,vl,va,.int .i64 m.move] 218)*(sl 79 1 (m.words.map eU) vw*(sl 87 7 (m.log.map Acc.e) vl*(sl 79 1 (m.ahead.map eU) va*R)))):=by
 unfold MemR
 simp only[ZG,Ma]
theorem memR_mk {O w:World}{b:Nat}{m:Mem}{R:Zc}{vw vl va:Value}(h:Sat O w (pt b (.cells #[vw,vl,va,.int .i64 m.move] 218)*(sl 79 1 (m.words.map eU) vw*(sl 87 7 (m.log.map Acc.e) vl*(sl 79 1 (m.ahead.map eU) va*R))))):Sat O w (MemR b m*R):=memR.2 ⟨_,_,_,h⟩
attribute [irreducible] MemR
theorem mem_size (b:Nat)(m:Mem):Zk Tryz.prog 164 #[.pointer (some ⟨b,0,none⟩)] (MemR b m) (.int .i64 (m.words.length:Int)) (MemR b m):=by
 intro O w F hs
 obtain⟨vw,vl,va,hs⟩:=memR.1 hs
 go_enter Tryz.func164,Tryz.ntmps164
 go_wp2_with (first|((with_reducible apply Zb hs);exact Ii;rfl;(with_reducible exact Qh);rfl;rfl;simp only[Uc,Uz])|((with_reducible apply ZS hs);exact Ii;rfl;(with_reducible repeat first|exact Qh|apply Qk);rfl;simp only[Uc,Uz]))
 go_ret
 refine⟨by simp,?_⟩
 exact memR.2 ⟨_,_,_,hs⟩
theorem mem_has (b:Nat)(m:Mem)(i:Nat)(hi:i<m.words.length):Zk Tryz.prog 165 #[.pointer (some ⟨b,0,none⟩),.int .i64 (i:Int)] (MemR b m) (.bool true) (MemR b m):=by
 intro O w F hs
 have hz:decide ((i:Int)≥0)=true:=by simp
 have hl:decide ((i:Int)<(m.words.length:Int))=true:=by simp;exact hi
 go_enter Tryz.func165,Tryz.ntmps165
 go_wp2_with (go_at_call 164;refine(mem_size b m).at hs (by (with_reducible exact Qh)) ?_;clear hs;intro w hs)
 go_ret
 exact⟨by simp[hi],hs⟩
abbrev Acc.v (a:Acc):Value:=.agg #[.int .i64 a.move,.int .i64 a.thread,.int .i64 a.kind,.int .i64 a.addr,.int .u64 a.old,.int .u64 a.new,.int .u64 a.saw]
theorem mem_note (b:Nat)(m:Mem)(a:Acc)(z:Int)(h1:m.log.length<4294967296)(h2:m.ahead.length<4294967296) :
  Zk Tryz.prog 166 #[.pointer (some ⟨b,0,none⟩),a.v,.int .u64 z] (MemR b m) (.tuple #[]) (MemR b { m with log:=m.log++[{ a with move:=m.move }],ahead:=m.ahead++[z] }):=by
 intro O w F hs
 obtain⟨vw,vl,va,hs⟩:=memR.1 hs
 go_enter Tryz.func166,Tryz.ntmps166
 go_wp2_with (first|(with_reducible first|apply NQ.mk|apply EQ.mk|exact Zg|apply Zj)|((with_reducible apply Zi);rfl;rfl)|((with_reducible apply Zo);rfl)|((with_reducible refine Zn ?_ ?_);focus((with_reducible apply ZI);rfl;rfl))|(show Qd _ _ _;rfl)|((with_reducible apply Zb hs);exact Ii;rfl;(with_reducible repeat first|exact Qh|apply Qk);rfl;rfl;simp only[Uc,Uz])|((with_reducible apply Qy hs);exact Ii;rfl;(with_reducible exact Qh);rfl;rfl;simp only[Uc,Uz])|((with_reducible apply Zv hs);exact Ii;rfl;rfl;(with_reducible repeat first|exact Qh|apply Qk);(first|rfl|(apply QS;apply hs.pull;(with_reducible exact Qh)));exact Vb rfl;rfl;clear hs;intro w hs;simp only[Yg,Uc,Uz]at hs)|((with_reducible apply Zt hs);rfl;rfl;rfl;clear hs;intro w b hs;simp only[Uc,Uz])|((with_reducible apply wl_bs hs);exact Ii;exact Ii;rfl;rfl;rfl;rfl;exact Vb rfl;rfl;clear hs;intro w v hs;simp only[Uc,Uz])|((with_reducible apply JA hs);exact Ii;exact Ii;rfl;rfl;(focus with_reducible (repeat first|exact Qh|apply Qk);done);(with_reducible exact Qh);(simp only[Wm,Ws,Wa,Wc,Wn,Wr]at *;omega);exact Vb rfl;rfl;clear hs;intro w v hs;simp only[Uc,Uz])|((with_reducible refine Wp (id:=2) (Paz [.neu 5,.eff 6 [0,1,2,3,4],.eff 7 [0],.neu 8,.neu 9,.eff 10 []]) hs rfl ?_ ?_);kernel_rfl;clear hs;intro w hs))
 (go_end0)
 refine⟨rfl,?_⟩
 apply memR_mk
 ((try simp only[Yh,Yi,Yj,Yk,Yl]);(try simp only[Yh,Yi,Yj,Yk,Yl]at hs);(with_reducible apply Sat.fin hs;repeat first|exact Ql|exact Qh|apply Qb|apply Qk))
theorem mem_load (b:Nat)(m:Mem)(t:Int)(i:Nat)(u:Int)(hi:m.words[i]? = some u)(h1:m.log.length<4294967296)(h2:m.ahead.length<4294967296) :
  Zk Tryz.prog 160 #[.pointer (some ⟨b,0,none⟩),.int .i64 t,.int .i64 (i:Int)] (MemR b m) (.tuple #[.int .u64 u,.int .i64 0])
   (MemR b { m with log:=m.log++[⟨m.move,t,1,i,0,0,u⟩],ahead:=m.ahead++[u] }):=by
 intro O w F hs
 have hl:i<m.words.length:=(List.getElem?_eq_some_iff.1 hi).1
 have hN:=Lh (mem_note b m ⟨0,t,1,i,0,0,u⟩ u h1 h2)
 have hH:=Lh (mem_has b m i hl)
 go_enter Tryz.func160,Tryz.ntmps160
 go_wp2_with (first|((with_reducible apply Zb hs);exact Ii;rfl;(with_reducible repeat first|exact Qh|apply Qk);rfl;rfl;simp only[Uc,Uz])|((with_reducible apply ZE hs);exact Ii;rfl;assumption;(with_reducible repeat first|exact Qh|apply Qk);rfl;(exact Ze (by assumption));rfl;rfl;simp only[Uc,Uz])|((with_reducible apply Qe hs);exact Ii;exact Ii;rfl;rfl;(with_reducible repeat first|exact Qh|apply Qk);rfl;(simp only[Wm,Ws,Wa,Wc,Wn,Wr]at *;omega);rfl;intro b off hat;simp only[Uc,Uz])|(go_at_call 165;refine hH.out.at hs (by (with_reducible exact Qh)) ?_;clear hs;intro w hs;obtain⟨vw,vl,va,hs⟩:=memR.1 hs)|(go_at_call 166;refine hN.out.at (memR.2 ⟨_,_,_,hs⟩) (by (with_reducible exact Qh)) ?_;clear hs;intro w hs))
 (go_ret2)
 exact⟨rfl,hs⟩
theorem mem_store (b:Nat)(m:Mem)(t:Int)(i:Nat)(u z:Int)(hi:m.words[i]? = some u)(h1:m.log.length<4294967296)(h2:m.ahead.length<4294967296) :
  Zk Tryz.prog 159 #[.pointer (some ⟨b,0,none⟩),.int .i64 t,.int .i64 (i:Int),.int .u64 z] (MemR b m) (.int .i64 0)
   (MemR b { m with words:=m.words.set i z,log:=m.log++[⟨m.move,t,2,i,0,z,0⟩],ahead:=m.ahead++[u] }):=by
 intro O w F hs
 have hl:i<m.words.length:=(List.getElem?_eq_some_iff.1 hi).1
 have hN:=Lh (mem_note b m ⟨0,t,2,i,0,z,0⟩ u h1 h2)
 have hH:=Lh (mem_has b m i hl)
 go_enter Tryz.func159,Tryz.ntmps159
 go_wp2_with (first|((with_reducible apply Zb hs);exact Ii;rfl;(with_reducible repeat first|exact Qh|apply Qk);rfl;rfl;simp only[Uc,Uz])|((with_reducible apply ZE hs);exact Ii;rfl;assumption;(with_reducible repeat first|exact Qh|apply Qk);rfl;(exact Ze (by assumption));rfl;rfl;simp only[Uc,Uz])|((with_reducible apply QO hs);exact Ii;rfl;rfl;assumption;(with_reducible repeat first|exact Qh|apply Qk);rfl;(exact Ze (by assumption));exact Vb rfl;rfl;rfl;clear hs;intro w hs)|((with_reducible apply Qe hs);exact Ii;exact Ii;rfl;rfl;(with_reducible repeat first|exact Qh|apply Qk);rfl;(simp only[Wm,Ws,Wa,Wc,Wn,Wr]at *;omega);rfl;intro b off hat;simp only[Uc,Uz])|(go_at_call 165;refine hH.out.at hs (by (with_reducible exact Qh)) ?_;clear hs;intro w hs;obtain⟨vw,vl,va,hs⟩:=memR.1 hs)|(go_at_call 166;refine hN.out.at (memR.2 ⟨_,_,_,hs⟩) (by (with_reducible exact Qh)) ?_;clear hs;intro w hs;obtain⟨vw,vl,va,hs⟩:=memR.1 hs))
 go_ret
 refine⟨rfl,?_⟩
 apply memR_mk
 ((try simp only[Yh,Yi,Yj,Yk,Yl]);(try simp only[Yh,Yi,Yj,Yk,Yl]at hs);((with_reducible apply Sat.fin hs);(focus((repeat(first|with_reducible exact Ql|with_reducible exact Qh|with_reducible apply Qb|exact Qh|with_reducible apply Qk));done))))
theorem mem_swap (b:Nat)(m:Mem)(t:Int)(i:Nat)(u o z:Int)(hi:m.words[i]? = some u)(h1:m.log.length<4294967296)(h2:m.ahead.length<4294967296) :
  Zk Tryz.prog 161 #[.pointer (some ⟨b,0,none⟩),.int .i64 t,.int .i64 (i:Int),.int .u64 o,.int .u64 z] (MemR b m) (.tuple #[.int .u64 u,.bool (decide (u=o)),.int .i64 0])
   (MemR b { m with words:=if u=o then m.words.set i z else m.words,log:=m.log++[⟨m.move,t,3,i,o,z,u⟩],ahead:=m.ahead++[u] }):=by
 intro O w F hs
 have hl:i<m.words.length:=(List.getElem?_eq_some_iff.1 hi).1
 have hN:=Lh (mem_note b m ⟨0,t,3,i,o,z,u⟩ u h1 h2)
 have hH:=Lh (mem_has b m i hl)
 by_cases hc:u=o
 ·subst hc
  go_enter Tryz.func161,Tryz.ntmps161
  go_wp2_with (first|((with_reducible apply Zb hs);exact Ii;rfl;(with_reducible repeat first|exact Qh|apply Qk);rfl;rfl;simp only[Uc,Uz])|((with_reducible apply ZE hs);exact Ii;rfl;assumption;(with_reducible repeat first|exact Qh|apply Qk);rfl;(exact Ze (by assumption));rfl;rfl;simp only[Uc,Uz])|((with_reducible apply QO hs);exact Ii;rfl;rfl;assumption;(with_reducible repeat first|exact Qh|apply Qk);rfl;(exact Ze (by assumption));exact Vb rfl;rfl;rfl;clear hs;intro w hs)|((with_reducible apply Qe hs);exact Ii;exact Ii;rfl;rfl;(with_reducible repeat first|exact Qh|apply Qk);rfl;(simp only[Wm,Ws,Wa,Wc,Wn,Wr]at *;omega);rfl;intro b off hat;simp only[Uc,Uz])|(go_at_call 165;refine hH.out.at hs (by (with_reducible exact Qh)) ?_;clear hs;intro w hs;obtain⟨vw,vl,va,hs⟩:=memR.1 hs)|(go_at_call 166;refine hN.out.at (memR.2 ⟨_,_,_,hs⟩) (by (with_reducible exact Qh)) ?_;clear hs;intro w hs;obtain⟨vw,vl,va,hs⟩:=memR.1 hs))
  (go_ret3)
  refine⟨by simp,?_⟩
  apply memR_mk
  simp only[if_true]
  ((try simp only[Yh,Yi,Yj,Yk,Yl]);(try simp only[Yh,Yi,Yj,Yk,Yl]at hs);((with_reducible apply Sat.fin hs);(focus((repeat(first|with_reducible exact Ql|with_reducible exact Qh|with_reducible apply Qb|exact Qh|with_reducible apply Qk));done))))
 ·have hc':decide (u=o)=false:=by simpa using hc
  go_enter Tryz.func161,Tryz.ntmps161
  go_wp2_with (first|((with_reducible apply Zb hs);exact Ii;rfl;(with_reducible repeat first|exact Qh|apply Qk);rfl;rfl;simp only[Uc,Uz])|((with_reducible apply ZE hs);exact Ii;rfl;assumption;(with_reducible repeat first|exact Qh|apply Qk);rfl;(exact Ze (by assumption));rfl;rfl;simp only[Uc,Uz])|((with_reducible apply Qe hs);exact Ii;exact Ii;rfl;rfl;(with_reducible repeat first|exact Qh|apply Qk);rfl;(simp only[Wm,Ws,Wa,Wc,Wn,Wr]at *;omega);rfl;intro b off hat;simp only[Uc,Uz])|(go_at_call 165;refine hH.out.at hs (by (with_reducible exact Qh)) ?_;clear hs;intro w hs;obtain⟨vw,vl,va,hs⟩:=memR.1 hs)|(go_at_call 166;refine hN.out.at (memR.2 ⟨_,_,_,hs⟩) (by (with_reducible exact Qh)) ?_;clear hs;intro w hs;obtain⟨vw,vl,va,hs⟩:=memR.1 hs))
  (go_ret3)
  refine⟨by simp[hc'],?_⟩
  apply memR_mk
  simp only[hc,if_false]
  ((try simp only[Yh,Yi,Yj,Yk,Yl]);(try simp only[Yh,Yi,Yj,Yk,Yl]at hs);((with_reducible apply Sat.fin hs);(with_reducible exact Ql)))
theorem mem_now (b:Nat)(m:Mem)(t:Int):Zk Tryz.prog 106 #[.pointer (some ⟨b,0,none⟩),.int .i64 t] (MemR b m) (.tuple #[]) (MemR b { m with move:=t }):=by
 intro O w F hs
 obtain⟨vw,vl,va,hs⟩:=memR.1 hs
 go_enter Tryz.func106,Tryz.ntmps106
 go_wp2_with ((with_reducible apply Zv hs);exact Ii;rfl;rfl;(with_reducible exact Qh);rfl;exact Vb rfl;rfl;clear hs;intro w hs;simp only[Yg,Uc,Uz]at hs)
 (go_end0)
 refine⟨rfl,?_⟩
 apply memR_mk
 ((try simp only[Yh,Yi,Yj,Yk,Yl]);(try simp only[Yh,Yi,Yj,Yk,Yl]at hs);((with_reducible apply Sat.fin hs);(with_reducible exact Ql)))
end
section
theorem and_low (n:Nat)(h:n<18446744073709551616):bits .and .u64 (n:Int) 4294967295=((n%4294967296:Nat):Int):=by
 have:=u64_and_nat n 4294967295 h (by decide)
 rw[show((4294967295:Nat):Int)=4294967295 from rfl]at this
 rw[this,show(4294967295:Nat)=2 ^ 32-1 from rfl,Nat.and_two_pow_sub_one_eq_mod]
theorem and_mark (n:Nat)(h:n<18446744073709551616):bits .and .u64 (n:Int) 4294967296=((n / 4294967296%2*4294967296:Nat):Int):=by
 have:=u64_and_nat n 4294967296 h (by decide)
 rw[show((4294967296:Nat):Int)=4294967296 from rfl]at this
 rw[this,show(4294967296:Nat)=2 ^ 32 from rfl]
 congr 1
 apply Nat.eq_of_testBit_eq
 intro j
 rw[Nat.testBit_and,Nat.testBit_two_pow,Nat.testBit_mul_two_pow,show(n / 2 ^ 32%2)=n / 2 ^ 32%2 ^ 1 from rfl,Nat.testBit_mod_two_pow,Nat.testBit_div_two_pow]
 by_cases h:32=j
 ·subst h;simp
 ·by_cases h2:32≤j
  ·have:¬(j-32<1):=by omega
   simp[h,this]
  ·simp[h,h2]
theorem or_low (t n:Nat)(h:t<4294967296)(h2:n<4294967296):bits .or .u64 ((t*4294967296:Nat):Int) (n:Int)=((t*4294967296+n:Nat):Int):=by
 rw[u64_or_nat _ _ (by omega) (by omega),show(4294967296:Nat)=2 ^ 32 from rfl,Nat.mul_comm,Nat.two_pow_add_eq_or_of_lt (by simpa using h2)]
theorem word_unlink (n:Nat)(h1:n<8589934592)(h2:n%4294967296≤2147483647) :
  Zk Tryz.prog 156 #[.int .u64 (n:Int)] emp (.tuple #[.int .i64 ((n:Int)%4294967296-1),.bool (decide ((n:Int) / 4294967296%2=1)),.int .i64 0]) emp:=by
 intro O w F hs
 have e1:=and_low n (by omega)
 have e2:=and_mark n (by omega)
 go_enter Tryz.func156,Tryz.ntmps156
 go_wp2_with (fail)
 (go_ret3)
 refine⟨?_,by ((with_reducible apply Sat.fin hs);(with_reducible exact Ql))⟩
 have e3:(((n:Int) / 4294967296%2*4294967296) != 0)=decide ((n:Int) / 4294967296%2=1):=by
  rcases(show(n:Int) / 4294967296%2=0∨(n:Int) / 4294967296%2=1 by omega) with e|e<;>rw[e]<;>decide
 show Ending.returned (.tuple #[.int .i64 ((n:Int)%4294967296-1),.bool (((n:Int) / 4294967296%2*4294967296) != 0),.int .i64 0])=_
 rw[e3]
theorem Ju (u:Int)(h0:0≤u)(h1:u≤2147483647) :
  Zk Tryz.prog 156 #[.int .u64 u] emp (.tuple #[.int .i64 (u-1),.bool false,.int .i64 0]) emp:=by
 have:=word_unlink u.toNat (by omega) (by omega)
 rw[Int.toNat_of_nonneg h0]at this
 rw[show u%4294967296=u by omega,show u / 4294967296%2=0 by omega]at this
 exact this
theorem word_link (s:Int)(h0 : -1≤s)(h1:s≤2147483646) :
  Zk Tryz.prog 153 #[.int .i64 s,.bool false] emp (.tuple #[.int .u64 (s+1),.int .i64 0]) emp:=by
 intro O w F hs
 go_enter Tryz.func153,Tryz.ntmps153
 go_wp2_with (fail)
 (go_ret2)
 exact⟨rfl,by ((with_reducible apply Sat.fin hs);(with_reducible exact Ql))⟩
theorem word_unhead (u:Int)(h0:0≤u)(h1:u<18446744073709551616)(h2:u%4294967296≤2147483647) :
  Zk Tryz.prog 155 #[.int .u64 u] emp (.tuple #[.int .u32 (u / 4294967296),.int .i64 (u%4294967296-1),.int .i64 0]) emp:=by
 intro O w F hs
 have e1:=and_low u.toNat (by omega)
 rw[Int.natCast_emod,Int.toNat_of_nonneg h0]at e1
 have hu:=Lh (Ju (u%4294967296) (by omega) h2)
 go_enter Tryz.func155,Tryz.ntmps155
 go_wp2_with (go_at_call 156;((refine(hu.out).at hs (by (with_reducible exact Qh)) ?_);clear hs;intro w hs;(try simp only[Em,Ma]at hs)))
 (go_ret3)
 exact⟨rfl,by ((with_reducible apply Sat.fin hs);(focus with_reducible (repeat first|exact Ql|exact Qn|apply Qb);done))⟩
theorem word_head (t s:Int)(h0 : -1≤s)(h1:s≤2147483646)(h2:0≤t)(h3:t<4294967296) :
  Zk Tryz.prog 157 #[.int .u32 t,.int .i64 s] emp (.tuple #[.int .u64 (t*4294967296+(s+1)),.int .i64 0]) emp:=by
 intro O w F hs
 have hl:=Lh (word_link s h0 h1)
 have e1:=or_low t.toNat (s+1).toNat (by omega) (by omega)
 rw[Int.natCast_add,Int.natCast_mul,Int.toNat_of_nonneg h2,Int.toNat_of_nonneg (show 0≤s+1 by omega),show((4294967296:Nat):Int)=4294967296 from rfl]at e1
 go_enter Tryz.func157,Tryz.ntmps157
 go_wp2_with (go_at_call 153;((refine(hl.out).at hs (by (with_reducible exact Qh)) ?_);clear hs;intro w hs;(try simp only[Em,Ma]at hs)))
 (go_ret2)
 exact⟨rfl,by ((with_reducible apply Sat.fin hs);(focus with_reducible (repeat first|exact Ql|exact Qn|apply Qb);done))⟩
theorem word_number (v:Int):Zk Tryz.prog 143 #[.int .i64 v] emp (.int .u64 (v%18446744073709551616)) emp:=by
 intro O w F hs
 go_enter Tryz.func143,Tryz.ntmps143
 go_wp2_with (fail)
 go_ret
 exact⟨rfl,by ((with_reducible apply Sat.fin hs);(with_reducible exact Ql))⟩
theorem word_value (v:Int):Zk Tryz.prog 171 #[.int .u64 v] emp (.int .i64 (wrap64 v)) emp:=by
 intro O w F hs
 go_enter Tryz.func171,Tryz.ntmps171
 go_wp2_with (fail)
 go_ret
 exact⟨rfl,by ((with_reducible apply Sat.fin hs);(with_reducible exact Ql))⟩
end
section
structure Shf where
 move:Int
 thread:Int
 slot:Int
 fr:Int
 to:Int
abbrev Shf.e (s:Shf):List Value:=[.int .i64 s.move,.int .i64 s.thread,.int .i64 s.slot,.int .i64 s.fr,.int .i64 s.to]
structure Cll where
 thread:Int
 op:Int
 arg:Int
 data:Int
 begin_:Int
 end_:Int
 point:Int
 kind:Int
 value:Int
abbrev Cll.e (c:Cll):List Value:=[.int .i64 c.thread,.int .i64 c.op,.int .i64 c.arg,.int .i64 c.data,.int .i64 c.begin_,.int .i64 c.end_,.int .i64 c.point,.int .i64 c.kind,.int .i64 c.value]
structure Sea where
 task:Value
 ready:Bool
 last:Int
 kind:Int
 value:Int
abbrev Sea.e (s:Sea):List Value:=[s.task,.bool s.ready,.int .i64 s.last,.int .i64 s.kind,.int .i64 s.value]
structure Mch where
 mem:Mem
 thread:Int
 now:Int
 cur:Option (Nat×Nat)
 used:Bool
 shifts:List Shf
 kit:Value
 vs:Value
 vc:Value
 seats:List Sea
 moves:Int
 calls:List Cll
structure CurOk (cur:Option (Nat×Nat))(vs vc call told:Value):Prop where
 no:cur=none→call=.pointer none∧told=.pointer none
 yes:∀i t,cur=some (i,t)→(∃b off,IsAt vc b off∧call=.pointer (some ⟨b,off+i*9,none⟩))∧(∃b off,IsAt vs b off∧told=.pointer (some ⟨b,off+t*5+3,none⟩))
def MchR (b bm:Nat)(m:Mch):Zc:=ex fun vh=>ex fun call=>ex fun told=>pu (CurOk m.cur m.vs m.vc call told) *
 (pt b (.cells #[.pointer (some ⟨bm,0,none⟩),.int .i64 m.thread,.int .i64 m.now,call,told,.bool m.used,vh,m.kit,m.vs,.int .i64 m.moves,m.vc] 173)*(MemR bm m.mem*(sl 102 5 (m.shifts.map Shf.e) vh*(sl 175 5 (m.seats.map Sea.e) m.vs*sl 59 9 (m.calls.map Cll.e) m.vc))))
theorem mchR {O w:World}{b bm:Nat}{m:Mch}{R:Zc}:Sat O w (MchR b bm m*R)↔∃vh call told,CurOk m.cur m.vs m.vc call told∧Sat O w (pt b (.cells #[.pointer (some ⟨bm,0,none⟩),.int .i64 m.thread,.int .i64 m.now,call,told,.bool m.used,vh,m.kit,m.vs,.int .i64 m.moves,m.vc] 173)*(MemR bm m.mem*(sl 102 5 (m.shifts.map Shf.e) vh*(sl 175 5 (m.seats.map Sea.e) m.vs*(sl 59 9 (m.calls.map Cll.e) m.vc*R))))):=by
 unfold MchR
 simp only[ZG,Ma,Zz]
theorem Jg {O w:World}{b bm:Nat}{m:Mch}{R:Zc}{vh call told:Value}(hc:CurOk m.cur m.vs m.vc call told)(h:Sat O w (pt b (.cells #[.pointer (some ⟨bm,0,none⟩),.int .i64 m.thread,.int .i64 m.now,call,told,.bool m.used,vh,m.kit,m.vs,.int .i64 m.moves,m.vc] 173)*(MemR bm m.mem*(sl 102 5 (m.shifts.map Shf.e) vh*(sl 175 5 (m.seats.map Sea.e) m.vs*(sl 59 9 (m.calls.map Cll.e) m.vc*R)))))):Sat O w (MchR b bm m*R):=mchR.2 ⟨_,_,_,hc,h⟩
attribute [irreducible] MchR
def DkR (d b bm:Nat)(m:Mch):Zc:=MchR b bm m*pt d (.cells #[.pointer (some ⟨b,0,none⟩)] 227)
theorem dkR {O w:World}{d b bm:Nat}{m:Mch}{R:Zc}:Sat O w (DkR d b bm m*R)↔Sat O w (MchR b bm m*(pt d (.cells #[.pointer (some ⟨b,0,none⟩)] 227)*R)):=by
 unfold DkR;rw[Ma]
theorem dkR_mk {O w:World}{d b bm:Nat}{m:Mch}{R:Zc}{vh call told:Value}(hc:CurOk m.cur m.vs m.vc call told)(h:Sat O w (pt b (.cells #[.pointer (some ⟨bm,0,none⟩),.int .i64 m.thread,.int .i64 m.now,call,told,.bool m.used,vh,m.kit,m.vs,.int .i64 m.moves,m.vc] 173)*(MemR bm m.mem*(sl 102 5 (m.shifts.map Shf.e) vh*(sl 175 5 (m.seats.map Sea.e) m.vs*(sl 59 9 (m.calls.map Cll.e) m.vc*(pt d (.cells #[.pointer (some ⟨b,0,none⟩)] 227)*R))))))):Sat O w (DkR d b bm m*R):=
 dkR.2 (Jg hc h)
attribute [irreducible] DkR
section
end
theorem desk_open (d b bm:Nat)(m:Mch)(i:Nat)(hu:m.used=false)(hi:i<m.mem.words.length) :
  Zk Tryz.prog 158 #[.pointer (some ⟨d,0,none⟩),.int .i64 (i:Int)] (DkR d b bm m) (.bool true) (DkR d b bm { m with used:=true }):=by
 intro O w F hs
 (obtain⟨vh,call,told,hcur,hs⟩:=mchR.1 (dkR.1 hs))
 rw[hu]at hs
 have hz:=Lh (mem_size bm m.mem)
 have h0:decide ((i:Int)<0)=false:=by simp
 have h1:decide ((i:Int)≥(m.mem.words.length:Int))=false:=by simp;omega
 go_enter Tryz.func158,Tryz.ntmps158
 go_wp2_with (first|((with_reducible apply Zb hs);exact Ii;rfl;(with_reducible repeat first|exact Qh|apply Qk);rfl;rfl;simp only[Uc,Uz])|((with_reducible apply Zv hs);exact Ii;rfl;rfl;(with_reducible repeat first|exact Qh|apply Qk);rfl;exact Vb rfl;rfl;clear hs;intro w hs;simp only[Yg,Uc,Uz]at hs)|(go_at_call 164;(refine(hz.out).at hs (by with_reducible repeat first|exact Qh|apply Qk) ?_;clear hs;intro w hs;(try simp only[Em,Ma]at hs))))
 go_ret
 refine⟨rfl,?_⟩
 (apply dkR_mk;exact hcur;((try simp only[Yh,Yi,Yj,Yk,Yl]);(try simp only[Yh,Yi,Yj,Yk,Yl]at hs);((with_reducible apply Sat.fin hs);(with_reducible exact Ql))))
theorem desk_thread (d b bm:Nat)(m:Mch):Zk Tryz.prog 162 #[.pointer (some ⟨d,0,none⟩)] (DkR d b bm m) (.int .i64 m.thread) (DkR d b bm m):=by
 intro O w F hs
 (obtain⟨vh,call,told,hcur,hs⟩:=mchR.1 (dkR.1 hs))
 go_enter Tryz.func162,Tryz.ntmps162
 go_wp2_with ((with_reducible apply Zb hs);exact Ii;rfl;(with_reducible repeat first|exact Qh|apply Qk);rfl;rfl;simp only[Uc,Uz])
 go_ret
 refine⟨rfl,?_⟩
 (apply dkR_mk;exact hcur;((try simp only[Yh,Yi,Yj,Yk,Yl]);(try simp only[Yh,Yi,Yj,Yk,Yl]at hs);((with_reducible apply Sat.fin hs);(with_reducible exact Ql))))
theorem desk_now (d b bm:Nat)(m:Mch):Zk Tryz.prog 148 #[.pointer (some ⟨d,0,none⟩)] (DkR d b bm m) (.int .i64 m.now) (DkR d b bm m):=by
 intro O w F hs
 (obtain⟨vh,call,told,hcur,hs⟩:=mchR.1 (dkR.1 hs))
 go_enter Tryz.func148,Tryz.ntmps148
 go_wp2_with ((with_reducible apply Zb hs);exact Ii;rfl;(with_reducible repeat first|exact Qh|apply Qk);rfl;rfl;simp only[Uc,Uz])
 go_ret
 refine⟨rfl,?_⟩
 (apply dkR_mk;exact hcur;((try simp only[Yh,Yi,Yj,Yk,Yl]);(try simp only[Yh,Yi,Yj,Yk,Yl]at hs);((with_reducible apply Sat.fin hs);(with_reducible exact Ql))))
structure Acs (m:Mch)(i:Nat)(u:Int):Prop where
 used:m.used=false
 at_:m.mem.words[i]? = some u
 log:m.mem.log.length<4294967296
 ahead:m.mem.ahead.length<4294967296
def Mch.load (m:Mch)(i:Nat)(u:Int):Mch:={ m with used:=true,mem:={ m.mem with log:=m.mem.log++[⟨m.mem.move,m.thread,1,i,0,0,u⟩],ahead:=m.mem.ahead++[u] } }
def Mch.store (m:Mch)(i:Nat)(u z:Int):Mch:={ m with used:=true,mem:={ m.mem with words:=m.mem.words.set i z,log:=m.mem.log++[⟨m.mem.move,m.thread,2,i,0,z,0⟩],ahead:=m.mem.ahead++[u] } }
def Mch.swap (m:Mch)(i:Nat)(u o z:Int):Mch:={ m with used:=true,mem:={ m.mem with words:=if u=o then m.mem.words.set i z else m.mem.words,log:=m.mem.log++[⟨m.mem.move,m.thread,3,i,o,z,u⟩],ahead:=m.mem.ahead++[u] } }
def Mch.shift (m:Mch)(s f t:Int):Mch:={ m with shifts:=m.shifts++[⟨m.now,m.thread,s,f,t⟩] }
theorem Qt (d b bm:Nat)(m:Mch)(i:Nat)(u:Int)(h:Acs m i u) :
  Zk Tryz.prog 144 #[.pointer (some ⟨d,0,none⟩),.int .i64 (i:Int)] (DkR d b bm m) (.int .u64 u) (DkR d b bm (m.load i u)):=by
 intro O w F hs
 have ho:=Lh (desk_open d b bm m i h.used (List.getElem?_eq_some_iff.1 h.at_).1)
 have hl:=Lh (mem_load bm m.mem m.thread i u h.at_ h.log h.ahead)
 go_enter Tryz.func144,Tryz.ntmps144
 go_wp2_with (first|(with_reducible refine NQ.mk ?_)|((with_reducible apply Zi);rfl;rfl)|((with_reducible apply Zo);rfl)|(with_reducible refine EQ.mk ?_ ?_)|(with_reducible exact Zg)|(with_reducible refine Zj ?_)|((with_reducible apply Zb hs);exact Ii;rfl;(with_reducible repeat first|exact Qh|apply Qk);rfl;rfl;simp only[Uc,Uz])|(go_at_call 158;((refine(ho.out).at hs (by (with_reducible exact Qh)) ?_);clear hs;intro w hs;(try simp only[Em,Ma]at hs));(obtain⟨vh,call,told,hcur,hs⟩:=mchR.1 (dkR.1 hs));simp only[]at hs)|((with_reducible refine Wp (id:=3) (Paz (Pbz (Pcz [.eff 15 [],.neu 16,.neu 17,.neu 18,.neu 19,.neu 20]))) hs rfl ?_ ?_);kernel_rfl;clear hs;intro w hs)|(go_at_call 160;(refine(hl.out).at hs (by with_reducible repeat first|exact Qh|apply Qk) ?_;clear hs;intro w hs;(try simp only[Em,Ma]at hs))))
 go_ret
 refine⟨rfl,?_⟩
 unfold Mch.load
 (apply dkR_mk;exact hcur;((try simp only[Yh,Yi,Yj,Yk,Yl]);(try simp only[Yh,Yi,Yj,Yk,Yl]at hs);(with_reducible apply Sat.fin hs;repeat first|exact Ql|exact Qh|apply Qb|apply Qk)))
theorem Z7 (d b bm:Nat)(m:Mch)(i:Nat)(u z:Int)(h:Acs m i u) :
  Zk Tryz.prog 141 #[.pointer (some ⟨d,0,none⟩),.int .i64 (i:Int),.int .u64 z] (DkR d b bm m) (.tuple #[]) (DkR d b bm (m.store i u z)):=by
 intro O w F hs
 have ho:=Lh (desk_open d b bm m i h.used (List.getElem?_eq_some_iff.1 h.at_).1)
 have hl:=Lh (mem_store bm m.mem m.thread i u z h.at_ h.log h.ahead)
 go_enter Tryz.func141,Tryz.ntmps141
 go_wp2_with (first|(with_reducible refine NQ.mk ?_)|((with_reducible apply Zi);rfl;rfl)|((with_reducible apply Zo);rfl)|(with_reducible refine EQ.mk ?_ ?_)|(with_reducible exact Zg)|(with_reducible refine Zj ?_)|((with_reducible apply Zb hs);exact Ii;rfl;(with_reducible repeat first|exact Qh|apply Qk);rfl;rfl;simp only[Uc,Uz])|(go_at_call 158;((refine(ho.out).at hs (by (with_reducible exact Qh)) ?_);clear hs;intro w hs;(try simp only[Em,Ma]at hs));(obtain⟨vh,call,told,hcur,hs⟩:=mchR.1 (dkR.1 hs));simp only[]at hs)|((with_reducible refine Wp (id:=1) (Paz (Pbz (Pcz [.neu 15,.eff 16 []]))) hs rfl ?_ ?_);kernel_rfl;clear hs;intro w hs)|(go_at_call 159;(refine(hl.out).at hs (by with_reducible repeat first|exact Qh|apply Qk) ?_;clear hs;intro w hs;(try simp only[Em,Ma]at hs))))
 (go_end0)
 refine⟨rfl,?_⟩
 unfold Mch.store
 (apply dkR_mk;exact hcur;((try simp only[Yh,Yi,Yj,Yk,Yl]);(try simp only[Yh,Yi,Yj,Yk,Yl]at hs);(with_reducible apply Sat.fin hs;repeat first|exact Ql|exact Qh|apply Qb|apply Qk)))
theorem Jl (d b bm:Nat)(m:Mch)(i:Nat)(u o z:Int)(h:Acs m i u) :
  Zk Tryz.prog 146 #[.pointer (some ⟨d,0,none⟩),.int .i64 (i:Int),.int .u64 o,.int .u64 z] (DkR d b bm m) (.bool (decide (u=o))) (DkR d b bm (m.swap i u o z)):=by
 intro O w F hs
 have ho:=Lh (desk_open d b bm m i h.used (List.getElem?_eq_some_iff.1 h.at_).1)
 have hl:=Lh (mem_swap bm m.mem m.thread i u o z h.at_ h.log h.ahead)
 go_enter Tryz.func146,Tryz.ntmps146
 go_wp2_with (first|(with_reducible refine NQ.mk ?_)|((with_reducible apply Zi);rfl;rfl)|((with_reducible apply Zo);rfl)|(with_reducible refine EQ.mk ?_ ?_)|(with_reducible exact Zg)|(with_reducible refine Zj ?_)|((with_reducible apply Zb hs);exact Ii;rfl;(with_reducible repeat first|exact Qh|apply Qk);rfl;rfl;simp only[Uc,Uz])|(go_at_call 158;((refine(ho.out).at hs (by (with_reducible exact Qh)) ?_);clear hs;intro w hs;(try simp only[Em,Ma]at hs));(obtain⟨vh,call,told,hcur,hs⟩:=mchR.1 (dkR.1 hs));simp only[]at hs)|((with_reducible refine Wp (id:=3) (Paz (Pbz (Pcz [.neu 15,.neu 16,.eff 17 [],.neu 18,.neu 19,.neu 20,.neu 21,.neu 22,.neu 23,.neu 24]))) hs rfl ?_ ?_);kernel_rfl;clear hs;intro w hs)|(go_at_call 161;(refine(hl.out).at hs (by with_reducible repeat first|exact Qh|apply Qk) ?_;clear hs;intro w hs;(try simp only[Em,Ma]at hs))))
 go_ret
 refine⟨rfl,?_⟩
 unfold Mch.swap
 (apply dkR_mk;exact hcur;((try simp only[Yh,Yi,Yj,Yk,Yl]);(try simp only[Yh,Yi,Yj,Yk,Yl]at hs);(with_reducible apply Sat.fin hs;repeat first|exact Ql|exact Qh|apply Qb|apply Qk)))
theorem desk_shift (d b bm:Nat)(m:Mch)(s f t:Int)(h:m.shifts.length<4294967296) :
  Zk Tryz.prog 163 #[.pointer (some ⟨d,0,none⟩),.int .i64 s,.int .i64 f,.int .i64 t] (DkR d b bm m) (.tuple #[]) (DkR d b bm (m.shift s f t)):=by
 intro O w F hs
 (obtain⟨vh,call,told,hcur,hs⟩:=mchR.1 (dkR.1 hs))
 go_enter Tryz.func163,Tryz.ntmps163
 go_wp2_with (first|(with_reducible first|apply NQ.mk|apply EQ.mk|exact Zg|apply Zj)|((with_reducible apply Zi);rfl;rfl)|((with_reducible apply Zo);rfl)|((with_reducible refine Zn ?_ ?_);focus((with_reducible apply ZI);rfl;rfl))|(show Qd _ _ _;rfl)|((with_reducible apply Zb hs);exact Ii;rfl;(with_reducible repeat first|exact Qh|apply Qk);rfl;rfl;simp only[Uc,Uz])|((with_reducible apply Zv hs);exact Ii;rfl;rfl;(with_reducible repeat first|exact Qh|apply Qk);(apply QS;apply hs.pull;(with_reducible exact Qh));exact Vb rfl;rfl;clear hs;intro w hs;simp only[Yg,Uc,Uz]at hs)|((with_reducible apply wl_bs hs);exact Ii;exact Ii;rfl;rfl;rfl;rfl;exact Vb rfl;rfl;clear hs;intro w v hs;simp only[Uc,Uz])|((with_reducible apply JA hs);exact Ii;exact Ii;rfl;rfl;(focus with_reducible (repeat first|exact Qh|apply Qk);done);(with_reducible exact Qh);(simp only[Wm,Ws,Wa,Wc,Wn,Wr]at *;omega);exact Vb rfl;rfl;clear hs;intro w v hs;simp only[Uc,Uz])|((with_reducible refine Wp (id:=1) (Paz (Pbz (Pcz (Pdz (Pez [.neu 25,.neu 26,.neu 27,.neu 28,.eff 29 [0,1,2,3,4,5,6,7,8,9,10],.eff 30 [0,1,2,3],.neu 31,.neu 32,.eff 33 []]))))) hs rfl ?_ ?_);kernel_rfl;clear hs;intro w hs))
 (go_end0)
 refine⟨rfl,?_⟩
 unfold Mch.shift
 (apply dkR_mk;exact hcur;((try simp only[Yh,Yi,Yj,Yk,Yl]);(try simp only[Yh,Yi,Yj,Yk,Yl]at hs);(with_reducible apply Sat.fin hs;repeat first|exact Ql|exact Qh|apply Qb|apply Qk)))
def Mch.point (m:Mch)(i:Nat)(c:Cll)(z:Int):Mch:={ m with calls:=m.calls.set i { c with point:=z } }
def Mch.answer (m:Mch)(t:Nat)(s:Sea)(k v:Int):Mch:={ m with seats:=m.seats.set t { s with kind:=k,value:=v } }
theorem Jx (d b bm:Nat)(m:Mch)(i t:Nat)(c:Cll)(z:Int)(h:m.cur=some (i,t))(hi:m.calls[i]? = some c) :
  Zk Tryz.prog 147 #[.pointer (some ⟨d,0,none⟩),.int .i64 z] (DkR d b bm m) (.tuple #[]) (DkR d b bm (m.point i c z)):=by
 intro O w F hs
 (obtain⟨vh,call,told,hcur,hs⟩:=mchR.1 (dkR.1 hs))
 obtain⟨⟨pc,oc,hc1,hc2⟩,⟨ps,os_,ht1,ht2⟩⟩:=hcur.yes i t h
 rw[hc2]at hs
 go_enter Tryz.func147,Tryz.ntmps147
 go_wp2_with (first|((with_reducible apply Zb hs);exact Ii;rfl;(with_reducible repeat first|exact Qh|apply Qk);rfl;rfl;simp only[Uc,Uz])|((with_reducible apply wl_stS hs);exact Ii;rfl;rfl;assumption;(with_reducible repeat first|exact Qh|apply Qk);rfl;(exact Ze (by assumption));exact Vb rfl;rfl;rfl;clear hs;intro w hs))
 (go_end0)
 refine⟨rfl,?_⟩
 subst hc2
 unfold Mch.point
 (apply dkR_mk;exact hcur;((try simp only[Yh,Yi,Yj,Yk,Yl]);(try simp only[Yh,Yi,Yj,Yk,Yl]at hs);((with_reducible apply Sat.fin hs);(focus((repeat(first|with_reducible exact Ql|with_reducible exact Qh|with_reducible apply Qb|exact Qh|with_reducible apply Qk));done)))))
theorem QD (d b bm:Nat)(m:Mch)(i t:Nat)(s:Sea)(k z:Int)(h:m.cur=some (i,t))(hi:m.seats[t]? = some s) :
  Zk Tryz.prog 150 #[.pointer (some ⟨d,0,none⟩),.agg #[.int .i64 k,.int .i64 z]] (DkR d b bm m) (.tuple #[]) (DkR d b bm (m.answer t s k z)):=by
 intro O w F hs
 (obtain⟨vh,call,told,hcur,hs⟩:=mchR.1 (dkR.1 hs))
 obtain⟨⟨pc,oc,hc1,hc2⟩,⟨ps,os_,ht1,ht2⟩⟩:=hcur.yes i t h
 rw[ht2]at hs
 go_enter Tryz.func150,Tryz.ntmps150
 go_wp2_with (first|(with_reducible refine NQ.mk ?_)|((with_reducible apply Zi);rfl;rfl)|((with_reducible apply Zo);rfl)|(with_reducible refine EQ.mk ?_ ?_)|(with_reducible exact Zg)|(with_reducible refine Zj ?_)|((with_reducible apply Zb hs);exact Ii;rfl;(with_reducible repeat first|exact Qh|apply Qk);rfl;rfl;simp only[Uc,Uz])|((with_reducible apply Qy hs);exact Ii;rfl;(with_reducible exact Qh);rfl;rfl;simp only[Uc,Uz])|((with_reducible apply Zt hs);rfl;rfl;rfl;clear hs;intro w b hs;simp only[Uc,Uz])|((with_reducible apply wl_stSN hs);exact Ii;rfl;rfl;assumption;(with_reducible repeat first|exact Qh|apply Qk);rfl;(exact Ze (by assumption));exact Vb rfl;rfl;rfl;rfl;rfl;clear hs;intro w hs;simp only[List.take_succ_cons,List.take_zero,List.drop_succ_cons,List.drop_zero,List.cons_append,List.nil_append,List.append_nil]at hs)|((with_reducible refine Wp (id:=2) (Paz [.neu 5,.neu 6,.neu 7,.neu 8,.eff 9 []]) hs rfl ?_ ?_);kernel_rfl;clear hs;intro w hs))
 (go_end0)
 refine⟨rfl,?_⟩
 subst ht2
 unfold Mch.answer
 (apply dkR_mk;exact hcur;((try simp only[Yh,Yi,Yj,Yk,Yl]);(try simp only[Yh,Yi,Yj,Yk,Yl]at hs);(with_reducible apply Sat.fin hs;repeat first|exact Ql|exact Qh|apply Qb|apply Qk)))
end
end Go.Proofs.YtefjbdajgakgpaaGreat
