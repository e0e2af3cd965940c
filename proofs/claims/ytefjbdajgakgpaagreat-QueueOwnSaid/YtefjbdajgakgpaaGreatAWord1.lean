/-
  The arms of the walk over the logic of parts: 'go_wp2_with (first | (first | (first | ((with_reducible refine NQ.mk ?_)) | (((with_reducible apply Zd); rfl; rfl)) | (((with_reducible apply Zm); rfl)) | ((with_reducible refine EQ.mk ?_ ?_)) | (first | (with_reducible exact Zf) | ((with_reducible refine Zl ?_ ?_); (focus ((with_reducible apply ZC); rfl; rfl)))) | ((with_reducible refine Ze ?_)) | ((show ZW _ _ _; rfl))) | (((with_reducible apply Za hs); exact Ii; rfl; ((focus ((repeat (first | with_reducible exact Ql | with_reducible exact Qh | with_reducible exact Qn | with_reducible apply Qb | exact Qh | exact Ql | with_reducible apply Qk)); done))); rfl; rfl; (simp only [Uc, Uz]))) | (((with_reducible apply Qg hs); exact Ii; rfl; ((focus ((repeat (first | with_reducible exact Ql | with_reducible exact Qh | with_reducible exact Qn | with_reducible apply Qb | exact Qh | exact Ql | with_reducible apply Qk)); done))); rfl; rfl; (simp only [Uc, Uz]))) | (((with_reducible apply Zt hs); exact Ii; rfl; rfl; ((focus ((repeat (first | with_reducible exact Ql | with_reducible exact Qh | with_reducible exact Qn | with_reducible apply Qb | exact Qh | exact Ql | with_reducible apply Qk)); done))); (first | rfl | assumption | ((apply Qs; apply hs.pull; ((focus ((repeat (first | with_reducible exact Ql | with_reducible exact Qh | with_reducible exact Qn | with_reducible apply Qb | exact Qh | exact Ql | with_reducible apply Qk)); done))))) | ((apply resH_one; apply Qs; apply hs.pull; ((focus ((repeat (first | with_reducible exact Ql | with_reducible exact Qh | with_reducible exact Qn | with_reducible apply Qb | exact Qh | exact Ql | with_reducible apply Qk)); done))))) | ((apply resL_one; apply Qs; apply hs.pull; ((focus ((repeat (first | with_reducible exact Ql | with_reducible exact Qh | with_reducible exact Qn | with_reducible apply Qb | exact Qh | exact Ql | with_reducible apply Qk)); done)))))); (first | exact Vb rfl | (simp only [List.size_toArray, List.length_cons, List.length_nil]; omega)); rfl; clear hs; intro w hs; simp only [Yg, Uc, Uz] at hs)) | (((with_reducible apply ZJ hs); exact Ii; rfl; rfl; ((focus ((repeat (first | with_reducible exact Ql | with_reducible exact Qh | with_reducible exact Qn | with_reducible apply Qb | exact Qh | exact Ql | with_reducible apply Qk)); done))); rfl; rfl; rfl; rfl; clear hs; intro w hs)) | (((with_reducible apply Zu hs); exact Ii; rfl; clear hs; intro w b hs; (simp only [Uc, Uz]))) | (((with_reducible apply Zo hs); rfl; rfl; rfl; clear hs; intro w b hs; (simp only [Uc, Uz]))) | (((with_reducible apply wl_ldS hs); exact Ii; rfl; assumption; ((focus ((repeat (first | with_reducible exact Ql | with_reducible exact Qh | with_reducible exact Qn | with_reducible apply Qb | exact Qh | exact Ql | with_reducible apply Qk)); done))); rfl; (first | assumption | exact Zc (by assumption) | exact ZX (by first | assumption | exact Zc (by assumption) | exact ZX (by first | assumption | exact Zc (by assumption)))); rfl; rfl; (simp only [Uc, Uz]))) | (((with_reducible apply Zx hs); exact Ii; rfl; assumption; ((focus ((repeat (first | with_reducible exact Ql | with_reducible exact Qh | with_reducible exact Qn | with_reducible apply Qb | exact Qh | exact Ql | with_reducible apply Qk)); done))); rfl; (first | assumption | exact Zc (by assumption) | exact ZX (by first | assumption | exact Zc (by assumption) | exact ZX (by first | assumption | exact Zc (by assumption)))); rfl; rfl; (simp only [Uc, Uz]))) | (((with_reducible apply wl_stS hs); exact Ii; rfl; rfl; assumption; ((focus ((repeat (first | with_reducible exact Ql | with_reducible exact Qh | with_reducible exact Qn | with_reducible apply Qb | exact Qh | exact Ql | with_reducible apply Qk)); done))); rfl; (first | assumption | exact Zc (by assumption) | exact ZX (by first | assumption | exact Zc (by assumption) | exact ZX (by first | assumption | exact Zc (by assumption)))); (exact Vb rfl); (first | rfl | assumption | ((apply Qs; apply hs.pull; ((focus ((repeat (first | with_reducible exact Ql | with_reducible exact Qh | with_reducible exact Qn | with_reducible apply Qb | exact Qh | exact Ql | with_reducible apply Qk)); done))))) | ((apply resH_one; apply Qs; apply hs.pull; ((focus ((repeat (first | with_reducible exact Ql | with_reducible exact Qh | with_reducible exact Qn | with_reducible apply Qb | exact Qh | exact Ql | with_reducible apply Qk)); done))))) | ((apply resL_one; apply Qs; apply hs.pull; ((focus ((repeat (first | with_reducible exact Ql | with_reducible exact Qh | with_reducible exact Qn | with_reducible apply Qb | exact Qh | exact Ql | with_reducible apply Qk)); done)))))); rfl; clear hs; intro w hs)) | (((with_reducible apply Qi hs); exact Ii; rfl; rfl; assumption; ((focus ((repeat (first | with_reducible exact Ql | with_reducible exact Qh | with_reducible exact Qn | with_reducible apply Qb | exact Qh | exact Ql | with_reducible apply Qk)); done))); rfl; (first | assumption | exact Zc (by assumption) | exact ZX (by first | assumption | exact Zc (by assumption) | exact ZX (by first | assumption | exact Zc (by assumption)))); (exact Vb rfl); (first | rfl | assumption | ((apply Qs; apply hs.pull; ((focus ((repeat (first | with_reducible exact Ql | with_reducible exact Qh | with_reducible exact Qn | with_reducible apply Qb | exact Qh | exact Ql | with_reducible apply Qk)); done))))) | ((apply resH_one; apply Qs; apply hs.pull; ((focus ((repeat (first | with_reducible exact Ql | with_reducible exact Qh | with_reducible exact Qn | with_reducible apply Qb | exact Qh | exact Ql | with_reducible apply Qk)); done))))) | ((apply resL_one; apply Qs; apply hs.pull; ((focus ((repeat (first | with_reducible exact Ql | with_reducible exact Qh | with_reducible exact Qn | with_reducible apply Qb | exact Qh | exact Ql | with_reducible apply Qk)); done)))))); rfl; clear hs; intro w hs)) | (((with_reducible apply QV hs); exact Ii; rfl; assumption; ((focus ((repeat (first | with_reducible exact Ql | with_reducible exact Qh | with_reducible exact Qn | with_reducible apply Qb | exact Qh | exact Ql | with_reducible apply Qk)); done))); rfl; (first | assumption | exact Zc (by assumption) | exact ZX (by first | assumption | exact Zc (by assumption) | exact ZX (by first | assumption | exact Zc (by assumption)))); (exact Vb rfl); rfl; rfl; (simp only [Uc, Uz]))) | (((with_reducible apply QV (k := 0) hs); exact Ii; rfl; assumption; ((focus ((repeat (first | with_reducible exact Ql | with_reducible exact Qh | with_reducible exact Qn | with_reducible apply Qb | exact Qh | exact Ql | with_reducible apply Qk)); done))); (exact (Nat.add_zero _).symm); (first | assumption | exact Zc (by assumption) | exact ZX (by first | assumption | exact Zc (by assumption) | exact ZX (by first | assumption | exact Zc (by assumption)))); (exact Vb rfl); rfl; rfl; (simp only [Uc, Uz]))) | (((with_reducible apply Q4 hs); exact Ii; rfl; rfl; assumption; ((focus ((repeat (first | with_reducible exact Ql | with_reducible exact Qh | with_reducible exact Qn | with_reducible apply Qb | exact Qh | exact Ql | with_reducible apply Qk)); done))); rfl; (first | assumption | exact Zc (by assumption) | exact ZX (by first | assumption | exact Zc (by assumption) | exact ZX (by first | assumption | exact Zc (by assumption)))); (exact Vb rfl); rfl; rfl; rfl; rfl; clear hs; intro w hs; simp only [List.take_succ_cons, List.take_zero, List.drop_succ_cons, List.drop_zero, List.cons_append, List.nil_append, List.append_nil] at hs)) | (((with_reducible apply Q4 (k := 0) hs); exact Ii; rfl; rfl; assumption; ((focus ((repeat (first | with_reducible exact Ql | with_reducible exact Qh | with_reducible exact Qn | with_reducible apply Qb | exact Qh | exact Ql | with_reducible apply Qk)); done))); (exact (Nat.add_zero _).symm); (first | assumption | exact Zc (by assumption) | exact ZX (by first | assumption | exact Zc (by assumption) | exact ZX (by first | assumption | exact Zc (by assumption)))); (exact Vb rfl); rfl; rfl; rfl; rfl; clear hs; intro w hs; simp only [List.take_succ_cons, List.take_zero, List.drop_succ_cons, List.drop_zero, List.cons_append, List.nil_append, List.append_nil] at hs)) | (((with_reducible apply Q7 hs); exact Ii; exact Ii; rfl; assumption; rfl; ((focus ((repeat (first | with_reducible exact Ql | with_reducible exact Qh | with_reducible exact Qn | with_reducible apply Qb | exact Qh | exact Ql | with_reducible apply Qk)); done))); (first | rfl | exact (Int.toNat_of_nonneg (by omega)).symm); (first | assumption | (simp only [Wm, Ws, Wa, Wc, Wn, Wr] at *; omega)); rfl; (simp only [Uc, Uz]))) | (((with_reducible apply ZH hs); exact Ii; exact Ii; rfl; rfl; ((focus ((repeat (first | with_reducible exact Ql | with_reducible exact Qh | with_reducible exact Qn | with_reducible apply Qb | exact Qh | exact Ql | with_reducible apply Qk)); done))); (first | rfl | exact (Int.toNat_of_nonneg (by omega)).symm); (first | assumption | (simp only [Wm, Ws, Wa, Wc, Wn, Wr] at *; omega)); rfl; intro b off hat; (simp only [Uc, Uz]))) | (((with_reducible apply Zs hs); exact Ii; rfl; ((focus ((repeat (first | with_reducible exact Ql | with_reducible exact Qh | with_reducible exact Qn | with_reducible apply Qb | exact Qh | exact Ql | with_reducible apply Qk)); done))); rfl; (simp only [Uc, Uz]))) | (((with_reducible apply wl_bs hs); exact Ii; exact Ii; rfl; rfl; rfl; rfl; (exact Vb rfl); rfl; clear hs; intro w v hs; (simp only [Uc, Uz]))) | (((with_reducible apply QY hs); exact Ii; exact Ii; rfl; rfl; ((focus ((repeat (first | with_reducible exact Ql | with_reducible exact Qh | with_reducible exact Qn | with_reducible apply Qb | exact Qh | exact Ql | with_reducible apply Qk)); done))); ((focus ((repeat (first | with_reducible exact Ql | with_reducible exact Qh | with_reducible exact Qn | with_reducible apply Qb | exact Qh | exact Ql | with_reducible apply Qk)); done))); (first | assumption | (simp only [Wm, Ws, Wa, Wc, Wn, Wr] at *; omega)); (exact Vb rfl); rfl; clear hs; intro w v hs; (simp only [Uc, Uz]))) | (((with_reducible apply wl_reH hs); exact Ii; exact Ii; rfl; rfl; ((focus ((repeat (first | with_reducible exact Ql | with_reducible exact Qh | with_reducible exact Qn | with_reducible apply Qb | exact Qh | exact Ql | with_reducible apply Qk)); done))); (first | rfl | exact (Int.toNat_of_nonneg (by omega)).symm); (first | assumption | (simp only [Wm, Ws, Wa, Wc, Wn, Wr] at *; omega)); rfl; (simp only [Uc, Uz]))) | (((with_reducible apply wl_reL hs); exact Ii; exact Ii; rfl; rfl; ((focus ((repeat (first | with_reducible exact Ql | with_reducible exact Qh | with_reducible exact Qn | with_reducible apply Qb | exact Qh | exact Ql | with_reducible apply Qk)); done))); (first | rfl | exact (Int.toNat_of_nonneg (by omega)).symm); (first | assumption | (simp only [Wm, Ws, Wa, Wc, Wn, Wr] at *; omega)); rfl; (simp only [Uc, Uz])))) | ..)'.
-/
import Derived.Test.YtefjbdajgakgpaaGreatASlice
import Derived.OwnWalk
import Derived.Test.YtefjbdajgakgpaaGreatATypes
import Derived.Laws.BitsAllLaws
set_option linter.all false
namespace Go.Proofs.YtefjbdajgakgpaaGreat
section
open Go.RowKit
namespace Hp
def Makes (P:Program)(f:FuncId)(args:Array Value)(A:Zb)(B:Nat→Zb):Prop:=
 ∀O w F,Sat O w (A*F)→Calls P f args w fun e w'=>∃g,e=.returned (.pointer (some ⟨g,0,none⟩))∧Sat O w' (B g*F)
theorem Makes.at {P:Program}{f:FuncId}{args:Array Value}{A S R:Zb}{B:Nat→Zb}{O w:World}{Post:Ending→World→Prop}(h:Makes P f args A B)(hs:Sat O w S)(hp:Pull S A R)(k:∀g w',Sat O w' (B g*R)→Post (.returned (.pointer (some ⟨g,0,none⟩))) w'):Calls P f args w Post:=
 (h O w R (hs.pull hp)).mono fun _ _ ⟨g,he,hs'⟩=>he▸k g _ hs'
structure Stuck (p:Prop):Prop where
 h:p
theorem stuckMark {p:Prop}(h:Stuck p):p:=h.h

end Hp
end
section
open Go.RowKit Hp
set_option maxRecDepth 100000
set_option maxHeartbeats 1000000
abbrev eI (z:Int):List Value:=[.int .i64 z]
abbrev eU (z:Int):List Value:=[.int .u64 z]
structure Acc where
 move:Int
 thread:Int
 kind:Int
 addr:Int
 old:Int
 new:Int
 saw:Int
abbrev Acc.e (a:Acc):List Value:=[.int .i64 a.move,.int .i64 a.thread,.int .i64 a.kind,.int .i64 a.addr,.int .u64 a.old,.int .u64 a.new,.int .u64 a.saw]
structure Mem where
 words:List Int
 log:List Acc
 ahead:List Int
 move:Int
def MemR (b:Nat)(m:Mem):Zb:=ex fun vw=>ex fun vl=>ex fun va=>
 pt b (.cells #[vw,vl,va,.int .i64 m.move] 218)*(sl 79 1 (m.words.map eU) vw*(sl 87 7 (m.log.map Acc.e) vl*sl 79 1 (m.ahead.map eU) va))
theorem memR {O w:World}{b:Nat}{m:Mem}{R:Zb}:Sat O w (MemR b m*R)↔∃vw vl va,Sat O w (pt b (.cells #[vw,vl,va,.int .i64 m.move] 218)*(sl 79 1 (m.words.map eU) vw*(sl 87 7 (m.log.map Acc.e) vl*(sl 79 1 (m.ahead.map eU) va*R)))):=by
 unfold MemR
 simp only[ZA,Ma]
theorem memR_mk {O w:World}{b:Nat}{m:Mem}{R:Zb}{vw vl va:Value}(h:Sat O w (pt b (.cells #[vw,vl,va,.int .i64 m.move] 218)*(sl 79 1 (m.words.map eU) vw*(sl 87 7 (m.log.map Acc.e) vl*(sl 79 1 (m.ahead.map eU) va*R))))):Sat O w (MemR b m*R):=memR.2 ⟨_,_,_,h⟩
attribute [irreducible] MemR
theorem mem_size (b:Nat)(m:Mem):Zh Tryz.prog 164 #[.pointer (some ⟨b,0,none⟩)] (MemR b m) (.int .i64 (m.words.length:Int)) (MemR b m):=by
 intro O w F hs
 obtain⟨vw,vl,va,hs⟩:=memR.1 hs
 go_enter Tryz.func164,Tryz.ntmps164
 go_wp2_with (first|((with_reducible apply Za hs);exact Ii;rfl;(with_reducible exact Qh);rfl;rfl;(simp only[Uc,Uz]))|((with_reducible apply Zs hs);exact Ii;rfl;(with_reducible repeat first|exact Qh|apply Qk);rfl;(simp only[Uc,Uz])))
 go_ret
 refine⟨by simp,?_⟩
 exact memR.2 ⟨_,_,_,hs⟩
theorem mem_has (b:Nat)(m:Mem)(i:Nat)(hi:i<m.words.length):Zh Tryz.prog 165 #[.pointer (some ⟨b,0,none⟩),.int .i64 (i:Int)] (MemR b m) (.bool true) (MemR b m):=by
 intro O w F hs
 have hz:decide ((i:Int)≥0)=true:=by simp
 have hl:decide ((i:Int)<(m.words.length:Int))=true:=by simp;exact hi
 go_enter Tryz.func165,Tryz.ntmps165
 go_wp2_with (go_at_call 164;refine(mem_size b m).at hs (by (with_reducible exact Qh)) ?_;clear hs;intro w hs)
 go_ret
 exact⟨by simp[hi],hs⟩
abbrev Acc.v (a:Acc):Value:=.agg #[.int .i64 a.move,.int .i64 a.thread,.int .i64 a.kind,.int .i64 a.addr,.int .u64 a.old,.int .u64 a.new,.int .u64 a.saw]
theorem mem_note (b:Nat)(m:Mem)(a:Acc)(z:Int)(h1:m.log.length<4294967296)(h2:m.ahead.length<4294967296) :
  Zh Tryz.prog 166 #[.pointer (some ⟨b,0,none⟩),a.v,.int .u64 z] (MemR b m) (.tuple #[]) (MemR b { m with log:=m.log++[{ a with move:=m.move }],ahead:=m.ahead++[z] }):=by
 intro O w F hs
 obtain⟨vw,vl,va,hs⟩:=memR.1 hs
 go_enter Tryz.func166,Tryz.ntmps166
 go_wp2_with (first|(first|(first|(with_reducible refine NQ.mk ?_)|((with_reducible apply Zd);rfl;rfl)|((with_reducible apply Zm);rfl)|(with_reducible refine EQ.mk ?_ ?_)|(first|(with_reducible exact Zf)|((with_reducible refine Zl ?_ ?_);(focus((with_reducible apply ZC);rfl;rfl))))|(with_reducible refine Ze ?_)|(show ZW _ _ _;rfl))|((with_reducible apply Za hs);exact Ii;rfl;(with_reducible repeat first|exact Qh|apply Qk);rfl;rfl;(simp only[Uc,Uz]))|((with_reducible apply Qg hs);exact Ii;rfl;(with_reducible exact Qh);rfl;rfl;(simp only[Uc,Uz]))|((with_reducible apply Zt hs);exact Ii;rfl;rfl;(with_reducible repeat first|exact Qh|apply Qk);(first|rfl|(apply Qs;apply hs.pull;(with_reducible exact Qh)));(exact Vb rfl);rfl;clear hs;intro w hs;simp only[Yg,Uc,Uz]at hs)|((with_reducible apply Zo hs);rfl;rfl;rfl;clear hs;intro w b hs;(simp only[Uc,Uz]))|((with_reducible apply wl_bs hs);exact Ii;exact Ii;rfl;rfl;rfl;rfl;(exact Vb rfl);rfl;clear hs;intro w v hs;(simp only[Uc,Uz]))|((with_reducible apply QY hs);exact Ii;exact Ii;rfl;rfl;(focus with_reducible (repeat first|exact Qh|apply Qk);done);(with_reducible exact Qh);(simp only[Wm,Ws,Wa,Wc,Wn,Wr]at *;omega);(exact Vb rfl);rfl;clear hs;intro w v hs;(simp only[Uc,Uz])))|((with_reducible refine Wp (id:=2) (Paz [.neu 5,.eff 6 [0,1,2,3,4],.eff 7 [0],.neu 8,.neu 9,.eff 10 []]) hs rfl ?_ ?_);kernel_rfl;clear hs;intro w hs))
 (go_end0)
 refine⟨rfl,?_⟩
 apply memR_mk
 ((try simp only[Yh,Yi,Yj,Yk,Yl]);(try simp only[Yh,Yi,Yj,Yk,Yl]at hs);((with_reducible apply Sat.fin hs);(with_reducible repeat first|exact Ql|exact Qh|apply Qb|apply Qk)))
theorem mem_load (b:Nat)(m:Mem)(t:Int)(i:Nat)(u:Int)(hi:m.words[i]? = some u)(h1:m.log.length<4294967296)(h2:m.ahead.length<4294967296) :
  Zh Tryz.prog 160 #[.pointer (some ⟨b,0,none⟩),.int .i64 t,.int .i64 (i:Int)] (MemR b m) (.tuple #[.int .u64 u,.int .i64 0])
   (MemR b { m with log:=m.log++[⟨m.move,t,1,i,0,0,u⟩],ahead:=m.ahead++[u] }):=by
 intro O w F hs
 have hl:i<m.words.length:=(List.getElem?_eq_some_iff.1 hi).1
 have hN:=Lh (mem_note b m ⟨0,t,1,i,0,0,u⟩ u h1 h2)
 have hH:=Lh (mem_has b m i hl)
 go_enter Tryz.func160,Tryz.ntmps160
 go_wp2_with (first|(first|((with_reducible apply Za hs);exact Ii;rfl;(with_reducible repeat first|exact Qh|apply Qk);rfl;rfl;(simp only[Uc,Uz]))|((with_reducible apply Zx hs);exact Ii;rfl;assumption;(with_reducible repeat first|exact Qh|apply Qk);rfl;(exact Zc (by assumption));rfl;rfl;(simp only[Uc,Uz]))|((with_reducible apply ZH hs);exact Ii;exact Ii;rfl;rfl;(with_reducible repeat first|exact Qh|apply Qk);(rfl);(simp only[Wm,Ws,Wa,Wc,Wn,Wr]at *;omega);rfl;intro b off hat;(simp only[Uc,Uz])))|(go_at_call 165;refine hH.out.at hs (by (with_reducible exact Qh)) ?_;clear hs;intro w hs;obtain⟨vw,vl,va,hs⟩:=memR.1 hs)|(go_at_call 166;refine hN.out.at (memR.2 ⟨_,_,_,hs⟩) (by (with_reducible exact Qh)) ?_;clear hs;intro w hs))
 (go_ret2)
 exact⟨rfl,hs⟩
theorem mem_store (b:Nat)(m:Mem)(t:Int)(i:Nat)(u z:Int)(hi:m.words[i]? = some u)(h1:m.log.length<4294967296)(h2:m.ahead.length<4294967296) :
  Zh Tryz.prog 159 #[.pointer (some ⟨b,0,none⟩),.int .i64 t,.int .i64 (i:Int),.int .u64 z] (MemR b m) (.int .i64 0)
   (MemR b { m with words:=m.words.set i z,log:=m.log++[⟨m.move,t,2,i,0,z,0⟩],ahead:=m.ahead++[u] }):=by
 intro O w F hs
 have hl:i<m.words.length:=(List.getElem?_eq_some_iff.1 hi).1
 have hN:=Lh (mem_note b m ⟨0,t,2,i,0,z,0⟩ u h1 h2)
 have hH:=Lh (mem_has b m i hl)
 go_enter Tryz.func159,Tryz.ntmps159
 go_wp2_with (first|(first|((with_reducible apply Za hs);exact Ii;rfl;(with_reducible repeat first|exact Qh|apply Qk);rfl;rfl;(simp only[Uc,Uz]))|((with_reducible apply Zx hs);exact Ii;rfl;assumption;(with_reducible repeat first|exact Qh|apply Qk);rfl;(exact Zc (by assumption));rfl;rfl;(simp only[Uc,Uz]))|((with_reducible apply Qi hs);exact Ii;rfl;rfl;assumption;(with_reducible repeat first|exact Qh|apply Qk);rfl;(exact Zc (by assumption));(exact Vb rfl);(rfl);rfl;clear hs;intro w hs)|((with_reducible apply ZH hs);exact Ii;exact Ii;rfl;rfl;(with_reducible repeat first|exact Qh|apply Qk);(rfl);(simp only[Wm,Ws,Wa,Wc,Wn,Wr]at *;omega);rfl;intro b off hat;(simp only[Uc,Uz])))|(go_at_call 165;refine hH.out.at hs (by (with_reducible exact Qh)) ?_;clear hs;intro w hs;obtain⟨vw,vl,va,hs⟩:=memR.1 hs)|(go_at_call 166;refine hN.out.at (memR.2 ⟨_,_,_,hs⟩) (by (with_reducible exact Qh)) ?_;clear hs;intro w hs;obtain⟨vw,vl,va,hs⟩:=memR.1 hs))
 (go_ret)
 refine⟨rfl,?_⟩
 apply memR_mk
 ((try simp only[Yh,Yi,Yj,Yk,Yl]);(try simp only[Yh,Yi,Yj,Yk,Yl]at hs);((with_reducible apply Sat.fin hs);(focus((repeat(first|with_reducible exact Ql|with_reducible exact Qh|with_reducible apply Qb|exact Qh|with_reducible apply Qk));done))))
theorem mem_swap (b:Nat)(m:Mem)(t:Int)(i:Nat)(u o z:Int)(hi:m.words[i]? = some u)(h1:m.log.length<4294967296)(h2:m.ahead.length<4294967296) :
  Zh Tryz.prog 161 #[.pointer (some ⟨b,0,none⟩),.int .i64 t,.int .i64 (i:Int),.int .u64 o,.int .u64 z] (MemR b m) (.tuple #[.int .u64 u,.bool (decide (u=o)),.int .i64 0])
   (MemR b { m with words:=if u=o then m.words.set i z else m.words,log:=m.log++[⟨m.move,t,3,i,o,z,u⟩],ahead:=m.ahead++[u] }):=by
 intro O w F hs
 have hl:i<m.words.length:=(List.getElem?_eq_some_iff.1 hi).1
 have hN:=Lh (mem_note b m ⟨0,t,3,i,o,z,u⟩ u h1 h2)
 have hH:=Lh (mem_has b m i hl)
 by_cases hc:u=o
 ·subst hc
  go_enter Tryz.func161,Tryz.ntmps161
  go_wp2_with (first|(first|((with_reducible apply Za hs);exact Ii;rfl;(with_reducible repeat first|exact Qh|apply Qk);rfl;rfl;(simp only[Uc,Uz]))|((with_reducible apply Zx hs);exact Ii;rfl;assumption;(with_reducible repeat first|exact Qh|apply Qk);rfl;(exact Zc (by assumption));rfl;rfl;(simp only[Uc,Uz]))|((with_reducible apply Qi hs);exact Ii;rfl;rfl;assumption;(with_reducible repeat first|exact Qh|apply Qk);rfl;(exact Zc (by assumption));(exact Vb rfl);(rfl);rfl;clear hs;intro w hs)|((with_reducible apply ZH hs);exact Ii;exact Ii;rfl;rfl;(with_reducible repeat first|exact Qh|apply Qk);(rfl);(simp only[Wm,Ws,Wa,Wc,Wn,Wr]at *;omega);rfl;intro b off hat;(simp only[Uc,Uz])))|(go_at_call 165;refine hH.out.at hs (by (with_reducible exact Qh)) ?_;clear hs;intro w hs;obtain⟨vw,vl,va,hs⟩:=memR.1 hs)|(go_at_call 166;refine hN.out.at (memR.2 ⟨_,_,_,hs⟩) (by (with_reducible exact Qh)) ?_;clear hs;intro w hs;obtain⟨vw,vl,va,hs⟩:=memR.1 hs))
  (go_ret3)
  refine⟨by simp,?_⟩
  apply memR_mk
  simp only[if_true]
  ((try simp only[Yh,Yi,Yj,Yk,Yl]);(try simp only[Yh,Yi,Yj,Yk,Yl]at hs);((with_reducible apply Sat.fin hs);(focus((repeat(first|with_reducible exact Ql|with_reducible exact Qh|with_reducible apply Qb|exact Qh|with_reducible apply Qk));done))))
 ·have hc':decide (u=o)=false:=by simpa using hc
  go_enter Tryz.func161,Tryz.ntmps161
  go_wp2_with (first|(first|((with_reducible apply Za hs);exact Ii;rfl;(with_reducible repeat first|exact Qh|apply Qk);rfl;rfl;(simp only[Uc,Uz]))|((with_reducible apply Zx hs);exact Ii;rfl;assumption;(with_reducible repeat first|exact Qh|apply Qk);rfl;(exact Zc (by assumption));rfl;rfl;(simp only[Uc,Uz]))|((with_reducible apply ZH hs);exact Ii;exact Ii;rfl;rfl;(with_reducible repeat first|exact Qh|apply Qk);(rfl);(simp only[Wm,Ws,Wa,Wc,Wn,Wr]at *;omega);rfl;intro b off hat;(simp only[Uc,Uz])))|(go_at_call 165;refine hH.out.at hs (by (with_reducible exact Qh)) ?_;clear hs;intro w hs;obtain⟨vw,vl,va,hs⟩:=memR.1 hs)|(go_at_call 166;refine hN.out.at (memR.2 ⟨_,_,_,hs⟩) (by (with_reducible exact Qh)) ?_;clear hs;intro w hs;obtain⟨vw,vl,va,hs⟩:=memR.1 hs))
  (go_ret3)
  refine⟨by simp[hc'],?_⟩
  apply memR_mk
  simp only[hc,if_false]
  ((try simp only[Yh,Yi,Yj,Yk,Yl]);(try simp only[Yh,Yi,Yj,Yk,Yl]at hs);((with_reducible apply Sat.fin hs);(with_reducible exact Ql)))
theorem mem_now (b:Nat)(m:Mem)(t:Int):Zh Tryz.prog 106 #[.pointer (some ⟨b,0,none⟩),.int .i64 t] (MemR b m) (.tuple #[]) (MemR b { m with move:=t }):=by
 intro O w F hs
 obtain⟨vw,vl,va,hs⟩:=memR.1 hs
 go_enter Tryz.func106,Tryz.ntmps106
 go_wp2_with ((with_reducible apply Zt hs);exact Ii;rfl;rfl;(with_reducible exact Qh);(rfl);(exact Vb rfl);rfl;clear hs;intro w hs;simp only[Yg,Uc,Uz]at hs)
 (go_end0)
 refine⟨rfl,?_⟩
 apply memR_mk
 ((try simp only[Yh,Yi,Yj,Yk,Yl]);(try simp only[Yh,Yi,Yj,Yk,Yl]at hs);((with_reducible apply Sat.fin hs);(with_reducible exact Ql)))
end
section
open Go.RowKit Hp
set_option maxRecDepth 100000
set_option maxHeartbeats 1000000
theorem and_low (n:Nat)(h:n<18446744073709551616):bits .and .u64 (n:Int) 4294967295=((n%4294967296:Nat):Int):=by
 have:=u64_and_nat n 4294967295 h (by decide)
 rw[show((4294967295:Nat):Int)=4294967295 from rfl]at this
 rw[this,show(4294967295:Nat)=2 ^ 32-1 from rfl,Nat.and_two_pow_sub_one_eq_mod]
theorem and_mark (n:Nat)(h:n<18446744073709551616):bits .and .u64 (n:Int) 4294967296=((n / 4294967296%2*4294967296:Nat):Int):=by
 have:=u64_and_nat n 4294967296 h (by decide)
 rw[show((4294967296:Nat):Int)=4294967296 from rfl]at this
 rw[this,show(4294967296:Nat)=2 ^ 32 from rfl]
 congr 1
 apply Nat.eq_of_testBit_eq
 intro j
 rw[Nat.testBit_and,Nat.testBit_two_pow,Nat.testBit_mul_two_pow,show(n / 2 ^ 32%2)=n / 2 ^ 32%2 ^ 1 from rfl,Nat.testBit_mod_two_pow,Nat.testBit_div_two_pow]
 by_cases h:32=j
 ·subst h;simp
 ·by_cases h2:32≤j
  ·have:¬(j-32<1):=by omega
   simp[h,this]
  ·simp[h,h2]
theorem or_low (t n:Nat)(h:t<4294967296)(h2:n<4294967296):bits .or .u64 ((t*4294967296:Nat):Int) (n:Int)=((t*4294967296+n:Nat):Int):=by
 rw[u64_or_nat _ _ (by omega) (by omega),show(4294967296:Nat)=2 ^ 32 from rfl,Nat.mul_comm,Nat.two_pow_add_eq_or_of_lt (by simpa using h2)]
theorem word_unlink (n:Nat)(h1:n<8589934592)(h2:n%4294967296≤2147483647) :
  Zh Tryz.prog 156 #[.int .u64 (n:Int)] emp (.tuple #[.int .i64 ((n:Int)%4294967296-1),.bool (decide ((n:Int) / 4294967296%2=1)),.int .i64 0]) emp:=by
 intro O w F hs
 have e1:=and_low n (by omega)
 have e2:=and_mark n (by omega)
 go_enter Tryz.func156,Tryz.ntmps156
 go_wp2_with (fail)
 (go_ret3)
 refine⟨?_,by ((with_reducible apply Sat.fin hs);(with_reducible exact Ql))⟩
 have e3:(((n:Int) / 4294967296%2*4294967296) != 0)=decide ((n:Int) / 4294967296%2=1):=by
  rcases(show(n:Int) / 4294967296%2=0∨(n:Int) / 4294967296%2=1 by omega) with e|e<;>rw[e]<;>decide
 show Ending.returned (.tuple #[.int .i64 ((n:Int)%4294967296-1),.bool (((n:Int) / 4294967296%2*4294967296) != 0),.int .i64 0])=_
 rw[e3]
theorem Q6 (u:Int)(h0:0≤u)(h1:u≤2147483647) :
  Zh Tryz.prog 156 #[.int .u64 u] emp (.tuple #[.int .i64 (u-1),.bool false,.int .i64 0]) emp:=by
 have:=word_unlink u.toNat (by omega) (by omega)
 rw[Int.toNat_of_nonneg h0]at this
 rw[show u%4294967296=u by omega,show u / 4294967296%2=0 by omega]at this
 exact this
theorem word_link (s:Int)(h0 : -1≤s)(h1:s≤2147483646) :
  Zh Tryz.prog 153 #[.int .i64 s,.bool false] emp (.tuple #[.int .u64 (s+1),.int .i64 0]) emp:=by
 intro O w F hs
 go_enter Tryz.func153,Tryz.ntmps153
 go_wp2_with (fail)
 (go_ret2)
 exact⟨rfl,by ((with_reducible apply Sat.fin hs);(with_reducible exact Ql))⟩
theorem word_unhead (u:Int)(h0:0≤u)(h1:u<18446744073709551616)(h2:u%4294967296≤2147483647) :
  Zh Tryz.prog 155 #[.int .u64 u] emp (.tuple #[.int .u32 (u / 4294967296),.int .i64 (u%4294967296-1),.int .i64 0]) emp:=by
 intro O w F hs
 have e1:=and_low u.toNat (by omega)
 rw[Int.natCast_emod,Int.toNat_of_nonneg h0]at e1
 have hu:=Lh (Q6 (u%4294967296) (by omega) h2)
 go_enter Tryz.func155,Tryz.ntmps155
 go_wp2_with (go_at_call 156;((refine(hu.out).at hs (by (with_reducible exact Qh)) ?_);clear hs;intro w hs;(try simp only[Em,Ma]at hs)))
 (go_ret3)
 exact⟨rfl,by ((with_reducible apply Sat.fin hs);(focus with_reducible (repeat first|exact Ql|exact Qn|apply Qb);done))⟩
theorem word_head (t s:Int)(h0 : -1≤s)(h1:s≤2147483646)(h2:0≤t)(h3:t<4294967296) :
  Zh Tryz.prog 157 #[.int .u32 t,.int .i64 s] emp (.tuple #[.int .u64 (t*4294967296+(s+1)),.int .i64 0]) emp:=by
 intro O w F hs
 have hl:=Lh (word_link s h0 h1)
 have e1:=or_low t.toNat (s+1).toNat (by omega) (by omega)
 rw[Int.natCast_add,Int.natCast_mul,Int.toNat_of_nonneg h2,Int.toNat_of_nonneg (show 0≤s+1 by omega),show((4294967296:Nat):Int)=4294967296 from rfl]at e1
 go_enter Tryz.func157,Tryz.ntmps157
 go_wp2_with (go_at_call 153;((refine(hl.out).at hs (by (with_reducible exact Qh)) ?_);clear hs;intro w hs;(try simp only[Em,Ma]at hs)))
 (go_ret2)
 exact⟨rfl,by ((with_reducible apply Sat.fin hs);(focus with_reducible (repeat first|exact Ql|exact Qn|apply Qb);done))⟩
theorem word_number (v:Int):Zh Tryz.prog 143 #[.int .i64 v] emp (.int .u64 (v%18446744073709551616)) emp:=by
 intro O w F hs
 go_enter Tryz.func143,Tryz.ntmps143
 go_wp2_with (fail)
 (go_ret)
 exact⟨rfl,by ((with_reducible apply Sat.fin hs);(with_reducible exact Ql))⟩
theorem word_value (v:Int):Zh Tryz.prog 171 #[.int .u64 v] emp (.int .i64 (wrap64 v)) emp:=by
 intro O w F hs
 go_enter Tryz.func171,Tryz.ntmps171
 go_wp2_with (fail)
 (go_ret)
 exact⟨rfl,by ((with_reducible apply Sat.fin hs);(with_reducible exact Ql))⟩
end
end Go.Proofs.YtefjbdajgakgpaaGreat
