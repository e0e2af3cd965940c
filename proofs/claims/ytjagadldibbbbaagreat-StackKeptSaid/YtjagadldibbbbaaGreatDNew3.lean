/-
  word: Size, First; memory.New, machine.New.
-/
import Derived.Test.YtjagadldibbbbaaGreatDRun
import Derived.Test.YtjagadldibbbbaaGreatDAddr2
import Derived.Test.YtjagadldibbbbaaGreatDLog
import Derived.Test.YtjagadldibbbbaaGreatDParts
import Derived.Test.YtjagadldibbbbaaGreatDHaz
set_option linter.all false
namespace Go.Proofs.YtjagadldibbbbaaGreat
open Go.RowKit Hp
set_option maxRecDepth 100000
set_option maxHeartbeats 1000000
attribute [local irreducible] Go.Calls
section
section
end
theorem word_size (c:Cfg)(h:c.Ok):Zk Tryz.prog 36 #[c.v] emp (.tuple #[.int .i64 (base c 14),.int .i64 0]) emp:=by
 intro O w F hs
 have hC:=Lh (word_check c h)
 have hM:=Lh (word_many c h)
 go_enter Tryz.func36,Tryz.ntmps36
 go_wp2_with (first|(first|((with_reducible apply Z3 hs);exact Ii;rfl;(with_reducible exact Qh);rfl;rfl;(simp only[Uc,Uz]))|((with_reducible apply Zr hs);rfl;rfl;rfl;clear hs;intro w b hs;(simp only[Uc,Uz])))|(go_at_call 33;((refine(hC.out).at hs (by (focus((repeat(with_reducible exact Qn));done))) ?_);clear hs;intro w hs;(try simp only[Em,Ma]at hs))))
 (obtain⟨A,hA,hsn⟩:∃A,Hid (A=_)∧Sat O w A:=⟨_,Lh rfl,hs⟩;clear hs;have hs:=hsn;clear hsn)
 go_loopw [5,6] (fun a q wr=>∃k:Nat,1≤k∧k≤14∧q=.int .i64 (k:Int)∧a=.int .i64 (base c k)∧Sat O wr A) (fun _ q _=>15-(intOf q).toNat)
 case atStart=>exact⟨1,by omega,by omega,rfl,rfl,hs⟩
 case round=>
  obtain⟨k,k1,k2,rfl,rfl,hs⟩:=hrel
  have hb:=ZD h k
  have hmk:=many_le h k
  have e1:=base_succ c _ k1
  by_cases hkr:k=14
  ·subst hkr
   rw[hA.out]at hs
   go_wp2_with (fail)
   (go_ret2)
   exact⟨rfl,by ((with_reducible apply Sat.fin hs);(focus with_reducible (repeat first|exact Ql|exact Qn|apply Qb|apply Qk);done))⟩
  ·have hlt:decide ((k:Int)≤13)=true:=by simp;omega
   rw[hA.out]at hs
   go_wp2_with (first|((with_reducible apply Z3 hs);exact Ii;rfl;(with_reducible exact Qh);rfl;rfl;(simp only[Uc,Uz]))|(go_at_call 60;((refine((hM.out k)).at hs (by (focus((repeat(with_reducible exact Qn));done))) ?_);clear hs;intro w hs;(try simp only[Em,Ma]at hs))))
   go_roundw
   case rel=>exact⟨k+1,by omega,by omega,by simp,by rw[e1],by rw[hA.out];((with_reducible apply Sat.fin hs);(with_reducible exact Ql))⟩
   case measure=>simp[intOf];omega
def fillW (ws:List Int)(b:Int)(s:Nat):Nat→List Int
 | 0=>ws
 | n+1=>(fillW ws b s n).set (b+((s+n:Nat):Int)).toNat ((s+n+2:Nat):Int)
theorem fillW_len (ws:List Int)(b:Int)(s n:Nat):(fillW ws b s n).length=ws.length:=by
 induction n with
 | zero=>rfl
 | succ n ih=>simp[fillW,ih]
def firstW (c:Cfg)(u:Nat):List Int:=
 let w0:List Int:=List.replicate (base c 14).toNat 0
 let w1:=if (u:Int)<c.Sl then w0.set 0 ((u+1:Nat):Int) else w0
 let w2:=fillW w1 (base c 10) u (c.Sl.toNat-1-u)
 if 0<u then (w2.set 3 1).set 4 1 else w2
theorem firstW_len (c:Cfg)(u:Nat):(firstW c u).length=(base c 14).toNat:=by
 simp only[firstW]
 split<;>split<;>simp[fillW_len]
theorem base_cells {c:Cfg}(h:c.Ok):base c 10+c.Sl+c.Sl+c.Sl+c.Sl=base c 14∧8≤base c 10:=by
 have e1:base c 14=base c 13+c.Sl:=rfl
 have e2:base c 13=base c 12+c.Sl:=rfl
 have e3:base c 12=base c 11+c.Sl:=rfl
 have e4:base c 11=base c 10+c.Sl:=rfl
 have e5:base c 10=base c 9+c.R*c.Hz:=rfl
 have e6:base c 9=base c 8+c.R:=rfl
 have e7:base c 8=base c 7+c.Bu:=rfl
 have e8:base c 7=6:=by simp[base,many]
 have:=h.rh.1
 have:=h.R1;have:=h.B1
 omega
theorem word_first0 (c:Cfg)(h:c.Ok):Does Tryz.prog 26 #[c.v,.int .i64 0] emp (fun v=>ex fun s=>pu (v=.tuple #[s,.int .i64 0])*sl 47 1 ((firstW c 0).map eU) s):=by
 intro O w F hs
 have hS:=Lh (word_size c h)
 have hb10:=ZD h 10
 have hA:=Lh (word_addr c h 10 (by omega) (by omega) 0 ⟨by omega,by omega,by show 0<c.Sl;have:=h.S1;omega⟩)
 rw[if_neg (by omega)]at hA
 obtain⟨hc1,hc2⟩:=base_cells h
 have hb14:=ZD h 14
 have hs1:=h.S1
 have hs2:=h.S2
 have n1:decide (0>c.Sl)=false:=by simp;omega
 have n2:decide (0<c.Sl)=true:=by simp;omega
 obtain⟨W0,hW0⟩:∃W0:List Int,W0=List.replicate (base c 14).toNat 0:=⟨_,rfl⟩
 have hrep:List.replicate (base c 14).toNat (Value.int .u64 0).cells.toList=W0.map eU:=by rw[hW0,List.map_replicate];rfl
 have hlen:W0.length=(base c 14).toNat:=by rw[hW0];simp
 have hl0:0<W0.length:=by omega
 have hg0:W0[0]? = some 0:=by rw[hW0];simp[List.getElem?_replicate];omega
 have hfin:firstW c 0=fillW (W0.set 0 1) (base c 10) 0 (c.Sl.toNat-1):=by
  simp only[firstW]
  rw[if_neg (by omega),if_pos (by show(0:Int)<c.Sl;omega),←hW0]
  rfl
 have hfin:=Lh hfin
 have hW0:=Lh hW0
 go_enter Tryz.func26,Tryz.ntmps26
 go_wp2_with (first|(first|((with_reducible apply Zb hs);exact Ii;rfl;(with_reducible repeat first|exact Qh|apply Qk);rfl;rfl;(simp only[Uc,Uz]))|((with_reducible apply Z3 hs);exact Ii;rfl;(with_reducible repeat first|exact Qh|apply Qk);rfl;rfl;(simp only[Uc,Uz]))|((with_reducible apply Zr hs);rfl;rfl;rfl;clear hs;intro w b hs;(simp only[Uc,Uz]))|((with_reducible apply QE hs);exact Ii;rfl;rfl;assumption;(with_reducible exact Qh);rfl;(exact Zd (by assumption));(exact Vb rfl);(rfl);rfl;clear hs;intro w hs)|((with_reducible apply ZP hs);exact Ii;exact Ii;rfl;rfl;(with_reducible exact Qh);(rfl);(simp only[Wm,Ws,Wa,Wc,Wn,Wr]at *;omega);rfl;intro b off hat;(simp only[Uc,Uz])))|(((with_reducible apply wl_mk hs);exact Ii;exact Ii;rfl;rfl;rfl;rfl;(exact(Int.toNat_of_nonneg (by omega)).symm);omega;(exact Vb rfl);rfl;clear hs;intro w v hs;(simp only[Uc,Uz]));rw[hrep]at hs)|(go_at_call 36;((refine(hS.out).at hs (by (focus((repeat(with_reducible exact Qn));done))) ?_);clear hs;intro w hs;(try simp only[Em,Ma]at hs)))|(go_at_call 35;((refine(hA.out).at hs (by (focus((repeat(with_reducible exact Qn));done))) ?_);clear hs;intro w hs;(try simp only[Em,Ma]at hs))))
 have e0:(List.map eU W0).set 0 ((eU 0).set 0 (Value.int IntKind.u64 1))=(fillW (W0.set 0 1) (base c 10) 0 0).map eU:=by simp[fillW,Yk]
 rw[e0]at hs
 have hlW:∀n,(fillW (W0.set 0 1) (base c 10) 0 n).length=(base c 14).toNat:=fun n=>by rw[fillW_len,List.length_set,hlen]
 obtain⟨T,hT,hs⟩:∃T,Hid (T=_)∧Sat O w (sl 47 1 ((fillW (W0.set 0 1) (base c 10) 0 0).map eU) v*T):=⟨_,Lh rfl,hs.pull (by (with_reducible exact Qh))⟩
 clear hg0 hl0 e0 n2
 go_loopw [11] (fun q wr=>∃n:Nat,(n:Int)+1≤c.Sl∧q=.int .i64 (n:Int)∧Sat O wr (sl 47 1 ((fillW (W0.set 0 1) (base c 10) 0 n).map eU) v*T)) (fun q _=>1025-(intOf q).toNat)
 case atStart=>exact⟨0,by omega,rfl,hs⟩
 case round=>
  obtain⟨n,k1,rfl,hs⟩:=hrel
  rw[hT.out]at hs
  have hl:=hlW n
  by_cases hkr:(n:Int)+1=c.Sl
  ·have hlt:decide ((n:Int)<c.Sl-1)=false:=by simp;omega
   go_wp2_with ((with_reducible apply Zb hs);exact Ii;rfl;(with_reducible repeat first|exact Qh|apply Qk);rfl;rfl;(simp only[Uc,Uz]))
   (go_ret2)
   refine⟨_,rfl,?_⟩
   simp only[ZI,Ma,Zx]
   refine⟨_,rfl,?_⟩
   rw[hfin.out,show c.Sl.toNat-1=n by omega]
   ((with_reducible apply Sat.fin hs);(focus((repeat(first|with_reducible exact Ql|with_reducible apply Qb|exact Qh|with_reducible apply Qk));done)))
  ·have hlt:decide ((n:Int)<c.Sl-1)=true:=by simp;omega
   have hix:base c 10+(n:Int)<((fillW (W0.set 0 1) (base c 10) 0 n).length:Int):=by rw[hl];omega
   have hi2:(base c 10+(n:Int)).toNat<(fillW (W0.set 0 1) (base c 10) 0 n).length:=by omega
   obtain⟨x,hx⟩:∃x,(fillW (W0.set 0 1) (base c 10) 0 n)[(base c 10+(n:Int)).toNat]? = some x:=⟨_,Yd hi2⟩
   have hw1:wrap64 (base c 10+(n:Int))=base c 10+(n:Int):=by unfold wrap64;omega
   have hw2:wrap64 ((n:Int)+2)=(n:Int)+2:=by unfold wrap64;omega
   have hw3:((n:Int)+2)%18446744073709551616=(n:Int)+2:=by omega
   go_wp2_with (first|((with_reducible apply Zb hs);exact Ii;rfl;(with_reducible repeat first|exact Qh|apply Qk);rfl;rfl;(simp only[Uc,Uz]))|((with_reducible apply QE hs);exact Ii;rfl;rfl;assumption;(with_reducible exact Qh);rfl;(exact Zd (by assumption));(exact Vb rfl);(rfl);rfl;clear hs;intro w hs)|((with_reducible apply QH hs);exact Ii;exact Ii;rfl;assumption;rfl;(with_reducible exact Qh);(exact(Int.toNat_of_nonneg (by omega)).symm);(simp only[Wm,Ws,Wa,Wc,Wn,Wr]at *;omega);rfl;(simp only[Uc,Uz])))
   have e1:(List.map eU (fillW (W0.set 0 1) (base c 10) 0 n)).set (base c 10+(n:Int)).toNat ((eU x).set 0 (Value.int IntKind.u64 ((n:Int)+2)))=(fillW (W0.set 0 1) (base c 10) 0 (n+1)).map eU:=by simp[fillW,Yk]
   rw[e1]at hs
   go_roundw
   case rel=>exact⟨n+1,by omega,by simp,by rw[hT.out];((with_reducible apply Sat.fin hs);(with_reducible exact Ql))⟩
   case measure=>simp[intOf];omega
end
section
theorem memory_new (v:Value)(ws:List Int)(hl:ws.length≤8192) :
  Does Tryz.prog 37 #[v] (sl 47 1 (ws.map eU) v) (fun u=>ex fun g=>pu (u=.tuple #[.pointer (some ⟨g,0,none⟩),.int .i64 0])*(MemR g ⟨ws,[],[],0⟩*sl 47 1 (ws.map eU) v)):=by
 intro O w F hs
 obtain⟨a0,c0,rfl⟩:=ZU hs
 have hC:=Lh (clone_words (.slice a0 (ws.map eU).length c0) ws (by omega))
 have n1:decide ((ws.length:Int)>8192)=false:=by simp;omega
 simp only[List.length_map]at hC hs ⊢
 go_enter Tryz.func37,Tryz.ntmps37
 go_wp2_with (first|(first|((with_reducible apply Zr hs);rfl;rfl;rfl;clear hs;intro w b hs;(simp only[Uc,Uz]))|((with_reducible apply Zw hs);exact Ii;rfl;(with_reducible exact Qh);rfl;(simp only[Uc,Uz])))|(go_at_call 61;((refine(hC.out).at hs (by (with_reducible exact Qh)) ?_);clear hs;intro v w hs;(try simp only[Em,Ma]at hs));(obtain⟨a1,c1,rfl⟩:=ZU hs)))
 (go_ret2)
 refine⟨_,rfl,?_⟩
 simp only[ZI,Ma,Zx]
 refine⟨_,rfl,?_⟩
 apply memR_mk
 have hs:=Q8 (E:=47) (sz:=1) hs (by omega)
 have hs:=Q8 (E:=49) (sz:=7) hs (by omega)
 simp only[Yj]
 simp only[List.length_map]at hs
 ((with_reducible apply Sat.fin hs);(with_reducible repeat first|exact Ql|exact Qh|apply Qb|apply Qk))
abbrev sea0:Sea:=⟨.nilIface,false,-1,0,0⟩
def mch0 (T:Nat)(ws:List Int)(kit vs:Value):Mch:=
 { mem:=⟨ws,[],[],0⟩,thread:=0,now:=0,cur:=none,used:=false,shifts:=[],kit,vs,vc:=.slice none 0 0,seats:=List.replicate T sea0,moves:=0,calls:=[] }
theorem machine_new (T:Nat)(v:Value)(km:Nat)(ws:List Int)(hT1:1≤T)(hT2:T≤16)(hl:ws.length≤8192) :
  Does Tryz.prog 27 #[.int .i64 (T:Int),v,.map (some km)] (sl 47 1 (ws.map eU) v) (fun u=>ex fun g=>ex fun gm=>ex fun vs=>pu (u=.tuple #[.pointer (some ⟨g,0,none⟩),.int .i64 0])*(MchR g gm (mch0 T ws (.map (some km)) vs)*sl 47 1 (ws.map eU) v)):=by
 intro O w F hs
 have hM:=Lh (memory_new v ws hl)
 have n1:decide ((T:Int)<1)=false:=by simp;omega
 have n2:decide ((T:Int)>16)=false:=by simp;omega
 go_enter Tryz.func27,Tryz.ntmps27
 go_wp2_with (first|((with_reducible apply Zr hs);rfl;rfl;rfl;clear hs;intro w b hs;(simp only[Uc,Uz]))|(go_at_call 37;((refine(hM.out).at hs (by (with_reducible exact Qh)) ?_);clear hs;intro v w hs;(try simp only[Em,Ma]at hs));(simp only[ZI,Ma,Zx]at hs);(obtain⟨gm,rfl,hs⟩:=hs)))
 have hs:=Q8 (E:=111) (sz:=5) hs (by omega)
 have hs:=Q8 (E:=42) (sz:=9) hs (by omega)
 have hs:=Q8 (E:=52) (sz:=5) hs (by omega)
 go_loopw [31] (fun q wr=>∃(n:Nat) (vs:Value),n≤T∧q=.int .i64 (n:Int)∧Sat O wr (pt b (.cells #[.pointer (some ⟨gm,0,none⟩),.int .i64 0,.int .i64 0,.pointer none,.pointer none,.bool false,.slice none 0 0,.map (some km),vs,.int .i64 0,.slice none 0 0] 107) *
  (sl 111 5 ((List.replicate n sea0).map Sea.e) vs*(sl 52 5 [] (.slice none 0 0)*(sl 42 9 [] (.slice none 0 0)*(MemR gm ⟨ws,[],[],0⟩*(sl 47 1 (ws.map eU) v*F))))))) (fun q _=>17-(intOf q).toNat)
 case atStart=>exact⟨0,_,by omega,rfl,by simp only[List.replicate_zero,Yj];((with_reducible apply Sat.fin hs);(with_reducible repeat first|exact Ql|exact Qh|apply Qb|apply Qk))⟩
 case round=>
  obtain⟨n,vs,k1,rfl,hs⟩:=hrel
  by_cases hkr:n=T
  ·subst hkr
   have hlt:decide ((n:Int)<(n:Int))=false:=by simp
   go_wp2_with (fail)
   (go_ret2)
   refine⟨_,rfl,?_⟩
   simp only[ZI,Ma,Zx]
   refine⟨_,gm,vs,rfl,?_⟩
   refine Q5 (vh:=.slice none 0 0) (call:=.pointer none) (told:=.pointer none) ⟨fun _=>⟨rfl,rfl⟩,fun _ _ h=>by simp[mch0]at h⟩ ?_
   simp only[mch0,Yj]
   ((with_reducible apply Sat.fin hs);(with_reducible repeat first|exact Ql|exact Qh|apply Qb|apply Qk))
  ·have hlt:decide ((n:Int)<(T:Int))=true:=by simp;omega
   have hlr:(List.replicate n sea0).length<100:=by simp;omega
   obtain⟨a0,c0,rfl⟩:=ZU (hs.pull (A:=sl 111 5 _ vs) (by (with_reducible repeat first|exact Qh|apply Qk)))
   go_wp2_with (first|((with_reducible apply Zb hs);exact Ii;rfl;(with_reducible exact Qh);rfl;rfl;(simp only[Uc,Uz]))|((with_reducible apply ZA hs);exact Ii;rfl;rfl;(with_reducible repeat first|exact Qh|apply Qk);(apply QR;apply hs.pull;(with_reducible exact Qh));(exact Vb rfl);rfl;clear hs;intro w hs;simp only[Yg,Uc,Uz]at hs)|((with_reducible apply wl_bs hs);exact Ii;exact Ii;rfl;rfl;rfl;rfl;(exact Vb rfl);rfl;clear hs;intro w v hs;(simp only[Uc,Uz]))|((with_reducible apply QM hs);exact Ii;exact Ii;rfl;rfl;(focus with_reducible (repeat first|exact Qh|apply Qk);done);(with_reducible exact Qh);(simp only[Wm,Ws,Wa,Wc,Wn,Wr]at *;omega);(exact Vb rfl);rfl;clear hs;intro w v hs;(simp only[Uc,Uz])))
   go_roundw
   case rel=>exact⟨n+1,_,by omega,by simp,by rw[List.replicate_succ',Yh];((with_reducible apply Sat.fin hs);(focus((repeat(first|with_reducible exact Ql|with_reducible exact Qh|with_reducible apply Qb|exact Qh|with_reducible apply Qk));done)))⟩
   case measure=>simp[intOf];omega
end
section
theorem stars_nil {O w:World}{R:Zc}{E:TypeId}(hs:Sat O w R):∀n,Sat O w (Q3 E (List.replicate n []) (List.replicate n (.slice none 0 0))*R)
 | 0=>by simp only[List.replicate_zero,Q3,Em];exact hs
 | n+1=>by
  simp only[List.replicate_succ,Q3,Ma,Yj]
  exact Q8 (stars_nil hs n) (by omega)
theorem nest_nil {O w:World}{R:Zc}{E1 E0:TypeId}{n:Nat}{v:Value}(hs:Sat O w (sl E1 1 (List.replicate n [.slice none 0 0]) v*R)):Sat O w (nest E1 E0 (List.replicate n []) v*R):=by
 refine nest_iff.2 ⟨List.replicate n (.slice none 0 0),by simp,?_⟩
 have:=stars_nil (E:=E0) hs n
 refine(this.cast ?_)
 rw[List.map_replicate]
 exact QB _ _ _
theorem arena_config (b:Nat)(a:Are) :
  Zk Tryz.prog 34 #[.pointer (some ⟨b,0,none⟩)] (AreR b a) a.c.v (AreR b a):=by
 intro O w F hs
 (obtain⟨vas,vac,hs⟩:=areR.1 hs)
 go_enter Tryz.func34,Tryz.ntmps34
 go_wp2_with (first|(first|((with_reducible apply ZH hs);exact Ii;rfl;rfl;(with_reducible exact Qh);rfl;rfl;rfl;rfl;clear hs;intro w hs)|((with_reducible apply Zn hs);exact Ii;rfl;clear hs;intro w b hs;(simp only[Uc,Uz])))|((with_reducible apply wl_ldN hs);exact Ii;rfl;(with_reducible repeat first|exact Qh|apply Qk);(simp only[List.size_toArray,List.length_cons,List.length_nil];omega);rfl;rfl;(simp only[Uc,Uz])))
 ((try simp only[Exit.inBlock,Exit.then]);(with_reducible apply bodyPost_ret);((with_reducible apply results_c);rfl;rfl;(with_reducible apply loadF hs);exact Ii;(with_reducible exact Qh);rfl;rfl))
 refine⟨rfl,?_⟩
 (apply areR_mk;((try simp only[Yh,Yi,Yj,Yk,Yl]);(try simp only[Yh,Yi,Yj,Yk,Yl]at hs);((with_reducible apply Sat.fin hs);(with_reducible repeat first|exact Ql|exact Qh|apply Qb|apply Qk))))
def are0 (c:Cfg):Are:=⟨c,List.replicate c.Sl.toNat ⟨0,-1⟩,List.replicate c.T.toNat []⟩
theorem arena_new_no (c:Cfg)(h:¬c.Ok)(k:Int):Zk Tryz.prog 24 #[c.v,.int .i64 k] emp (.tuple #[.pointer none,.int .i64 1]) emp:=by
 intro O w F hs
 have hC:=Lh (word_check_no c h)
 go_enter Tryz.func24,Tryz.ntmps24
 go_wp2_with (first|(first|((with_reducible apply Z3 hs);exact Ii;rfl;(with_reducible exact Qh);rfl;rfl;(simp only[Uc,Uz]))|((with_reducible apply Zr hs);rfl;rfl;rfl;clear hs;intro w b hs;(simp only[Uc,Uz])))|(go_at_call 33;((refine(hC.out).at hs (by (focus((repeat(with_reducible exact Qn));done))) ?_);clear hs;intro w hs;(try simp only[Em,Ma]at hs))))
 (go_ret2)
 exact⟨rfl,by ((with_reducible apply Sat.fin hs);(focus with_reducible (repeat first|exact Ql|exact Qn|apply Qb|apply Qk);done))⟩
def slN (S n:Nat):List Slt:=List.replicate n ⟨0,-1⟩++List.replicate (S-n) ⟨0,0⟩
theorem slN_get {S n:Nat}(h:n<S):(slN S n)[n]? = some ⟨0,0⟩:=by
 unfold slN
 rw[List.getElem?_append_right (by simp)]
 simp[List.getElem?_replicate];omega
theorem slN_set {S n:Nat}(h:n<S):(slN S n).set n ⟨0,-1⟩=slN S (n+1):=by
 unfold slN
 rw[List.set_append_right _ _ (by simp)]
 simp only[List.length_replicate,Nat.sub_self]
 obtain⟨k,hk⟩:∃k,S-n=k+1:=⟨S-n-1,by omega⟩
 rw[hk,List.replicate_succ,Uz,show S-(n+1)=k by omega,List.replicate_succ' ,List.append_assoc]
 rfl
theorem slN_len {S n:Nat}(h:n≤S):(slN S n).length=S:=by simp[slN];omega
theorem arena_new (c:Cfg)(h:c.Ok) :
  Does Tryz.prog 24 #[c.v,.int .i64 0] emp (fun u=>ex fun g=>pu (u=.tuple #[.pointer (some ⟨g,0,none⟩),.int .i64 0])*AreR g (are0 c)):=by
 intro O w F hs
 have hC:=Lh (word_check c h)
 have h1:=h.S1;have h2:=h.S2;have h3:=h.T1;have h4:=h.T2
 have n1:decide (0>c.Sl)=false:=by simp;omega
 go_enter Tryz.func24,Tryz.ntmps24
 go_wp2_with (first|(first|(first|(with_reducible refine NQ.mk ?_)|((with_reducible apply Zh);rfl;rfl)|(with_reducible refine EQ.mk ?_ ?_)|(first|(with_reducible exact Zf)|((with_reducible refine Zl ?_ ?_);(focus((with_reducible apply ZF);rfl;rfl))))|(with_reducible refine Zi ?_)|(show ZY _ _ _;rfl))|((with_reducible apply Zb hs);exact Ii;rfl;(with_reducible repeat first|exact Qh|apply Qk);rfl;rfl;(simp only[Uc,Uz]))|((with_reducible apply Z3 hs);exact Ii;rfl;(with_reducible repeat first|exact Qh|apply Qk);rfl;rfl;(simp only[Uc,Uz]))|((with_reducible apply Zr hs);rfl;rfl;rfl;clear hs;intro w b hs;(simp only[Uc,Uz]))|((with_reducible apply Zw hs);exact Ii;rfl;(with_reducible repeat first|exact Qh|apply Qk);rfl;(simp only[Uc,Uz])))|(((with_reducible apply wl_mk hs);exact Ii;exact Ii;rfl;rfl;rfl;rfl;(exact(Int.toNat_of_nonneg (by omega)).symm);omega;(exact Vb rfl);rfl;clear hs;intro w v hs;(simp only[Uc,Uz]));(obtain⟨_,_,rfl⟩:=ZU hs);(simp only[List.length_replicate]at hs ⊢))|(first|((with_reducible refine plt_leaf ?_);(try simp only[Yi,Yj]))|((with_reducible refine plt_one ?_);(try simp only[Yi,Yj]))|((with_reducible refine plt_two ?_);(try simp only[Yi,Yj]))|((with_reducible apply te_eff);rfl)|(with_reducible refine Two.mk ?_ ?_))|((with_reducible refine wp_tree_sat (id:=6) (.two [0,1,2,4,5] 3 [0,4,5] (.one [] 6 [0,1,2] (.one [7] 8 [] (.leaf [9]))) 6 [0,1,2] (.one [] 3 [0,4,5] (.one [7] 8 [] (.leaf [9])))) hs rfl ?_ ?_);kernel_rfl;clear hs;intro w hs)|(go_at_call 33;((refine(hC.out).at hs (by (focus((repeat(with_reducible exact Qn));done))) ?_);clear hs;intro w hs;(try simp only[Em,Ma]at hs))))
 all_goals
  have e1:List.replicate c.Sl.toNat (Value.agg #[Value.int IntKind.i64 0,Value.int IntKind.i64 0]).cells.toList=(slN c.Sl.toNat 0).map Slt.e:=by unfold slN;rw[List.replicate_zero,List.nil_append,List.map_replicate,Nat.sub_zero];rfl
  have e2:List.replicate c.T.toNat (Value.slice none 0 0).cells.toList=List.replicate c.T.toNat [.slice none 0 0]:=rfl
  rw[e1,e2]at hs
  replace hs:=nest_nil (E0:=3) (hs.pull (A:=sl 35 1 (List.replicate c.T.toNat [.slice none 0 0]) _) (by (with_reducible repeat first|exact Qh|apply Qk)))
  clear e1 e2
  go_loopw [36] (fun q wr=>∃(n:Nat) (v1 v2:Value),n≤c.Sl.toNat∧q=.int .i64 (n:Int)∧Sat O wr (pt b (.cells #[.int .i64 c.T,.int .i64 c.R,.int .i64 c.Hz,.int .i64 c.Rt,.int .i64 c.Ca,.int .i64 c.Sl,.int .i64 c.Bu,v1,v2] 86) *
   (sl 88 2 ((slN c.Sl.toNat n).map Slt.e) v1*(nest 35 3 (List.replicate c.T.toNat []) v2*F)))) (fun q _=>1025-(intOf q).toNat)
  case atStart=>exact⟨0,_,_,by omega,rfl,by ((with_reducible apply Sat.fin hs);(with_reducible repeat first|exact Ql|exact Qh|apply Qb|apply Qk))⟩
  case round=>
   obtain⟨n,v1,v2,k1,rfl,hs⟩:=hrel
   by_cases hkr:n=c.Sl.toNat
   ·have hlt:decide ((n:Int)<(c.Sl.toNat:Int))=false:=by simp;omega
    go_wp2_with (fail)
    (go_ret2)
    refine⟨_,rfl,?_⟩
    simp only[ZI,Ma,Zx]
    refine⟨_,rfl,?_⟩
    have e3:slN c.Sl.toNat n=(are0 c).slots:=by unfold slN are0;rw[hkr];simp
    rw[e3]at hs
    apply areR_mk
    ((with_reducible apply Sat.fin hs);(focus((repeat(first|with_reducible exact Ql|with_reducible exact Qh|with_reducible apply Qb|exact Qh));done)))
   ·have hlt:decide ((n:Int)<(c.Sl.toNat:Int))=true:=by simp;omega
    have hg:=slN_get (S:=c.Sl.toNat) (n:=n) (by omega)
    have hst:=slN_set (S:=c.Sl.toNat) (n:=n) (by omega)
    have hl:=slN_len (S:=c.Sl.toNat) (n:=n) (by omega)
    have hln:n<(slN c.Sl.toNat n).length:=by omega
    have hn0:decide ((n:Int)<0)=false:=by simp
    generalize slN c.Sl.toNat n=X at hs hg hst hl hln
    have hst:=Lh hst
    clear h
    go_wp2_with (first|((with_reducible apply Zb hs);exact Ii;rfl;(with_reducible exact Qh);rfl;rfl;(simp only[Uc,Uz]))|((with_reducible apply wl_stSN (k:=0) hs);exact Ii;rfl;rfl;assumption;(with_reducible repeat first|exact Qh|apply Qk);(exact(Nat.add_zero _).symm);(exact Zd (by assumption));(exact Vb rfl);rfl;rfl;rfl;rfl;clear hs;intro w hs;simp only[List.take_succ_cons,List.take_zero,List.drop_succ_cons,List.drop_zero,List.cons_append,List.nil_append,List.append_nil]at hs)|((with_reducible apply ZP hs);exact Ii;exact Ii;rfl;rfl;(with_reducible repeat first|exact Qh|apply Qk);(rfl);(simp only[Wm,Ws,Wa,Wc,Wn,Wr]at *;omega);rfl;intro b off hat;(simp only[Uc,Uz])))
    go_roundw
    case rel=>exact⟨n+1,_,_,by omega,by simp,by rw[←hst.out];((try simp only[Yh,Yi,Yj,Yk,Yl]);(try simp only[Yh,Yi,Yj,Yk,Yl]at hs);((with_reducible apply Sat.fin hs);(with_reducible repeat first|exact Ql|exact Qh|apply Qb|apply Qk)))⟩
    case measure=>simp[intOf];omega
def haz0 (c:Cfg):Haz:=⟨c,List.replicate c.T.toNat (-1),List.replicate c.R.toNat []⟩
theorem hazard_new (ba:Nat)(a:Are)(h:a.c.Ok) :
  Makes Tryz.prog 25 #[.pointer (some ⟨ba,0,none⟩)] (AreR ba a) (fun g=>HazR g ba (haz0 a.c)*AreR ba a):=by
 intro O w F hs
 have hG:=Lh (arena_config ba a)
 have hC:=Lh (word_check a.c h)
 have h1:=h.R1;have h2:=h.R2;have h3:=h.T1;have h4:=h.T2;have h5:=h.S1
 have h6:=h.H1
 have hrh:0<a.c.R*a.c.Hz:=Int.mul_pos (by omega) (by omega)
 have hA8:=word_addr a.c h 8 (by omega) (by omega) 0 ⟨by omega,by omega,by show 0<a.c.R;omega⟩
 have hA9:=word_addr a.c h 9 (by omega) (by omega) 0 ⟨by omega,by omega,by show 0<a.c.R*a.c.Hz;omega⟩
 have hA2:=word_addr a.c h 2 (by omega) (by omega) 0 ⟨by omega,by omega,by show(0:Int)<1;omega⟩
 have hA11:=word_addr a.c h 11 (by omega) (by omega) 0 ⟨by omega,by omega,by show 0<a.c.Sl;omega⟩
 rw[if_neg (by omega),Int.add_zero]at hA8 hA2 hA11
 rw[if_pos rfl,Int.zero_mul,Int.add_zero]at hA9
 have hA8:=Lh hA8
 have hA9:=Lh hA9
 have hA2:=Lh hA2
 have hA11:=Lh hA11
 clear h
 go_enter Tryz.func25,Tryz.ntmps25
 go_wp2_with (first|(first|(first|(with_reducible refine NQ.mk ?_)|((with_reducible apply Zh);rfl;rfl)|((with_reducible apply Zq);rfl)|(with_reducible refine EQ.mk ?_ ?_)|(first|(with_reducible exact Zf)|((with_reducible refine Zl ?_ ?_);(focus((with_reducible apply ZF);rfl;rfl))))|(with_reducible refine Zi ?_)|(show ZY _ _ _;rfl))|((with_reducible apply Zb hs);exact Ii;rfl;(with_reducible repeat first|exact Qh|apply Qk);rfl;rfl;(simp only[Uc,Uz]))|((with_reducible apply Z3 hs);exact Ii;rfl;(with_reducible repeat first|exact Qh|apply Qk);rfl;rfl;(simp only[Uc,Uz]))|((with_reducible apply ZH hs);exact Ii;rfl;rfl;(with_reducible exact Qh);rfl;rfl;rfl;rfl;clear hs;intro w hs)|((with_reducible apply Zn hs);exact Ii;rfl;clear hs;intro w b hs;(simp only[Uc,Uz]))|((with_reducible apply Zr hs);rfl;rfl;rfl;clear hs;intro w b hs;(simp only[Uc,Uz])))|(((with_reducible apply wl_mk hs);exact Ii;exact Ii;rfl;rfl;rfl;rfl;(exact(Int.toNat_of_nonneg (by omega)).symm);omega;(exact Vb rfl);rfl;clear hs;intro w v hs;(simp only[Uc,Uz]));(obtain⟨_,_,rfl⟩:=ZU hs);(simp only[List.length_replicate]at hs ⊢))|((with_reducible refine Wp (id:=4) [.neu 0,.neu 1,.neu 2,.neu 3,.eff 4 [0,1],.neu 5,.eff 6 [],.neu 7] hs rfl ?_ ?_);kernel_rfl;clear hs;intro w hs)|(go_at_call 33;((refine(hC.out).at hs (by (focus((repeat(with_reducible exact Qn));done))) ?_);clear hs;intro w hs;(try simp only[Em,Ma]at hs)))|(go_at_call 34;((refine(hG.out).at hs (by (with_reducible exact Qh)) ?_);clear hs;intro w hs;(try simp only[Em,Ma]at hs))))
 have e2:List.replicate a.c.R.toNat (Value.slice none 0 0).cells.toList=List.replicate a.c.R.toNat [.slice none 0 0]:=rfl
 rw[e2]at hs
 replace hs:=nest_nil (E0:=3) (hs.pull (A:=sl 35 1 (List.replicate a.c.R.toNat [.slice none 0 0]) _) (by (with_reducible repeat first|exact Qh|apply Qk)))
 clear e2
 replace hs:=Q8 (E:=3) (sz:=1) hs (by omega)
 have hT0:((a.c.T.toNat:Nat):Int)=a.c.T:=Int.toNat_of_nonneg (by omega)
 obtain⟨v2,T,hT,hs⟩:∃v2 T,Hid (T=_)∧Sat O w (pt b (.cells #[.pointer (some ⟨ba,0,none⟩),.int .i64 a.c.T,.int .i64 a.c.R,.int .i64 a.c.Hz,.int .i64 a.c.Rt,.int .i64 a.c.Ca,.int .i64 a.c.Sl,.int .i64 a.c.Bu,.slice none 0 0,v2,.int .i64 0,.int .i64 0,.int .i64 0,.int .i64 0] 91) *
   (sl 3 1 [] (.slice none 0 0)*(nest 35 3 (List.replicate a.c.R.toNat []) v2*T))):=⟨_,_,Lh rfl,by ((with_reducible apply Sat.fin hs);(with_reducible repeat first|exact Ql|exact Qh|apply Qb|apply Qk))⟩
 go_loopw [26] (fun q wr=>∃(n:Nat) (v1:Value),(n:Int)≤a.c.T∧q=.int .i64 (n:Int)∧Sat O wr (pt b (.cells #[.pointer (some ⟨ba,0,none⟩),.int .i64 a.c.T,.int .i64 a.c.R,.int .i64 a.c.Hz,.int .i64 a.c.Rt,.int .i64 a.c.Ca,.int .i64 a.c.Sl,.int .i64 a.c.Bu,v1,v2,.int .i64 0,.int .i64 0,.int .i64 0,.int .i64 0] 91) *
   (sl 3 1 ((List.replicate n (-1)).map eI) v1*(nest 35 3 (List.replicate a.c.R.toNat []) v2*T)))) (fun q _=>17-(intOf q).toNat)
 case atStart=>exact⟨0,_,by omega,rfl,by simp only[List.replicate_zero,Yj];((with_reducible apply Sat.fin hs);(with_reducible exact Ql))⟩
 case round=>
  obtain⟨n,v1,k1,rfl,hs⟩:=hrel
  by_cases hkr:(n:Int)=a.c.T
  ·have hlt:decide ((n:Int)<a.c.T)=false:=by simp;omega
   rw[hT.out]at hs
   go_wp2_with (first|(first|((with_reducible apply Z3 hs);exact Ii;rfl;(with_reducible repeat first|exact Qh|apply Qk);rfl;rfl;(simp only[Uc,Uz]))|((with_reducible apply ZA hs);exact Ii;rfl;rfl;(with_reducible exact Qh);(rfl);(exact Vb rfl);rfl;clear hs;intro w hs;simp only[Yg,Uc,Uz]at hs))|(go_at_call 35;first|((refine(hA8.out).at hs (by (focus((repeat(with_reducible exact Qn));done))) ?_);clear hs;intro w hs;(try simp only[Em,Ma]at hs))|((refine(hA9.out).at hs (by (focus((repeat(with_reducible exact Qn));done))) ?_);clear hs;intro w hs;(try simp only[Em,Ma]at hs))|((refine(hA2.out).at hs (by (focus((repeat(with_reducible exact Qn));done))) ?_);clear hs;intro w hs;(try simp only[Em,Ma]at hs))|((refine(hA11.out).at hs (by (focus((repeat(with_reducible exact Qn));done))) ?_);clear hs;intro w hs;(try simp only[Em,Ma]at hs))))
   (go_ret)
   refine⟨_,rfl,?_⟩
   simp only[Ma]
   apply Zz
   have e3:List.replicate n (-1)=(haz0 a.c).held:=by unfold haz0;rw[←hkr];simp
   rw[e3]at hs
   ((with_reducible apply Sat.fin hs);(focus((repeat(first|with_reducible exact Ql|with_reducible exact Qh|with_reducible apply Qb|exact Qh|with_reducible apply Qk));done)))
  ·have hlt:decide ((n:Int)<a.c.T)=true:=by simp;omega
   have hlr:(List.replicate n (-1:Int)).length<100:=by simp;omega
   rw[hT.out]at hs
   obtain⟨a0,c0,rfl⟩:=ZU (hs.pull (A:=sl 3 1 _ v1) (by (with_reducible repeat first|exact Qh|apply Qk)))
   go_wp2_with (first|((with_reducible apply Zb hs);exact Ii;rfl;(with_reducible exact Qh);rfl;rfl;(simp only[Uc,Uz]))|((with_reducible apply ZA hs);exact Ii;rfl;rfl;(with_reducible repeat first|exact Qh|apply Qk);(apply QR;apply hs.pull;(with_reducible exact Qh));(exact Vb rfl);rfl;clear hs;intro w hs;simp only[Yg,Uc,Uz]at hs)|((with_reducible apply wl_bs hs);exact Ii;exact Ii;rfl;rfl;rfl;rfl;(exact Vb rfl);rfl;clear hs;intro w v hs;(simp only[Uc,Uz]))|((with_reducible apply QM hs);exact Ii;exact Ii;rfl;rfl;(focus with_reducible (repeat first|exact Qh|apply Qk);done);(with_reducible exact Qh);(simp only[Wm,Ws,Wa,Wc,Wn,Wr]at *;omega);(exact Vb rfl);rfl;clear hs;intro w v hs;(simp only[Uc,Uz])))
   go_roundw
   case rel=>exact⟨n+1,_,by omega,by simp,by rw[List.replicate_succ',Yh,hT.out];((with_reducible apply Sat.fin hs);(focus((repeat(first|with_reducible exact Ql|with_reducible exact Qh|with_reducible apply Qb|exact Qh|with_reducible apply Qk));done)))⟩
   case measure=>simp[intOf];omega
end
end Go.Proofs.YtjagadldibbbbaaGreat
