/-
  The arms of the walk over the logic of parts: 'go_wp2_with (first | (first | (first | ((with_reducible refine NQ.mk ?_)) | (((with_reducible apply Zh); rfl; rfl)) | (((with_reducible apply Zq); rfl)) | ((with_reducible refine EQ.mk ?_ ?_)) | (first | (with_reducible exact Zf) | ((with_reducible refine Zl ?_ ?_); (focus ((with_reducible apply ZF); rfl; rfl)))) | ((with_reducible refine Zi ?_)) | ((show ZY _ _ _; rfl))) | (((with_reducible apply Zb hs); exact Ii; rfl; ((focus ((repeat (first | with_reducible exact Ql | with_reducible exact Qh | with_reducible exact Qn | with_reducible apply Qb | exact Qh | exact Ql | with_reducible apply Qk)); done))); rfl; rfl; (simp only [Uc, Uz]))) | (((with_reducible apply Z3 hs); exact Ii; rfl; ((focus ((repeat (first | with_reducible exact Ql | with_reducible exact Qh | with_reducible exact Qn | with_reducible apply Qb | exact Qh | exact Ql | with_reducible apply Qk)); done))); rfl; rfl; (simp only [Uc, Uz]))) | (((with_reducible apply ZA hs); exact Ii; rfl; rfl; ((focus ((repeat (first | with_reducible exact Ql | with_reducible exact Qh | with_reducible exact Qn | with_reducible apply Qb | exact Qh | exact Ql | with_reducible apply Qk)); done))); (first | rfl | assumption | ((apply QR; apply hs.pull; ((focus ((repeat (first | with_reducible exact Ql | with_reducible exact Qh | with_reducible exact Qn | with_reducible apply Qb | exact Qh | exact Ql | with_reducible apply Qk)); done))))) | ((apply resH_one; apply QR; apply hs.pull; ((focus ((repeat (first | with_reducible exact Ql | with_reducible exact Qh | with_reducible exact Qn | with_reducible apply Qb | exact Qh | exact Ql | with_reducible apply Qk)); done))))) | ((apply resL_one; apply QR; apply hs.pull; ((focus ((repeat (first | with_reducible exact Ql | with_reducible exact Qh | with_reducible exact Qn | with_reducible apply Qb | exact Qh | exact Ql | with_reducible apply Qk)); done)))))); (first | exact Vb rfl | (simp only [List.size_toArray, List.length_cons, List.length_nil]; omega)); rfl; clear hs; intro w hs; simp only [Yg, Uc, Uz] at hs)) | (((with_reducible apply ZH hs); exact Ii; rfl; rfl; ((focus ((repeat (first | with_reducible exact Ql | with_reducible exact Qh | with_reducible exact Qn | with_reducible apply Qb | exact Qh | exact Ql | with_reducible apply Qk)); done))); rfl; rfl; rfl; rfl; clear hs; intro w hs)) | (((with_reducible apply Zn hs); exact Ii; rfl; clear hs; intro w b hs; (simp only [Uc, Uz]))) | (((with_reducible apply Zr hs); rfl; rfl; rfl; clear hs; intro w b hs; (simp only [Uc, Uz]))) | (((with_reducible apply wl_ldS hs); exact Ii; rfl; assumption; ((focus ((repeat (first | with_reducible exact Ql | with_reducible exact Qh | with_reducible exact Qn | with_reducible apply Qb | exact Qh | exact Ql | with_reducible apply Qk)); done))); rfl; (first | assumption | exact Zd (by assumption) | exact Qf (by first | assumption | exact Zd (by assumption) | exact Qf (by first | assumption | exact Zd (by assumption)))); rfl; rfl; (simp only [Uc, Uz]))) | (((with_reducible apply Zu hs); exact Ii; rfl; assumption; ((focus ((repeat (first | with_reducible exact Ql | with_reducible exact Qh | with_reducible exact Qn | with_reducible apply Qb | exact Qh | exact Ql | with_reducible apply Qk)); done))); rfl; (first | assumption | exact Zd (by assumption) | exact Qf (by first | assumption | exact Zd (by assumption) | exact Qf (by first | assumption | exact Zd (by assumption)))); rfl; rfl; (simp only [Uc, Uz]))) | (((with_reducible apply wl_stS hs); exact Ii; rfl; rfl; assumption; ((focus ((repeat (first | with_reducible exact Ql | with_reducible exact Qh | with_reducible exact Qn | with_reducible apply Qb | exact Qh | exact Ql | with_reducible apply Qk)); done))); rfl; (first | assumption | exact Zd (by assumption) | exact Qf (by first | assumption | exact Zd (by assumption) | exact Qf (by first | assumption | exact Zd (by assumption)))); (exact Vb rfl); (first | rfl | assumption | ((apply QR; apply hs.pull; ((focus ((repeat (first | with_reducible exact Ql | with_reducible exact Qh | with_reducible exact Qn | with_reducible apply Qb | exact Qh | exact Ql | with_reducible apply Qk)); done))))) | ((apply resH_one; apply QR; apply hs.pull; ((focus ((repeat (first | with_reducible exact Ql | with_reducible exact Qh | with_reducible exact Qn | with_reducible apply Qb | exact Qh | exact Ql | with_reducible apply Qk)); done))))) | ((apply resL_one; apply QR; apply hs.pull; ((focus ((repeat (first | with_reducible exact Ql | with_reducible exact Qh | with_reducible exact Qn | with_reducible apply Qb | exact Qh | exact Ql | with_reducible apply Qk)); done)))))); rfl; clear hs; intro w hs)) | (((with_reducible apply QE hs); exact Ii; rfl; rfl; assumption; ((focus ((repeat (first | with_reducible exact Ql | with_reducible exact Qh | with_reducible exact Qn | with_reducible apply Qb | exact Qh | exact Ql | with_reducible apply Qk)); done))); rfl; (first | assumption | exact Zd (by assumption) | exact Qf (by first | assumption | exact Zd (by assumption) | exact Qf (by first | assumption | exact Zd (by assumption)))); (exact Vb rfl); (first | rfl | assumption | ((apply QR; apply hs.pull; ((focus ((repeat (first | with_reducible exact Ql | with_reducible exact Qh | with_reducible exact Qn | with_reducible apply Qb | exact Qh | exact Ql | with_reducible apply Qk)); done))))) | ((apply resH_one; apply QR; apply hs.pull; ((focus ((repeat (first | with_reducible exact Ql | with_reducible exact Qh | with_reducible exact Qn | with_reducible apply Qb | exact Qh | exact Ql | with_reducible apply Qk)); done))))) | ((apply resL_one; apply QR; apply hs.pull; ((focus ((repeat (first | with_reducible exact Ql | with_reducible exact Qh | with_reducible exact Qn | with_reducible apply Qb | exact Qh | exact Ql | with_reducible apply Qk)); done)))))); rfl; clear hs; intro w hs)) | (((with_reducible apply Qt hs); exact Ii; rfl; assumption; ((focus ((repeat (first | with_reducible exact Ql | with_reducible exact Qh | with_reducible exact Qn | with_reducible apply Qb | exact Qh | exact Ql | with_reducible apply Qk)); done))); rfl; (first | assumption | exact Zd (by assumption) | exact Qf (by first | assumption | exact Zd (by assumption) | exact Qf (by first | assumption | exact Zd (by assumption)))); (exact Vb rfl); rfl; rfl; (simp only [Uc, Uz]))) | (((with_reducible apply Qt (k := 0) hs); exact Ii; rfl; assumption; ((focus ((repeat (first | with_reducible exact Ql | with_reducible exact Qh | with_reducible exact Qn | with_reducible apply Qb | exact Qh | exact Ql | with_reducible apply Qk)); done))); (exact (Nat.add_zero _).symm); (first | assumption | exact Zd (by assumption) | exact Qf (by first | assumption | exact Zd (by assumption) | exact Qf (by first | assumption | exact Zd (by assumption)))); (exact Vb rfl); rfl; rfl; (simp only [Uc, Uz]))) | (((with_reducible apply wl_stSN hs); exact Ii; rfl; rfl; assumption; ((focus ((repeat (first | with_reducible exact Ql | with_reducible exact Qh | with_reducible exact Qn | with_reducible apply Qb | exact Qh | exact Ql | with_reducible apply Qk)); done))); rfl; (first | assumption | exact Zd (by assumption) | exact Qf (by first | assumption | exact Zd (by assumption) | exact Qf (by first | assumption | exact Zd (by assumption)))); (exact Vb rfl); rfl; rfl; rfl; rfl; clear hs; intro w hs; simp only [List.take_succ_cons, List.take_zero, List.drop_succ_cons, List.drop_zero, List.cons_append, List.nil_append, List.append_nil] at hs)) | (((with_reducible apply wl_stSN (k := 0) hs); exact Ii; rfl; rfl; assumption; ((focus ((repeat (first | with_reducible exact Ql | with_reducible exact Qh | with_reducible exact Qn | with_reducible apply Qb | exact Qh | exact Ql | with_reducible apply Qk)); done))); (exact (Nat.add_zero _).symm); (first | assumption | exact Zd (by assumption) | exact Qf (by first | assumption | exact Zd (by assumption) | exact Qf (by first | assumption | exact Zd (by assumption)))); (exact Vb rfl); rfl; rfl; rfl; rfl; clear hs; intro w hs; simp only [List.take_succ_cons, List.take_zero, List.drop_succ_cons, List.drop_zero, List.cons_append, List.nil_append, List.append_nil] at hs)) | (((with_reducible apply QH hs); exact Ii; exact Ii; rfl; assumption; rfl; ((focus ((repeat (first | with_reducible exact Ql | with_reducible exact Qh | with_reducible exact Qn | with_reducible apply Qb | exact Qh | exact Ql | with_reducible apply Qk)); done))); (first | rfl | exact (Int.toNat_of_nonneg (by omega)).symm); (first | assumption | (simp only [Wm, Ws, Wa, Wc, Wn, Wr] at *; omega)); rfl; (simp only [Uc, Uz]))) | (((with_reducible apply ZP hs); exact Ii; exact Ii; rfl; rfl; ((focus ((repeat (first | with_reducible exact Ql | with_reducible exact Qh | with_reducible exact Qn | with_reducible apply Qb | exact Qh | exact Ql | with_reducible apply Qk)); done))); (first | rfl | exact (Int.toNat_of_nonneg (by omega)).symm); (first | assumption | (simp only [Wm, Ws, Wa, Wc, Wn, Wr] at *; omega)); rfl; intro b off hat; (simp only [Uc, Uz]))) | (((with_reducible apply Zw hs); exact Ii; rfl; ((focus ((repeat (first | with_reducible exact Ql | with_reducible exact Qh | with_reducible exact Qn | with_reducible apply Qb | exact Qh | exact Ql | with_reducible apply Qk)); done))); rfl; (simp only [Uc, Uz]))) | (((with_reducible apply wl_bs hs); exact Ii; exact Ii; rfl; rfl; rfl; rfl; (exact Vb rfl); rfl; clear hs; intro w v hs; (simp only [Uc, Uz]))) | (((with_reducible apply QM hs); exact Ii; exact Ii; rfl; rfl; ((focus ((repeat (first | with_reducible exact Ql | with_reducible exact Qh | with_reducible exact Qn | with_reducible apply Qb | exact Qh | exact Ql | with_reducible apply Qk)); done))); ((focus ((repeat (first | with_reducible exact Ql | with_reducible exact Qh | with_reducible exact Qn | with_reducible apply Qb | exact Qh | exact Ql | with_reducible apply Qk)); done))); (first | assumption | (simp only [Wm, Ws, Wa, Wc, Wn, Wr] at *; omega)); (exact Vb rfl); rfl; clear hs; intro w v hs; (simp only [Uc, Uz]))) | (((with_reducible apply wl_reH hs); exact Ii; exact Ii; rfl; rfl; ((focus ((repeat (first | with_reducible exact Ql | with_reducible exact Qh | with_reducible exact Qn | with_reducible apply Qb | exact Qh | exact Ql | with_reducible apply Qk)); done))); (first | rfl | exact (Int.toNat_of_nonneg (by omega)).symm); (first | assumption | (simp only [Wm, Ws, Wa, Wc, Wn, Wr] at *; omega)); rfl; (simp only [Uc, Uz]))) | (((with_reducible apply wl_reL hs); exact Ii; exact Ii; rfl; rfl; ((focus ((repeat (first | with_reducible exact Ql | with_reducible exact Qh | with_reducible exact Qn | with_reducible apply Qb | exact Qh | exact Ql | with_reducible apply Qk)); done))); (first | rfl | exact (Int.toNat_of_nonneg (by omega)).symm); (first | assumption | (simp only [Wm, Ws, Wa, Wc, Wn, Wr] at *; omega)); rfl; (simp only [Uc, Uz])))) | ..)'.
-/
import Derived.Test.YtjagadldibbbbaaGreatDSlice
import Derived.OwnWalk
import Derived.Test.YtjagadldibbbbaaGreatDLaws
import Derived.Test.YtjagadldibbbbaaGreatProg
import Derived.KernelRfl
set_option linter.all false
namespace Go.Proofs.YtjagadldibbbbaaGreat
section
open Go.RowKit
namespace Hp
def Makes (P:Program)(f:FuncId)(args:Array Value)(A:Zc)(B:Nat→Zc):Prop:=
 ∀O w F,Sat O w (A*F)→Calls P f args w fun e w'=>∃g,e=.returned (.pointer (some ⟨g,0,none⟩))∧Sat O w' (B g*F)
theorem Makes.at {P:Program}{f:FuncId}{args:Array Value}{A S R:Zc}{B:Nat→Zc}{O w:World}{Post:Ending→World→Prop}(h:Makes P f args A B)(hs:Sat O w S)(hp:Pull S A R)(k:∀g w',Sat O w' (B g*R)→Post (.returned (.pointer (some ⟨g,0,none⟩))) w'):Calls P f args w Post:=
 (h O w R (hs.pull hp)).mono fun _ _ ⟨g,he,hs'⟩=>he▸k g _ hs'
structure Stuck (p:Prop):Prop where
 h:p
theorem stuckMark {p:Prop}(h:Stuck p):p:=h.h

end Hp
end
section
open Go.Proofs.YtjagadldibbbbaaGreat.Hp
instance :OneC Tryz.prog 3:=⟨by kernel_rfl,by kernel_rfl⟩
instance :ElC Tryz.prog 3 1 8:=⟨by kernel_rfl,by kernel_rfl,by decide⟩
instance :OneC Tryz.prog 4:=⟨by kernel_rfl,by kernel_rfl⟩
instance :AggC Tryz.prog 23 7:=⟨by kernel_rfl,by kernel_rfl⟩
instance :ZeroC Tryz.prog 23 #[.int .i64 0,.int .i64 0,.int .i64 0,.int .i64 0,.int .i64 0,.int .i64 0,.int .i64 0]:=⟨by kernel_rfl⟩
instance :SlcC Tryz.prog 24 57:=⟨by kernel_rfl⟩
instance :OneC Tryz.prog 27:=⟨by kernel_rfl,by kernel_rfl⟩
instance :SlcC Tryz.prog 27 42:=⟨by kernel_rfl⟩
instance :OneC Tryz.prog 28:=⟨by kernel_rfl,by kernel_rfl⟩
instance :SlcC Tryz.prog 28 49:=⟨by kernel_rfl⟩
instance :OneC Tryz.prog 29:=⟨by kernel_rfl,by kernel_rfl⟩
instance :SlcC Tryz.prog 29 52:=⟨by kernel_rfl⟩
instance :OneC Tryz.prog 30:=⟨by kernel_rfl,by kernel_rfl⟩
instance :SlcC Tryz.prog 30 47:=⟨by kernel_rfl⟩
instance :AggC Tryz.prog 32 4:=⟨by kernel_rfl,by kernel_rfl⟩
instance :ZeroC Tryz.prog 32 #[.slice none 0 0,.slice none 0 0,.slice none 0 0,.slice none 0 0]:=⟨by kernel_rfl⟩
instance :OneC Tryz.prog 35:=⟨by kernel_rfl,by kernel_rfl⟩
instance :ElC Tryz.prog 35 1 24:=⟨by kernel_rfl,by kernel_rfl,by decide⟩
instance :SlcC Tryz.prog 35 3:=⟨by kernel_rfl⟩
instance :OneC Tryz.prog 37:=⟨by kernel_rfl,by kernel_rfl⟩
instance :OneC Tryz.prog 38:=⟨by kernel_rfl,by kernel_rfl⟩
instance :AggC Tryz.prog 40 2:=⟨by kernel_rfl,by kernel_rfl⟩
instance :ZeroC Tryz.prog 40 #[.int .i64 0,.int .i64 0]:=⟨by kernel_rfl⟩
instance :AggC Tryz.prog 42 9:=⟨by kernel_rfl,by kernel_rfl⟩
instance :ZeroC Tryz.prog 42 #[.int .i64 0,.int .i64 0,.int .i64 0,.int .i64 0,.int .i64 0,.int .i64 0,.int .i64 0,.int .i64 0,.int .i64 0]:=⟨by kernel_rfl⟩
instance :ElC Tryz.prog 42 9 72:=⟨by kernel_rfl,by kernel_rfl,by decide⟩
instance :OneC Tryz.prog 47:=⟨by kernel_rfl,by kernel_rfl⟩
instance :ElC Tryz.prog 47 1 8:=⟨by kernel_rfl,by kernel_rfl,by decide⟩
instance :AggC Tryz.prog 49 7:=⟨by kernel_rfl,by kernel_rfl⟩
instance :ZeroC Tryz.prog 49 #[.int .i64 0,.int .i64 0,.int .i64 0,.int .i64 0,.int .u64 0,.int .u64 0,.int .u64 0]:=⟨by kernel_rfl⟩
instance :ElC Tryz.prog 49 7 56:=⟨by kernel_rfl,by kernel_rfl,by decide⟩
instance :OneC Tryz.prog 50:=⟨by kernel_rfl,by kernel_rfl⟩
instance :ElC Tryz.prog 52 5 40:=⟨by kernel_rfl,by kernel_rfl,by decide⟩
instance :AggC Tryz.prog 57 4:=⟨by kernel_rfl,by kernel_rfl⟩
instance :ZeroC Tryz.prog 57 #[.int .i64 0,.int .i64 0,.int .i64 0,.int .i64 0]:=⟨by kernel_rfl⟩
instance :ElC Tryz.prog 57 4 32:=⟨by kernel_rfl,by kernel_rfl,by decide⟩
instance :OneC Tryz.prog 65:=⟨by kernel_rfl,by kernel_rfl⟩
instance :ZeroC Tryz.prog 65 #[.pointer none]:=⟨by kernel_rfl⟩
instance :OneC Tryz.prog 68:=⟨by kernel_rfl,by kernel_rfl⟩
instance :OneC Tryz.prog 76:=⟨by kernel_rfl,by kernel_rfl⟩
instance :ElC Tryz.prog 76 1 8:=⟨by kernel_rfl,by kernel_rfl,by decide⟩
instance :OneC Tryz.prog 83:=⟨by kernel_rfl,by kernel_rfl⟩
instance :SlcC Tryz.prog 83 88:=⟨by kernel_rfl⟩
instance :OneC Tryz.prog 84:=⟨by kernel_rfl,by kernel_rfl⟩
instance :SlcC Tryz.prog 84 35:=⟨by kernel_rfl⟩
instance :AggC Tryz.prog 88 2:=⟨by kernel_rfl,by kernel_rfl⟩
instance :ElC Tryz.prog 88 2 16:=⟨by kernel_rfl,by kernel_rfl,by decide⟩
instance :OneC Tryz.prog 94:=⟨by kernel_rfl,by kernel_rfl⟩
instance :OneC Tryz.prog 98:=⟨by kernel_rfl,by kernel_rfl⟩
instance :OneC Tryz.prog 101:=⟨by kernel_rfl,by kernel_rfl⟩
instance :OneC Tryz.prog 102:=⟨by kernel_rfl,by kernel_rfl⟩
instance :OneC Tryz.prog 105:=⟨by kernel_rfl,by kernel_rfl⟩
instance :SlcC Tryz.prog 105 111:=⟨by kernel_rfl⟩
instance :OneC Tryz.prog 109:=⟨by kernel_rfl,by kernel_rfl⟩
instance :AggC Tryz.prog 111 5:=⟨by kernel_rfl,by kernel_rfl⟩
instance :ElC Tryz.prog 111 5 48:=⟨by kernel_rfl,by kernel_rfl,by decide⟩
instance :SlcC Tryz.prog 112 76:=⟨by kernel_rfl⟩
instance :OneC Tryz.prog 113:=⟨by kernel_rfl,by kernel_rfl⟩
instance :OneC Tryz.prog 121:=⟨by kernel_rfl,by kernel_rfl⟩
instance :OneC Tryz.prog 122:=⟨by kernel_rfl,by kernel_rfl⟩
instance :OneC Tryz.prog 126:=⟨by kernel_rfl,by kernel_rfl⟩
instance :OneC Tryz.prog 127:=⟨by kernel_rfl,by kernel_rfl⟩
instance :OneC Tryz.prog 139:=⟨by kernel_rfl,by kernel_rfl⟩
instance :AggC Tryz.prog 141 4:=⟨by kernel_rfl,by kernel_rfl⟩
instance :ZeroC Tryz.prog 141 #[.pointer none,.pointer none,.int .i64 0,.nilFunc]:=⟨by kernel_rfl⟩
instance :OneC Tryz.prog 142:=⟨by kernel_rfl,by kernel_rfl⟩
instance :ZeroC Tryz.prog 142 #[.nilFunc]:=⟨by kernel_rfl⟩
instance :AggC Tryz.prog 158 3:=⟨by kernel_rfl,by kernel_rfl⟩
instance :ZeroC Tryz.prog 158 #[.int .i64 0,.int .i64 0,.int .i64 0]:=⟨by kernel_rfl⟩
instance :AggC Tryz.prog 159 21:=⟨by kernel_rfl,by kernel_rfl⟩
instance :ZeroC Tryz.prog 159 #[.int .i64 0,.int .i64 0,.int .i64 0,.int .i64 0,.int .i64 0,.int .i64 0,.int .i64 0,.int .i64 0,.int .i64 0,.int .i64 0,.int .i64 0,.int .i64 0,.int .i64 0,.int .i64 0,.int .i64 0,.int .i64 0,.int .i64 0,.int .i64 0,.int .i64 0,.int .i64 0,.int .i64 0]:=⟨by kernel_rfl⟩
instance :ArrC Tryz.prog 159 7 158:=⟨by kernel_rfl⟩
instance :AggC Tryz.prog 161 3:=⟨by kernel_rfl,by kernel_rfl⟩
instance :ZeroC Tryz.prog 161 #[.string ⟨#[]⟩,.int .i64 0,.int .i64 0]:=⟨by kernel_rfl⟩
instance :OneC Tryz.prog 168:=⟨by kernel_rfl,by kernel_rfl⟩
instance :OneC Tryz.prog 169:=⟨by kernel_rfl,by kernel_rfl⟩
instance :OneC Tryz.prog 174:=⟨by kernel_rfl,by kernel_rfl⟩
instance :AggC Tryz.prog 181 42:=⟨by kernel_rfl,by kernel_rfl⟩
instance :ZeroC Tryz.prog 181 #[.string ⟨#[]⟩,.int .i64 0,.int .i64 0,.string ⟨#[]⟩,.int .i64 0,.int .i64 0,.string ⟨#[]⟩,.int .i64 0,.int .i64 0,.string ⟨#[]⟩,.int .i64 0,.int .i64 0,.string ⟨#[]⟩,.int .i64 0,.int .i64 0,.string ⟨#[]⟩,.int .i64 0,.int .i64 0,.string ⟨#[]⟩,.int .i64 0,.int .i64 0,.string ⟨#[]⟩,.int .i64 0,.int .i64 0,.string ⟨#[]⟩,.int .i64 0,.int .i64 0,.string ⟨#[]⟩,.int .i64 0,.int .i64 0,.string ⟨#[]⟩,.int .i64 0,.int .i64 0,.string ⟨#[]⟩,.int .i64 0,.int .i64 0,.string ⟨#[]⟩,.int .i64 0,.int .i64 0,.string ⟨#[]⟩,.int .i64 0,.int .i64 0]:=⟨by kernel_rfl⟩
end
end Go.Proofs.YtjagadldibbbbaaGreat
