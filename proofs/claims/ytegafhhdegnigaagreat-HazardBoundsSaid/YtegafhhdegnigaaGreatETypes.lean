/-
  The arms of the walk over the logic of parts: 'go_wp2_with (first | (first | (first | ((with_reducible refine NQ.mk ?_)) | (((with_reducible apply Zl); rfl; rfl)) | (((with_reducible apply ZF); rfl)) | ((with_reducible refine EQ.mk ?_ ?_)) | (first | (with_reducible exact Zo) | ((with_reducible refine ZJ ?_ ?_); (focus ((with_reducible apply Qd); rfl; rfl)))) | ((with_reducible refine Zm ?_)) | ((show QD _ _ _; rfl))) | (((with_reducible apply Zc hs); exact Ii; rfl; ((focus ((repeat (first | with_reducible exact Ql | with_reducible exact Qh | with_reducible exact Qn | with_reducible apply Qb | exact Qh | exact Ql | with_reducible apply Qk)); done))); rfl; rfl; (simp only [Uc, Uz]))) | (((with_reducible apply Z5 hs); exact Ii; rfl; ((focus ((repeat (first | with_reducible exact Ql | with_reducible exact Qh | with_reducible exact Qn | with_reducible apply Qb | exact Qh | exact Ql | with_reducible apply Qk)); done))); rfl; rfl; (simp only [Uc, Uz]))) | (((with_reducible apply ZX hs); exact Ii; rfl; rfl; ((focus ((repeat (first | with_reducible exact Ql | with_reducible exact Qh | with_reducible exact Qn | with_reducible apply Qb | exact Qh | exact Ql | with_reducible apply Qk)); done))); (first | rfl | assumption | ((apply QN; apply hs.pull; ((focus ((repeat (first | with_reducible exact Ql | with_reducible exact Qh | with_reducible exact Qn | with_reducible apply Qb | exact Qh | exact Ql | with_reducible apply Qk)); done))))) | ((apply resH_one; apply QN; apply hs.pull; ((focus ((repeat (first | with_reducible exact Ql | with_reducible exact Qh | with_reducible exact Qn | with_reducible apply Qb | exact Qh | exact Ql | with_reducible apply Qk)); done))))) | ((apply resL_one; apply QN; apply hs.pull; ((focus ((repeat (first | with_reducible exact Ql | with_reducible exact Qh | with_reducible exact Qn | with_reducible apply Qb | exact Qh | exact Ql | with_reducible apply Qk)); done)))))); (first | exact Vb rfl | (simp only [List.size_toArray, List.length_cons, List.length_nil]; omega)); rfl; clear hs; intro w hs; simp only [Yg, Uc, Uz] at hs)) | (((with_reducible apply ZR hs); exact Ii; rfl; rfl; ((focus ((repeat (first | with_reducible exact Ql | with_reducible exact Qh | with_reducible exact Qn | with_reducible apply Qb | exact Qh | exact Ql | with_reducible apply Qk)); done))); rfl; rfl; rfl; rfl; clear hs; intro w hs)) | (((with_reducible apply Zw hs); exact Ii; rfl; clear hs; intro w b hs; (simp only [Uc, Uz]))) | (((with_reducible apply Zv hs); rfl; rfl; rfl; clear hs; intro w b hs; (simp only [Uc, Uz]))) | (((with_reducible apply QI hs); exact Ii; rfl; assumption; ((focus ((repeat (first | with_reducible exact Ql | with_reducible exact Qh | with_reducible exact Qn | with_reducible apply Qb | exact Qh | exact Ql | with_reducible apply Qk)); done))); rfl; (first | assumption | exact Ze (by assumption) | exact Qv (by first | assumption | exact Ze (by assumption) | exact Qv (by first | assumption | exact Ze (by assumption)))); rfl; rfl; (simp only [Uc, Uz]))) | (((with_reducible apply Zt hs); exact Ii; rfl; assumption; ((focus ((repeat (first | with_reducible exact Ql | with_reducible exact Qh | with_reducible exact Qn | with_reducible apply Qb | exact Qh | exact Ql | with_reducible apply Qk)); done))); rfl; (first | assumption | exact Ze (by assumption) | exact Qv (by first | assumption | exact Ze (by assumption) | exact Qv (by first | assumption | exact Ze (by assumption)))); rfl; rfl; (simp only [Uc, Uz]))) | (((with_reducible apply wl_stS hs); exact Ii; rfl; rfl; assumption; ((focus ((repeat (first | with_reducible exact Ql | with_reducible exact Qh | with_reducible exact Qn | with_reducible apply Qb | exact Qh | exact Ql | with_reducible apply Qk)); done))); rfl; (first | assumption | exact Ze (by assumption) | exact Qv (by first | assumption | exact Ze (by assumption) | exact Qv (by first | assumption | exact Ze (by assumption)))); (exact Vb rfl); (first | rfl | assumption | ((apply QN; apply hs.pull; ((focus ((repeat (first | with_reducible exact Ql | with_reducible exact Qh | with_reducible exact Qn | with_reducible apply Qb | exact Qh | exact Ql | with_reducible apply Qk)); done))))) | ((apply resH_one; apply QN; apply hs.pull; ((focus ((repeat (first | with_reducible exact Ql | with_reducible exact Qh | with_reducible exact Qn | with_reducible apply Qb | exact Qh | exact Ql | with_reducible apply Qk)); done))))) | ((apply resL_one; apply QN; apply hs.pull; ((focus ((repeat (first | with_reducible exact Ql | with_reducible exact Qh | with_reducible exact Qn | with_reducible apply Qb | exact Qh | exact Ql | with_reducible apply Qk)); done)))))); rfl; clear hs; intro w hs)) | (((with_reducible apply Qe hs); exact Ii; rfl; rfl; assumption; ((focus ((repeat (first | with_reducible exact Ql | with_reducible exact Qh | with_reducible exact Qn | with_reducible apply Qb | exact Qh | exact Ql | with_reducible apply Qk)); done))); rfl; (first | assumption | exact Ze (by assumption) | exact Qv (by first | assumption | exact Ze (by assumption) | exact Qv (by first | assumption | exact Ze (by assumption)))); (exact Vb rfl); (first | rfl | assumption | ((apply QN; apply hs.pull; ((focus ((repeat (first | with_reducible exact Ql | with_reducible exact Qh | with_reducible exact Qn | with_reducible apply Qb | exact Qh | exact Ql | with_reducible apply Qk)); done))))) | ((apply resH_one; apply QN; apply hs.pull; ((focus ((repeat (first | with_reducible exact Ql | with_reducible exact Qh | with_reducible exact Qn | with_reducible apply Qb | exact Qh | exact Ql | with_reducible apply Qk)); done))))) | ((apply resL_one; apply QN; apply hs.pull; ((focus ((repeat (first | with_reducible exact Ql | with_reducible exact Qh | with_reducible exact Qn | with_reducible apply Qb | exact Qh | exact Ql | with_reducible apply Qk)); done)))))); rfl; clear hs; intro w hs)) | (((with_reducible apply Qu hs); exact Ii; rfl; assumption; ((focus ((repeat (first | with_reducible exact Ql | with_reducible exact Qh | with_reducible exact Qn | with_reducible apply Qb | exact Qh | exact Ql | with_reducible apply Qk)); done))); rfl; (first | assumption | exact Ze (by assumption) | exact Qv (by first | assumption | exact Ze (by assumption) | exact Qv (by first | assumption | exact Ze (by assumption)))); (exact Vb rfl); rfl; rfl; (simp only [Uc, Uz]))) | (((with_reducible apply Qu (k := 0) hs); exact Ii; rfl; assumption; ((focus ((repeat (first | with_reducible exact Ql | with_reducible exact Qh | with_reducible exact Qn | with_reducible apply Qb | exact Qh | exact Ql | with_reducible apply Qk)); done))); (exact (Nat.add_zero _).symm); (first | assumption | exact Ze (by assumption) | exact Qv (by first | assumption | exact Ze (by assumption) | exact Qv (by first | assumption | exact Ze (by assumption)))); (exact Vb rfl); rfl; rfl; (simp only [Uc, Uz]))) | (((with_reducible apply wl_stSN hs); exact Ii; rfl; rfl; assumption; ((focus ((repeat (first | with_reducible exact Ql | with_reducible exact Qh | with_reducible exact Qn | with_reducible apply Qb | exact Qh | exact Ql | with_reducible apply Qk)); done))); rfl; (first | assumption | exact Ze (by assumption) | exact Qv (by first | assumption | exact Ze (by assumption) | exact Qv (by first | assumption | exact Ze (by assumption)))); (exact Vb rfl); rfl; rfl; rfl; rfl; clear hs; intro w hs; simp only [List.take_succ_cons, List.take_zero, List.drop_succ_cons, List.drop_zero, List.cons_append, List.nil_append, List.append_nil] at hs)) | (((with_reducible apply wl_stSN (k := 0) hs); exact Ii; rfl; rfl; assumption; ((focus ((repeat (first | with_reducible exact Ql | with_reducible exact Qh | with_reducible exact Qn | with_reducible apply Qb | exact Qh | exact Ql | with_reducible apply Qk)); done))); (exact (Nat.add_zero _).symm); (first | assumption | exact Ze (by assumption) | exact Qv (by first | assumption | exact Ze (by assumption) | exact Qv (by first | assumption | exact Ze (by assumption)))); (exact Vb rfl); rfl; rfl; rfl; rfl; clear hs; intro w hs; simp only [List.take_succ_cons, List.take_zero, List.drop_succ_cons, List.drop_zero, List.cons_append, List.nil_append, List.append_nil] at hs)) | (((with_reducible apply Z7 hs); exact Ii; exact Ii; rfl; assumption; rfl; ((focus ((repeat (first | with_reducible exact Ql | with_reducible exact Qh | with_reducible exact Qn | with_reducible apply Qb | exact Qh | exact Ql | with_reducible apply Qk)); done))); (first | rfl | exact (Int.toNat_of_nonneg (by omega)).symm); (first | assumption | (simp only [Wm, Ws, Wa, Wc, Wn, Wr] at *; omega)); rfl; (simp only [Uc, Uz]))) | (((with_reducible apply ZN hs); exact Ii; exact Ii; rfl; rfl; ((focus ((repeat (first | with_reducible exact Ql | with_reducible exact Qh | with_reducible exact Qn | with_reducible apply Qb | exact Qh | exact Ql | with_reducible apply Qk)); done))); (first | rfl | exact (Int.toNat_of_nonneg (by omega)).symm); (first | assumption | (simp only [Wm, Ws, Wa, Wc, Wn, Wr] at *; omega)); rfl; intro b off hat; (simp only [Uc, Uz]))) | (((with_reducible apply Zp hs); exact Ii; rfl; ((focus ((repeat (first | with_reducible exact Ql | with_reducible exact Qh | with_reducible exact Qn | with_reducible apply Qb | exact Qh | exact Ql | with_reducible apply Qk)); done))); rfl; (simp only [Uc, Uz]))) | (((with_reducible apply wl_bs hs); exact Ii; exact Ii; rfl; rfl; rfl; rfl; (exact Vb rfl); rfl; clear hs; intro w v hs; (simp only [Uc, Uz]))) | (((with_reducible apply Jd hs); exact Ii; exact Ii; rfl; rfl; ((focus ((repeat (first | with_reducible exact Ql | with_reducible exact Qh | with_reducible exact Qn | with_reducible apply Qb | exact Qh | exact Ql | with_reducible apply Qk)); done))); ((focus ((repeat (first | with_reducible exact Ql | with_reducible exact Qh | with_reducible exact Qn | with_reducible apply Qb | exact Qh | exact Ql | with_reducible apply Qk)); done))); (first | assumption | (simp only [Wm, Ws, Wa, Wc, Wn, Wr] at *; omega)); (exact Vb rfl); rfl; clear hs; intro w v hs; (simp only [Uc, Uz]))) | (((with_reducible apply wl_reH hs); exact Ii; exact Ii; rfl; rfl; ((focus ((repeat (first | with_reducible exact Ql | with_reducible exact Qh | with_reducible exact Qn | with_reducible apply Qb | exact Qh | exact Ql | with_reducible apply Qk)); done))); (first | rfl | exact (Int.toNat_of_nonneg (by omega)).symm); (first | assumption | (simp only [Wm, Ws, Wa, Wc, Wn, Wr] at *; omega)); rfl; (simp only [Uc, Uz]))) | (((with_reducible apply wl_reL hs); exact Ii; exact Ii; rfl; rfl; ((focus ((repeat (first | with_reducible exact Ql | with_reducible exact Qh | with_reducible exact Qn | with_reducible apply Qb | exact Qh | exact Ql | with_reducible apply Qk)); done))); (first | rfl | exact (Int.toNat_of_nonneg (by omega)).symm); (first | assumption | (simp only [Wm, Ws, Wa, Wc, Wn, Wr] at *; omega)); rfl; (simp only [Uc, Uz])))) | ..)'.
-/
import Derived.Test.YtegafhhdegnigaaGreatESlice
import Derived.OwnWalk
import Derived.Test.YtegafhhdegnigaaGreatELaws
import Derived.Test.YtegafhhdegnigaaGreatProg
import Derived.KernelRfl
set_option linter.all false
namespace Go.Proofs.YtegafhhdegnigaaGreat
section
open Go.RowKit
namespace Hp
def Makes (P:Program)(f:FuncId)(args:Array Value)(A:Zd)(B:Nat→Zd):Prop:=
 ∀O w F,Sat O w (A*F)→Calls P f args w fun e w'=>∃g,e=.returned (.pointer (some ⟨g,0,none⟩))∧Sat O w' (B g*F)
theorem Makes.at {P:Program}{f:FuncId}{args:Array Value}{A S R:Zd}{B:Nat→Zd}{O w:World}{Post:Ending→World→Prop}(h:Makes P f args A B)(hs:Sat O w S)(hp:Pull S A R)(k:∀g w',Sat O w' (B g*R)→Post (.returned (.pointer (some ⟨g,0,none⟩))) w'):Calls P f args w Post:=
 (h O w R (hs.pull hp)).mono fun _ _ ⟨g,he,hs'⟩=>he▸k g _ hs'
structure Stuck (p:Prop):Prop where
 h:p
theorem stuckMark {p:Prop}(h:Stuck p):p:=h.h

end Hp
end
section
open Go.Proofs.YtegafhhdegnigaaGreat.Hp
instance:OneC Tryz.prog 3:=⟨by kernel_rfl,by kernel_rfl⟩
instance:ElC Tryz.prog 3 1 8:=⟨by kernel_rfl,by kernel_rfl,by decide⟩
instance:OneC Tryz.prog 4:=⟨by kernel_rfl,by kernel_rfl⟩
instance:ElC Tryz.prog 4 1 1:=⟨by kernel_rfl,by kernel_rfl,by decide⟩
instance:AggC Tryz.prog 23 7:=⟨by kernel_rfl,by kernel_rfl⟩
instance:ZeroC Tryz.prog 23 #[.int .i64 0,.int .i64 0,.int .i64 0,.int .i64 0,.int .i64 0,.int .i64 0,.int .i64 0]:=⟨by kernel_rfl⟩
instance:SlcC Tryz.prog 24 86:=⟨by kernel_rfl⟩
instance:OneC Tryz.prog 27:=⟨by kernel_rfl,by kernel_rfl⟩
instance:SlcC Tryz.prog 27 50:=⟨by kernel_rfl⟩
instance:OneC Tryz.prog 28:=⟨by kernel_rfl,by kernel_rfl⟩
instance:SlcC Tryz.prog 28 138:=⟨by kernel_rfl⟩
instance:OneC Tryz.prog 29:=⟨by kernel_rfl,by kernel_rfl⟩
instance:SlcC Tryz.prog 29 127:=⟨by kernel_rfl⟩
instance:OneC Tryz.prog 30:=⟨by kernel_rfl,by kernel_rfl⟩
instance:SlcC Tryz.prog 30 57:=⟨by kernel_rfl⟩
instance:AggC Tryz.prog 32 4:=⟨by kernel_rfl,by kernel_rfl⟩
instance:ZeroC Tryz.prog 32 #[.slice none 0 0,.slice none 0 0,.slice none 0 0,.slice none 0 0]:=⟨by kernel_rfl⟩
instance:OneC Tryz.prog 44:=⟨by kernel_rfl,by kernel_rfl⟩
instance:ElC Tryz.prog 44 1 24:=⟨by kernel_rfl,by kernel_rfl,by decide⟩
instance:SlcC Tryz.prog 44 3:=⟨by kernel_rfl⟩
instance:OneC Tryz.prog 45:=⟨by kernel_rfl,by kernel_rfl⟩
instance:OneC Tryz.prog 46:=⟨by kernel_rfl,by kernel_rfl⟩
instance:AggC Tryz.prog 48 2:=⟨by kernel_rfl,by kernel_rfl⟩
instance:ZeroC Tryz.prog 48 #[.int .i64 0,.int .i64 0]:=⟨by kernel_rfl⟩
instance:AggC Tryz.prog 50 9:=⟨by kernel_rfl,by kernel_rfl⟩
instance:ZeroC Tryz.prog 50 #[.int .i64 0,.int .i64 0,.int .i64 0,.int .i64 0,.int .i64 0,.int .i64 0,.int .i64 0,.int .i64 0,.int .i64 0]:=⟨by kernel_rfl⟩
instance:ElC Tryz.prog 50 9 72:=⟨by kernel_rfl,by kernel_rfl,by decide⟩
instance:OneC Tryz.prog 57:=⟨by kernel_rfl,by kernel_rfl⟩
instance:ElC Tryz.prog 57 1 8:=⟨by kernel_rfl,by kernel_rfl,by decide⟩
instance:AggC Tryz.prog 63 7:=⟨by kernel_rfl,by kernel_rfl⟩
instance:ZeroC Tryz.prog 63 #[.int .i64 0,.int .i64 0,.int .i64 0,.int .i64 0,.int .i64 0,.int .i64 0,.int .i64 0]:=⟨by kernel_rfl⟩
instance:OneC Tryz.prog 70:=⟨by kernel_rfl,by kernel_rfl⟩
instance:OneC Tryz.prog 76:=⟨by kernel_rfl,by kernel_rfl⟩
instance:OneC Tryz.prog 83:=⟨by kernel_rfl,by kernel_rfl⟩
instance:AggC Tryz.prog 86 4:=⟨by kernel_rfl,by kernel_rfl⟩
instance:ZeroC Tryz.prog 86 #[.int .i64 0,.int .i64 0,.int .i64 0,.int .i64 0]:=⟨by kernel_rfl⟩
instance:ElC Tryz.prog 86 4 32:=⟨by kernel_rfl,by kernel_rfl,by decide⟩
instance:OneC Tryz.prog 91:=⟨by kernel_rfl,by kernel_rfl⟩
instance:SlcC Tryz.prog 91 44:=⟨by kernel_rfl⟩
instance:OneC Tryz.prog 94:=⟨by kernel_rfl,by kernel_rfl⟩
instance:OneC Tryz.prog 97:=⟨by kernel_rfl,by kernel_rfl⟩
instance:OneC Tryz.prog 101:=⟨by kernel_rfl,by kernel_rfl⟩
instance:OneC Tryz.prog 125:=⟨by kernel_rfl,by kernel_rfl⟩
instance:ElC Tryz.prog 125 1 8:=⟨by kernel_rfl,by kernel_rfl,by decide⟩
instance:AggC Tryz.prog 127 5:=⟨by kernel_rfl,by kernel_rfl⟩
instance:ZeroC Tryz.prog 127 #[.int .i64 0,.int .i64 0,.int .i64 0,.int .i64 0,.int .i64 0]:=⟨by kernel_rfl⟩
instance:ElC Tryz.prog 127 5 40:=⟨by kernel_rfl,by kernel_rfl,by decide⟩
instance:SlcC Tryz.prog 133 125:=⟨by kernel_rfl⟩
instance:OneC Tryz.prog 136:=⟨by kernel_rfl,by kernel_rfl⟩
instance:AggC Tryz.prog 138 7:=⟨by kernel_rfl,by kernel_rfl⟩
instance:ZeroC Tryz.prog 138 #[.int .i64 0,.int .i64 0,.int .i64 0,.int .i64 0,.int .u64 0,.int .u64 0,.int .u64 0]:=⟨by kernel_rfl⟩
instance:ElC Tryz.prog 138 7 56:=⟨by kernel_rfl,by kernel_rfl,by decide⟩
instance:OneC Tryz.prog 152:=⟨by kernel_rfl,by kernel_rfl⟩
instance:SlcC Tryz.prog 152 156:=⟨by kernel_rfl⟩
instance:AggC Tryz.prog 156 2:=⟨by kernel_rfl,by kernel_rfl⟩
instance:ElC Tryz.prog 156 2 16:=⟨by kernel_rfl,by kernel_rfl,by decide⟩
instance:OneC Tryz.prog 159:=⟨by kernel_rfl,by kernel_rfl⟩
instance:OneC Tryz.prog 162:=⟨by kernel_rfl,by kernel_rfl⟩
instance:OneC Tryz.prog 165:=⟨by kernel_rfl,by kernel_rfl⟩
instance:OneC Tryz.prog 166:=⟨by kernel_rfl,by kernel_rfl⟩
instance:OneC Tryz.prog 169:=⟨by kernel_rfl,by kernel_rfl⟩
instance:SlcC Tryz.prog 169 175:=⟨by kernel_rfl⟩
instance:OneC Tryz.prog 173:=⟨by kernel_rfl,by kernel_rfl⟩
instance:AggC Tryz.prog 175 5:=⟨by kernel_rfl,by kernel_rfl⟩
instance:ElC Tryz.prog 175 5 48:=⟨by kernel_rfl,by kernel_rfl,by decide⟩
instance:OneC Tryz.prog 177:=⟨by kernel_rfl,by kernel_rfl⟩
instance:OneC Tryz.prog 184:=⟨by kernel_rfl,by kernel_rfl⟩
instance:OneC Tryz.prog 188:=⟨by kernel_rfl,by kernel_rfl⟩
instance:OneC Tryz.prog 205:=⟨by kernel_rfl,by kernel_rfl⟩
instance:OneC Tryz.prog 206:=⟨by kernel_rfl,by kernel_rfl⟩
instance:SlcC Tryz.prog 228 4:=⟨by kernel_rfl⟩
instance:AggC Tryz.prog 237 3:=⟨by kernel_rfl,by kernel_rfl⟩
instance:ZeroC Tryz.prog 237 #[.int .i64 0,.int .i64 0,.int .i64 0]:=⟨by kernel_rfl⟩
instance:AggC Tryz.prog 238 21:=⟨by kernel_rfl,by kernel_rfl⟩
instance:ZeroC Tryz.prog 238 #[.int .i64 0,.int .i64 0,.int .i64 0,.int .i64 0,.int .i64 0,.int .i64 0,.int .i64 0,.int .i64 0,.int .i64 0,.int .i64 0,.int .i64 0,.int .i64 0,.int .i64 0,.int .i64 0,.int .i64 0,.int .i64 0,.int .i64 0,.int .i64 0,.int .i64 0,.int .i64 0,.int .i64 0]:=⟨by kernel_rfl⟩
instance:ArrC Tryz.prog 238 7 237:=⟨by kernel_rfl⟩
instance:AggC Tryz.prog 240 3:=⟨by kernel_rfl,by kernel_rfl⟩
instance:ZeroC Tryz.prog 240 #[.string ⟨#[]⟩,.int .i64 0,.int .i64 0]:=⟨by kernel_rfl⟩
instance:AggC Tryz.prog 261 42:=⟨by kernel_rfl,by kernel_rfl⟩
instance:ZeroC Tryz.prog 261 #[.string ⟨#[]⟩,.int .i64 0,.int .i64 0,.string ⟨#[]⟩,.int .i64 0,.int .i64 0,.string ⟨#[]⟩,.int .i64 0,.int .i64 0,.string ⟨#[]⟩,.int .i64 0,.int .i64 0,.string ⟨#[]⟩,.int .i64 0,.int .i64 0,.string ⟨#[]⟩,.int .i64 0,.int .i64 0,.string ⟨#[]⟩,.int .i64 0,.int .i64 0,.string ⟨#[]⟩,.int .i64 0,.int .i64 0,.string ⟨#[]⟩,.int .i64 0,.int .i64 0,.string ⟨#[]⟩,.int .i64 0,.int .i64 0,.string ⟨#[]⟩,.int .i64 0,.int .i64 0,.string ⟨#[]⟩,.int .i64 0,.int .i64 0,.string ⟨#[]⟩,.int .i64 0,.int .i64 0,.string ⟨#[]⟩,.int .i64 0,.int .i64 0]:=⟨by kernel_rfl⟩
end
end Go.Proofs.YtegafhhdegnigaaGreat
