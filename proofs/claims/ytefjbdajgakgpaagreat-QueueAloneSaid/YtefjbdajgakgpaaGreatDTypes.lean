import Derived.Test.YtefjbdajgakgpaaGreatDSlice
import Derived.OwnWalk
import Derived.Test.YtefjbdajgakgpaaGreatProg
import Derived.KernelRfl
set_option linter.all false
namespace Go.Proofs.YtefjbdajgakgpaaGreat
section
open Go.RowKit
namespace Hp
def Makes (P:Program)(f:FuncId)(args:Array Value)(A:Zc)(B:Nat→Zc):Prop:=
 ∀O w F,Sat O w (A*F)→Calls P f args w fun e w'=>∃g,e=.returned (.pointer (some ⟨g,0,none⟩))∧Sat O w' (B g*F)
theorem Makes.at {P:Program}{f:FuncId}{args:Array Value}{A S R:Zc}{B:Nat→Zc}{O w:World}{Post:Ending→World→Prop}(h:Makes P f args A B)(hs:Sat O w S)(hp:Pull S A R)(k:∀g w',Sat O w' (B g*R)→Post (.returned (.pointer (some ⟨g,0,none⟩))) w'):Calls P f args w Post:=
 (h O w R (hs.pull hp)).mono fun _ _ ⟨g,he,hs'⟩=>he▸k g _ hs'
structure Stuck (p:Prop):Prop where
 h:p
theorem stuckMark {p:Prop}(h:Stuck p):p:=h.h

end Hp
end
section
open Go.Proofs.YtefjbdajgakgpaaGreat.Hp
instance :OneC Tryz.prog 3:=⟨by kernel_rfl,by kernel_rfl⟩
instance :ElC Tryz.prog 3 1 8:=⟨by kernel_rfl,by kernel_rfl,by decide⟩
instance :OneC Tryz.prog 4:=⟨by kernel_rfl,by kernel_rfl⟩
instance :AggC Tryz.prog 23 7:=⟨by kernel_rfl,by kernel_rfl⟩
instance :ZeroC Tryz.prog 23 #[.int .i64 0,.int .i64 0,.int .i64 0,.int .i64 0,.int .i64 0,.int .i64 0,.int .i64 0]:=⟨by kernel_rfl⟩
instance :SlcC Tryz.prog 24 90:=⟨by kernel_rfl⟩
instance :OneC Tryz.prog 25:=⟨by kernel_rfl,by kernel_rfl⟩
instance :SlcC Tryz.prog 25 59:=⟨by kernel_rfl⟩
instance :OneC Tryz.prog 26:=⟨by kernel_rfl,by kernel_rfl⟩
instance :SlcC Tryz.prog 26 87:=⟨by kernel_rfl⟩
instance :OneC Tryz.prog 27:=⟨by kernel_rfl,by kernel_rfl⟩
instance :SlcC Tryz.prog 27 102:=⟨by kernel_rfl⟩
instance :OneC Tryz.prog 28:=⟨by kernel_rfl,by kernel_rfl⟩
instance :SlcC Tryz.prog 28 79:=⟨by kernel_rfl⟩
instance :AggC Tryz.prog 30 4:=⟨by kernel_rfl,by kernel_rfl⟩
instance :ZeroC Tryz.prog 30 #[.slice none 0 0,.slice none 0 0,.slice none 0 0,.slice none 0 0]:=⟨by kernel_rfl⟩
instance :OneC Tryz.prog 33:=⟨by kernel_rfl,by kernel_rfl⟩
instance :ElC Tryz.prog 33 1 24:=⟨by kernel_rfl,by kernel_rfl,by decide⟩
instance :SlcC Tryz.prog 33 3:=⟨by kernel_rfl⟩
instance :OneC Tryz.prog 54:=⟨by kernel_rfl,by kernel_rfl⟩
instance :OneC Tryz.prog 55:=⟨by kernel_rfl,by kernel_rfl⟩
instance :AggC Tryz.prog 57 2:=⟨by kernel_rfl,by kernel_rfl⟩
instance :ZeroC Tryz.prog 57 #[.int .i64 0,.int .i64 0]:=⟨by kernel_rfl⟩
instance :AggC Tryz.prog 59 9:=⟨by kernel_rfl,by kernel_rfl⟩
instance :ZeroC Tryz.prog 59 #[.int .i64 0,.int .i64 0,.int .i64 0,.int .i64 0,.int .i64 0,.int .i64 0,.int .i64 0,.int .i64 0,.int .i64 0]:=⟨by kernel_rfl⟩
instance :ElC Tryz.prog 59 9 72:=⟨by kernel_rfl,by kernel_rfl,by decide⟩
instance :OneC Tryz.prog 65:=⟨by kernel_rfl,by kernel_rfl⟩
instance :OneC Tryz.prog 66:=⟨by kernel_rfl,by kernel_rfl⟩
instance :SlcC Tryz.prog 66 33:=⟨by kernel_rfl⟩
instance :OneC Tryz.prog 70:=⟨by kernel_rfl,by kernel_rfl⟩
instance :ElC Tryz.prog 70 1 8:=⟨by kernel_rfl,by kernel_rfl,by decide⟩
instance :OneC Tryz.prog 72:=⟨by kernel_rfl,by kernel_rfl⟩
instance :OneC Tryz.prog 79:=⟨by kernel_rfl,by kernel_rfl⟩
instance :ElC Tryz.prog 79 1 8:=⟨by kernel_rfl,by kernel_rfl,by decide⟩
instance :AggC Tryz.prog 87 7:=⟨by kernel_rfl,by kernel_rfl⟩
instance :ZeroC Tryz.prog 87 #[.int .i64 0,.int .i64 0,.int .i64 0,.int .i64 0,.int .u64 0,.int .u64 0,.int .u64 0]:=⟨by kernel_rfl⟩
instance :ElC Tryz.prog 87 7 56:=⟨by kernel_rfl,by kernel_rfl,by decide⟩
instance :OneC Tryz.prog 88:=⟨by kernel_rfl,by kernel_rfl⟩
instance :AggC Tryz.prog 90 4:=⟨by kernel_rfl,by kernel_rfl⟩
instance :ZeroC Tryz.prog 90 #[.int .i64 0,.int .i64 0,.int .i64 0,.int .i64 0]:=⟨by kernel_rfl⟩
instance :ElC Tryz.prog 90 4 32:=⟨by kernel_rfl,by kernel_rfl,by decide⟩
instance :ElC Tryz.prog 102 5 40:=⟨by kernel_rfl,by kernel_rfl,by decide⟩
instance :AggC Tryz.prog 130 5:=⟨by kernel_rfl,by kernel_rfl⟩
instance :ZeroC Tryz.prog 130 #[.pointer none,.int .i64 0,.int .i64 0,.int .i64 0,.int .i64 0]:=⟨by kernel_rfl⟩
instance :OneC Tryz.prog 133:=⟨by kernel_rfl,by kernel_rfl⟩
instance :OneC Tryz.prog 137:=⟨by kernel_rfl,by kernel_rfl⟩
instance :OneC Tryz.prog 139:=⟨by kernel_rfl,by kernel_rfl⟩
instance :OneC Tryz.prog 143:=⟨by kernel_rfl,by kernel_rfl⟩
instance :OneC Tryz.prog 146:=⟨by kernel_rfl,by kernel_rfl⟩
instance :OneC Tryz.prog 158:=⟨by kernel_rfl,by kernel_rfl⟩
instance :SlcC Tryz.prog 158 162:=⟨by kernel_rfl⟩
instance :AggC Tryz.prog 162 2:=⟨by kernel_rfl,by kernel_rfl⟩
instance :ElC Tryz.prog 162 2 16:=⟨by kernel_rfl,by kernel_rfl,by decide⟩
instance :OneC Tryz.prog 164:=⟨by kernel_rfl,by kernel_rfl⟩
instance :OneC Tryz.prog 167:=⟨by kernel_rfl,by kernel_rfl⟩
instance :OneC Tryz.prog 168:=⟨by kernel_rfl,by kernel_rfl⟩
instance :OneC Tryz.prog 171:=⟨by kernel_rfl,by kernel_rfl⟩
instance :SlcC Tryz.prog 171 175:=⟨by kernel_rfl⟩
instance :AggC Tryz.prog 175 5:=⟨by kernel_rfl,by kernel_rfl⟩
instance :ElC Tryz.prog 175 5 48:=⟨by kernel_rfl,by kernel_rfl,by decide⟩
instance :SlcC Tryz.prog 176 70:=⟨by kernel_rfl⟩
instance :OneC Tryz.prog 183:=⟨by kernel_rfl,by kernel_rfl⟩
instance :OneC Tryz.prog 184:=⟨by kernel_rfl,by kernel_rfl⟩
instance :AggC Tryz.prog 206 3:=⟨by kernel_rfl,by kernel_rfl⟩
instance :ZeroC Tryz.prog 206 #[.string ⟨#[]⟩,.int .i64 0,.int .i64 0]:=⟨by kernel_rfl⟩
instance :AggC Tryz.prog 214 3:=⟨by kernel_rfl,by kernel_rfl⟩
instance :ZeroC Tryz.prog 214 #[.int .i64 0,.int .i64 0,.int .i64 0]:=⟨by kernel_rfl⟩
instance :AggC Tryz.prog 215 21:=⟨by kernel_rfl,by kernel_rfl⟩
instance :ZeroC Tryz.prog 215 #[.int .i64 0,.int .i64 0,.int .i64 0,.int .i64 0,.int .i64 0,.int .i64 0,.int .i64 0,.int .i64 0,.int .i64 0,.int .i64 0,.int .i64 0,.int .i64 0,.int .i64 0,.int .i64 0,.int .i64 0,.int .i64 0,.int .i64 0,.int .i64 0,.int .i64 0,.int .i64 0,.int .i64 0]:=⟨by kernel_rfl⟩
instance :ArrC Tryz.prog 215 7 214:=⟨by kernel_rfl⟩
instance :OneC Tryz.prog 219:=⟨by kernel_rfl,by kernel_rfl⟩
instance :OneC Tryz.prog 220:=⟨by kernel_rfl,by kernel_rfl⟩
instance :OneC Tryz.prog 223:=⟨by kernel_rfl,by kernel_rfl⟩
instance :AggC Tryz.prog 231 42:=⟨by kernel_rfl,by kernel_rfl⟩
instance :ZeroC Tryz.prog 231 #[.string ⟨#[]⟩,.int .i64 0,.int .i64 0,.string ⟨#[]⟩,.int .i64 0,.int .i64 0,.string ⟨#[]⟩,.int .i64 0,.int .i64 0,.string ⟨#[]⟩,.int .i64 0,.int .i64 0,.string ⟨#[]⟩,.int .i64 0,.int .i64 0,.string ⟨#[]⟩,.int .i64 0,.int .i64 0,.string ⟨#[]⟩,.int .i64 0,.int .i64 0,.string ⟨#[]⟩,.int .i64 0,.int .i64 0,.string ⟨#[]⟩,.int .i64 0,.int .i64 0,.string ⟨#[]⟩,.int .i64 0,.int .i64 0,.string ⟨#[]⟩,.int .i64 0,.int .i64 0,.string ⟨#[]⟩,.int .i64 0,.int .i64 0,.string ⟨#[]⟩,.int .i64 0,.int .i64 0,.string ⟨#[]⟩,.int .i64 0,.int .i64 0]:=⟨by kernel_rfl⟩
end
end Go.Proofs.YtefjbdajgakgpaaGreat
