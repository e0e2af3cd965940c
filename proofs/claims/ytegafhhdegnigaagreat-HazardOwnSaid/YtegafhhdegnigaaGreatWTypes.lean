/- the types of the translation, as the laws ask for them (written by types.py) -/
import Derived.Test.YtegafhhdegnigaaGreatWLaws
import Derived.Test.YtegafhhdegnigaaGreatProg
import Derived.KernelRfl
set_option linter.all false
namespace Go.Proofs.YtegafhhdegnigaaGreat
open Go.Proofs.YtegafhhdegnigaaGreat.Hp
instance : OneC Tryz.prog 3 := ⟨by kernel_rfl,by kernel_rfl⟩
instance : ElC Tryz.prog 3 1 8 := ⟨by kernel_rfl,by kernel_rfl,by decide⟩
instance : OneC Tryz.prog 4 := ⟨by kernel_rfl,by kernel_rfl⟩
instance : AggC Tryz.prog 23 7 := ⟨by kernel_rfl,by kernel_rfl⟩
instance : ZeroC Tryz.prog 23 #[.int .i64 0,.int .i64 0,.int .i64 0,.int .i64 0,.int .i64 0,.int .i64 0,.int .i64 0] := ⟨by kernel_rfl⟩
instance : SlcC Tryz.prog 24 86 := ⟨by kernel_rfl⟩
instance : OneC Tryz.prog 27 := ⟨by kernel_rfl,by kernel_rfl⟩
instance : SlcC Tryz.prog 27 50 := ⟨by kernel_rfl⟩
instance : OneC Tryz.prog 28 := ⟨by kernel_rfl,by kernel_rfl⟩
instance : SlcC Tryz.prog 28 138 := ⟨by kernel_rfl⟩
instance : OneC Tryz.prog 29 := ⟨by kernel_rfl,by kernel_rfl⟩
instance : SlcC Tryz.prog 29 127 := ⟨by kernel_rfl⟩
instance : OneC Tryz.prog 30 := ⟨by kernel_rfl,by kernel_rfl⟩
instance : SlcC Tryz.prog 30 57 := ⟨by kernel_rfl⟩
instance : AggC Tryz.prog 32 4 := ⟨by kernel_rfl,by kernel_rfl⟩
instance : ZeroC Tryz.prog 32 #[.slice none 0 0,.slice none 0 0,.slice none 0 0,.slice none 0 0] := ⟨by kernel_rfl⟩
instance : OneC Tryz.prog 44 := ⟨by kernel_rfl,by kernel_rfl⟩
instance : ElC Tryz.prog 44 1 24 := ⟨by kernel_rfl,by kernel_rfl,by decide⟩
instance : SlcC Tryz.prog 44 3 := ⟨by kernel_rfl⟩
instance : OneC Tryz.prog 45 := ⟨by kernel_rfl,by kernel_rfl⟩
instance : AggC Tryz.prog 48 2 := ⟨by kernel_rfl,by kernel_rfl⟩
instance : ZeroC Tryz.prog 48 #[.int .i64 0,.int .i64 0] := ⟨by kernel_rfl⟩
instance : AggC Tryz.prog 50 9 := ⟨by kernel_rfl,by kernel_rfl⟩
instance : ZeroC Tryz.prog 50 #[.int .i64 0,.int .i64 0,.int .i64 0,.int .i64 0,.int .i64 0,.int .i64 0,.int .i64 0,.int .i64 0,.int .i64 0] := ⟨by kernel_rfl⟩
instance : ElC Tryz.prog 50 9 72 := ⟨by kernel_rfl,by kernel_rfl,by decide⟩
instance : OneC Tryz.prog 57 := ⟨by kernel_rfl,by kernel_rfl⟩
instance : ElC Tryz.prog 57 1 8 := ⟨by kernel_rfl,by kernel_rfl,by decide⟩
instance : OneC Tryz.prog 70 := ⟨by kernel_rfl,by kernel_rfl⟩
instance : OneC Tryz.prog 76 := ⟨by kernel_rfl,by kernel_rfl⟩
instance : OneC Tryz.prog 83 := ⟨by kernel_rfl,by kernel_rfl⟩
instance : AggC Tryz.prog 86 4 := ⟨by kernel_rfl,by kernel_rfl⟩
instance : ZeroC Tryz.prog 86 #[.int .i64 0,.int .i64 0,.int .i64 0,.int .i64 0] := ⟨by kernel_rfl⟩
instance : ElC Tryz.prog 86 4 32 := ⟨by kernel_rfl,by kernel_rfl,by decide⟩
instance : OneC Tryz.prog 91 := ⟨by kernel_rfl,by kernel_rfl⟩
instance : SlcC Tryz.prog 91 44 := ⟨by kernel_rfl⟩
instance : OneC Tryz.prog 94 := ⟨by kernel_rfl,by kernel_rfl⟩
instance : OneC Tryz.prog 97 := ⟨by kernel_rfl,by kernel_rfl⟩
instance : OneC Tryz.prog 101 := ⟨by kernel_rfl,by kernel_rfl⟩
instance : OneC Tryz.prog 125 := ⟨by kernel_rfl,by kernel_rfl⟩
instance : AggC Tryz.prog 127 5 := ⟨by kernel_rfl,by kernel_rfl⟩
instance : ElC Tryz.prog 127 5 40 := ⟨by kernel_rfl,by kernel_rfl,by decide⟩
instance : AggC Tryz.prog 138 7 := ⟨by kernel_rfl,by kernel_rfl⟩
instance : ZeroC Tryz.prog 138 #[.int .i64 0,.int .i64 0,.int .i64 0,.int .i64 0,.int .u64 0,.int .u64 0,.int .u64 0] := ⟨by kernel_rfl⟩
instance : ElC Tryz.prog 138 7 56 := ⟨by kernel_rfl,by kernel_rfl,by decide⟩
instance : OneC Tryz.prog 152 := ⟨by kernel_rfl,by kernel_rfl⟩
instance : SlcC Tryz.prog 152 156 := ⟨by kernel_rfl⟩
instance : AggC Tryz.prog 156 2 := ⟨by kernel_rfl,by kernel_rfl⟩
instance : ElC Tryz.prog 156 2 16 := ⟨by kernel_rfl,by kernel_rfl,by decide⟩
instance : OneC Tryz.prog 159 := ⟨by kernel_rfl,by kernel_rfl⟩
instance : OneC Tryz.prog 162 := ⟨by kernel_rfl,by kernel_rfl⟩
instance : OneC Tryz.prog 165 := ⟨by kernel_rfl,by kernel_rfl⟩
instance : OneC Tryz.prog 166 := ⟨by kernel_rfl,by kernel_rfl⟩
instance : OneC Tryz.prog 169 := ⟨by kernel_rfl,by kernel_rfl⟩
instance : SlcC Tryz.prog 169 175 := ⟨by kernel_rfl⟩
instance : OneC Tryz.prog 173 := ⟨by kernel_rfl,by kernel_rfl⟩
instance : AggC Tryz.prog 175 5 := ⟨by kernel_rfl,by kernel_rfl⟩
instance : ElC Tryz.prog 175 5 48 := ⟨by kernel_rfl,by kernel_rfl,by decide⟩
instance : OneC Tryz.prog 177 := ⟨by kernel_rfl,by kernel_rfl⟩
instance : OneC Tryz.prog 184 := ⟨by kernel_rfl,by kernel_rfl⟩
instance : OneC Tryz.prog 188 := ⟨by kernel_rfl,by kernel_rfl⟩
instance : OneC Tryz.prog 205 := ⟨by kernel_rfl,by kernel_rfl⟩
instance : OneC Tryz.prog 206 := ⟨by kernel_rfl,by kernel_rfl⟩
instance : AggC Tryz.prog 237 3 := ⟨by kernel_rfl,by kernel_rfl⟩
instance : ZeroC Tryz.prog 237 #[.int .i64 0,.int .i64 0,.int .i64 0] := ⟨by kernel_rfl⟩
instance : AggC Tryz.prog 238 21 := ⟨by kernel_rfl,by kernel_rfl⟩
instance : ZeroC Tryz.prog 238 #[.int .i64 0,.int .i64 0,.int .i64 0,.int .i64 0,.int .i64 0,.int .i64 0,.int .i64 0,.int .i64 0,.int .i64 0,.int .i64 0,.int .i64 0,.int .i64 0,.int .i64 0,.int .i64 0,.int .i64 0,.int .i64 0,.int .i64 0,.int .i64 0,.int .i64 0,.int .i64 0,.int .i64 0] := ⟨by kernel_rfl⟩
instance : ArrC Tryz.prog 238 7 237 := ⟨by kernel_rfl⟩
instance : AggC Tryz.prog 240 3 := ⟨by kernel_rfl,by kernel_rfl⟩
instance : ZeroC Tryz.prog 240 #[.string ⟨#[]⟩,.int .i64 0,.int .i64 0] := ⟨by kernel_rfl⟩
instance : AggC Tryz.prog 261 42 := ⟨by kernel_rfl,by kernel_rfl⟩
instance : ZeroC Tryz.prog 261 #[.string ⟨#[]⟩,.int .i64 0,.int .i64 0,.string ⟨#[]⟩,.int .i64 0,.int .i64 0,.string ⟨#[]⟩,.int .i64 0,.int .i64 0,.string ⟨#[]⟩,.int .i64 0,.int .i64 0,.string ⟨#[]⟩,.int .i64 0,.int .i64 0,.string ⟨#[]⟩,.int .i64 0,.int .i64 0,.string ⟨#[]⟩,.int .i64 0,.int .i64 0,.string ⟨#[]⟩,.int .i64 0,.int .i64 0,.string ⟨#[]⟩,.int .i64 0,.int .i64 0,.string ⟨#[]⟩,.int .i64 0,.int .i64 0,.string ⟨#[]⟩,.int .i64 0,.int .i64 0,.string ⟨#[]⟩,.int .i64 0,.int .i64 0,.string ⟨#[]⟩,.int .i64 0,.int .i64 0,.string ⟨#[]⟩,.int .i64 0,.int .i64 0] := ⟨by kernel_rfl⟩
end Go.Proofs.YtegafhhdegnigaaGreat
