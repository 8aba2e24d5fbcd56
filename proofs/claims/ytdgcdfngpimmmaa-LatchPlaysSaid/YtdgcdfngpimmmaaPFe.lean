/- Facts of the seat's types and functions for the rules of XLg8: printed. -/
import Derived.Test.YtdgcdfngpimmmaaPLg8
import Derived.Test.YtdgcdfngpimmmaaPFd
namespace Go.Proofs.Ytdgcdfngpimmmaa
open Go Go.RowKit
set_option linter.unusedVariables false
set_option maxRecDepth 20000
instance : U8T Try.prog 5 := ⟨by kernel_rfl⟩
instance : CelT Try.prog 5 := ⟨by kernel_rfl⟩
instance : PtrT Try.prog 80 154 := ⟨by kernel_rfl⟩
instance : PtrT Try.prog 92 94 := ⟨by kernel_rfl⟩
instance : PtrT Try.prog 109 111 := ⟨by kernel_rfl⟩
instance : PtrT Try.prog 142 144 := ⟨by kernel_rfl⟩
instance : ZerT Try.prog 144 (.agg #[.pointer none, .slice none 0 0]) := ⟨Try.zeroValue144⟩
instance : AggT Try.prog 144 2 := ⟨by kernel_rfl⟩
instance : SizT Try.prog 144 2 := ⟨by kernel_rfl⟩
instance : FldT Try.prog 144 0 0 := ⟨by kernel_rfl⟩
instance : FldT Try.prog 144 1 1 := ⟨by kernel_rfl⟩
instance : LieT Try.prog 144 2 := ⟨by kernel_rfl⟩
instance : PtrT Try.prog 158 160 := ⟨by kernel_rfl⟩
instance : PtrT Try.prog 182 5 := ⟨by kernel_rfl⟩
instance : UnsT Try.prog 191 := ⟨by kernel_rfl⟩
instance : CalT Try.prog 87 := ⟨by kernel_rfl⟩
instance : CalT Try.prog 88 := ⟨by kernel_rfl⟩
instance : CalT Try.prog 123 := ⟨by kernel_rfl⟩
instance : NoeT Try.prog 134 := ⟨fun args W => run_callFunc_extern Try.func134 (by kernel_rfl) (by kernel_rfl) (by kernel_rfl) (e := Extern.AbiNoEscape.same) (by kernel_rfl) args W⟩
end Go.Proofs.Ytdgcdfngpimmmaa
