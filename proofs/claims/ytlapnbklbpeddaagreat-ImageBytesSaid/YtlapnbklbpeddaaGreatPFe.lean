/- Facts of the seat's types and functions for the rules of XLg8: printed. -/
import Derived.Test.YtlapnbklbpeddaaGreatPLg8
import Derived.Test.YtlapnbklbpeddaaGreatPFd
namespace Go.Proofs.YtlapnbklbpeddaaGreat
open Go Go.RowKit
set_option linter.unusedVariables false
set_option maxRecDepth 20000
instance : U8T Tryz.prog 5 := ⟨by kernel_rfl⟩
instance : CelT Tryz.prog 5 := ⟨by kernel_rfl⟩
instance : PtrT Tryz.prog 47 53 := ⟨by kernel_rfl⟩
instance : PtrT Tryz.prog 48 51 := ⟨by kernel_rfl⟩
instance : ZerT Tryz.prog 51 (.agg #[.pointer none, .slice none 0 0]) := ⟨Tryz.zeroValue51⟩
instance : AggT Tryz.prog 51 2 := ⟨by kernel_rfl⟩
instance : SizT Tryz.prog 51 2 := ⟨by kernel_rfl⟩
instance : FldT Tryz.prog 51 0 0 := ⟨by kernel_rfl⟩
instance : FldT Tryz.prog 51 1 1 := ⟨by kernel_rfl⟩
instance : LieT Tryz.prog 51 2 := ⟨by kernel_rfl⟩
instance : PtrT Tryz.prog 76 78 := ⟨by kernel_rfl⟩
instance : PtrT Tryz.prog 98 5 := ⟨by kernel_rfl⟩
instance : UnsT Tryz.prog 128 := ⟨by kernel_rfl⟩
instance : CalT Tryz.prog 19 := ⟨by kernel_rfl⟩
instance : CalT Tryz.prog 22 := ⟨by kernel_rfl⟩
instance : CalT Tryz.prog 42 := ⟨by kernel_rfl⟩
instance : NoeT Tryz.prog 84 := ⟨fun args W => run_callFunc_extern Tryz.func84 (by kernel_rfl) (by kernel_rfl) (by kernel_rfl) (e := Extern.AbiNoEscape.same) (by kernel_rfl) args W⟩
end Go.Proofs.YtlapnbklbpeddaaGreat
