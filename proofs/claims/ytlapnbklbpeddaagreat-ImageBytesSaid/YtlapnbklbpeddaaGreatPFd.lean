/- Facts of the seat's types for the rules of XLg5: printed. -/
import Derived.Test.YtlapnbklbpeddaaGreatPLg5
import Derived.Test.YtlapnbklbpeddaaGreatPFc
namespace Go.Proofs.YtlapnbklbpeddaaGreat
open Go Go.RowKit
set_option linter.unusedVariables false
set_option maxRecDepth 20000
instance : ByteT Tryz.prog 49 5 := .mk' (by kernel_rfl)
instance : PlcT Tryz.prog 52 [(0, 2)] := ⟨by kernel_rfl⟩
instance : PlcT Tryz.prog 53 [(0, 2)] := ⟨by kernel_rfl⟩
instance : PlcT Tryz.prog 68 [(0, 10), (10, 3), (13, 1)] := ⟨by kernel_rfl⟩
instance : PlcT Tryz.prog 69 [(0, 10), (10, 3), (13, 1)] := ⟨by kernel_rfl⟩
instance : PlcT Tryz.prog 92 [(0, 10), (10, 3)] := ⟨by kernel_rfl⟩
instance : PlcT Tryz.prog 93 [(0, 10), (10, 3)] := ⟨by kernel_rfl⟩
end Go.Proofs.YtlapnbklbpeddaaGreat
