/- Facts of the seat's types for the rules of XLg5: printed. -/
import Derived.Test.YtlapnbklbpeddaaPLg5
import Derived.Test.YtlapnbklbpeddaaPFc
namespace Go.Proofs.Ytlapnbklbpeddaa
open Go Go.RowKit
set_option linter.unusedVariables false
set_option maxRecDepth 20000
instance : PlcT Try.prog 41 [(0, 10), (10, 3), (13, 1)] := ⟨by kernel_rfl⟩
instance : PlcT Try.prog 42 [(0, 10), (10, 3), (13, 1)] := ⟨by kernel_rfl⟩
instance : PlcT Try.prog 55 [(0, 10), (10, 3)] := ⟨by kernel_rfl⟩
instance : PlcT Try.prog 56 [(0, 10), (10, 3)] := ⟨by kernel_rfl⟩
end Go.Proofs.Ytlapnbklbpeddaa
