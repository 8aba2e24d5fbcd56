/- Facts of the seat's types for the rules of XLg5: printed. -/
import Derived.Test.YtclbmfepdlffnaaPLg5
import Derived.Test.YtclbmfepdlffnaaPFc
namespace Go.Proofs.Ytclbmfepdlffnaa
open Go Go.RowKit
set_option linter.unusedVariables false
set_option maxRecDepth 20000
instance : PlcT Try.prog 32 [(0, 1), (1, 1), (2, 6), (8, 1)] := ⟨by kernel_rfl⟩
instance : PlcT Try.prog 33 [(0, 1), (1, 1), (2, 6), (8, 1)] := ⟨by kernel_rfl⟩
instance : PlcT Try.prog 97 [(0, 10), (10, 3), (13, 1)] := ⟨by kernel_rfl⟩
instance : PlcT Try.prog 98 [(0, 10), (10, 3), (13, 1)] := ⟨by kernel_rfl⟩
instance : ByteT Try.prog 107 5 := .mk' (by kernel_rfl)
instance : PlcT Try.prog 173 [(0, 10), (10, 1)] := ⟨by kernel_rfl⟩
instance : PlcT Try.prog 174 [(0, 10), (10, 1)] := ⟨by kernel_rfl⟩
end Go.Proofs.Ytclbmfepdlffnaa
