/- The logic's rules: append of a number of zero elements onto nil, cap. No program in sight. -/
import Derived.Test.YtlapnbklbpeddaaPLg9
import Derived.Lib.AppendZeros
namespace Go.Proofs.Ytlapnbklbpeddaa
open Go Go.RowKit
set_option linter.unusedVariables false
set_option maxRecDepth 20000
set_option linter.unusedSimpArgs false
section
variable {P : Program} {w : World} {M0 : Mem} {N : Nat} {dst : Option Tmp} {ty : TypeId} {pos : String} {aft : Array Edge} {g : Option (Nat × Bool)} {M : Mem} {own : List Ob} {env : Env}
end
end Go.Proofs.Ytlapnbklbpeddaa
