/- The logic's rules for quotients, remainders, products; a round of a loop. No program in sight. -/
import Derived.Test.YtlapnbklbpeddaaPLg7
import Derived.Test.YtlapnbklbpeddaaPLg4
namespace Go.Proofs.Ytlapnbklbpeddaa
open Go Go.RowKit
set_option linter.unusedVariables false
set_option maxRecDepth 20000
set_option linter.unusedSimpArgs false
section
variable {P : Program} {x y : Operand} {t : TypeId}
end
section
variable {P : Program} {w : World} {M0 : Mem} {N : Nat}
end
end Go.Proofs.Ytlapnbklbpeddaa
