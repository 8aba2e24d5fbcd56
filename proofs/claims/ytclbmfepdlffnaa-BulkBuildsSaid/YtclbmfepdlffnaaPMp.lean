/- Own maps keyed by integers: one is made, asked, written at a new key. -/
import Derived.Test.YtclbmfepdlffnaaPLg10
import Derived.MapKept
import Derived.ChangeMaps5
import Derived.Carry
namespace Go.Proofs.Ytclbmfepdlffnaa
open Go Go.RowKit
open Go.MapKept (run_checkKey run_findKey)
set_option linter.unusedVariables false
set_option maxRecDepth 20000
set_option linter.unusedSimpArgs false
class MapT (P : Program) (t : TypeId) (k e : outParam TypeId) : Prop where
  h : P.underlying t = some (.map k e)
  k : P.underlying k = some (.int .i64)
section
variable {P : Program} {w : World} {M0 : Mem} {N : Nat} {dst : Option Tmp} {ty : TypeId} {pos : String} {aft : Array Edge} {g : Option (Nat × Bool)} {M : Mem} {own : List Ob} {env : Env} {s : St}
end
end Go.Proofs.Ytclbmfepdlffnaa
