/- The walks of whether a node may be, and of the document's answer. -/
import Derived.Test.YtclbmfepdlffnaaPNd3
namespace Go.Proofs.Ytclbmfepdlffnaa
open Go Go.RowKit
set_option linter.unusedVariables false
set_option maxRecDepth 20000
set_option linter.unusedSimpArgs false
set_option maxHeartbeats 4000000
attribute [local irreducible] Calls
def headOk (n : Nd) : Bool := !decide (n.slot < 0) && !decide (n.level < 0) && !decide (n.seen < 0) && endN n
def inrN (c : Cfg) (n : Nd) : Bool := ((n.rs.length : Int) == 0) && decide (2 ≤ (n.ks.length : Int)) && decide ((n.ks.length : Int) ≤ c.fanout) && rightK n.ps n.ks && innN c n
/-- May a node be? -/
def rightN (c : Cfg) (n : Nd) : Bool := headOk n && (if (n.level == 0) = true then leafN c n else inrN c n)
end Go.Proofs.Ytclbmfepdlffnaa
