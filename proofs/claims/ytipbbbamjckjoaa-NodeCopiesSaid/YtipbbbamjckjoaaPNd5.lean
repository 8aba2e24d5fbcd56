/- The walks of the document's answer to whether a node may be. -/
import Derived.Test.YtipbbbamjckjoaaPNd4
namespace Go.Proofs.Ytipbbbamjckjoaa
open Go Go.RowKit
set_option linter.unusedVariables false
set_option maxRecDepth 20000
set_option linter.unusedSimpArgs false
set_option maxHeartbeats 4000000
attribute [local irreducible] Calls
end Go.Proofs.Ytipbbbamjckjoaa
