/- The walks of the buffer layer's loops. The walks of the buffer layer's loops: All, Same, Size, the library's IndexFunc and ContainsFunc. The walks of the buffer layer: Size, Fits, the library's Clone, IndexFunc and ContainsFunc, Right, Add. The walks of the buffer layer: the library's IndexFunc and ContainsFunc, Right, Add. The walk of the buffer layer's Add. The walk of the buffer layer's On, and the chapter's examples. The chapter's examples of the buffer layer. The walks of the buffer layer's Clip and of the reference's Clip, After, On. The walk of the reference's On. The walk of the library's DeleteFunc, of the buffer layer's After. The walk of the buffer layer's After. -/
import Derived.Test.YtdgcdfngpimmmaaPMs
import Derived.Test.YtdgcdfngpimmmaaPLg2
namespace Go.Proofs.Ytdgcdfngpimmmaa
open Go Go.RowKit
attribute [local irreducible] Calls
set_option linter.unusedVariables false
set_option maxRecDepth 20000
set_option linter.unusedSimpArgs false
end Go.Proofs.Ytdgcdfngpimmmaa
namespace Go.Proofs.Ytdgcdfngpimmmaa
open Go Go.RowKit
attribute [local irreducible] Calls
set_option linter.unusedVariables false
set_option maxRecDepth 20000
set_option linter.unusedSimpArgs false
set_option maxHeartbeats 8000000
end Go.Proofs.Ytdgcdfngpimmmaa
namespace Go.Proofs.Ytdgcdfngpimmmaa
open Go Go.RowKit
attribute [local irreducible] Calls
set_option linter.unusedVariables false
set_option maxRecDepth 20000
set_option linter.unusedSimpArgs false
set_option maxHeartbeats 8000000
end Go.Proofs.Ytdgcdfngpimmmaa
namespace Go.Proofs.Ytdgcdfngpimmmaa
open Go Go.RowKit
attribute [local irreducible] Calls
set_option linter.unusedVariables false
set_option maxRecDepth 20000
set_option linter.unusedSimpArgs false
set_option maxHeartbeats 8000000
end Go.Proofs.Ytdgcdfngpimmmaa
namespace Go.Proofs.Ytdgcdfngpimmmaa
open Go Go.RowKit
attribute [local irreducible] Calls
set_option linter.unusedVariables false
set_option maxRecDepth 20000
set_option linter.unusedSimpArgs false
set_option maxHeartbeats 8000000
end Go.Proofs.Ytdgcdfngpimmmaa
namespace Go.Proofs.Ytdgcdfngpimmmaa
open Go Go.RowKit
attribute [local irreducible] Calls
set_option linter.unusedVariables false
set_option maxRecDepth 20000
set_option linter.unusedSimpArgs false
set_option maxHeartbeats 8000000
end Go.Proofs.Ytdgcdfngpimmmaa
namespace Go.Proofs.Ytdgcdfngpimmmaa
open Go Go.RowKit
attribute [local irreducible] Calls
set_option linter.unusedVariables false
set_option maxRecDepth 20000
set_option linter.unusedSimpArgs false
set_option maxHeartbeats 8000000
end Go.Proofs.Ytdgcdfngpimmmaa
namespace Go.Proofs.Ytdgcdfngpimmmaa
open Go Go.RowKit
attribute [local irreducible] Calls
set_option linter.unusedVariables false
set_option maxRecDepth 20000
set_option linter.unusedSimpArgs false
set_option maxHeartbeats 8000000
end Go.Proofs.Ytdgcdfngpimmmaa
namespace Go.Proofs.Ytdgcdfngpimmmaa
open Go Go.RowKit
attribute [local irreducible] Calls
set_option linter.unusedVariables false
set_option maxRecDepth 20000
set_option linter.unusedSimpArgs false
set_option maxHeartbeats 8000000
end Go.Proofs.Ytdgcdfngpimmmaa
namespace Go.Proofs.Ytdgcdfngpimmmaa
open Go Go.RowKit
attribute [local irreducible] Calls
set_option linter.unusedVariables false
set_option maxRecDepth 20000
set_option linter.unusedSimpArgs false
set_option maxHeartbeats 8000000
end Go.Proofs.Ytdgcdfngpimmmaa
namespace Go.Proofs.Ytdgcdfngpimmmaa
open Go Go.RowKit
attribute [local irreducible] Calls
set_option linter.unusedVariables false
set_option maxRecDepth 20000
set_option linter.unusedSimpArgs false
set_option maxHeartbeats 8000000
end Go.Proofs.Ytdgcdfngpimmmaa
