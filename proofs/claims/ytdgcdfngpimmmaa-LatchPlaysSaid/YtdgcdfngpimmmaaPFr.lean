/- Which kid a text is for, and the texts that a kid is for: what the code and the document's answer compute of it. The walks of a node's Route and Range, of the front's Front. The walks of the front's Victim and For, and of the document's answers for them. The walks of the front's For and of the document's answer for it. What the front's parts say of each other: plain Lean; the chapter's examples of the front. -/
import Derived.Test.YtdgcdfngpimmmaaPBf
import Derived.Test.YtdgcdfngpimmmaaPFc
import Derived.Test.YtdgcdfngpimmmaaPA
namespace Go.Proofs.Ytdgcdfngpimmmaa
open Go Go.RowKit
attribute [local irreducible] Calls
set_option linter.unusedVariables false
set_option maxRecDepth 20000
set_option linter.unusedSimpArgs false
set_option maxHeartbeats 8000000
end Go.Proofs.Ytdgcdfngpimmmaa
namespace Go.Proofs.Ytdgcdfngpimmmaa
open Go Go.RowKit
set_option linter.unusedVariables false
set_option maxRecDepth 20000
set_option linter.unusedSimpArgs false
set_option maxHeartbeats 2000000
attribute [local irreducible] Calls
end Go.Proofs.Ytdgcdfngpimmmaa
namespace Go.Proofs.Ytdgcdfngpimmmaa
open Go Go.RowKit
set_option linter.unusedVariables false
set_option maxRecDepth 20000
set_option linter.unusedSimpArgs false
set_option maxHeartbeats 2000000
attribute [local irreducible] Calls
end Go.Proofs.Ytdgcdfngpimmmaa
namespace Go.Proofs.Ytdgcdfngpimmmaa
open Go Go.RowKit
set_option linter.unusedVariables false
set_option maxRecDepth 20000
set_option linter.unusedSimpArgs false
set_option maxHeartbeats 2000000
attribute [local irreducible] Calls
end Go.Proofs.Ytdgcdfngpimmmaa
namespace Go.Proofs.Ytdgcdfngpimmmaa
open Go Go.RowKit
set_option linter.unusedVariables false
set_option maxRecDepth 20000
set_option linter.unusedSimpArgs false
set_option maxHeartbeats 2000000
attribute [local irreducible] Calls
end Go.Proofs.Ytdgcdfngpimmmaa
