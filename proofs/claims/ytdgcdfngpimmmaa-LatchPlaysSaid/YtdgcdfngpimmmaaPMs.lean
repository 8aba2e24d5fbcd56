/- Effects: what they do, one behind the other, which may be: plain Lean, no program in sight. The walks of the effect layer and of its reference: each function computes what the plain effects say. The walks of the effect layer: one effect and then another one (Then), all of them (Fold), and whether all may be (All). Messages: which keys they are for, what they do, their size, which may be: plain Lean, no program in sight. The walks of the message layer and of its reference, by the logic of own blocks. The walks of the reference's messages, by the logic of own blocks. The chapter's examples of the message layer. The loops over messages: whether stamps rise, whether all may be, how many bytes they have. What a message does when it is clipped, and what two do as one: plain Lean, no program in sight. The reference's ends of spans, as a row of the caller's own. Whether any message may be, however long its texts. Sums over lists: plain Lean. -/
import Derived.Test.YtdgcdfngpimmmaaPA
import Derived.BigQuiet
import Derived.Test.YtdgcdfngpimmmaaPFc
import Derived.Test.YtdgcdfngpimmmaaPSp
namespace Go.Proofs.Ytdgcdfngpimmmaa
open Go.RowKit
set_option linter.unusedVariables false
set_option maxRecDepth 20000
set_option linter.unusedSimpArgs false

end Go.Proofs.Ytdgcdfngpimmmaa
namespace Go.Proofs.Ytdgcdfngpimmmaa
open Go.RowKit Go.Sort
set_option linter.unusedVariables false
set_option maxRecDepth 20000
set_option linter.unusedSimpArgs false

end Go.Proofs.Ytdgcdfngpimmmaa
namespace Go.Proofs.Ytdgcdfngpimmmaa
open Go.RowKit Go.Sort
set_option linter.unusedVariables false
set_option maxRecDepth 20000
set_option linter.unusedSimpArgs false
end Go.Proofs.Ytdgcdfngpimmmaa
namespace Go.Proofs.Ytdgcdfngpimmmaa
open Go.RowKit
set_option linter.unusedVariables false
set_option maxRecDepth 20000
set_option linter.unusedSimpArgs false

end Go.Proofs.Ytdgcdfngpimmmaa
namespace Go.Proofs.Ytdgcdfngpimmmaa
open Go Go.RowKit
set_option linter.unusedVariables false
set_option maxRecDepth 20000
set_option linter.unusedSimpArgs false
end Go.Proofs.Ytdgcdfngpimmmaa
namespace Go.Proofs.Ytdgcdfngpimmmaa
open Go Go.RowKit
attribute [local irreducible] Calls
set_option linter.unusedVariables false
set_option maxRecDepth 20000
set_option linter.unusedSimpArgs false
end Go.Proofs.Ytdgcdfngpimmmaa
namespace Go.Proofs.Ytdgcdfngpimmmaa
open Go Go.RowKit
attribute [local irreducible] Calls
set_option linter.unusedVariables false
set_option maxRecDepth 20000
set_option linter.unusedSimpArgs false
end Go.Proofs.Ytdgcdfngpimmmaa
namespace Go.Proofs.Ytdgcdfngpimmmaa
open Go Go.RowKit
attribute [local irreducible] Calls
set_option linter.unusedVariables false
set_option maxRecDepth 20000
set_option linter.unusedSimpArgs false
end Go.Proofs.Ytdgcdfngpimmmaa
namespace Go.Proofs.Ytdgcdfngpimmmaa
open Go.RowKit
set_option linter.unusedVariables false
set_option maxRecDepth 20000
set_option linter.unusedSimpArgs false
end Go.Proofs.Ytdgcdfngpimmmaa
namespace Go.Proofs.Ytdgcdfngpimmmaa
open Go Go.RowKit
attribute [local irreducible] Calls
set_option linter.unusedVariables false
set_option maxRecDepth 20000
set_option linter.unusedSimpArgs false
end Go.Proofs.Ytdgcdfngpimmmaa
namespace Go.Proofs.Ytdgcdfngpimmmaa
open Go Go.RowKit
attribute [local irreducible] Calls
set_option linter.unusedVariables false
set_option maxRecDepth 20000
set_option linter.unusedSimpArgs false
end Go.Proofs.Ytdgcdfngpimmmaa
namespace Go.Proofs.Ytdgcdfngpimmmaa
set_option linter.unusedVariables false
set_option maxRecDepth 20000
set_option linter.unusedSimpArgs false
section
variable {α : Type} {f : α → Int}
end
end Go.Proofs.Ytdgcdfngpimmmaa
