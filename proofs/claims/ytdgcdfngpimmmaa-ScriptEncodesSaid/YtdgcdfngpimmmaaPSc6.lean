/- The operation that bytes are: the walk, all paths. -/
import Derived.Test.YtdgcdfngpimmmaaPSc5
import Derived.Test.YtdgcdfngpimmmaaPSc6a
import Derived.Test.YtdgcdfngpimmmaaPSc6b
import Derived.Test.YtdgcdfngpimmmaaPSc6c
namespace Go.Proofs.Ytdgcdfngpimmmaa
open Go Go.RowKit
attribute [local irreducible] Calls takeT b1 r1 ofO
set_option linter.unusedVariables false
set_option maxRecDepth 20000
set_option linter.unusedSimpArgs false
set_option maxHeartbeats 4000000
theorem op_Of (s : ByteArray) (w : World) (hs : s.size ≤ 1000000) : Calls Try.prog 17 #[.string s] w fun e w' => e = .returned (.tuple #[.agg #[.int .i64 (ofO s).1.kind, .string (ofO s).1.key, .string (ofO s).1.hi, .bool (ofO s).1.opn, .string (ofO s).1.val, .int .i64 (ofO s).1.limit], .bool (ofO s).2]) ∧ Below w.heap.size w w' := by
  by_cases h1 : b1 s = 1
  · exact op_Of_A s w hs (by simp [h1])
  by_cases h2 : b1 s = 2
  · exact op_Of_A s w hs (by simp [h2])
  by_cases h4 : b1 s = 4
  · by_cases g0 : b1 (takeT (r1 s)).2.1 = 0
    · exact op_Of_B0 s w hs h4 g0
    by_cases g1 : b1 (takeT (r1 s)).2.1 = 1
    · exact op_Of_B1 s w hs h4 g1
    exact op_Of_B2 s w hs h4 g0 g1
  by_cases h6 : b1 s = 6
  · by_cases g0 : b1 (takeT (r1 s)).2.1 = 0
    · exact op_Of_C0 s w hs h6 g0
    by_cases g1 : b1 (takeT (r1 s)).2.1 = 1
    · exact op_Of_C1 s w hs h6 g1
    exact op_Of_C2 s w hs h6 g0 g1
  exact op_Of_D s w hs h1 h2 h4 h6
end Go.Proofs.Ytdgcdfngpimmmaa
