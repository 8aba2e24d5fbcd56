/-
  No cell of these rows narrows 'for every input' (looked for: loops, veiled, ifaces, maps, wideKeys, modest, calm, conditions, laid).
  DERIVED. THE GIVEN ROWS OF THIS SEAT. 8 by the template 'for every input the law returns true; each argument reads behind the call as it read before'; 0 by the template 'total and deterministic' (their statements: YtclbmfepdlffnaaTotals.lean).
  GIVEN WITH THE SEED: the statements are not yours to turn. If you find one false, say at which input.
  Laid BY PROGRAM, IN A SANDBOX (cutbox-rows.mjs): the forced cells as the released guide's own fill.sh prints them over the translation bddd73b71fc7ed39… (all of the seat's roots in one cut). By AI agents, Wed Nov 11 2026. No macro, syntax, notation, axiom, sorry.
-/
import Derived.Test.YtclbmfepdlffnaaChecked
import GoSem.Claim
import GoSem.ClaimJoined
import GoSem.ClaimMapViews
import Derived.JoinedTies
import Derived.KernelRfl
namespace Go.Proofs.Ytclbmfepdlffnaa
/- THE CELL 'sum', in the pinned program and in every row, IS THE sha256 OF THE DUMP (.gsa) THAT YtclbmfepdlffnaaProg.lean LOADS. Nothing in Lean hashes anything: it is a label: what it is worth is what the hold of that sum in a sandbox is worth. -/
noncomputable def Try.pinned : Pinned := { name := "ytclbmfepdlffnaa", sum := "bddd73b71fc7ed393a1127eadd2ddca569d957e77c271b66f3594f21d3961647", checked := Try.checked }
namespace Rows
def none {H : Type} : Left H := { results := [], args := [] }

/-- 'percolatelaw08.ScriptDecodes': WHATEVER THE INPUT: true; the input reads as it did. -/
def scriptDecodesSpec : ChangeSpec := { name := "scriptDecodes", fn := fun _ => fun
  | [d] => { results := [.lit (.bool true)], args := [d] }
  | _ => none }
def scriptDecodesRow : OpenClaim := { program := "ytclbmfepdlffnaa", sum := "bddd73b71fc7ed393a1127eadd2ddca569d957e77c271b66f3594f21d3961647", func := "percolate/percolatelaw08.ScriptDecodes", spec := "scriptDecodes", apart := false }
def ScriptDecodesSaid : Prop := scriptDecodesRow.holds Try.pinned (OpenSpec.ofChange scriptDecodesSpec)

/-- ITS FALSE NEIGHBOUR: 'it returns false'. Refute it at one input. -/
def scriptDecodesWrong : ChangeSpec := { name := "scriptDecodes", fn := fun _ => fun
  | [d] => { results := [.lit (.bool false)], args := [d] }
  | _ => none }
def ScriptDecodesWrongFalsely : Prop := scriptDecodesRow.holds Try.pinned (OpenSpec.ofChange scriptDecodesWrong)

/-- 'percolatelaw08.ScriptEncodes': WHATEVER THE INPUT: true; the input reads as it did. -/
def scriptEncodesSpec : ChangeSpec := { name := "scriptEncodes", fn := fun _ => fun
  | [d] => { results := [.lit (.bool true)], args := [d] }
  | _ => none }
def scriptEncodesRow : OpenClaim := { program := "ytclbmfepdlffnaa", sum := "bddd73b71fc7ed393a1127eadd2ddca569d957e77c271b66f3594f21d3961647", func := "percolate/percolatelaw08.ScriptEncodes", spec := "scriptEncodes", inPlace := ["internal/abi.NoEscape"], unfollowed := true, recurses := true, apart := false }
def ScriptEncodesSaid : Prop := scriptEncodesRow.holds Try.pinned (OpenSpec.ofChange scriptEncodesSpec)

/-- ITS FALSE NEIGHBOUR: 'it returns false'. Refute it at one input. -/
def scriptEncodesWrong : ChangeSpec := { name := "scriptEncodes", fn := fun _ => fun
  | [d] => { results := [.lit (.bool false)], args := [d] }
  | _ => none }
def ScriptEncodesWrongFalsely : Prop := scriptEncodesRow.holds Try.pinned (OpenSpec.ofChange scriptEncodesWrong)

/-- 'percolatelaw12.LatchAlone': WHATEVER THE INPUT: true; the input reads as it did. -/
def latchAloneSpec : ChangeSpec := { name := "latchAlone", fn := fun _ => fun
  | [d1, d2] => { results := [.lit (.bool true)], args := [d1, d2] }
  | _ => none }
def latchAloneRow : OpenClaim := { program := "ytclbmfepdlffnaa", sum := "bddd73b71fc7ed393a1127eadd2ddca569d957e77c271b66f3594f21d3961647", func := "percolate/percolatelaw12.LatchAlone", spec := "latchAlone", inPlace := ["slices.overlaps[int]"], unfollowed := true, recurses := true, apart := false }
def LatchAloneSaid : Prop := latchAloneRow.holds Try.pinned (OpenSpec.ofChange latchAloneSpec)

/-- ITS FALSE NEIGHBOUR: 'it returns false'. Refute it at one input. -/
def latchAloneWrong : ChangeSpec := { name := "latchAlone", fn := fun _ => fun
  | [d1, d2] => { results := [.lit (.bool false)], args := [d1, d2] }
  | _ => none }
def LatchAloneWrongFalsely : Prop := latchAloneRow.holds Try.pinned (OpenSpec.ofChange latchAloneWrong)

/-- 'percolatelaw12.LatchPlays': WHATEVER THE INPUT: true; the input reads as it did. -/
def latchPlaysSpec : ChangeSpec := { name := "latchPlays", fn := fun _ => fun
  | [d1, d2] => { results := [.lit (.bool true)], args := [d1, d2] }
  | _ => none }
def latchPlaysRow : OpenClaim := { program := "ytclbmfepdlffnaa", sum := "bddd73b71fc7ed393a1127eadd2ddca569d957e77c271b66f3594f21d3961647", func := "percolate/percolatelaw12.LatchPlays", spec := "latchPlays", inPlace := ["slices.overlaps[int]"], unfollowed := true, recurses := true, apart := false }
def LatchPlaysSaid : Prop := latchPlaysRow.holds Try.pinned (OpenSpec.ofChange latchPlaysSpec)

/-- ITS FALSE NEIGHBOUR: 'it returns false'. Refute it at one input. -/
def latchPlaysWrong : ChangeSpec := { name := "latchPlays", fn := fun _ => fun
  | [d1, d2] => { results := [.lit (.bool false)], args := [d1, d2] }
  | _ => none }
def LatchPlaysWrongFalsely : Prop := latchPlaysRow.holds Try.pinned (OpenSpec.ofChange latchPlaysWrong)

/-- 'percolatelaw12.LatchNobody': WHATEVER THE INPUT: true; the input reads as it did. -/
def latchNobodySpec : ChangeSpec := { name := "latchNobody", fn := fun _ => fun
  | [d1, d2] => { results := [.lit (.bool true)], args := [d1, d2] }
  | _ => none }
def latchNobodyRow : OpenClaim := { program := "ytclbmfepdlffnaa", sum := "bddd73b71fc7ed393a1127eadd2ddca569d957e77c271b66f3594f21d3961647", func := "percolate/percolatelaw12.LatchNobody", spec := "latchNobody", inPlace := ["slices.overlaps[int]"], unfollowed := true, recurses := true, apart := false }
def LatchNobodySaid : Prop := latchNobodyRow.holds Try.pinned (OpenSpec.ofChange latchNobodySpec)

/-- ITS FALSE NEIGHBOUR: 'it returns false'. Refute it at one input. -/
def latchNobodyWrong : ChangeSpec := { name := "latchNobody", fn := fun _ => fun
  | [d1, d2] => { results := [.lit (.bool false)], args := [d1, d2] }
  | _ => none }
def LatchNobodyWrongFalsely : Prop := latchNobodyRow.holds Try.pinned (OpenSpec.ofChange latchNobodyWrong)

/-- 'percolatelaw51.BulkEven': WHATEVER THE INPUT: true; the input reads as it did. -/
def bulkEvenSpec : ChangeSpec := { name := "bulkEven", fn := fun _ => fun
  | [d1, d2] => { results := [.lit (.bool true)], args := [d1, d2] }
  | _ => none }
def bulkEvenRow : OpenClaim := { program := "ytclbmfepdlffnaa", sum := "bddd73b71fc7ed393a1127eadd2ddca569d957e77c271b66f3594f21d3961647", func := "percolate/percolatelaw51.BulkEven", spec := "bulkEven", apart := false }
def BulkEvenSaid : Prop := bulkEvenRow.holds Try.pinned (OpenSpec.ofChange bulkEvenSpec)

/-- ITS FALSE NEIGHBOUR: 'it returns false'. Refute it at one input. -/
def bulkEvenWrong : ChangeSpec := { name := "bulkEven", fn := fun _ => fun
  | [d1, d2] => { results := [.lit (.bool false)], args := [d1, d2] }
  | _ => none }
def BulkEvenWrongFalsely : Prop := bulkEvenRow.holds Try.pinned (OpenSpec.ofChange bulkEvenWrong)

/-- 'percolatelaw51.BulkLevels': WHATEVER THE INPUT: true; the input reads as it did. -/
def bulkLevelsSpec : ChangeSpec := { name := "bulkLevels", fn := fun _ => fun
  | [d1, d2] => { results := [.lit (.bool true)], args := [d1, d2] }
  | _ => none }
def bulkLevelsRow : OpenClaim := { program := "ytclbmfepdlffnaa", sum := "bddd73b71fc7ed393a1127eadd2ddca569d957e77c271b66f3594f21d3961647", func := "percolate/percolatelaw51.BulkLevels", spec := "bulkLevels", apart := false }
def BulkLevelsSaid : Prop := bulkLevelsRow.holds Try.pinned (OpenSpec.ofChange bulkLevelsSpec)

/-- ITS FALSE NEIGHBOUR: 'it returns false'. Refute it at one input. -/
def bulkLevelsWrong : ChangeSpec := { name := "bulkLevels", fn := fun _ => fun
  | [d1, d2] => { results := [.lit (.bool false)], args := [d1, d2] }
  | _ => none }
def BulkLevelsWrongFalsely : Prop := bulkLevelsRow.holds Try.pinned (OpenSpec.ofChange bulkLevelsWrong)

/-- 'percolatelaw51.BulkBuilds': WHATEVER THE INPUT: true; the input reads as it did. -/
def bulkBuildsSpec : ChangeSpec := { name := "bulkBuilds", fn := fun _ => fun
  | [d1, d2] => { results := [.lit (.bool true)], args := [d1, d2] }
  | _ => none }
def bulkBuildsRow : OpenClaim := { program := "ytclbmfepdlffnaa", sum := "bddd73b71fc7ed393a1127eadd2ddca569d957e77c271b66f3594f21d3961647", func := "percolate/percolatelaw51.BulkBuilds", spec := "bulkBuilds", apart := false }
def BulkBuildsSaid : Prop := bulkBuildsRow.holds Try.pinned (OpenSpec.ofChange bulkBuildsSpec)

/-- ITS FALSE NEIGHBOUR: 'it returns false'. Refute it at one input. -/
def bulkBuildsWrong : ChangeSpec := { name := "bulkBuilds", fn := fun _ => fun
  | [d1, d2] => { results := [.lit (.bool false)], args := [d1, d2] }
  | _ => none }
def BulkBuildsWrongFalsely : Prop := bulkBuildsRow.holds Try.pinned (OpenSpec.ofChange bulkBuildsWrong)

/- THE SECOND FORM. 'bulk': how many values and letters a reading holds, each counted each time it is reached (what is shared counts as often as it is met; a slice's spare places count too). A statement '..UptoSaid' is the law's where the arguments, and the package variables that the reading takes, are together of bulk at most 1048576: NARROWER than '..Said'. Prove '..Said' where nothing that the law and all that it calls make is longer than what came in: it says more and counts as full. Else prove '..UptoSaid'. A law counts once. -/
mutual
def uptoBulk {H : Type} : DataW H → Nat
  | .lit (.string bytes) => bytes.length + 1
  | .lit _ => 1
  | .nil => 1
  | .ptr d => uptoBulk d + 1
  | .slice elems spare => uptoBulkAll elems + uptoBulkAll spare + 1
  | .agg parts => uptoBulkAll parts + 1
  | .iface _ d => uptoBulk d + 1
  | .map entries => uptoBulkEntries entries + 1
  | .held _ => 1
def uptoBulkAll {H : Type} : List (DataW H) → Nat
  | [] => 0
  | d :: r => uptoBulk d + uptoBulkAll r
def uptoBulkEntries {H : Type} : List (Lit × DataW H) → Nat
  | [] => 0
  | x :: r => uptoBulkEntry x + uptoBulkEntries r
def uptoBulkEntry {H : Type} : Lit × DataW H → Nat
  | (.string bytes, d) => bytes.length + uptoBulk d + 1
  | (_, d) => uptoBulk d + 1
 end
def uptoSmall : (H : Type) → List (DataW H) → Bool := fun _ ds => decide (uptoBulkAll ds ≤ 1048576)
def OpenSpec.upto (s : _root_.Go.ChangeSpec) : _root_.Go.OpenSpec := { _root_.Go.OpenSpec.ofChange s with cond := some uptoSmall }

/-- 'percolatelaw08.ScriptDecodes', WHERE WHAT IT READS IS OF BULK AT MOST 1048576: true; the input reads as it did. -/
def scriptDecodesUptoRow : OpenClaim := { program := "ytclbmfepdlffnaa", sum := "bddd73b71fc7ed393a1127eadd2ddca569d957e77c271b66f3594f21d3961647", func := "percolate/percolatelaw08.ScriptDecodes", spec := "scriptDecodes", apart := false, narrowed := true }
def ScriptDecodesUptoSaid : Prop := scriptDecodesUptoRow.holds Try.pinned (OpenSpec.upto scriptDecodesSpec)

/-- 'percolatelaw08.ScriptEncodes', WHERE WHAT IT READS IS OF BULK AT MOST 1048576: true; the input reads as it did. -/
def scriptEncodesUptoRow : OpenClaim := { program := "ytclbmfepdlffnaa", sum := "bddd73b71fc7ed393a1127eadd2ddca569d957e77c271b66f3594f21d3961647", func := "percolate/percolatelaw08.ScriptEncodes", spec := "scriptEncodes", inPlace := ["internal/abi.NoEscape"], unfollowed := true, recurses := true, apart := false, narrowed := true }
def ScriptEncodesUptoSaid : Prop := scriptEncodesUptoRow.holds Try.pinned (OpenSpec.upto scriptEncodesSpec)

/-- 'percolatelaw12.LatchAlone', WHERE WHAT IT READS IS OF BULK AT MOST 1048576: true; the input reads as it did. -/
def latchAloneUptoRow : OpenClaim := { program := "ytclbmfepdlffnaa", sum := "bddd73b71fc7ed393a1127eadd2ddca569d957e77c271b66f3594f21d3961647", func := "percolate/percolatelaw12.LatchAlone", spec := "latchAlone", inPlace := ["slices.overlaps[int]"], unfollowed := true, recurses := true, apart := false, narrowed := true }
def LatchAloneUptoSaid : Prop := latchAloneUptoRow.holds Try.pinned (OpenSpec.upto latchAloneSpec)

/-- 'percolatelaw12.LatchPlays', WHERE WHAT IT READS IS OF BULK AT MOST 1048576: true; the input reads as it did. -/
def latchPlaysUptoRow : OpenClaim := { program := "ytclbmfepdlffnaa", sum := "bddd73b71fc7ed393a1127eadd2ddca569d957e77c271b66f3594f21d3961647", func := "percolate/percolatelaw12.LatchPlays", spec := "latchPlays", inPlace := ["slices.overlaps[int]"], unfollowed := true, recurses := true, apart := false, narrowed := true }
def LatchPlaysUptoSaid : Prop := latchPlaysUptoRow.holds Try.pinned (OpenSpec.upto latchPlaysSpec)

/-- 'percolatelaw12.LatchNobody', WHERE WHAT IT READS IS OF BULK AT MOST 1048576: true; the input reads as it did. -/
def latchNobodyUptoRow : OpenClaim := { program := "ytclbmfepdlffnaa", sum := "bddd73b71fc7ed393a1127eadd2ddca569d957e77c271b66f3594f21d3961647", func := "percolate/percolatelaw12.LatchNobody", spec := "latchNobody", inPlace := ["slices.overlaps[int]"], unfollowed := true, recurses := true, apart := false, narrowed := true }
def LatchNobodyUptoSaid : Prop := latchNobodyUptoRow.holds Try.pinned (OpenSpec.upto latchNobodySpec)

/-- 'percolatelaw51.BulkEven', WHERE WHAT IT READS IS OF BULK AT MOST 1048576: true; the input reads as it did. -/
def bulkEvenUptoRow : OpenClaim := { program := "ytclbmfepdlffnaa", sum := "bddd73b71fc7ed393a1127eadd2ddca569d957e77c271b66f3594f21d3961647", func := "percolate/percolatelaw51.BulkEven", spec := "bulkEven", apart := false, narrowed := true }
def BulkEvenUptoSaid : Prop := bulkEvenUptoRow.holds Try.pinned (OpenSpec.upto bulkEvenSpec)

/-- 'percolatelaw51.BulkLevels', WHERE WHAT IT READS IS OF BULK AT MOST 1048576: true; the input reads as it did. -/
def bulkLevelsUptoRow : OpenClaim := { program := "ytclbmfepdlffnaa", sum := "bddd73b71fc7ed393a1127eadd2ddca569d957e77c271b66f3594f21d3961647", func := "percolate/percolatelaw51.BulkLevels", spec := "bulkLevels", apart := false, narrowed := true }
def BulkLevelsUptoSaid : Prop := bulkLevelsUptoRow.holds Try.pinned (OpenSpec.upto bulkLevelsSpec)

/-- 'percolatelaw51.BulkBuilds', WHERE WHAT IT READS IS OF BULK AT MOST 1048576: true; the input reads as it did. -/
def bulkBuildsUptoRow : OpenClaim := { program := "ytclbmfepdlffnaa", sum := "bddd73b71fc7ed393a1127eadd2ddca569d957e77c271b66f3594f21d3961647", func := "percolate/percolatelaw51.BulkBuilds", spec := "bulkBuilds", apart := false, narrowed := true }
def BulkBuildsUptoSaid : Prop := bulkBuildsUptoRow.holds Try.pinned (OpenSpec.upto bulkBuildsSpec)

end Rows
end Go.Proofs.Ytclbmfepdlffnaa
