/-
  No cell of these rows narrows 'for every input' (looked for: loops, veiled, ifaces, maps, wideKeys, modest, calm, conditions, laid).
  DERIVED. THE GIVEN ROWS OF THIS SEAT. 9 by the template 'for every input the law returns true; each argument reads behind the call as it read before'; 0 by the template 'total and deterministic' (their statements: YtkmlppglmdfbaaaTotals.lean).
  GIVEN WITH THE SEED: the statements are not yours to turn. If you find one false, say at which input.
  Laid BY PROGRAM, IN A SANDBOX (cutbox-rows.mjs): the forced cells as the released guide's own fill.sh prints them over the translation 76a0ffe5c8216b09… (all of the seat's roots in one cut). By AI agents, Wed Nov 11 2026. No macro, syntax, notation, axiom, sorry.
-/
import Derived.Test.YtkmlppglmdfbaaaChecked
import GoSem.Claim
import GoSem.ClaimJoined
import GoSem.ClaimMapViews
import Derived.JoinedTies
import Derived.KernelRfl
namespace Go.Proofs.Ytkmlppglmdfbaaa
/- THE CELL 'sum', in the pinned program and in every row, IS THE sha256 OF THE DUMP (.gsa) THAT YtkmlppglmdfbaaaProg.lean LOADS. Nothing in Lean hashes anything: it is a label: what it is worth is what the hold of that sum in a sandbox is worth. -/
noncomputable def Try.pinned : Pinned := { name := "ytkmlppglmdfbaaa", sum := "76a0ffe5c8216b0910c1240f8c890e4ea0450cc2edb734b830f6279f0b9df7e4", checked := Try.checked }
namespace Rows
def none {H : Type} : Left H := { results := [], args := [] }

/-- 'percolatelaw03.ValueAdds': WHATEVER THE INPUT: true; the input reads as it did. -/
def valueAddsSpec : ChangeSpec := { name := "valueAdds", fn := fun _ => fun
  | [d1, d2] => { results := [.lit (.bool true)], args := [d1, d2] }
  | _ => none }
def valueAddsRow : OpenClaim := { program := "ytkmlppglmdfbaaa", sum := "76a0ffe5c8216b0910c1240f8c890e4ea0450cc2edb734b830f6279f0b9df7e4", func := "percolate/percolatelaw03.ValueAdds", spec := "valueAdds", apart := false }
def ValueAddsSaid : Prop := valueAddsRow.holds Try.pinned (OpenSpec.ofChange valueAddsSpec)

/-- ITS FALSE NEIGHBOUR: 'it returns false'. Refute it at one input. -/
def valueAddsWrong : ChangeSpec := { name := "valueAdds", fn := fun _ => fun
  | [d1, d2] => { results := [.lit (.bool false)], args := [d1, d2] }
  | _ => none }
def ValueAddsWrongFalsely : Prop := valueAddsRow.holds Try.pinned (OpenSpec.ofChange valueAddsWrong)

/-- 'percolatelaw03.ValueJoins': WHATEVER THE INPUT: true; the input reads as it did. -/
def valueJoinsSpec : ChangeSpec := { name := "valueJoins", fn := fun _ => fun
  | [d1, d2, d3] => { results := [.lit (.bool true)], args := [d1, d2, d3] }
  | _ => none }
def valueJoinsRow : OpenClaim := { program := "ytkmlppglmdfbaaa", sum := "76a0ffe5c8216b0910c1240f8c890e4ea0450cc2edb734b830f6279f0b9df7e4", func := "percolate/percolatelaw03.ValueJoins", spec := "valueJoins", apart := false }
def ValueJoinsSaid : Prop := valueJoinsRow.holds Try.pinned (OpenSpec.ofChange valueJoinsSpec)

/-- ITS FALSE NEIGHBOUR: 'it returns false'. Refute it at one input. -/
def valueJoinsWrong : ChangeSpec := { name := "valueJoins", fn := fun _ => fun
  | [d1, d2, d3] => { results := [.lit (.bool false)], args := [d1, d2, d3] }
  | _ => none }
def ValueJoinsWrongFalsely : Prop := valueJoinsRow.holds Try.pinned (OpenSpec.ofChange valueJoinsWrong)

/-- 'percolatelaw03.ValueFolds': WHATEVER THE INPUT: true; the input reads as it did. -/
def valueFoldsSpec : ChangeSpec := { name := "valueFolds", fn := fun _ => fun
  | [d] => { results := [.lit (.bool true)], args := [d] }
  | _ => none }
def valueFoldsRow : OpenClaim := { program := "ytkmlppglmdfbaaa", sum := "76a0ffe5c8216b0910c1240f8c890e4ea0450cc2edb734b830f6279f0b9df7e4", func := "percolate/percolatelaw03.ValueFolds", spec := "valueFolds", apart := false }
def ValueFoldsSaid : Prop := valueFoldsRow.holds Try.pinned (OpenSpec.ofChange valueFoldsSpec)

/-- ITS FALSE NEIGHBOUR: 'it returns false'. Refute it at one input. -/
def valueFoldsWrong : ChangeSpec := { name := "valueFolds", fn := fun _ => fun
  | [d] => { results := [.lit (.bool false)], args := [d] }
  | _ => none }
def ValueFoldsWrongFalsely : Prop := valueFoldsRow.holds Try.pinned (OpenSpec.ofChange valueFoldsWrong)

/-- 'percolatelaw02.SpanTells': WHATEVER THE INPUT: true; the input reads as it did. -/
def spanTellsSpec : ChangeSpec := { name := "spanTells", fn := fun _ => fun
  | [d1, d2, d3] => { results := [.lit (.bool true)], args := [d1, d2, d3] }
  | _ => none }
def spanTellsRow : OpenClaim := { program := "ytkmlppglmdfbaaa", sum := "76a0ffe5c8216b0910c1240f8c890e4ea0450cc2edb734b830f6279f0b9df7e4", func := "percolate/percolatelaw02.SpanTells", spec := "spanTells", apart := false }
def SpanTellsSaid : Prop := spanTellsRow.holds Try.pinned (OpenSpec.ofChange spanTellsSpec)

/-- ITS FALSE NEIGHBOUR: 'it returns false'. Refute it at one input. -/
def spanTellsWrong : ChangeSpec := { name := "spanTells", fn := fun _ => fun
  | [d1, d2, d3] => { results := [.lit (.bool false)], args := [d1, d2, d3] }
  | _ => none }
def SpanTellsWrongFalsely : Prop := spanTellsRow.holds Try.pinned (OpenSpec.ofChange spanTellsWrong)

/-- 'percolatelaw02.SpanMeets': WHATEVER THE INPUT: true; the input reads as it did. -/
def spanMeetsSpec : ChangeSpec := { name := "spanMeets", fn := fun _ => fun
  | [d1, d2, d3] => { results := [.lit (.bool true)], args := [d1, d2, d3] }
  | _ => none }
def spanMeetsRow : OpenClaim := { program := "ytkmlppglmdfbaaa", sum := "76a0ffe5c8216b0910c1240f8c890e4ea0450cc2edb734b830f6279f0b9df7e4", func := "percolate/percolatelaw02.SpanMeets", spec := "spanMeets", apart := false }
def SpanMeetsSaid : Prop := spanMeetsRow.holds Try.pinned (OpenSpec.ofChange spanMeetsSpec)

/-- ITS FALSE NEIGHBOUR: 'it returns false'. Refute it at one input. -/
def spanMeetsWrong : ChangeSpec := { name := "spanMeets", fn := fun _ => fun
  | [d1, d2, d3] => { results := [.lit (.bool false)], args := [d1, d2, d3] }
  | _ => none }
def SpanMeetsWrongFalsely : Prop := spanMeetsRow.holds Try.pinned (OpenSpec.ofChange spanMeetsWrong)

/-- 'percolatelaw02.SpanWithin': WHATEVER THE INPUT: true; the input reads as it did. -/
def spanWithinSpec : ChangeSpec := { name := "spanWithin", fn := fun _ => fun
  | [d1, d2] => { results := [.lit (.bool true)], args := [d1, d2] }
  | _ => none }
def spanWithinRow : OpenClaim := { program := "ytkmlppglmdfbaaa", sum := "76a0ffe5c8216b0910c1240f8c890e4ea0450cc2edb734b830f6279f0b9df7e4", func := "percolate/percolatelaw02.SpanWithin", spec := "spanWithin", apart := false }
def SpanWithinSaid : Prop := spanWithinRow.holds Try.pinned (OpenSpec.ofChange spanWithinSpec)

/-- ITS FALSE NEIGHBOUR: 'it returns false'. Refute it at one input. -/
def spanWithinWrong : ChangeSpec := { name := "spanWithin", fn := fun _ => fun
  | [d1, d2] => { results := [.lit (.bool false)], args := [d1, d2] }
  | _ => none }
def SpanWithinWrongFalsely : Prop := spanWithinRow.holds Try.pinned (OpenSpec.ofChange spanWithinWrong)

/-- 'percolatelaw04.EffectThen': WHATEVER THE INPUT: true; the input reads as it did. -/
def effectThenSpec : ChangeSpec := { name := "effectThen", fn := fun _ => fun
  | [d1, d2, d3, d4] => { results := [.lit (.bool true)], args := [d1, d2, d3, d4] }
  | _ => none }
def effectThenRow : OpenClaim := { program := "ytkmlppglmdfbaaa", sum := "76a0ffe5c8216b0910c1240f8c890e4ea0450cc2edb734b830f6279f0b9df7e4", func := "percolate/percolatelaw04.EffectThen", spec := "effectThen", apart := false }
def EffectThenSaid : Prop := effectThenRow.holds Try.pinned (OpenSpec.ofChange effectThenSpec)

/-- ITS FALSE NEIGHBOUR: 'it returns false'. Refute it at one input. -/
def effectThenWrong : ChangeSpec := { name := "effectThen", fn := fun _ => fun
  | [d1, d2, d3, d4] => { results := [.lit (.bool false)], args := [d1, d2, d3, d4] }
  | _ => none }
def EffectThenWrongFalsely : Prop := effectThenRow.holds Try.pinned (OpenSpec.ofChange effectThenWrong)

/-- 'percolatelaw04.EffectApplies': WHATEVER THE INPUT: true; the input reads as it did. -/
def effectAppliesSpec : ChangeSpec := { name := "effectApplies", fn := fun _ => fun
  | [d1, d2, d3] => { results := [.lit (.bool true)], args := [d1, d2, d3] }
  | _ => none }
def effectAppliesRow : OpenClaim := { program := "ytkmlppglmdfbaaa", sum := "76a0ffe5c8216b0910c1240f8c890e4ea0450cc2edb734b830f6279f0b9df7e4", func := "percolate/percolatelaw04.EffectApplies", spec := "effectApplies", apart := false }
def EffectAppliesSaid : Prop := effectAppliesRow.holds Try.pinned (OpenSpec.ofChange effectAppliesSpec)

/-- ITS FALSE NEIGHBOUR: 'it returns false'. Refute it at one input. -/
def effectAppliesWrong : ChangeSpec := { name := "effectApplies", fn := fun _ => fun
  | [d1, d2, d3] => { results := [.lit (.bool false)], args := [d1, d2, d3] }
  | _ => none }
def EffectAppliesWrongFalsely : Prop := effectAppliesRow.holds Try.pinned (OpenSpec.ofChange effectAppliesWrong)

/-- 'percolatelaw04.EffectFolds': WHATEVER THE INPUT: true; the input reads as it did. -/
def effectFoldsSpec : ChangeSpec := { name := "effectFolds", fn := fun _ => fun
  | [d1, d2] => { results := [.lit (.bool true)], args := [d1, d2] }
  | _ => none }
def effectFoldsRow : OpenClaim := { program := "ytkmlppglmdfbaaa", sum := "76a0ffe5c8216b0910c1240f8c890e4ea0450cc2edb734b830f6279f0b9df7e4", func := "percolate/percolatelaw04.EffectFolds", spec := "effectFolds", apart := false }
def EffectFoldsSaid : Prop := effectFoldsRow.holds Try.pinned (OpenSpec.ofChange effectFoldsSpec)

/-- ITS FALSE NEIGHBOUR: 'it returns false'. Refute it at one input. -/
def effectFoldsWrong : ChangeSpec := { name := "effectFolds", fn := fun _ => fun
  | [d1, d2] => { results := [.lit (.bool false)], args := [d1, d2] }
  | _ => none }
def EffectFoldsWrongFalsely : Prop := effectFoldsRow.holds Try.pinned (OpenSpec.ofChange effectFoldsWrong)

/- THE SECOND FORM. 'bulk': how many values and letters a reading holds, each counted each time it is reached (what is shared counts as often as it is met; a slice's spare places count too). A statement '..UptoSaid' is the law's where the arguments, and the package variables that the reading takes, are together of bulk at most 1048576: NARROWER than '..Said'. Prove '..Said' where nothing that the law and all that it calls make is longer than what came in: it says more and counts as full. Else prove '..UptoSaid'. A law counts once. -/
mutual
def uptoBulk {H : Type} : DataW H → Nat
  | .lit (.string bytes) => bytes.length + 1
  | .lit _ => 1
  | .nil => 1
  | .ptr d => uptoBulk d + 1
  | .slice elems spare => uptoBulkAll elems + uptoBulkAll spare + 1
  | .agg parts => uptoBulkAll parts + 1
  | .iface _ d => uptoBulk d + 1
  | .map entries => uptoBulkEntries entries + 1
  | .held _ => 1
def uptoBulkAll {H : Type} : List (DataW H) → Nat
  | [] => 0
  | d :: r => uptoBulk d + uptoBulkAll r
def uptoBulkEntries {H : Type} : List (Lit × DataW H) → Nat
  | [] => 0
  | x :: r => uptoBulkEntry x + uptoBulkEntries r
def uptoBulkEntry {H : Type} : Lit × DataW H → Nat
  | (.string bytes, d) => bytes.length + uptoBulk d + 1
  | (_, d) => uptoBulk d + 1
 end
def uptoSmall : (H : Type) → List (DataW H) → Bool := fun _ ds => decide (uptoBulkAll ds ≤ 1048576)
def OpenSpec.upto (s : _root_.Go.ChangeSpec) : _root_.Go.OpenSpec := { _root_.Go.OpenSpec.ofChange s with cond := some uptoSmall }

/-- 'percolatelaw03.ValueAdds', WHERE WHAT IT READS IS OF BULK AT MOST 1048576: true; the input reads as it did. -/
def valueAddsUptoRow : OpenClaim := { program := "ytkmlppglmdfbaaa", sum := "76a0ffe5c8216b0910c1240f8c890e4ea0450cc2edb734b830f6279f0b9df7e4", func := "percolate/percolatelaw03.ValueAdds", spec := "valueAdds", apart := false, narrowed := true }
def ValueAddsUptoSaid : Prop := valueAddsUptoRow.holds Try.pinned (OpenSpec.upto valueAddsSpec)

/-- 'percolatelaw03.ValueJoins', WHERE WHAT IT READS IS OF BULK AT MOST 1048576: true; the input reads as it did. -/
def valueJoinsUptoRow : OpenClaim := { program := "ytkmlppglmdfbaaa", sum := "76a0ffe5c8216b0910c1240f8c890e4ea0450cc2edb734b830f6279f0b9df7e4", func := "percolate/percolatelaw03.ValueJoins", spec := "valueJoins", apart := false, narrowed := true }
def ValueJoinsUptoSaid : Prop := valueJoinsUptoRow.holds Try.pinned (OpenSpec.upto valueJoinsSpec)

/-- 'percolatelaw03.ValueFolds', WHERE WHAT IT READS IS OF BULK AT MOST 1048576: true; the input reads as it did. -/
def valueFoldsUptoRow : OpenClaim := { program := "ytkmlppglmdfbaaa", sum := "76a0ffe5c8216b0910c1240f8c890e4ea0450cc2edb734b830f6279f0b9df7e4", func := "percolate/percolatelaw03.ValueFolds", spec := "valueFolds", apart := false, narrowed := true }
def ValueFoldsUptoSaid : Prop := valueFoldsUptoRow.holds Try.pinned (OpenSpec.upto valueFoldsSpec)

/-- 'percolatelaw02.SpanTells', WHERE WHAT IT READS IS OF BULK AT MOST 1048576: true; the input reads as it did. -/
def spanTellsUptoRow : OpenClaim := { program := "ytkmlppglmdfbaaa", sum := "76a0ffe5c8216b0910c1240f8c890e4ea0450cc2edb734b830f6279f0b9df7e4", func := "percolate/percolatelaw02.SpanTells", spec := "spanTells", apart := false, narrowed := true }
def SpanTellsUptoSaid : Prop := spanTellsUptoRow.holds Try.pinned (OpenSpec.upto spanTellsSpec)

/-- 'percolatelaw02.SpanMeets', WHERE WHAT IT READS IS OF BULK AT MOST 1048576: true; the input reads as it did. -/
def spanMeetsUptoRow : OpenClaim := { program := "ytkmlppglmdfbaaa", sum := "76a0ffe5c8216b0910c1240f8c890e4ea0450cc2edb734b830f6279f0b9df7e4", func := "percolate/percolatelaw02.SpanMeets", spec := "spanMeets", apart := false, narrowed := true }
def SpanMeetsUptoSaid : Prop := spanMeetsUptoRow.holds Try.pinned (OpenSpec.upto spanMeetsSpec)

/-- 'percolatelaw02.SpanWithin', WHERE WHAT IT READS IS OF BULK AT MOST 1048576: true; the input reads as it did. -/
def spanWithinUptoRow : OpenClaim := { program := "ytkmlppglmdfbaaa", sum := "76a0ffe5c8216b0910c1240f8c890e4ea0450cc2edb734b830f6279f0b9df7e4", func := "percolate/percolatelaw02.SpanWithin", spec := "spanWithin", apart := false, narrowed := true }
def SpanWithinUptoSaid : Prop := spanWithinUptoRow.holds Try.pinned (OpenSpec.upto spanWithinSpec)

/-- 'percolatelaw04.EffectThen', WHERE WHAT IT READS IS OF BULK AT MOST 1048576: true; the input reads as it did. -/
def effectThenUptoRow : OpenClaim := { program := "ytkmlppglmdfbaaa", sum := "76a0ffe5c8216b0910c1240f8c890e4ea0450cc2edb734b830f6279f0b9df7e4", func := "percolate/percolatelaw04.EffectThen", spec := "effectThen", apart := false, narrowed := true }
def EffectThenUptoSaid : Prop := effectThenUptoRow.holds Try.pinned (OpenSpec.upto effectThenSpec)

/-- 'percolatelaw04.EffectApplies', WHERE WHAT IT READS IS OF BULK AT MOST 1048576: true; the input reads as it did. -/
def effectAppliesUptoRow : OpenClaim := { program := "ytkmlppglmdfbaaa", sum := "76a0ffe5c8216b0910c1240f8c890e4ea0450cc2edb734b830f6279f0b9df7e4", func := "percolate/percolatelaw04.EffectApplies", spec := "effectApplies", apart := false, narrowed := true }
def EffectAppliesUptoSaid : Prop := effectAppliesUptoRow.holds Try.pinned (OpenSpec.upto effectAppliesSpec)

/-- 'percolatelaw04.EffectFolds', WHERE WHAT IT READS IS OF BULK AT MOST 1048576: true; the input reads as it did. -/
def effectFoldsUptoRow : OpenClaim := { program := "ytkmlppglmdfbaaa", sum := "76a0ffe5c8216b0910c1240f8c890e4ea0450cc2edb734b830f6279f0b9df7e4", func := "percolate/percolatelaw04.EffectFolds", spec := "effectFolds", apart := false, narrowed := true }
def EffectFoldsUptoSaid : Prop := effectFoldsUptoRow.holds Try.pinned (OpenSpec.upto effectFoldsSpec)

end Rows
end Go.Proofs.Ytkmlppglmdfbaaa
