/-
  No cell of these rows narrows 'for every input' (looked for: loops, veiled, ifaces, maps, wideKeys, modest, calm, conditions, laid).
  DERIVED. THE GIVEN ROWS OF THIS SEAT. 9 by the template 'for every input the law returns true; each argument reads behind the call as it read before'; 0 by the template 'total and deterministic' (their statements: YtipbbbamjckjoaaTotals.lean).
  GIVEN WITH THE SEED: the statements are not yours to turn. If you find one false, say at which input.
  Laid BY PROGRAM, IN A SANDBOX (cutbox-rows.mjs): the forced cells as the released guide's own fill.sh prints them over the translation 38337c775cacf18a… (all of the seat's roots in one cut). By AI agents, Wed Nov 11 2026. No macro, syntax, notation, axiom, sorry.
-/
import Derived.Test.YtipbbbamjckjoaaChecked
import GoSem.Claim
import GoSem.ClaimJoined
import GoSem.ClaimMapViews
import Derived.JoinedTies
import Derived.KernelRfl
namespace Go.Proofs.Ytipbbbamjckjoaa
/- THE CELL 'sum', in the pinned program and in every row, IS THE sha256 OF THE DUMP (.gsa) THAT YtipbbbamjckjoaaProg.lean LOADS. Nothing in Lean hashes anything: it is a label: what it is worth is what the hold of that sum in a sandbox is worth. -/
noncomputable def Try.pinned : Pinned := { name := "ytipbbbamjckjoaa", sum := "38337c775cacf18aa3aa63791eb277299ea8186228d1a8cc369d2683cb45ebd8", checked := Try.checked }
namespace Rows
def none {H : Type} : Left H := { results := [], args := [] }

/-- 'percolatelaw05.MessageRises': WHATEVER THE INPUT: true; the input reads as it did. -/
def messageRisesSpec : ChangeSpec := { name := "messageRises", fn := fun _ => fun
  | [d] => { results := [.lit (.bool true)], args := [d] }
  | _ => none }
def messageRisesRow : OpenClaim := { program := "ytipbbbamjckjoaa", sum := "38337c775cacf18aa3aa63791eb277299ea8186228d1a8cc369d2683cb45ebd8", func := "percolate/percolatelaw05.MessageRises", spec := "messageRises", apart := false }
def MessageRisesSaid : Prop := messageRisesRow.holds Try.pinned (OpenSpec.ofChange messageRisesSpec)

/-- ITS FALSE NEIGHBOUR: 'it returns false'. Refute it at one input. -/
def messageRisesWrong : ChangeSpec := { name := "messageRises", fn := fun _ => fun
  | [d] => { results := [.lit (.bool false)], args := [d] }
  | _ => none }
def MessageRisesWrongFalsely : Prop := messageRisesRow.holds Try.pinned (OpenSpec.ofChange messageRisesWrong)

/-- 'percolatelaw05.MessageTells': WHATEVER THE INPUT: true; the input reads as it did. -/
def messageTellsSpec : ChangeSpec := { name := "messageTells", fn := fun _ => fun
  | [d1, d2, d3] => { results := [.lit (.bool true)], args := [d1, d2, d3] }
  | _ => none }
def messageTellsRow : OpenClaim := { program := "ytipbbbamjckjoaa", sum := "38337c775cacf18aa3aa63791eb277299ea8186228d1a8cc369d2683cb45ebd8", func := "percolate/percolatelaw05.MessageTells", spec := "messageTells", apart := false }
def MessageTellsSaid : Prop := messageTellsRow.holds Try.pinned (OpenSpec.ofChange messageTellsSpec)

/-- ITS FALSE NEIGHBOUR: 'it returns false'. Refute it at one input. -/
def messageTellsWrong : ChangeSpec := { name := "messageTells", fn := fun _ => fun
  | [d1, d2, d3] => { results := [.lit (.bool false)], args := [d1, d2, d3] }
  | _ => none }
def MessageTellsWrongFalsely : Prop := messageTellsRow.holds Try.pinned (OpenSpec.ofChange messageTellsWrong)

/-- 'percolatelaw05.MessageClips': WHATEVER THE INPUT: true; the input reads as it did. -/
def messageClipsSpec : ChangeSpec := { name := "messageClips", fn := fun _ => fun
  | [d1, d2, d3] => { results := [.lit (.bool true)], args := [d1, d2, d3] }
  | _ => none }
def messageClipsRow : OpenClaim := { program := "ytipbbbamjckjoaa", sum := "38337c775cacf18aa3aa63791eb277299ea8186228d1a8cc369d2683cb45ebd8", func := "percolate/percolatelaw05.MessageClips", spec := "messageClips", apart := false }
def MessageClipsSaid : Prop := messageClipsRow.holds Try.pinned (OpenSpec.ofChange messageClipsSpec)

/-- ITS FALSE NEIGHBOUR: 'it returns false'. Refute it at one input. -/
def messageClipsWrong : ChangeSpec := { name := "messageClips", fn := fun _ => fun
  | [d1, d2, d3] => { results := [.lit (.bool false)], args := [d1, d2, d3] }
  | _ => none }
def MessageClipsWrongFalsely : Prop := messageClipsRow.holds Try.pinned (OpenSpec.ofChange messageClipsWrong)

/-- 'percolatelaw05.MessageJoins': WHATEVER THE INPUT: true; the input reads as it did. -/
def messageJoinsSpec : ChangeSpec := { name := "messageJoins", fn := fun _ => fun
  | [d1, d2, d3] => { results := [.lit (.bool true)], args := [d1, d2, d3] }
  | _ => none }
def messageJoinsRow : OpenClaim := { program := "ytipbbbamjckjoaa", sum := "38337c775cacf18aa3aa63791eb277299ea8186228d1a8cc369d2683cb45ebd8", func := "percolate/percolatelaw05.MessageJoins", spec := "messageJoins", apart := false }
def MessageJoinsSaid : Prop := messageJoinsRow.holds Try.pinned (OpenSpec.ofChange messageJoinsSpec)

/-- ITS FALSE NEIGHBOUR: 'it returns false'. Refute it at one input. -/
def messageJoinsWrong : ChangeSpec := { name := "messageJoins", fn := fun _ => fun
  | [d1, d2, d3] => { results := [.lit (.bool false)], args := [d1, d2, d3] }
  | _ => none }
def MessageJoinsWrongFalsely : Prop := messageJoinsRow.holds Try.pinned (OpenSpec.ofChange messageJoinsWrong)

/-- 'percolatelaw18.BufferAdds': WHATEVER THE INPUT: true; the input reads as it did. -/
def bufferAddsSpec : ChangeSpec := { name := "bufferAdds", fn := fun _ => fun
  | [d1, d2, d3] => { results := [.lit (.bool true)], args := [d1, d2, d3] }
  | _ => none }
def bufferAddsRow : OpenClaim := { program := "ytipbbbamjckjoaa", sum := "38337c775cacf18aa3aa63791eb277299ea8186228d1a8cc369d2683cb45ebd8", func := "percolate/percolatelaw18.BufferAdds", spec := "bufferAdds", unfollowed := true, recurses := true, apart := false }
def BufferAddsSaid : Prop := bufferAddsRow.holds Try.pinned (OpenSpec.ofChange bufferAddsSpec)

/-- ITS FALSE NEIGHBOUR: 'it returns false'. Refute it at one input. -/
def bufferAddsWrong : ChangeSpec := { name := "bufferAdds", fn := fun _ => fun
  | [d1, d2, d3] => { results := [.lit (.bool false)], args := [d1, d2, d3] }
  | _ => none }
def BufferAddsWrongFalsely : Prop := bufferAddsRow.holds Try.pinned (OpenSpec.ofChange bufferAddsWrong)

/-- 'percolatelaw19.FrontChooses': WHATEVER THE INPUT: true; the input reads as it did. -/
def frontChoosesSpec : ChangeSpec := { name := "frontChooses", fn := fun _ => fun
  | [d1, d2, d3] => { results := [.lit (.bool true)], args := [d1, d2, d3] }
  | _ => none }
def frontChoosesRow : OpenClaim := { program := "ytipbbbamjckjoaa", sum := "38337c775cacf18aa3aa63791eb277299ea8186228d1a8cc369d2683cb45ebd8", func := "percolate/percolatelaw19.FrontChooses", spec := "frontChooses", unfollowed := true, recurses := true, apart := false }
def FrontChoosesSaid : Prop := frontChoosesRow.holds Try.pinned (OpenSpec.ofChange frontChoosesSpec)

/-- ITS FALSE NEIGHBOUR: 'it returns false'. Refute it at one input. -/
def frontChoosesWrong : ChangeSpec := { name := "frontChooses", fn := fun _ => fun
  | [d1, d2, d3] => { results := [.lit (.bool false)], args := [d1, d2, d3] }
  | _ => none }
def FrontChoosesWrongFalsely : Prop := frontChoosesRow.holds Try.pinned (OpenSpec.ofChange frontChoosesWrong)

/-- 'percolatelaw21.NodeCopies': WHATEVER THE INPUT: true; the input reads as it did. -/
def nodeCopiesSpec : ChangeSpec := { name := "nodeCopies", fn := fun _ => fun
  | [d1, d2] => { results := [.lit (.bool true)], args := [d1, d2] }
  | _ => none }
def nodeCopiesRow : OpenClaim := { program := "ytipbbbamjckjoaa", sum := "38337c775cacf18aa3aa63791eb277299ea8186228d1a8cc369d2683cb45ebd8", func := "percolate/percolatelaw21.NodeCopies", spec := "nodeCopies", unfollowed := true, recurses := true, apart := false }
def NodeCopiesSaid : Prop := nodeCopiesRow.holds Try.pinned (OpenSpec.ofChange nodeCopiesSpec)

/-- ITS FALSE NEIGHBOUR: 'it returns false'. Refute it at one input. -/
def nodeCopiesWrong : ChangeSpec := { name := "nodeCopies", fn := fun _ => fun
  | [d1, d2] => { results := [.lit (.bool false)], args := [d1, d2] }
  | _ => none }
def NodeCopiesWrongFalsely : Prop := nodeCopiesRow.holds Try.pinned (OpenSpec.ofChange nodeCopiesWrong)

/-- 'percolatelaw21.NodeTells': WHATEVER THE INPUT: true; the input reads as it did. -/
def nodeTellsSpec : ChangeSpec := { name := "nodeTells", fn := fun _ => fun
  | [d1, d2, d3, d4] => { results := [.lit (.bool true)], args := [d1, d2, d3, d4] }
  | _ => none }
def nodeTellsRow : OpenClaim := { program := "ytipbbbamjckjoaa", sum := "38337c775cacf18aa3aa63791eb277299ea8186228d1a8cc369d2683cb45ebd8", func := "percolate/percolatelaw21.NodeTells", spec := "nodeTells", unfollowed := true, recurses := true, apart := false }
def NodeTellsSaid : Prop := nodeTellsRow.holds Try.pinned (OpenSpec.ofChange nodeTellsSpec)

/-- ITS FALSE NEIGHBOUR: 'it returns false'. Refute it at one input. -/
def nodeTellsWrong : ChangeSpec := { name := "nodeTells", fn := fun _ => fun
  | [d1, d2, d3, d4] => { results := [.lit (.bool false)], args := [d1, d2, d3, d4] }
  | _ => none }
def NodeTellsWrongFalsely : Prop := nodeTellsRow.holds Try.pinned (OpenSpec.ofChange nodeTellsWrong)

/-- 'percolatelaw18.BufferClips': WHATEVER THE INPUT: true; the input reads as it did. -/
def bufferClipsSpec : ChangeSpec := { name := "bufferClips", fn := fun _ => fun
  | [d1, d2, d3, d4] => { results := [.lit (.bool true)], args := [d1, d2, d3, d4] }
  | _ => none }
def bufferClipsRow : OpenClaim := { program := "ytipbbbamjckjoaa", sum := "38337c775cacf18aa3aa63791eb277299ea8186228d1a8cc369d2683cb45ebd8", func := "percolate/percolatelaw18.BufferClips", spec := "bufferClips", unfollowed := true, recurses := true, apart := false }
def BufferClipsSaid : Prop := bufferClipsRow.holds Try.pinned (OpenSpec.ofChange bufferClipsSpec)

/-- ITS FALSE NEIGHBOUR: 'it returns false'. Refute it at one input. -/
def bufferClipsWrong : ChangeSpec := { name := "bufferClips", fn := fun _ => fun
  | [d1, d2, d3, d4] => { results := [.lit (.bool false)], args := [d1, d2, d3, d4] }
  | _ => none }
def BufferClipsWrongFalsely : Prop := bufferClipsRow.holds Try.pinned (OpenSpec.ofChange bufferClipsWrong)

/- THE SECOND FORM. 'bulk': how many values and letters a reading holds, each counted each time it is reached (what is shared counts as often as it is met; a slice's spare places count too). A statement '..UptoSaid' is the law's where the arguments, and the package variables that the reading takes, are together of bulk at most 1048576: NARROWER than '..Said'. Prove '..Said' where nothing that the law and all that it calls make is longer than what came in: it says more and counts as full. Else prove '..UptoSaid'. A law counts once. -/
mutual
def uptoBulk {H : Type} : DataW H → Nat
  | .lit (.string bytes) => bytes.length + 1
  | .lit _ => 1
  | .nil => 1
  | .ptr d => uptoBulk d + 1
  | .slice elems spare => uptoBulkAll elems + uptoBulkAll spare + 1
  | .agg parts => uptoBulkAll parts + 1
  | .iface _ d => uptoBulk d + 1
  | .map entries => uptoBulkEntries entries + 1
  | .held _ => 1
def uptoBulkAll {H : Type} : List (DataW H) → Nat
  | [] => 0
  | d :: r => uptoBulk d + uptoBulkAll r
def uptoBulkEntries {H : Type} : List (Lit × DataW H) → Nat
  | [] => 0
  | x :: r => uptoBulkEntry x + uptoBulkEntries r
def uptoBulkEntry {H : Type} : Lit × DataW H → Nat
  | (.string bytes, d) => bytes.length + uptoBulk d + 1
  | (_, d) => uptoBulk d + 1
 end
def uptoSmall : (H : Type) → List (DataW H) → Bool := fun _ ds => decide (uptoBulkAll ds ≤ 1048576)
def OpenSpec.upto (s : _root_.Go.ChangeSpec) : _root_.Go.OpenSpec := { _root_.Go.OpenSpec.ofChange s with cond := some uptoSmall }

/-- 'percolatelaw05.MessageRises', WHERE WHAT IT READS IS OF BULK AT MOST 1048576: true; the input reads as it did. -/
def messageRisesUptoRow : OpenClaim := { program := "ytipbbbamjckjoaa", sum := "38337c775cacf18aa3aa63791eb277299ea8186228d1a8cc369d2683cb45ebd8", func := "percolate/percolatelaw05.MessageRises", spec := "messageRises", apart := false, narrowed := true }
def MessageRisesUptoSaid : Prop := messageRisesUptoRow.holds Try.pinned (OpenSpec.upto messageRisesSpec)

/-- 'percolatelaw05.MessageTells', WHERE WHAT IT READS IS OF BULK AT MOST 1048576: true; the input reads as it did. -/
def messageTellsUptoRow : OpenClaim := { program := "ytipbbbamjckjoaa", sum := "38337c775cacf18aa3aa63791eb277299ea8186228d1a8cc369d2683cb45ebd8", func := "percolate/percolatelaw05.MessageTells", spec := "messageTells", apart := false, narrowed := true }
def MessageTellsUptoSaid : Prop := messageTellsUptoRow.holds Try.pinned (OpenSpec.upto messageTellsSpec)

/-- 'percolatelaw05.MessageClips', WHERE WHAT IT READS IS OF BULK AT MOST 1048576: true; the input reads as it did. -/
def messageClipsUptoRow : OpenClaim := { program := "ytipbbbamjckjoaa", sum := "38337c775cacf18aa3aa63791eb277299ea8186228d1a8cc369d2683cb45ebd8", func := "percolate/percolatelaw05.MessageClips", spec := "messageClips", apart := false, narrowed := true }
def MessageClipsUptoSaid : Prop := messageClipsUptoRow.holds Try.pinned (OpenSpec.upto messageClipsSpec)

/-- 'percolatelaw05.MessageJoins', WHERE WHAT IT READS IS OF BULK AT MOST 1048576: true; the input reads as it did. -/
def messageJoinsUptoRow : OpenClaim := { program := "ytipbbbamjckjoaa", sum := "38337c775cacf18aa3aa63791eb277299ea8186228d1a8cc369d2683cb45ebd8", func := "percolate/percolatelaw05.MessageJoins", spec := "messageJoins", apart := false, narrowed := true }
def MessageJoinsUptoSaid : Prop := messageJoinsUptoRow.holds Try.pinned (OpenSpec.upto messageJoinsSpec)

/-- 'percolatelaw18.BufferAdds', WHERE WHAT IT READS IS OF BULK AT MOST 1048576: true; the input reads as it did. -/
def bufferAddsUptoRow : OpenClaim := { program := "ytipbbbamjckjoaa", sum := "38337c775cacf18aa3aa63791eb277299ea8186228d1a8cc369d2683cb45ebd8", func := "percolate/percolatelaw18.BufferAdds", spec := "bufferAdds", unfollowed := true, recurses := true, apart := false, narrowed := true }
def BufferAddsUptoSaid : Prop := bufferAddsUptoRow.holds Try.pinned (OpenSpec.upto bufferAddsSpec)

/-- 'percolatelaw19.FrontChooses', WHERE WHAT IT READS IS OF BULK AT MOST 1048576: true; the input reads as it did. -/
def frontChoosesUptoRow : OpenClaim := { program := "ytipbbbamjckjoaa", sum := "38337c775cacf18aa3aa63791eb277299ea8186228d1a8cc369d2683cb45ebd8", func := "percolate/percolatelaw19.FrontChooses", spec := "frontChooses", unfollowed := true, recurses := true, apart := false, narrowed := true }
def FrontChoosesUptoSaid : Prop := frontChoosesUptoRow.holds Try.pinned (OpenSpec.upto frontChoosesSpec)

/-- 'percolatelaw21.NodeCopies', WHERE WHAT IT READS IS OF BULK AT MOST 1048576: true; the input reads as it did. -/
def nodeCopiesUptoRow : OpenClaim := { program := "ytipbbbamjckjoaa", sum := "38337c775cacf18aa3aa63791eb277299ea8186228d1a8cc369d2683cb45ebd8", func := "percolate/percolatelaw21.NodeCopies", spec := "nodeCopies", unfollowed := true, recurses := true, apart := false, narrowed := true }
def NodeCopiesUptoSaid : Prop := nodeCopiesUptoRow.holds Try.pinned (OpenSpec.upto nodeCopiesSpec)

/-- 'percolatelaw21.NodeTells', WHERE WHAT IT READS IS OF BULK AT MOST 1048576: true; the input reads as it did. -/
def nodeTellsUptoRow : OpenClaim := { program := "ytipbbbamjckjoaa", sum := "38337c775cacf18aa3aa63791eb277299ea8186228d1a8cc369d2683cb45ebd8", func := "percolate/percolatelaw21.NodeTells", spec := "nodeTells", unfollowed := true, recurses := true, apart := false, narrowed := true }
def NodeTellsUptoSaid : Prop := nodeTellsUptoRow.holds Try.pinned (OpenSpec.upto nodeTellsSpec)

/-- 'percolatelaw18.BufferClips', WHERE WHAT IT READS IS OF BULK AT MOST 1048576: true; the input reads as it did. -/
def bufferClipsUptoRow : OpenClaim := { program := "ytipbbbamjckjoaa", sum := "38337c775cacf18aa3aa63791eb277299ea8186228d1a8cc369d2683cb45ebd8", func := "percolate/percolatelaw18.BufferClips", spec := "bufferClips", unfollowed := true, recurses := true, apart := false, narrowed := true }
def BufferClipsUptoSaid : Prop := bufferClipsUptoRow.holds Try.pinned (OpenSpec.upto bufferClipsSpec)

end Rows
end Go.Proofs.Ytipbbbamjckjoaa
