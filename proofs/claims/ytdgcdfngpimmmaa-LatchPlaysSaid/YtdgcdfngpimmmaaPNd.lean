/- The walks of the equalities of lists, of the node layer's Span, Has, Free, Full, Leaf, Same and of the document's answers. -/
import Derived.Test.YtdgcdfngpimmmaaPFr
import Derived.Test.YtdgcdfngpimmmaaPLg3
namespace Go.Proofs.Ytdgcdfngpimmmaa
open Go Go.RowKit
set_option linter.unusedVariables false
set_option maxRecDepth 20000
set_option linter.unusedSimpArgs false
set_option maxHeartbeats 2000000
attribute [local irreducible] Calls
abbrev intCells (n : Int) : List Value := [.int .i64 n]
/-- A node: its cells, and what its slices read as. -/
structure Nd where
  slot : Int
  level : Int
  pv : Value
  ps : List ByteArray
  kv : Value
  ks : List Int
  high : ByteArray
  top : Bool
  right : Int
  seen : Int
  mv : Value
  ms : List Msg
  rv : Value
  rs : List Pair
def Nd.Ok (M : Mem) (n : Nd) : Prop := SlM M 1 strCells n.pv n.ps ∧ SlM M 1 intCells n.kv n.ks ∧ SlM M 6 msgCells n.mv n.ms ∧ SlM M 2 pairCells n.rv n.rs
theorem Nd.Ok.mono {M M' : Mem} {n : Nd} (h : n.Ok M) (hle : M.le M') : n.Ok M' := ⟨h.1.mono hle, h.2.1.mono hle, h.2.2.1.mono hle, h.2.2.2.mono hle⟩
end Go.Proofs.Ytdgcdfngpimmmaa
