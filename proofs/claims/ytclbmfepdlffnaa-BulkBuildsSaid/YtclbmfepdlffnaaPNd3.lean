/- The walks of whether a node may be: a leaf, an inner node, any; the document's answer. -/
import Derived.Test.YtclbmfepdlffnaaPNd2
namespace Go.Proofs.Ytclbmfepdlffnaa
open Go Go.RowKit
set_option linter.unusedVariables false
set_option maxRecDepth 20000
set_option linter.unusedSimpArgs false
set_option maxHeartbeats 4000000
attribute [local irreducible] Calls
def endN (n : Nd) : Bool := if n.top = true then decide (n.high = em) && (n.right == -1) else decide ((n.high.size : Int) ≤ 16) && !decide (n.high = em) && decide (0 ≤ n.right)
structure Nd.Big (n : Nd) : Prop where
  high : n.high.size ≤ 1000000
  ps : ∀ s ∈ n.ps, s.size ≤ 1000000
  psn : n.ps.length ≤ 1000000
  ksn : n.ks.length ≤ 1000000
  ms : ∀ m ∈ n.ms, m.key.size ≤ 1000000 ∧ m.hi.size ≤ 1000000 ∧ m.val.size ≤ 1000000
  msn : n.ms.length ≤ 1000000
  rs : ∀ p ∈ n.rs, p.key.size ≤ 1000000 ∧ p.val.size ≤ 1000000
  rsn : n.rs.length ≤ 1000000
  min : ∀ m ∈ n.ms, m.In
def leafN (c : Cfg) (n : Nd) : Bool := ((n.ps.length : Int) + (n.ks.length : Int) + (n.ms.length : Int) == 0) && decide ((n.rs.length : Int) ≤ c.leaf) && rightP n.rs && n.rs.all (fun p => hasN n p.key)
def inP (n : Nd) (p : ByteArray) : Bool := !decide (p = em) && decide ((p.size : Int) ≤ 16) && hasN n p
def inM (n : Nd) (m : Msg) : Bool := decide (m.stamp ≤ n.seen) && within (spanM m) (spanN n)
def innN (c : Cfg) (n : Nd) : Bool := n.ks.all (fun k => !decide (k < 0)) && n.ps.all (inP n) && n.ms.all (inM n) && rightL n.ms c.budget
end Go.Proofs.Ytclbmfepdlffnaa
