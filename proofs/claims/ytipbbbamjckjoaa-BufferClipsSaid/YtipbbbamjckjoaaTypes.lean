/- The structs of package api that the layers share, as plain Lean data. -/
import Derived.Test.YtipbbbamjckjoaaOrd
namespace Go.Proofs.Ytipbbbamjckjoaa
open Go.RowKit
set_option linter.unusedVariables false
set_option maxRecDepth 20000
/-- Are two one? (A name, so that no walk takes it apart.) -/
def eqv {α : Type} [DecidableEq α] (a b : α) : Bool := decide (a = b)
theorem eqv_self {α : Type} [DecidableEq α] (a : α) : eqv a a = true := decide_eq_true rfl
structure Eff where
  kind : Int
  val : ByteArray
structure Msg where
  stamp : Int
  kind : Int
  key : ByteArray
  hi : ByteArray
  opn : Bool
  val : ByteArray
structure Pair where
  key : ByteArray
  val : ByteArray
structure Op where
  kind : Int
  key : ByteArray
  hi : ByteArray
  opn : Bool
  val : ByteArray
  limit : Int
structure Cfg where
  fanout : Int
  leaf : Int
  budget : Int
  slots : Int
  restarts : Int
theorem Eff.ext_ {a b : Eff} (h1 : a.kind = b.kind) (h2 : a.val = b.val) : a = b := by
  cases a; cases b; simp only at h1 h2; subst h1 h2; rfl
instance : DecidableEq Eff := fun a b =>
  if h : a.kind = b.kind ∧ a.val = b.val then isTrue (Eff.ext_ h.1 h.2) else isFalse (fun e => h (by rw [e]; exact ⟨rfl, rfl⟩))
theorem Pair.ext_ {a b : Pair} (h1 : a.key = b.key) (h2 : a.val = b.val) : a = b := by
  cases a; cases b; simp only at h1 h2; subst h1 h2; rfl
instance : DecidableEq Pair := fun a b =>
  if h : a.key = b.key ∧ a.val = b.val then isTrue (Pair.ext_ h.1 h.2) else isFalse (fun e => h (by rw [e]; exact ⟨rfl, rfl⟩))
theorem Msg.ext_ {a b : Msg} (h1 : a.stamp = b.stamp) (h2 : a.kind = b.kind) (h3 : a.key = b.key) (h4 : a.hi = b.hi) (h5 : a.opn = b.opn) (h6 : a.val = b.val) : a = b := by
  cases a; cases b; simp only at h1 h2 h3 h4 h5 h6; subst h1 h2 h3 h4 h5 h6; rfl
instance : DecidableEq Msg := fun a b =>
  if h : a.stamp = b.stamp ∧ a.kind = b.kind ∧ a.key = b.key ∧ a.hi = b.hi ∧ a.opn = b.opn ∧ a.val = b.val then isTrue (Msg.ext_ h.1 h.2.1 h.2.2.1 h.2.2.2.1 h.2.2.2.2.1 h.2.2.2.2.2)
  else isFalse (fun e => h (by rw [e]; exact ⟨rfl, rfl, rfl, rfl, rfl, rfl⟩))
theorem Op.ext_ {a b : Op} (h1 : a.kind = b.kind) (h2 : a.key = b.key) (h3 : a.hi = b.hi) (h4 : a.opn = b.opn) (h5 : a.val = b.val) (h6 : a.limit = b.limit) : a = b := by
  cases a; cases b; simp only at h1 h2 h3 h4 h5 h6; subst h1 h2 h3 h4 h5 h6; rfl
instance : DecidableEq Op := fun a b =>
  if h : a.kind = b.kind ∧ a.key = b.key ∧ a.hi = b.hi ∧ a.opn = b.opn ∧ a.val = b.val ∧ a.limit = b.limit then isTrue (Op.ext_ h.1 h.2.1 h.2.2.1 h.2.2.2.1 h.2.2.2.2.1 h.2.2.2.2.2)
  else isFalse (fun e => h (by rw [e]; exact ⟨rfl, rfl, rfl, rfl, rfl, rfl⟩))
theorem Cfg.ext_ {a b : Cfg} (h1 : a.fanout = b.fanout) (h2 : a.leaf = b.leaf) (h3 : a.budget = b.budget) (h4 : a.slots = b.slots) (h5 : a.restarts = b.restarts) : a = b := by
  cases a; cases b; simp only at h1 h2 h3 h4 h5; subst h1 h2 h3 h4 h5; rfl
instance : DecidableEq Cfg := fun a b =>
  if h : a.fanout = b.fanout ∧ a.leaf = b.leaf ∧ a.budget = b.budget ∧ a.slots = b.slots ∧ a.restarts = b.restarts then isTrue (Cfg.ext_ h.1 h.2.1 h.2.2.1 h.2.2.2.1 h.2.2.2.2)
  else isFalse (fun e => h (by rw [e]; exact ⟨rfl, rfl, rfl, rfl, rfl⟩))
end Go.Proofs.Ytipbbbamjckjoaa
