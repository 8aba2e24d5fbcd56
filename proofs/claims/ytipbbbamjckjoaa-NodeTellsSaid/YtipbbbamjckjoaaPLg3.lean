/- The logic's rules for named own objects: stores, freezing, callees that are handed some of them and leave others. No program in sight. -/
import Derived.Test.YtipbbbamjckjoaaPLg2
namespace Go.Proofs.Ytipbbbamjckjoaa
open Go Go.RowKit
set_option linter.unusedVariables false
set_option maxRecDepth 20000
set_option linter.unusedSimpArgs false
section
variable {P : Program} {w : World} {M0 : Mem} {N : Nat} {dst : Option Tmp} {ty : TypeId} {pos : String} {aft : Array Edge} {g : Option (Nat × Bool)} {M : Mem} {own : List Ob} {env : Env} {hd : Nat → Value} {W W' : World}
theorem ObOk.heap {base : Nat} {v : Value} {o : Ob} (h : ObOk base W v o) (hh : ∀ b, foot v = some b → W'.heap[b]? = W.heap[b]?) : ObOk base W' v o := by
  have hblk : ∀ {t : TypeId} {cs : List Value}, (∃ b, v = .pointer (some ⟨b, 0, none⟩) ∧ base ≤ b ∧ W.heap[b]? = some (.cells cs.toArray t (0, 0))) → ∃ b, v = .pointer (some ⟨b, 0, none⟩) ∧ base ≤ b ∧ W'.heap[b]? = some (.cells cs.toArray t (0, 0)) := fun h => by
    obtain ⟨b, rfl, h1, h2⟩ := h
    exact ⟨b, rfl, h1, (hh b rfl).trans h2⟩
  have hrow : ∀ {e : TypeId} {k n : Nat} {cs : List Value}, W.ownsRow base e k v n cs → W'.ownsRow base e k v n cs := fun h => by
    obtain ⟨h1, h2 | ⟨b, cap, cur, rfl, hb1, hb2, h3⟩⟩ := h
    · exact ⟨h1, .inl h2⟩
    · exact ⟨h1, .inr ⟨b, cap, cur, rfl, hb1, (hh b rfl).trans hb2, h3⟩⟩
  cases o with
  | blk t cs => exact hblk h
  | row e k n cs => exact hrow h
  | gone => exact h
  | nblk u t cs => exact ⟨h.1, hblk h.2⟩
  | nrow u e k n cs => exact ⟨h.1, hrow h.2⟩
end
end Go.Proofs.Ytipbbbamjckjoaa
