/- The logic's rules for named own objects: stores, freezing, callees that are handed some of them and leave others. No program in sight. -/
import Derived.Test.YtlapnbklbpeddaaPLg2
namespace Go.Proofs.Ytlapnbklbpeddaa
open Go Go.RowKit
set_option linter.unusedVariables false
set_option maxRecDepth 20000
set_option linter.unusedSimpArgs false
section
variable {P : Program} {w : World} {M0 : Mem} {N : Nat} {dst : Option Tmp} {ty : TypeId} {pos : String} {aft : Array Edge} {g : Option (Nat × Bool)} {M : Mem} {own : List Ob} {env : Env} {hd : Nat → Value} {W W' : World}
theorem Fr.two {hd : Nat → Value} {a b : SV} {u v : Value} (h1 : a.den hd = u) (h2 : b.den hd = v) : Fr 2 hd [(0, a), (1, b)] ⟨#[u, v], []⟩ := by
  refine ⟨fun q sv hq => ?_, rfl, rfl⟩
  simp only [Env.get] at hq
  split at hq
  · rename_i hb
    obtain rfl := Nat.eq_of_beq_eq_true hb
    cases hq
    simp [h1]
  · split at hq
    · rename_i hb
      obtain rfl := Nat.eq_of_beq_eq_true hb
      cases hq
      simp [h2]
    · cases hq
theorem Wd.forget {Mx : Mem} (h : Wd w M0 hd Mx own W) (hle : M.le Mx) (h0 : M0.le M) (hold : ∀ b, b < w.heap.size → M0 b = none → M b = none) : Wd w M0 hd M own W :=
  ⟨h.below, hle.trans h.mem, hold, h0, h.own, fun i o b hi hne hf => by
    have := h.sep i o b hi hne hf
    cases hm : M b with
    | none => rfl
    | some x => exact absurd (this ▸ hle b x hm) (by simp), h.dis⟩
theorem ObOk.heap {base : Nat} {v : Value} {o : Ob} (h : ObOk base W v o) (hh : ∀ b, foot v = some b → W'.heap[b]? = W.heap[b]?) : ObOk base W' v o := by
  have hblk : ∀ {t : TypeId} {cs : List Value}, (∃ b, v = .pointer (some ⟨b, 0, none⟩) ∧ base ≤ b ∧ W.heap[b]? = some (.cells cs.toArray t (0, 0))) → ∃ b, v = .pointer (some ⟨b, 0, none⟩) ∧ base ≤ b ∧ W'.heap[b]? = some (.cells cs.toArray t (0, 0)) := fun h => by
    obtain ⟨b, rfl, h1, h2⟩ := h
    exact ⟨b, rfl, h1, (hh b rfl).trans h2⟩
  have hrow : ∀ {e : TypeId} {k n : Nat} {cs : List Value}, W.ownsRow base e k v n cs → W'.ownsRow base e k v n cs := fun h => by
    obtain ⟨h1, h2 | ⟨b, cap, cur, rfl, hb1, hb2, h3⟩⟩ := h
    · exact ⟨h1, .inl h2⟩
    · exact ⟨h1, .inr ⟨b, cap, cur, rfl, hb1, (hh b rfl).trans hb2, h3⟩⟩
  cases o with
  | blk t cs => exact hblk h
  | row e k n cs => exact hrow h
  | gone => exact h
  | nblk u t cs => exact ⟨h.1, hblk h.2⟩
  | nrow u e k n cs => exact ⟨h.1, hrow h.2⟩
  | omap es =>
    obtain ⟨b, en, clock, rfl, h1, h2, h3⟩ := h
    exact ⟨b, en, clock, rfl, h1, (hh b rfl).trans h2, h3⟩
end
end Go.Proofs.Ytlapnbklbpeddaa
