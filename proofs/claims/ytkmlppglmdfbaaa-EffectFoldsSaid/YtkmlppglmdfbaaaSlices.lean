/- Parts of a slice: its beginning and its end, as they lie in memory. -/
import Derived.Test.YtkmlppglmdfbaaaData
namespace Go.Proofs.Ytkmlppglmdfbaaa
open Go.RowKit
set_option linter.unusedVariables false
set_option linter.unusedSimpArgs false

theorem Sl.take {α : Type} {w : World} {k : Nat} {cells : α → List Value} {A : Option Addr} {c : Nat} {l : List α} (h : Sl w k cells (.slice A l.length c) l) {q : Nat} (hq : q ≤ l.length) :
    Sl w k cells (.slice A q c) (l.take q) := by
  obtain ⟨A', c', he, h1, h2, h3⟩ := h
  injection he with hA _ hc
  subst hA; subst hc
  refine ⟨A, c, by rw [List.length_take, Nat.min_eq_left hq], by rw [List.length_take]; omega, h2, ?_⟩
  rcases h3 with h3 | ⟨b, off, rfl, hb, hc⟩
  · subst h3; exact .inl (by simp)
  · refine .inr ⟨b, off, rfl, hb, fun i u hi hu j x hx => ?_⟩
    rw [List.length_take] at hi
    refine hc i u (by omega) ?_ j x hx
    rw [← hu, List.getElem_take]
theorem Sl.drop {α : Type} {w : World} {k : Nat} {cells : α → List Value} {A : Option Addr} {c : Nat} {l : List α} (h : Sl w k cells (.slice A l.length c) l) {q : Nat} (hq : q ≤ l.length) :
    Sl w k cells (.slice (if c = q then A else A.map (·.add (q * k))) (l.length - q) (c - q)) (l.drop q) := by
  obtain ⟨A', c', he, h1, h2, h3⟩ := h
  injection he with hA _ hc
  subst hA; subst hc
  refine ⟨_, _, by rw [List.length_drop], by rw [List.length_drop]; omega, by omega, ?_⟩
  rcases h3 with h3 | ⟨b, off, rfl, hb, hc⟩
  · subst h3; exact .inl (by simp)
  · by_cases hcq : c = q
    · exact .inl (List.drop_eq_nil_of_le (by omega))
    · refine .inr ⟨b, off + q * k, by rw [if_neg hcq]; simp [Addr.add], hb, fun i u hi hu j x hx => ?_⟩
      rw [List.length_drop] at hi
      have := hc (q + i) u (by omega) (by rw [← hu, List.getElem_drop]) j x hx
      rw [← this]
      congr 2
      rw [Nat.add_mul]; omega
end Go.Proofs.Ytkmlppglmdfbaaa
