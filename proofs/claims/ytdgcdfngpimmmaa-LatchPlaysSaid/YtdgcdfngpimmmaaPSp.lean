/- The walks of the span layer and of its reference: each function computes what the plain spans say. The walks of the span layer's Meet and of what is built on it. The walks of the span layer's reference: Has, Empty, Norm, Meet. The walks of the span layer's reference: Norm and Meet. Parts of a slice: its beginning and its end, as they lie in memory. The walks of the span layer's reference: Short, and the ends of spans (Some, Ends). -/
import Derived.Test.YtdgcdfngpimmmaaPA
import Derived.Deep.RegionHeld3
import Derived.Deep.AppendLies
namespace Go.Proofs.Ytdgcdfngpimmmaa
open Go.RowKit Go.Sort
set_option linter.unusedVariables false
set_option maxRecDepth 20000
set_option linter.unusedSimpArgs false

end Go.Proofs.Ytdgcdfngpimmmaa
namespace Go.Proofs.Ytdgcdfngpimmmaa
open Go.RowKit Go.Sort
set_option linter.unusedVariables false
set_option maxRecDepth 20000
set_option linter.unusedSimpArgs false

theorem run_max_str2 {P : Program} {w : World} (ts : Array TypeId) (t : TypeId) (a b : ByteArray) : (Builtin.max_ ts t #[.string a, .string b]).run P w = .ok (.string (mx a b)) w := by
  cases h : Op.bytesLess a.toList b.toList <;> simp [Builtin.max_, Builtin.max2, Op.stringOp, mx, lt, h, asBool, go_sem]
theorem run_min_str2 {P : Program} {w : World} (ts : Array TypeId) (t : TypeId) (a b : ByteArray) : (Builtin.min_ ts t #[.string a, .string b]).run P w = .ok (.string (mn a b)) w := by
  have key : (Op.bytesLess a.toList b.toList || a.toList == b.toList) = !lt b a := by
    rw [beq_bl]
    by_cases h : a = b
    · subst h; simp [lt_irr]
    · rw [decide_eq_false h, Bool.or_false]
      cases h1 : lt a b with
      | true => rw [lt_asy h1]; exact h1
      | false =>
        cases h2 : lt b a with
        | true => exact h1
        | false => exact absurd (lt_tot h1 h2) h
  cases h : lt b a <;> rw [h] at key <;> simp [Builtin.min_, Builtin.min2, Op.stringOp, mn, h, asBool, go_sem, key]
attribute [local go_sem] run_max_str2 run_min_str2

end Go.Proofs.Ytdgcdfngpimmmaa
namespace Go.Proofs.Ytdgcdfngpimmmaa
open Go.RowKit Go.Sort
set_option linter.unusedVariables false
set_option maxRecDepth 20000
set_option linter.unusedSimpArgs false

end Go.Proofs.Ytdgcdfngpimmmaa
namespace Go.Proofs.Ytdgcdfngpimmmaa
open Go.RowKit Go.Sort
set_option linter.unusedVariables false
set_option maxRecDepth 20000
set_option linter.unusedSimpArgs false

end Go.Proofs.Ytdgcdfngpimmmaa
namespace Go.Proofs.Ytdgcdfngpimmmaa
open Go.RowKit
set_option linter.unusedVariables false
set_option maxRecDepth 20000
set_option linter.unusedSimpArgs false

theorem Sl.take {α : Type} {w : World} {k : Nat} {cells : α → List Value} {A : Option Addr} {c : Nat} {l : List α} (h : Sl w k cells (.slice A l.length c) l) {q : Nat} (hq : q ≤ l.length) :
    Sl w k cells (.slice A q c) (l.take q) := by
  obtain ⟨A', c', he, h1, h2, h3⟩ := h
  injection he with hA _ hc
  subst hA; subst hc
  refine ⟨A, c, by rw [List.length_take, Nat.min_eq_left hq], by rw [List.length_take]; omega, h2, ?_⟩
  rcases h3 with h3 | ⟨b, off, rfl, hb, hc⟩
  · subst h3; exact .inl (by simp)
  · refine .inr ⟨b, off, rfl, hb, fun i u hi hu j x hx => ?_⟩
    rw [List.length_take] at hi
    refine hc i u (by omega) ?_ j x hx
    rw [← hu, List.getElem_take]
theorem Sl.drop {α : Type} {w : World} {k : Nat} {cells : α → List Value} {A : Option Addr} {c : Nat} {l : List α} (h : Sl w k cells (.slice A l.length c) l) {q : Nat} (hq : q ≤ l.length) :
    Sl w k cells (.slice (if c = q then A else A.map (·.add (q * k))) (l.length - q) (c - q)) (l.drop q) := by
  obtain ⟨A', c', he, h1, h2, h3⟩ := h
  injection he with hA _ hc
  subst hA; subst hc
  refine ⟨_, _, by rw [List.length_drop], by rw [List.length_drop]; omega, by omega, ?_⟩
  rcases h3 with h3 | ⟨b, off, rfl, hb, hc⟩
  · subst h3; exact .inl (by simp)
  · by_cases hcq : c = q
    · exact .inl (List.drop_eq_nil_of_le (by omega))
    · refine .inr ⟨b, off + q * k, by rw [if_neg hcq]; simp [Addr.add], hb, fun i u hi hu j x hx => ?_⟩
      rw [List.length_drop] at hi
      have := hc (q + i) u (by omega) (by rw [← hu, List.getElem_drop]) j x hx
      rw [← this]
      congr 2
      rw [Nat.add_mul]; omega
end Go.Proofs.Ytdgcdfngpimmmaa
namespace Go.Proofs.Ytdgcdfngpimmmaa
open Go.RowKit Go.Sort
set_option linter.unusedVariables false
set_option maxRecDepth 20000
set_option linter.unusedSimpArgs false
end Go.Proofs.Ytdgcdfngpimmmaa
