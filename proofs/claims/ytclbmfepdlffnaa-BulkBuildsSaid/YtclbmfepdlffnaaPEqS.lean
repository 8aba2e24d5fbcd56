/- Two spans compared, in a seat whose program does not have the code's own spans. -/
import Derived.Test.YtclbmfepdlffnaaPFc
namespace Go.Proofs.Ytclbmfepdlffnaa
open Go Go.RowKit Go.Sort
set_option linter.unusedVariables false
set_option maxRecDepth 20000
set_option linter.unusedSimpArgs false
theorem Span_iffS (x0 y0 : ByteArray) (x1 y1 : ByteArray) (x2 y2 : Bool) : ((⟨x0, x1, x2⟩ : Span) = ⟨y0, y1, y2⟩) ↔ (x0 = y0 ∧ x1 = y1 ∧ x2 = y2) := ⟨fun e => by injection e with e0 e1 e2; exact ⟨e0, e1, e2⟩, fun ⟨e0, e1, e2⟩ => by rw [e0, e1, e2]⟩
theorem run_neq_SpanS (x0 y0 : ByteArray) (x1 y1 : ByteArray) (x2 y2 : Bool) (w : World) :
    (binOp .neq 96 (.agg #[.string x0, .string x1, .bool x2]) (.agg #[.string y0, .string y1, .bool y2])).run Try.prog w = .ok (.bool (!eqv (⟨x0, x1, x2⟩ : Span) ⟨y0, y1, y2⟩)) w := by
  have e := Span_iffS x0 y0 x1 y1 x2 y2
  by_cases h0 : x0 = y0
  rotate_left
  · simp [go_sem, eqv, e, h0, toList_iff]
  by_cases h1 : x1 = y1
  rotate_left
  · simp [go_sem, eqv, e, h0, h1, toList_iff]
  by_cases h2 : x2 = y2
  rotate_left
  · simp [go_sem, eqv, e, h0, h1, h2, toList_iff]
  simp [go_sem, eqv, e, h0, h1, h2, toList_iff]
theorem spq_neq {x y : Operand} {x0 y0 : ByteArray} {x1 y1 : ByteArray} {x2 y2 : Bool} : Bin Try.prog .neq 96 x y (.agg #[.string x0, .string x1, .bool x2]) (.agg #[.string y0, .string y1, .bool y2]) (.bool (!eqv (⟨x0, x1, x2⟩ : Span) ⟨y0, y1, y2⟩)) := B_agg (run_neq_SpanS _ _ _ _ _ _)
end Go.Proofs.Ytclbmfepdlffnaa
