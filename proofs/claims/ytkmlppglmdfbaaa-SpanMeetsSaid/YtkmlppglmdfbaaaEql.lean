/- Two structs are equal just where all their fields are: as a walk's '==' and '!=' meet it. -/
import Derived.Test.YtkmlppglmdfbaaaTypes
import Derived.Test.YtkmlppglmdfbaaaQuiet
namespace Go.Proofs.Ytkmlppglmdfbaaa
open Go.RowKit Go.Sort
set_option linter.unusedVariables false
set_option linter.unusedSimpArgs false
theorem toList_iff (a b : ByteArray) : (a.toList = b.toList) ↔ a = b := by rw [Lib.toList_data, Lib.toList_data]; exact ⟨bl_inj, fun e => by rw [e]⟩
theorem Span_iff (x0 y0 : ByteArray) (x1 y1 : ByteArray) (x2 y2 : Bool) : ((⟨x0, x1, x2⟩ : Span) = ⟨y0, y1, y2⟩) ↔ (x0 = y0 ∧ x1 = y1 ∧ x2 = y2) := ⟨fun e => by injection e with e0 e1 e2; exact ⟨e0, e1, e2⟩, fun ⟨e0, e1, e2⟩ => by rw [e0, e1, e2]⟩
theorem run_eql_Span (x0 y0 : ByteArray) (x1 y1 : ByteArray) (x2 y2 : Bool) (w : World) :
    (binOp .eql 33 (.agg #[.string x0, .string x1, .bool x2]) (.agg #[.string y0, .string y1, .bool y2])).run Try.prog w = .ok (.bool (eqv (⟨x0, x1, x2⟩ : Span) ⟨y0, y1, y2⟩)) w := by
  have e := Span_iff x0 y0 x1 y1 x2 y2
  by_cases h0 : x0 = y0
  rotate_left
  · simp [go_sem, eqv, e, h0, toList_iff]
  by_cases h1 : x1 = y1
  rotate_left
  · simp [go_sem, eqv, e, h0, h1, toList_iff]
  by_cases h2 : x2 = y2
  rotate_left
  · simp [go_sem, eqv, e, h0, h1, h2, toList_iff]
  simp [go_sem, eqv, e, h0, h1, h2, toList_iff]
theorem run_neq_Span (x0 y0 : ByteArray) (x1 y1 : ByteArray) (x2 y2 : Bool) (w : World) :
    (binOp .neq 33 (.agg #[.string x0, .string x1, .bool x2]) (.agg #[.string y0, .string y1, .bool y2])).run Try.prog w = .ok (.bool (!eqv (⟨x0, x1, x2⟩ : Span) ⟨y0, y1, y2⟩)) w := by
  have e := Span_iff x0 y0 x1 y1 x2 y2
  by_cases h0 : x0 = y0
  rotate_left
  · simp [go_sem, eqv, e, h0, toList_iff]
  by_cases h1 : x1 = y1
  rotate_left
  · simp [go_sem, eqv, e, h0, h1, toList_iff]
  by_cases h2 : x2 = y2
  rotate_left
  · simp [go_sem, eqv, e, h0, h1, h2, toList_iff]
  simp [go_sem, eqv, e, h0, h1, h2, toList_iff]
theorem Eff_iff (x0 y0 : Int) (x1 y1 : ByteArray) : ((⟨x0, x1⟩ : Eff) = ⟨y0, y1⟩) ↔ (x0 = y0 ∧ x1 = y1) := ⟨fun e => by injection e with e0 e1; exact ⟨e0, e1⟩, fun ⟨e0, e1⟩ => by rw [e0, e1]⟩
theorem run_eql_Eff (x0 y0 : Int) (x1 y1 : ByteArray) (w : World) :
    (binOp .eql 46 (.agg #[.int .i64 x0, .string x1]) (.agg #[.int .i64 y0, .string y1])).run Try.prog w = .ok (.bool (eqv (⟨x0, x1⟩ : Eff) ⟨y0, y1⟩)) w := by
  have e := Eff_iff x0 y0 x1 y1
  by_cases h0 : x0 = y0
  rotate_left
  · simp [go_sem, eqv, e, h0, toList_iff]
  by_cases h1 : x1 = y1
  rotate_left
  · simp [go_sem, eqv, e, h0, h1, toList_iff]
  simp [go_sem, eqv, e, h0, h1, toList_iff]
theorem run_neq_Eff (x0 y0 : Int) (x1 y1 : ByteArray) (w : World) :
    (binOp .neq 46 (.agg #[.int .i64 x0, .string x1]) (.agg #[.int .i64 y0, .string y1])).run Try.prog w = .ok (.bool (!eqv (⟨x0, x1⟩ : Eff) ⟨y0, y1⟩)) w := by
  have e := Eff_iff x0 y0 x1 y1
  by_cases h0 : x0 = y0
  rotate_left
  · simp [go_sem, eqv, e, h0, toList_iff]
  by_cases h1 : x1 = y1
  rotate_left
  · simp [go_sem, eqv, e, h0, h1, toList_iff]
  simp [go_sem, eqv, e, h0, h1, toList_iff]
end Go.Proofs.Ytkmlppglmdfbaaa
