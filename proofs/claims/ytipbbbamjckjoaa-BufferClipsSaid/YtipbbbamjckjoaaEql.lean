/- Two structs are equal just where all their fields are: as a walk's '==' and '!=' meet it. -/
import Derived.Test.YtipbbbamjckjoaaTypes
import Derived.Test.YtipbbbamjckjoaaQuiet
namespace Go.Proofs.Ytipbbbamjckjoaa
open Go.RowKit Go.Sort
set_option linter.unusedVariables false
set_option maxRecDepth 20000
set_option linter.unusedSimpArgs false
theorem toList_iff (a b : ByteArray) : (a.toList = b.toList) ↔ a = b := by rw [Lib.toList_data, Lib.toList_data]; exact ⟨bl_inj, fun e => by rw [e]⟩
theorem Span_iff (x0 y0 : ByteArray) (x1 y1 : ByteArray) (x2 y2 : Bool) : ((⟨x0, x1, x2⟩ : Span) = ⟨y0, y1, y2⟩) ↔ (x0 = y0 ∧ x1 = y1 ∧ x2 = y2) := ⟨fun e => by injection e with e0 e1 e2; exact ⟨e0, e1, e2⟩, fun ⟨e0, e1, e2⟩ => by rw [e0, e1, e2]⟩
theorem run_eql_Span (x0 y0 : ByteArray) (x1 y1 : ByteArray) (x2 y2 : Bool) (w : World) :
    (binOp .eql 28 (.agg #[.string x0, .string x1, .bool x2]) (.agg #[.string y0, .string y1, .bool y2])).run Try.prog w = .ok (.bool (eqv (⟨x0, x1, x2⟩ : Span) ⟨y0, y1, y2⟩)) w := by
  have e := Span_iff x0 y0 x1 y1 x2 y2
  by_cases h0 : x0 = y0
  rotate_left
  · simp [go_sem, eqv, e, h0, toList_iff]
  by_cases h1 : x1 = y1
  rotate_left
  · simp [go_sem, eqv, e, h0, h1, toList_iff]
  by_cases h2 : x2 = y2
  rotate_left
  · simp [go_sem, eqv, e, h0, h1, h2, toList_iff]
  simp [go_sem, eqv, e, h0, h1, h2, toList_iff]
theorem run_neq_Span (x0 y0 : ByteArray) (x1 y1 : ByteArray) (x2 y2 : Bool) (w : World) :
    (binOp .neq 28 (.agg #[.string x0, .string x1, .bool x2]) (.agg #[.string y0, .string y1, .bool y2])).run Try.prog w = .ok (.bool (!eqv (⟨x0, x1, x2⟩ : Span) ⟨y0, y1, y2⟩)) w := by
  have e := Span_iff x0 y0 x1 y1 x2 y2
  by_cases h0 : x0 = y0
  rotate_left
  · simp [go_sem, eqv, e, h0, toList_iff]
  by_cases h1 : x1 = y1
  rotate_left
  · simp [go_sem, eqv, e, h0, h1, toList_iff]
  by_cases h2 : x2 = y2
  rotate_left
  · simp [go_sem, eqv, e, h0, h1, h2, toList_iff]
  simp [go_sem, eqv, e, h0, h1, h2, toList_iff]
theorem Eff_iff (x0 y0 : Int) (x1 y1 : ByteArray) : ((⟨x0, x1⟩ : Eff) = ⟨y0, y1⟩) ↔ (x0 = y0 ∧ x1 = y1) := ⟨fun e => by injection e with e0 e1; exact ⟨e0, e1⟩, fun ⟨e0, e1⟩ => by rw [e0, e1]⟩
theorem run_eql_Eff (x0 y0 : Int) (x1 y1 : ByteArray) (w : World) :
    (binOp .eql 34 (.agg #[.int .i64 x0, .string x1]) (.agg #[.int .i64 y0, .string y1])).run Try.prog w = .ok (.bool (eqv (⟨x0, x1⟩ : Eff) ⟨y0, y1⟩)) w := by
  have e := Eff_iff x0 y0 x1 y1
  by_cases h0 : x0 = y0
  rotate_left
  · simp [go_sem, eqv, e, h0, toList_iff]
  by_cases h1 : x1 = y1
  rotate_left
  · simp [go_sem, eqv, e, h0, h1, toList_iff]
  simp [go_sem, eqv, e, h0, h1, toList_iff]
theorem run_neq_Eff (x0 y0 : Int) (x1 y1 : ByteArray) (w : World) :
    (binOp .neq 34 (.agg #[.int .i64 x0, .string x1]) (.agg #[.int .i64 y0, .string y1])).run Try.prog w = .ok (.bool (!eqv (⟨x0, x1⟩ : Eff) ⟨y0, y1⟩)) w := by
  have e := Eff_iff x0 y0 x1 y1
  by_cases h0 : x0 = y0
  rotate_left
  · simp [go_sem, eqv, e, h0, toList_iff]
  by_cases h1 : x1 = y1
  rotate_left
  · simp [go_sem, eqv, e, h0, h1, toList_iff]
  simp [go_sem, eqv, e, h0, h1, toList_iff]
theorem Msg_iff (x0 y0 : Int) (x1 y1 : Int) (x2 y2 : ByteArray) (x3 y3 : ByteArray) (x4 y4 : Bool) (x5 y5 : ByteArray) : ((⟨x0, x1, x2, x3, x4, x5⟩ : Msg) = ⟨y0, y1, y2, y3, y4, y5⟩) ↔ (x0 = y0 ∧ x1 = y1 ∧ x2 = y2 ∧ x3 = y3 ∧ x4 = y4 ∧ x5 = y5) := ⟨fun e => by injection e with e0 e1 e2 e3 e4 e5; exact ⟨e0, e1, e2, e3, e4, e5⟩, fun ⟨e0, e1, e2, e3, e4, e5⟩ => by rw [e0, e1, e2, e3, e4, e5]⟩
theorem run_eql_Msg (x0 y0 : Int) (x1 y1 : Int) (x2 y2 : ByteArray) (x3 y3 : ByteArray) (x4 y4 : Bool) (x5 y5 : ByteArray) (w : World) :
    (binOp .eql 25 (.agg #[.int .i64 x0, .int .i64 x1, .string x2, .string x3, .bool x4, .string x5]) (.agg #[.int .i64 y0, .int .i64 y1, .string y2, .string y3, .bool y4, .string y5])).run Try.prog w = .ok (.bool (eqv (⟨x0, x1, x2, x3, x4, x5⟩ : Msg) ⟨y0, y1, y2, y3, y4, y5⟩)) w := by
  have e := Msg_iff x0 y0 x1 y1 x2 y2 x3 y3 x4 y4 x5 y5
  by_cases h0 : x0 = y0
  rotate_left
  · simp [go_sem, eqv, e, h0, toList_iff]
  by_cases h1 : x1 = y1
  rotate_left
  · simp [go_sem, eqv, e, h0, h1, toList_iff]
  by_cases h2 : x2 = y2
  rotate_left
  · simp [go_sem, eqv, e, h0, h1, h2, toList_iff]
  by_cases h3 : x3 = y3
  rotate_left
  · simp [go_sem, eqv, e, h0, h1, h2, h3, toList_iff]
  by_cases h4 : x4 = y4
  rotate_left
  · simp [go_sem, eqv, e, h0, h1, h2, h3, h4, toList_iff]
  by_cases h5 : x5 = y5
  rotate_left
  · simp [go_sem, eqv, e, h0, h1, h2, h3, h4, h5, toList_iff]
  simp [go_sem, eqv, e, h0, h1, h2, h3, h4, h5, toList_iff]
theorem run_neq_Msg (x0 y0 : Int) (x1 y1 : Int) (x2 y2 : ByteArray) (x3 y3 : ByteArray) (x4 y4 : Bool) (x5 y5 : ByteArray) (w : World) :
    (binOp .neq 25 (.agg #[.int .i64 x0, .int .i64 x1, .string x2, .string x3, .bool x4, .string x5]) (.agg #[.int .i64 y0, .int .i64 y1, .string y2, .string y3, .bool y4, .string y5])).run Try.prog w = .ok (.bool (!eqv (⟨x0, x1, x2, x3, x4, x5⟩ : Msg) ⟨y0, y1, y2, y3, y4, y5⟩)) w := by
  have e := Msg_iff x0 y0 x1 y1 x2 y2 x3 y3 x4 y4 x5 y5
  by_cases h0 : x0 = y0
  rotate_left
  · simp [go_sem, eqv, e, h0, toList_iff]
  by_cases h1 : x1 = y1
  rotate_left
  · simp [go_sem, eqv, e, h0, h1, toList_iff]
  by_cases h2 : x2 = y2
  rotate_left
  · simp [go_sem, eqv, e, h0, h1, h2, toList_iff]
  by_cases h3 : x3 = y3
  rotate_left
  · simp [go_sem, eqv, e, h0, h1, h2, h3, toList_iff]
  by_cases h4 : x4 = y4
  rotate_left
  · simp [go_sem, eqv, e, h0, h1, h2, h3, h4, toList_iff]
  by_cases h5 : x5 = y5
  rotate_left
  · simp [go_sem, eqv, e, h0, h1, h2, h3, h4, h5, toList_iff]
  simp [go_sem, eqv, e, h0, h1, h2, h3, h4, h5, toList_iff]
theorem Pair_iff (x0 y0 : ByteArray) (x1 y1 : ByteArray) : ((⟨x0, x1⟩ : Pair) = ⟨y0, y1⟩) ↔ (x0 = y0 ∧ x1 = y1) := ⟨fun e => by injection e with e0 e1; exact ⟨e0, e1⟩, fun ⟨e0, e1⟩ => by rw [e0, e1]⟩
theorem run_eql_Pair (x0 y0 : ByteArray) (x1 y1 : ByteArray) (w : World) :
    (binOp .eql 73 (.agg #[.string x0, .string x1]) (.agg #[.string y0, .string y1])).run Try.prog w = .ok (.bool (eqv (⟨x0, x1⟩ : Pair) ⟨y0, y1⟩)) w := by
  have e := Pair_iff x0 y0 x1 y1
  by_cases h0 : x0 = y0
  rotate_left
  · simp [go_sem, eqv, e, h0, toList_iff]
  by_cases h1 : x1 = y1
  rotate_left
  · simp [go_sem, eqv, e, h0, h1, toList_iff]
  simp [go_sem, eqv, e, h0, h1, toList_iff]
theorem run_neq_Pair (x0 y0 : ByteArray) (x1 y1 : ByteArray) (w : World) :
    (binOp .neq 73 (.agg #[.string x0, .string x1]) (.agg #[.string y0, .string y1])).run Try.prog w = .ok (.bool (!eqv (⟨x0, x1⟩ : Pair) ⟨y0, y1⟩)) w := by
  have e := Pair_iff x0 y0 x1 y1
  by_cases h0 : x0 = y0
  rotate_left
  · simp [go_sem, eqv, e, h0, toList_iff]
  by_cases h1 : x1 = y1
  rotate_left
  · simp [go_sem, eqv, e, h0, h1, toList_iff]
  simp [go_sem, eqv, e, h0, h1, toList_iff]
end Go.Proofs.Ytipbbbamjckjoaa
