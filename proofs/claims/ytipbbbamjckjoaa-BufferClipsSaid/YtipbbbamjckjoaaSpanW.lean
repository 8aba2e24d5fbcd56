/- The walks of the span layer and of its reference: each function computes what the plain spans say. -/
import Derived.Test.YtipbbbamjckjoaaLess
import Derived.Test.YtipbbbamjckjoaaQuiet
namespace Go.Proofs.Ytipbbbamjckjoaa
open Go.RowKit Go.Sort
set_option linter.unusedVariables false
set_option maxRecDepth 20000
set_option linter.unusedSimpArgs false

set_option maxHeartbeats 400000 in
theorem span_Has (s : Span) (k : ByteArray) (w : World) :
    Calls Try.prog 77 #[.agg #[.string s.lo, .string s.hi, .bool s.opn], .string k] w fun e w' => e = .returned (.bool (has s k)) ∧ Below w.heap.size w w' := by
  cases h1 : Op.bytesLess k.toList s.lo.toList <;> cases h2 : s.opn
  all_goals
    go_enter Try.func77, Try.ntmps77
    go_wp2
    go_ret
    exact ⟨retv (boolv (by simp [has, lt, h1, h2])), by go_grown⟩

set_option maxHeartbeats 400000 in
theorem span_Empty (s : Span) (w : World) :
    Calls Try.prog 75 #[.agg #[.string s.lo, .string s.hi, .bool s.opn]] w fun e w' => e = .returned (.bool (empty s)) ∧ Below w.heap.size w w' := by
  cases h2 : s.opn
  all_goals
    go_enter Try.func75, Try.ntmps75
    go_wp2
    go_ret
    exact ⟨retv (boolv (by simp [empty, lt, h2])), by go_grown⟩

set_option maxHeartbeats 400000 in
theorem span_Norm (s : Span) (w : World) :
    Calls Try.prog 109 #[.agg #[.string s.lo, .string s.hi, .bool s.opn]] w fun e w' => e = .returned (.agg #[.string (norm s).lo, .string (norm s).hi, .bool (norm s).opn]) ∧ Below w.heap.size w w' := by
  obtain ⟨lo, hi, o⟩ := s
  cases h1 : empty ⟨lo, hi, o⟩ <;> cases o
  all_goals
    go_enter Try.func109, Try.ntmps109
    go_wp2_with fail
    (with_reducible refine (span_Empty ⟨lo, hi, _⟩ _).mono ?_); rintro e w' ⟨rfl, hb1⟩
    obtain ⟨hc_hb1, hf_hb1⟩ := bcell hb1
    have hz_hb1 := size_le hb1
    repeat (first | simp only [World.size_alloc] at hc_hb1 | simp only [World.size_setCell] at hc_hb1 | simp only [World.size_drew] at hc_hb1)
    repeat (first | simp only [World.size_alloc] at hf_hb1 | simp only [World.size_setCell] at hf_hb1 | simp only [World.size_drew] at hf_hb1)
    repeat (first | simp only [World.size_alloc] at hz_hb1 | simp only [World.size_setCell] at hz_hb1 | simp only [World.size_drew] at hz_hb1)
    have hb1_ := Lib.hid (below_next (w := w) (by go_grown) hb1)
    clear hb1
    have hb1 := hb1_.out
    clear hb1_
    have c_hb1_1 := hc_hb1 (w.heap.size) 1 (by omega)
    simp [go_sem] at c_hb1_1
    go_wp2
    (try simp only [Exit.inBlock, Exit.then])
    refine bodyPost_ret (by simp [results, Try.results109, go_sem, hc_hb1, c_hb1_1]; try rfl) rfl ?_
    refine ⟨retv ?_, ?_⟩
    · simp [norm, h1, spE]
    · go_grown

set_option maxHeartbeats 400000 in
theorem span_All (w : World) : Calls Try.prog 108 #[] w fun e w' => e = .returned (.agg #[.string all.lo, .string all.hi, .bool all.opn]) ∧ Below w.heap.size w w' := by
  go_enter Try.func108, Try.ntmps108
  go_wp2
  (try simp only [Exit.inBlock, Exit.then])
  refine bodyPost_ret (by simp [results, Try.results108, go_sem, all]; try rfl) rfl ?_
  exact ⟨rfl, by go_grown⟩

set_option maxHeartbeats 400000 in
theorem key_Next (k : ByteArray) (h : k.size ≤ 1000000) (w : World) : Calls Try.prog 116 #[.string k] w fun e w' => e = .returned (.string (nx k)) ∧ w = w' := by
  go_enter Try.func116, Try.ntmps116
  go_wp2
  go_ret
  exact ⟨rfl, rfl⟩

set_option maxHeartbeats 400000 in
theorem span_Point (k : ByteArray) (h : k.size ≤ 1000000) (w : World) : Calls Try.prog 73 #[.string k] w fun e w' => e = .returned (.agg #[.string (point k).lo, .string (point k).hi, .bool (point k).opn]) ∧ Below w.heap.size w w' := by
  go_enter Try.func73, Try.ntmps73
  go_wp2_with fail
  (with_reducible refine (key_Next k h _).mono ?_); rintro e w' ⟨rfl, rfl⟩
  go_wp2
  (try simp only [Exit.inBlock, Exit.then])
  refine bodyPost_ret (by simp [results, Try.results73, go_sem, point]; try rfl) rfl ?_
  exact ⟨rfl, by go_grown⟩

end Go.Proofs.Ytipbbbamjckjoaa
