/- The walks of the span layer's reference: Has, Empty, Norm, Meet. -/
import Derived.Test.YtipbbbamjckjoaaLess
import Derived.Test.YtipbbbamjckjoaaQuiet
namespace Go.Proofs.Ytipbbbamjckjoaa
open Go.RowKit Go.Sort
set_option linter.unusedVariables false
set_option maxRecDepth 20000
set_option linter.unusedSimpArgs false

set_option maxHeartbeats 400000 in
theorem ref_Has (s : Span) (k : ByteArray) (w : World) (h1 : s.lo.size ≤ maxLen) (h2 : s.hi.size ≤ maxLen) (h3 : k.size ≤ maxLen) :
    Calls Try.prog 30 #[.agg #[.string s.lo, .string s.hi, .bool s.opn], .string k] w fun e w' => e = .returned (.bool (has s k)) ∧ Below w.heap.size w w' := by
  obtain ⟨lo, hi, o⟩ := s
  have M1 := Lib.hid h1
  have M2 := Lib.hid h2
  have M3 := Lib.hid h3
  clear h1 h2 h3
  cases g1 : Op.bytesLess k.toList lo.toList
  · cases o
    · go_enter Try.func30, Try.ntmps30
      go_wp2_with fail
      (with_reducible refine (ref_Less _ _ M3.out M1.out _).mono ?_); rintro e w' ⟨rfl, hb1⟩
      obtain ⟨hc_hb1, hf_hb1⟩ := bcell hb1
      have hz_hb1 := size_le hb1
      repeat (first | simp only [World.size_alloc] at hc_hb1 | simp only [World.size_setCell] at hc_hb1 | simp only [World.size_drew] at hc_hb1)
      repeat (first | simp only [World.size_alloc] at hf_hb1 | simp only [World.size_setCell] at hf_hb1 | simp only [World.size_drew] at hf_hb1)
      repeat (first | simp only [World.size_alloc] at hz_hb1 | simp only [World.size_setCell] at hz_hb1 | simp only [World.size_drew] at hz_hb1)
      have hb1_ := Lib.hid (below_next (w := w) (by go_grown) hb1)
      clear hb1
      have hb1 := hb1_.out
      clear hb1_
      go_wp2_with fail
      (with_reducible refine (ref_Less _ _ M3.out M2.out _).mono ?_); rintro e w' ⟨rfl, hb2⟩
      obtain ⟨hc_hb2, hf_hb2⟩ := bcell hb2
      have hz_hb2 := size_le hb2
      repeat (first | simp only [World.size_alloc] at hc_hb2 | simp only [World.size_setCell] at hc_hb2 | simp only [World.size_drew] at hc_hb2)
      repeat (first | simp only [World.size_alloc] at hf_hb2 | simp only [World.size_setCell] at hf_hb2 | simp only [World.size_drew] at hf_hb2)
      repeat (first | simp only [World.size_alloc] at hz_hb2 | simp only [World.size_setCell] at hz_hb2 | simp only [World.size_drew] at hz_hb2)
      have hb2_ := Lib.hid (below_next (w := w) (by go_grown) hb2)
      clear hb2
      have hb2 := hb2_.out
      clear hb2_
      go_wp2
      go_ret
      exact ⟨retv (boolv (by simp [has, lt, g1])), by assumption⟩
    · go_enter Try.func30, Try.ntmps30
      go_wp2_with fail
      (with_reducible refine (ref_Less _ _ M3.out M1.out _).mono ?_); rintro e w' ⟨rfl, hb1⟩
      obtain ⟨hc_hb1, hf_hb1⟩ := bcell hb1
      have hz_hb1 := size_le hb1
      repeat (first | simp only [World.size_alloc] at hc_hb1 | simp only [World.size_setCell] at hc_hb1 | simp only [World.size_drew] at hc_hb1)
      repeat (first | simp only [World.size_alloc] at hf_hb1 | simp only [World.size_setCell] at hf_hb1 | simp only [World.size_drew] at hf_hb1)
      repeat (first | simp only [World.size_alloc] at hz_hb1 | simp only [World.size_setCell] at hz_hb1 | simp only [World.size_drew] at hz_hb1)
      have hb1_ := Lib.hid (below_next (w := w) (by go_grown) hb1)
      clear hb1
      have hb1 := hb1_.out
      clear hb1_
      go_wp2
      go_ret
      exact ⟨retv (boolv (by simp [has, lt, g1])), by assumption⟩
  · go_enter Try.func30, Try.ntmps30
    go_wp2_with fail
    (with_reducible refine (ref_Less _ _ M3.out M1.out _).mono ?_); rintro e w' ⟨rfl, hb1⟩
    obtain ⟨hc_hb1, hf_hb1⟩ := bcell hb1
    have hz_hb1 := size_le hb1
    repeat (first | simp only [World.size_alloc] at hc_hb1 | simp only [World.size_setCell] at hc_hb1 | simp only [World.size_drew] at hc_hb1)
    repeat (first | simp only [World.size_alloc] at hf_hb1 | simp only [World.size_setCell] at hf_hb1 | simp only [World.size_drew] at hf_hb1)
    repeat (first | simp only [World.size_alloc] at hz_hb1 | simp only [World.size_setCell] at hz_hb1 | simp only [World.size_drew] at hz_hb1)
    have hb1_ := Lib.hid (below_next (w := w) (by go_grown) hb1)
    clear hb1
    have hb1 := hb1_.out
    clear hb1_
    go_wp2
    go_ret
    exact ⟨retv (boolv (by simp [has, lt, g1])), by assumption⟩


set_option maxHeartbeats 400000 in
theorem ref_Empty (s : Span) (w : World) (h1 : s.lo.size ≤ maxLen) (h2 : s.hi.size ≤ maxLen) :
    Calls Try.prog 25 #[.agg #[.string s.lo, .string s.hi, .bool s.opn]] w fun e w' => e = .returned (.bool (empty s)) ∧ Below w.heap.size w w' := by
  have HE := Lib.hid (empty_iff s)
  have M1 := Lib.hid h1
  have M2 := Lib.hid h2
  clear h1 h2
  go_enter Try.func25, Try.ntmps25
  go_wp2_with fail
  (with_reducible refine (ref_Has s s.lo _ M1.out M2.out M1.out).mono ?_); rintro e w' ⟨rfl, hb1⟩
  obtain ⟨hc_hb1, hf_hb1⟩ := bcell hb1
  have hz_hb1 := size_le hb1
  repeat (first | simp only [World.size_alloc] at hc_hb1 | simp only [World.size_setCell] at hc_hb1 | simp only [World.size_drew] at hc_hb1)
  repeat (first | simp only [World.size_alloc] at hf_hb1 | simp only [World.size_setCell] at hf_hb1 | simp only [World.size_drew] at hf_hb1)
  repeat (first | simp only [World.size_alloc] at hz_hb1 | simp only [World.size_setCell] at hz_hb1 | simp only [World.size_drew] at hz_hb1)
  have hb1_ := Lib.hid (below_next (w := w) (by go_grown) hb1)
  clear hb1
  have hb1 := hb1_.out
  clear hb1_
  go_wp2
  go_ret
  exact ⟨retv (boolv HE.out.symm), by go_grown⟩
end Go.Proofs.Ytipbbbamjckjoaa
