/- The chapter's examples of the span layer. -/
import Derived.Test.YtkmlppglmdfbaaaSpanM
namespace Go.Proofs.Ytkmlppglmdfbaaa
open Go.RowKit Go.Sort
set_option linter.unusedVariables false
set_option linter.unusedSimpArgs false
attribute [local go_sem ↓] run_eql_Span run_neq_Span
set_option maxHeartbeats 400000 in
theorem span_awake (w : World) : Calls Try.prog 20 #[] w fun e w' => e = .returned (.bool true) ∧ Below w.heap.size w w' := by
  have e1 : meet ⟨⟨#[98]⟩, ⟨#[100]⟩, false⟩ ⟨⟨#[97]⟩, em, true⟩ = ⟨⟨#[98]⟩, ⟨#[100]⟩, false⟩ := by decide +kernel
  have e2 : eqv (⟨⟨#[98]⟩, ⟨#[100]⟩, false⟩ : Span) ⟨⟨#[98]⟩, ⟨#[100]⟩, false⟩ = true := eqv_self _
  have e3 : has (point ⟨#[97]⟩) ⟨#[97]⟩ = true := by decide +kernel
  have e4 : has (point ⟨#[97]⟩) ⟨#[97, 0]⟩ = false := by decide +kernel
  have HE := Lib.hid e1
  clear e1
  go_enter Try.func20, Try.ntmps20
  go_wp2_with fail
  (with_reducible refine (span_Meet ⟨⟨#[98]⟩, ⟨#[100]⟩, false⟩ ⟨⟨#[97]⟩, em, true⟩ _).mono ?_); rintro e w' ⟨rfl, hb1⟩
  obtain ⟨hc_hb1, hf_hb1⟩ := bcell hb1
  have hz_hb1 := size_le hb1
  repeat (first | simp only [World.size_alloc] at hc_hb1 | simp only [World.size_setCell] at hc_hb1 | simp only [World.size_drew] at hc_hb1)
  repeat (first | simp only [World.size_alloc] at hf_hb1 | simp only [World.size_setCell] at hf_hb1 | simp only [World.size_drew] at hf_hb1)
  repeat (first | simp only [World.size_alloc] at hz_hb1 | simp only [World.size_setCell] at hz_hb1 | simp only [World.size_drew] at hz_hb1)
  have hb1_ := Lib.hid (below_next (w := w) (by go_grown) hb1)
  clear hb1
  have hb1 := hb1_.out
  clear hb1_
  rw [HE.out]
  go_wp2_with fail
  (with_reducible refine (span_Point ⟨#[97]⟩ (by decide) _).mono ?_); rintro e w' ⟨rfl, hb2⟩
  obtain ⟨hc_hb2, hf_hb2⟩ := bcell hb2
  have hz_hb2 := size_le hb2
  repeat (first | simp only [World.size_alloc] at hc_hb2 | simp only [World.size_setCell] at hc_hb2 | simp only [World.size_drew] at hc_hb2)
  repeat (first | simp only [World.size_alloc] at hf_hb2 | simp only [World.size_setCell] at hf_hb2 | simp only [World.size_drew] at hf_hb2)
  repeat (first | simp only [World.size_alloc] at hz_hb2 | simp only [World.size_setCell] at hz_hb2 | simp only [World.size_drew] at hz_hb2)
  have hb2_ := Lib.hid (below_next (w := w) (by go_grown) hb2)
  clear hb2
  have hb2 := hb2_.out
  clear hb2_
  go_wp2_with fail
  (with_reducible refine (span_Has (point ⟨#[97]⟩) ⟨#[97]⟩ _).mono ?_); rintro e w' ⟨rfl, hb3⟩
  obtain ⟨hc_hb3, hf_hb3⟩ := bcell hb3
  have hz_hb3 := size_le hb3
  repeat (first | simp only [World.size_alloc] at hc_hb3 | simp only [World.size_setCell] at hc_hb3 | simp only [World.size_drew] at hc_hb3)
  repeat (first | simp only [World.size_alloc] at hf_hb3 | simp only [World.size_setCell] at hf_hb3 | simp only [World.size_drew] at hf_hb3)
  repeat (first | simp only [World.size_alloc] at hz_hb3 | simp only [World.size_setCell] at hz_hb3 | simp only [World.size_drew] at hz_hb3)
  have hb3_ := Lib.hid (below_next (w := w) (by go_grown) hb3)
  clear hb3
  have hb3 := hb3_.out
  clear hb3_
  go_wp2_with fail
  (with_reducible refine (span_Point ⟨#[97]⟩ (by decide) _).mono ?_); rintro e w' ⟨rfl, hb4⟩
  obtain ⟨hc_hb4, hf_hb4⟩ := bcell hb4
  have hz_hb4 := size_le hb4
  repeat (first | simp only [World.size_alloc] at hc_hb4 | simp only [World.size_setCell] at hc_hb4 | simp only [World.size_drew] at hc_hb4)
  repeat (first | simp only [World.size_alloc] at hf_hb4 | simp only [World.size_setCell] at hf_hb4 | simp only [World.size_drew] at hf_hb4)
  repeat (first | simp only [World.size_alloc] at hz_hb4 | simp only [World.size_setCell] at hz_hb4 | simp only [World.size_drew] at hz_hb4)
  have hb4_ := Lib.hid (below_next (w := w) (by go_grown) hb4)
  clear hb4
  have hb4 := hb4_.out
  clear hb4_
  go_wp2_with fail
  (with_reducible refine (span_Has (point ⟨#[97]⟩) ⟨#[97, 0]⟩ _).mono ?_); rintro e w' ⟨rfl, hb5⟩
  obtain ⟨hc_hb5, hf_hb5⟩ := bcell hb5
  have hz_hb5 := size_le hb5
  repeat (first | simp only [World.size_alloc] at hc_hb5 | simp only [World.size_setCell] at hc_hb5 | simp only [World.size_drew] at hc_hb5)
  repeat (first | simp only [World.size_alloc] at hf_hb5 | simp only [World.size_setCell] at hf_hb5 | simp only [World.size_drew] at hf_hb5)
  repeat (first | simp only [World.size_alloc] at hz_hb5 | simp only [World.size_setCell] at hz_hb5 | simp only [World.size_drew] at hz_hb5)
  have hb5_ := Lib.hid (below_next (w := w) (by go_grown) hb5)
  clear hb5
  have hb5 := hb5_.out
  clear hb5_
  go_wp2
  go_ret
  exact ⟨rfl, by assumption⟩
end Go.Proofs.Ytkmlppglmdfbaaa
