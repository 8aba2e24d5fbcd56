/- The chapter's examples of the effect layer. -/
import Derived.Test.YtkmlppglmdfbaaaEffT
namespace Go.Proofs.Ytkmlppglmdfbaaa
open Go.RowKit Go.Sort
set_option linter.unusedVariables false
set_option linter.unusedSimpArgs false
theorem run_field_Eff1 (a b : Value) (w : World) : (Instr.field 46 (.agg #[a, b]) 1).run Try.prog w = .ok b w := by
  rfl
attribute [local go_sem ↓] run_eql_Eff run_neq_Eff run_field_Eff1
set_option maxHeartbeats 400000 in
theorem effect_awake (w : World) : Calls Try.prog 39 #[] w fun e w' => e = .returned (.bool true) ∧ Below w.heap.size w w' := by
  have e1 : thenE ⟨3, em⟩ ⟨2, ⟨#[120]⟩⟩ = ⟨1, ⟨#[120]⟩⟩ := by decide +kernel
  have e2 : thenE ⟨1, ⟨#[97]⟩⟩ ⟨2, ⟨#[120]⟩⟩ = ⟨1, ⟨#[97, 120]⟩⟩ := by decide +kernel
  have e3 : eqv (⟨1, ⟨#[120]⟩⟩ : Eff) ⟨1, ⟨#[120]⟩⟩ = true := eqv_self _
  have e4 : rightE ⟨2, ⟨#[120]⟩⟩ = true := by decide +kernel
  have e5 : rightE ⟨4, em⟩ = false := by decide +kernel
  have HE := Lib.hid (And.intro e1 e2)
  clear e1 e2
  go_enter Try.func39, Try.ntmps39
  go_wp2_with fail
  (with_reducible refine (effect_Then ⟨3, em⟩ ⟨2, ⟨#[120]⟩⟩ _ (by decide) (by decide)).mono ?_); rintro e w' ⟨rfl, hb1⟩
  obtain ⟨hc_hb1, hf_hb1⟩ := bcell hb1
  have hz_hb1 := size_le hb1
  repeat (first | simp only [World.size_alloc] at hc_hb1 | simp only [World.size_setCell] at hc_hb1 | simp only [World.size_drew] at hc_hb1)
  repeat (first | simp only [World.size_alloc] at hf_hb1 | simp only [World.size_setCell] at hf_hb1 | simp only [World.size_drew] at hf_hb1)
  repeat (first | simp only [World.size_alloc] at hz_hb1 | simp only [World.size_setCell] at hz_hb1 | simp only [World.size_drew] at hz_hb1)
  have hb1_ := Lib.hid (below_next (w := w) (by go_grown) hb1)
  clear hb1
  have hb1 := hb1_.out
  clear hb1_
  have c_hb1_0 := hc_hb1 (w.heap.size) 0 (by omega)
  simp [go_sem] at c_hb1_0
  have c_hb1_1 := hc_hb1 (w.heap.size) 1 (by omega)
  simp [go_sem] at c_hb1_1
  rw [HE.out.1]
  go_wp2_with fail
  (with_reducible refine (effect_Then ⟨1, ⟨#[97]⟩⟩ ⟨2, ⟨#[120]⟩⟩ _ (by decide) (by decide)).mono ?_); rintro e w' ⟨rfl, hb2⟩
  obtain ⟨hc_hb2, hf_hb2⟩ := bcell hb2
  have hz_hb2 := size_le hb2
  repeat (first | simp only [World.size_alloc] at hc_hb2 | simp only [World.size_setCell] at hc_hb2 | simp only [World.size_drew] at hc_hb2)
  repeat (first | simp only [World.size_alloc] at hf_hb2 | simp only [World.size_setCell] at hf_hb2 | simp only [World.size_drew] at hf_hb2)
  repeat (first | simp only [World.size_alloc] at hz_hb2 | simp only [World.size_setCell] at hz_hb2 | simp only [World.size_drew] at hz_hb2)
  have hb2_ := Lib.hid (below_next (w := w) (by go_grown) hb2)
  clear hb2
  have hb2 := hb2_.out
  clear hb2_
  have c_hb2_0 := hc_hb2 w.heap.size 0 (by omega)
  have c_hb2_1 := hc_hb2 w.heap.size 1 (by omega)
  rw [c_hb1_0] at c_hb2_0
  rw [c_hb1_1] at c_hb2_1
  rw [HE.out.2]
  go_wp2_with fail
  (with_reducible refine (effect_Right ⟨2, ⟨#[120]⟩⟩ _ (by unfold Sz; decide)).mono ?_); rintro e w' ⟨rfl, hb3⟩
  obtain ⟨hc_hb3, hf_hb3⟩ := bcell hb3
  have hz_hb3 := size_le hb3
  repeat (first | simp only [World.size_alloc] at hc_hb3 | simp only [World.size_setCell] at hc_hb3 | simp only [World.size_drew] at hc_hb3)
  repeat (first | simp only [World.size_alloc] at hf_hb3 | simp only [World.size_setCell] at hf_hb3 | simp only [World.size_drew] at hf_hb3)
  repeat (first | simp only [World.size_alloc] at hz_hb3 | simp only [World.size_setCell] at hz_hb3 | simp only [World.size_drew] at hz_hb3)
  have hb3_ := Lib.hid (below_next (w := w) (by go_grown) hb3)
  clear hb3
  have hb3 := hb3_.out
  clear hb3_
  go_wp2_with fail
  (with_reducible refine (effect_Right ⟨4, em⟩ _ (by unfold Sz; decide)).mono ?_); rintro e w' ⟨rfl, hb4⟩
  obtain ⟨hc_hb4, hf_hb4⟩ := bcell hb4
  have hz_hb4 := size_le hb4
  repeat (first | simp only [World.size_alloc] at hc_hb4 | simp only [World.size_setCell] at hc_hb4 | simp only [World.size_drew] at hc_hb4)
  repeat (first | simp only [World.size_alloc] at hf_hb4 | simp only [World.size_setCell] at hf_hb4 | simp only [World.size_drew] at hf_hb4)
  repeat (first | simp only [World.size_alloc] at hz_hb4 | simp only [World.size_setCell] at hz_hb4 | simp only [World.size_drew] at hz_hb4)
  have hb4_ := Lib.hid (below_next (w := w) (by go_grown) hb4)
  clear hb4
  have hb4 := hb4_.out
  clear hb4_
  go_wp2
  go_ret
  exact ⟨rfl, by assumption⟩
end Go.Proofs.Ytkmlppglmdfbaaa
