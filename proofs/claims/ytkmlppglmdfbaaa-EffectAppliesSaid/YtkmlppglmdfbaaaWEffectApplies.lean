/- The walk of the law EffectApplies. -/
import Derived.Test.YtkmlppglmdfbaaaEffAwake
import Derived.Test.YtkmlppglmdfbaaaQuiet
namespace Go.Proofs.Ytkmlppglmdfbaaa.lawEffectApplies
open Go.ChangeShapes Go.WideShapes Go.ChangeAt Go.RowKit Go.Sort
set_option linter.unusedVariables false
set_option linter.unusedSimpArgs false

set_option maxHeartbeats 1000000 in
theorem walk (e : Eff) (h : Bool) (v : ByteArray) (w : World) (h1 : Sz e.val) (h2 : Sz v) :
    Calls Try.prog 10 #[.agg #[.int .i64 e.kind, .string e.val], .bool h, .string v] w fun e w' => e = .returned (.bool true) ∧ Below w.heap.size w w' := by
  obtain ⟨k, x⟩ := e
  simp only at h1
  have z1 := h1.le
  have z2 := h2.le
  by_cases g1 : 2000 < x.size
  · have d1 : decide ((2000 : Int) < (x.size : Int)) = true := decide_eq_true (by omega)
    go_enter Try.func10, Try.ntmps10
    go_wp2_with fail
    (with_reducible refine (effect_awake _).mono ?_); rintro e w' ⟨rfl, hb1⟩
    obtain ⟨hc_hb1, hf_hb1⟩ := bcell hb1
    have hz_hb1 := size_le hb1
    repeat (first | simp only [World.size_alloc] at hc_hb1 | simp only [World.size_setCell] at hc_hb1 | simp only [World.size_drew] at hc_hb1)
    repeat (first | simp only [World.size_alloc] at hf_hb1 | simp only [World.size_setCell] at hf_hb1 | simp only [World.size_drew] at hf_hb1)
    repeat (first | simp only [World.size_alloc] at hz_hb1 | simp only [World.size_setCell] at hz_hb1 | simp only [World.size_drew] at hz_hb1)
    have hb1_ := Lib.hid (below_next (w := w) (by go_grown) hb1)
    clear hb1
    have hb1 := hb1_.out
    clear hb1_
    go_wp2
    go_ret
    exact ⟨rfl, by assumption⟩
  have d1 : decide ((2000 : Int) < (x.size : Int)) = false := decide_eq_false (by omega)
  by_cases g2 : 2000 < v.size
  · have d2 : decide ((2000 : Int) < (v.size : Int)) = true := decide_eq_true (by omega)
    go_enter Try.func10, Try.ntmps10
    go_wp2_with fail
    (with_reducible refine (effect_awake _).mono ?_); rintro e w' ⟨rfl, hb1⟩
    obtain ⟨hc_hb1, hf_hb1⟩ := bcell hb1
    have hz_hb1 := size_le hb1
    repeat (first | simp only [World.size_alloc] at hc_hb1 | simp only [World.size_setCell] at hc_hb1 | simp only [World.size_drew] at hc_hb1)
    repeat (first | simp only [World.size_alloc] at hf_hb1 | simp only [World.size_setCell] at hf_hb1 | simp only [World.size_drew] at hf_hb1)
    repeat (first | simp only [World.size_alloc] at hz_hb1 | simp only [World.size_setCell] at hz_hb1 | simp only [World.size_drew] at hz_hb1)
    have hb1_ := Lib.hid (below_next (w := w) (by go_grown) hb1)
    clear hb1
    have hb1 := hb1_.out
    clear hb1_
    go_wp2
    go_ret
    exact ⟨rfl, by assumption⟩
  have d2 : decide ((2000 : Int) < (v.size : Int)) = false := decide_eq_false (by omega)
  have HS := Lib.hid (show x.size ≤ 3000 ∧ v.size ≤ 3000 from by omega)
  have HZ := Lib.hid h1
  clear h1 h2 g1 g2
  generalize hHH : applyH ⟨k, x⟩ h = aH
  generalize hVV : applyV ⟨k, x⟩ h v = aV
  have HA := Lib.hid hHH
  have HV := Lib.hid hVV
  clear hHH hVV
  have main : ∀ r : Bool, rowsE ⟨k, x⟩ = r → ((k == 1) = true ∧ r = true ∨ (k == 1) = false ∧ (k == 2) = r) → Calls Try.prog 10 #[.agg #[.int .i64 (Eff.mk k x).kind, .string (Eff.mk k x).val], .bool h, .string v] w fun e w' => e = .returned (.bool true) ∧ Below w.heap.size w w' := by
    intro r hr hkr
    have HR := Lib.hid hr
    clear hr
    rcases hkr with ⟨q1, rfl⟩ | ⟨q1, q2⟩
    all_goals
      go_enter Try.func10, Try.ntmps10
      go_wp2_with fail
      (with_reducible refine (effect_Apply ⟨k, x⟩ h v _ HS.out.1 HS.out.2).mono ?_); rintro e w1 ⟨rfl, hb1⟩
      obtain ⟨hc_hb1, hf_hb1⟩ := bcell hb1
      have hz_hb1 := size_le hb1
      repeat (first | simp only [World.size_alloc] at hc_hb1 | simp only [World.size_setCell] at hc_hb1 | simp only [World.size_drew] at hc_hb1)
      repeat (first | simp only [World.size_alloc] at hz_hb1 | simp only [World.size_setCell] at hz_hb1 | simp only [World.size_drew] at hz_hb1)
      have c0 := hc_hb1 w.heap.size 0 (by omega)
      have c1 := hc_hb1 w.heap.size 1 (by omega)
      simp [go_sem] at c0 c1
      have HB1 := Lib.hid (below_next (w := w) (by go_grown) hb1)
      clear hb1 hc_hb1 hf_hb1
      rw [HA.out, HV.out]
      go_wp2_with fail
      (with_reducible refine (ref_Apply ⟨k, x⟩ h v _ HS.out.1 HS.out.2).mono ?_); rintro e w2 ⟨rfl, hb2⟩
      rw [HA.out, HV.out]
      have hz2 : w1.heap.size ≤ w2.heap.size := hb2.size
      have hw1 : w.heap.size < w1.heap.size := by omega
      have hw2 : w.heap.size < w2.heap.size := by omega
      have e0 := (hb2.cell (p := ⟨w.heap.size, 0, none⟩) hw1).trans c0
      have e1 := (hb2.cell (p := ⟨w.heap.size, 1, none⟩) hw1).trans c1
      have HB2 := Lib.hid (below_next HB1.out hb2)
      clear hb2 c0 c1 hz_hb1 hz2 hw1
      go_wp2
      have HRs : Hid (∀ W, Calls Try.prog 45 #[.agg #[.int .i64 (Eff.mk k x).kind, .string (Eff.mk k x).val]] W fun e w' => e = .returned (.bool _) ∧ Below W.heap.size W w') := Lib.hid (fun W => by have := effect_Rows ⟨k, x⟩ W; rw [HR.out] at this; exact this)
      refine wp_region_below (by kernel_rfl) (by kernel_rfl) ?_
      have hgr := @grow_cell
      repeat (go_big_quiet_step (first | (go_at_call 44; with_reducible exact qb (effect_Right ⟨k, x⟩ _ HZ.out)) | (go_at_call 38; with_reducible exact qb (ref_RightE ⟨k, x⟩ _ HZ.out)) | (go_at_call 45; with_reducible exact qb (HRs.out _)) | (go_at_call 39; with_reducible exact qb (effect_awake _))))
      refine wpQuiet_nil ?_
      clear hgr
      intro w3 hb3
      have HB3 := Lib.hid (below_next HB2.out hb3)
      clear hb3
      go_wp2
      go_ret
      exact ⟨rfl, HB3.out⟩
  by_cases k1 : k = 1
  · subst k1; exact main true (by simp [rowsE]) (.inl ⟨rfl, rfl⟩)
  · refine main (k == 2) (by by_cases k2 : k = 2 <;> simp [rowsE, k1, k2]) (.inr ⟨by simp [k1], rfl⟩)
end Go.Proofs.Ytkmlppglmdfbaaa.lawEffectApplies
