/- The walks of the effect layer: one effect and then another one (Then), all of them (Fold), and whether all may be (All). -/
import Derived.Test.YtipbbbamjckjoaaEffW
import Derived.Test.YtipbbbamjckjoaaArgs
namespace Go.Proofs.Ytipbbbamjckjoaa
open Go.RowKit Go.Sort
set_option linter.unusedVariables false
set_option maxRecDepth 20000
set_option linter.unusedSimpArgs false
set_option maxHeartbeats 400000 in
theorem effect_Then (a b : Eff) (w : World) (h1 : a.val.size ≤ 3000) (h2 : b.val.size ≤ 3000) :
    Calls Try.prog 82 #[.agg #[.int .i64 a.kind, .string a.val], .agg #[.int .i64 b.kind, .string b.val]] w fun x w' => x = .returned (.agg #[.int .i64 (thenE a b).kind, .string (thenE a b).val]) ∧ Below w.heap.size w w' := by
  obtain ⟨k, x⟩ := a
  obtain ⟨m, y⟩ := b
  simp only at h1 h2
  have HS := Lib.hid (show x.size ≤ 3000 ∧ y.size ≤ 3000 from ⟨h1, h2⟩)
  have HM := Lib.hid (show (x ++ y).size ≤ maxLen from by rw [size_app]; unfold maxLen; omega)
  by_cases h0m : m = 0
  · subst h0m
    go_enter Try.func82, Try.ntmps82
    go_wp2
    (try simp only [Exit.inBlock, Exit.then])
    refine bodyPost_ret (by simp [results, Try.results82, go_sem, thenE]; try rfl) rfl ?_
    exact ⟨retv (by simp [thenE]), by go_grown⟩
  by_cases h2m : m = 2
  · subst h2m
    by_cases h0k : k = 0
    · subst h0k
      go_enter Try.func82, Try.ntmps82
      go_wp2
      (try simp only [Exit.inBlock, Exit.then])
      refine bodyPost_ret (by simp [results, Try.results82, go_sem, thenE]; try rfl) rfl ?_
      exact ⟨retv (by simp [thenE]), by go_grown⟩
    by_cases h2k : k = 2
    · subst h2k
      go_enter Try.func82, Try.ntmps82
      go_wp2_with fail
      (with_reducible refine (effect_Apply ⟨2, y⟩ true x _ HS.out.2 HS.out.1).mono ?_); rintro e w1 ⟨rfl, hb1⟩
      obtain ⟨hc_hb1, hf_hb1⟩ := bcell hb1
      have hz_hb1 := size_le hb1
      repeat (first | simp only [World.size_alloc] at hc_hb1 | simp only [World.size_setCell] at hc_hb1 | simp only [World.size_drew] at hc_hb1)
      repeat (first | simp only [World.size_alloc] at hf_hb1 | simp only [World.size_setCell] at hf_hb1 | simp only [World.size_drew] at hf_hb1)
      repeat (first | simp only [World.size_alloc] at hz_hb1 | simp only [World.size_setCell] at hz_hb1 | simp only [World.size_drew] at hz_hb1)
      have HB := Lib.hid (below_next (w := w) (by go_grown) hb1)
      clear hb1
      have hb1 := HB.out
      go_wp2
      (try simp only [Exit.inBlock, Exit.then])
      refine bodyPost_ret (by simp [results, Try.results82, go_sem, hc_hb1]; try rfl) rfl ?_
      exact ⟨retv (by simp [thenE, applyV]), by go_grown⟩
    by_cases h3k : k = 3
    · subst h3k
      go_enter Try.func82, Try.ntmps82
      go_wp2_with fail
      (with_reducible refine (effect_Apply ⟨2, y⟩ false x _ HS.out.2 HS.out.1).mono ?_); rintro e w1 ⟨rfl, hb1⟩
      obtain ⟨hc_hb1, hf_hb1⟩ := bcell hb1
      have hz_hb1 := size_le hb1
      repeat (first | simp only [World.size_alloc] at hc_hb1 | simp only [World.size_setCell] at hc_hb1 | simp only [World.size_drew] at hc_hb1)
      repeat (first | simp only [World.size_alloc] at hf_hb1 | simp only [World.size_setCell] at hf_hb1 | simp only [World.size_drew] at hf_hb1)
      repeat (first | simp only [World.size_alloc] at hz_hb1 | simp only [World.size_setCell] at hz_hb1 | simp only [World.size_drew] at hz_hb1)
      have HB := Lib.hid (below_next (w := w) (by go_grown) hb1)
      clear hb1
      have hb1 := HB.out
      go_wp2
      (try simp only [Exit.inBlock, Exit.then])
      refine bodyPost_ret (by simp [results, Try.results82, go_sem, hc_hb1]; try rfl) rfl ?_
      exact ⟨retv (by simp [thenE, applyV]), by go_grown⟩
    obtain ⟨g0k, g2k, g3k, g3k'⟩ : (k == 0) = false ∧ (k == 2) = false ∧ (k == 3) = false ∧ (k != 3) = true := by simp [h0k, h2k, h3k]
    go_enter Try.func82, Try.ntmps82
    go_wp2_with fail
    (with_reducible refine (effect_Apply ⟨2, y⟩ true x _ HS.out.2 HS.out.1).mono ?_); rintro e w1 ⟨rfl, hb1⟩
    obtain ⟨hc_hb1, hf_hb1⟩ := bcell hb1
    have hz_hb1 := size_le hb1
    repeat (first | simp only [World.size_alloc] at hc_hb1 | simp only [World.size_setCell] at hc_hb1 | simp only [World.size_drew] at hc_hb1)
    repeat (first | simp only [World.size_alloc] at hf_hb1 | simp only [World.size_setCell] at hf_hb1 | simp only [World.size_drew] at hf_hb1)
    repeat (first | simp only [World.size_alloc] at hz_hb1 | simp only [World.size_setCell] at hz_hb1 | simp only [World.size_drew] at hz_hb1)
    have HB := Lib.hid (below_next (w := w) (by go_grown) hb1)
    clear hb1
    have hb1 := HB.out
    go_wp2
    (try simp only [Exit.inBlock, Exit.then])
    refine bodyPost_ret (by simp [results, Try.results82, go_sem, hc_hb1]; try rfl) rfl ?_
    exact ⟨retv (by simp [thenE, applyV, h0k, h2k, h3k]), by go_grown⟩
  obtain ⟨g0m, g2m, g2m'⟩ : (m == 0) = false ∧ (m == 2) = false ∧ (m != 2) = true := by simp [h0m, h2m]
  go_enter Try.func82, Try.ntmps82
  go_wp2
  (try simp only [Exit.inBlock, Exit.then])
  refine bodyPost_ret (by simp [results, Try.results82, go_sem, thenE]; try rfl) rfl ?_
  exact ⟨retv (by simp [thenE, h0m, h2m]), by go_grown⟩
set_option maxHeartbeats 400000 in
theorem ref_Then (a b : Eff) (w : World) (h1 : a.val.size ≤ 3000) (h2 : b.val.size ≤ 3000) :
    Calls Try.prog 33 #[.agg #[.int .i64 a.kind, .string a.val], .agg #[.int .i64 b.kind, .string b.val]] w fun x w' => x = .returned (.agg #[.int .i64 (refThenE a b).kind, .string (refThenE a b).val]) ∧ Below w.heap.size w w' := by
  obtain ⟨k, x⟩ := a
  obtain ⟨m, y⟩ := b
  simp only at h1 h2
  have HS := Lib.hid (show x.size ≤ 3000 ∧ y.size ≤ 3000 from ⟨h1, h2⟩)
  have HM := Lib.hid (show (x ++ y).size ≤ maxLen from by rw [size_app]; unfold maxLen; omega)
  by_cases h0m : m = 0
  · subst h0m
    go_enter Try.func33, Try.ntmps33
    go_wp2
    (try simp only [Exit.inBlock, Exit.then])
    refine bodyPost_ret (by simp [results, Try.results33, go_sem, refThenE]; try rfl) rfl ?_
    exact ⟨retv (by simp [refThenE]), by go_grown⟩
  by_cases h2m : m = 2
  · subst h2m
    by_cases h0k : k = 0
    · subst h0k
      go_enter Try.func33, Try.ntmps33
      go_wp2
      (try simp only [Exit.inBlock, Exit.then])
      refine bodyPost_ret (by simp [results, Try.results33, go_sem, refThenE]; try rfl) rfl ?_
      exact ⟨retv (by simp [refThenE]), by go_grown⟩
    by_cases h2k : k = 2
    · subst h2k
      go_enter Try.func33, Try.ntmps33
      go_wp2_with fail
      (with_reducible refine (ref_Tail (x ++ y) _ HM.out).mono ?_); rintro e w' ⟨rfl, rfl⟩
      go_wp2
      (try simp only [Exit.inBlock, Exit.then])
      refine bodyPost_ret (by simp [results, Try.results33, go_sem, refThenE]; try rfl) rfl ?_
      exact ⟨retv (by simp [refThenE]), by go_grown⟩
    by_cases h3k : k = 3
    · subst h3k
      go_enter Try.func33, Try.ntmps33
      go_wp2_with fail
      (with_reducible refine (ref_Tail (x ++ y) _ HM.out).mono ?_); rintro e w' ⟨rfl, rfl⟩
      go_wp2
      (try simp only [Exit.inBlock, Exit.then])
      refine bodyPost_ret (by simp [results, Try.results33, go_sem, refThenE]; try rfl) rfl ?_
      exact ⟨retv (by simp [refThenE]), by go_grown⟩
    obtain ⟨g0k, g2k, g3k, g3k'⟩ : (k == 0) = false ∧ (k == 2) = false ∧ (k == 3) = false ∧ (k != 3) = true := by simp [h0k, h2k, h3k]
    go_enter Try.func33, Try.ntmps33
    go_wp2_with fail
    (with_reducible refine (ref_Tail (x ++ y) _ HM.out).mono ?_); rintro e w' ⟨rfl, rfl⟩
    go_wp2
    (try simp only [Exit.inBlock, Exit.then])
    refine bodyPost_ret (by simp [results, Try.results33, go_sem, refThenE]; try rfl) rfl ?_
    exact ⟨retv (by simp [refThenE, h0k, h2k]), by go_grown⟩
  obtain ⟨g0m, g2m, g2m'⟩ : (m == 0) = false ∧ (m == 2) = false ∧ (m != 2) = true := by simp [h0m, h2m]
  go_enter Try.func33, Try.ntmps33
  go_wp2
  (try simp only [Exit.inBlock, Exit.then])
  refine bodyPost_ret (by simp [results, Try.results33, go_sem, refThenE]; try rfl) rfl ?_
  exact ⟨retv (by simp [refThenE, h0m, h2m]), by go_grown⟩
end Go.Proofs.Ytipbbbamjckjoaa
