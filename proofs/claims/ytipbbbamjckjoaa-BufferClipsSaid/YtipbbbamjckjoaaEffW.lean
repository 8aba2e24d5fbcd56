/- The walks of the effect layer and of its reference: each function computes what the plain effects say. -/
import Derived.Test.YtipbbbamjckjoaaEff
import Derived.Test.YtipbbbamjckjoaaEql
import Derived.Test.YtipbbbamjckjoaaVal
import Derived.BigQuiet
namespace Go.Proofs.Ytipbbbamjckjoaa
open Go.RowKit Go.Sort
set_option linter.unusedVariables false
set_option maxRecDepth 20000
set_option linter.unusedSimpArgs false

/-- A number that is none of these, as a walk's tests want it. -/
theorem ne_tests {k : Int} (h0 : k ≠ 0) (h1 : k ≠ 1) (h2 : k ≠ 2) (h3 : k ≠ 3) : (k == 0) = false ∧ (k == 1) = false ∧ (k == 2) = false ∧ (k == 3) = false := by simp [h0, h1, h2, h3]
set_option maxHeartbeats 400000 in
theorem effect_Right (e : Eff) (w : World) (hs : Sz e.val) :
    Calls Try.prog 76 #[.agg #[.int .i64 e.kind, .string e.val]] w fun x w' => x = .returned (.bool (rightE e)) ∧ Below w.heap.size w w' := by
  obtain ⟨k, v⟩ := e
  have HM := Lib.hid hs.max
  clear hs
  have he := beq_bl v em
  by_cases h1k : k = 1
  · subst h1k
    go_enter Try.func76, Try.ntmps76
    go_wp2_with fail
    (with_reducible refine (value_Right _ _ HM.out).mono ?_); rintro x w' ⟨rfl, rfl⟩
    go_wp2
    go_ret
    refine ⟨retv (boolv ?_), by go_grown⟩
    simp [rightE]; omega
  by_cases h2k : k = 2
  · subst h2k
    go_enter Try.func76, Try.ntmps76
    go_wp2_with fail
    (with_reducible refine (value_Right _ _ HM.out).mono ?_); rintro x w' ⟨rfl, rfl⟩
    go_wp2
    go_ret
    refine ⟨retv (boolv ?_), by go_grown⟩
    simp [rightE]; omega
  by_cases h3k : k = 3
  · subst h3k
    go_enter Try.func76, Try.ntmps76
    go_wp2
    go_ret
    refine ⟨retv (boolv ?_), by go_grown⟩
    simp [rightE, ← he]
  by_cases h0k : k = 0
  · subst h0k
    go_enter Try.func76, Try.ntmps76
    go_wp2
    go_ret
    refine ⟨retv (boolv ?_), by go_grown⟩
    simp [rightE, ← he]
  obtain ⟨g0k, g1k, g2k, g3k⟩ := ne_tests h0k h1k h2k h3k
  go_enter Try.func76, Try.ntmps76
  go_wp2
  go_ret
  refine ⟨retv (boolv ?_), by go_grown⟩
  simp [rightE, h0k, h1k, h2k, h3k]
set_option maxHeartbeats 400000 in
theorem effect_Apply (e : Eff) (h : Bool) (v : ByteArray) (w : World) (h1 : e.val.size ≤ 3000) (h2 : v.size ≤ 3000) :
    Calls Try.prog 119 #[.agg #[.int .i64 e.kind, .string e.val], .bool h, .string v] w fun x w' => x = .returned (.tuple #[.bool (applyH e h), .string (applyV e h v)]) ∧ Below w.heap.size w w' := by
  obtain ⟨k, x⟩ := e
  simp only at h1
  have m1 : (v ++ x).size ≤ maxLen := by rw [size_app]; unfold maxLen; omega
  have m2 : (em ++ x).size ≤ maxLen := by rw [size_app, size_em]; unfold maxLen; omega
  have M1 := Lib.hid m1
  have M2 := Lib.hid m2
  clear m1 m2
  by_cases h1k : k = 1
  · subst h1k
    cases h
    · go_enter Try.func119, Try.ntmps119
      go_wp2
      go_quiet (fail)
      go_wp2
      go_ret2
      refine ⟨retv ?_, below_drewN (by go_grown) _⟩
      simp [applyH, applyV]
    · go_enter Try.func119, Try.ntmps119
      go_wp2
      go_quiet (fail)
      go_wp2
      go_ret2
      refine ⟨retv ?_, below_drewN (by go_grown) _⟩
      simp [applyH, applyV]
  by_cases h2k : k = 2
  · subst h2k
    cases h
    · go_enter Try.func119, Try.ntmps119
      go_wp2_with fail
      (with_reducible refine (value_Add em x _ M2.out).mono ?_); rintro x w' ⟨rfl, rfl⟩
      go_wp2
      go_ret2
      refine ⟨retv ?_, by go_grown⟩
      simp [applyH, applyV]
    · go_enter Try.func119, Try.ntmps119
      go_wp2_with fail
      (with_reducible refine (value_Add v x _ M1.out).mono ?_); rintro x w' ⟨rfl, rfl⟩
      go_wp2
      go_ret2
      refine ⟨retv ?_, by go_grown⟩
      simp [applyH, applyV]
  by_cases h3k : k = 3
  · subst h3k
    cases h
    · go_enter Try.func119, Try.ntmps119
      go_wp2
      go_ret2
      refine ⟨retv ?_, by go_grown⟩
      simp [applyH, applyV]
    · go_enter Try.func119, Try.ntmps119
      go_wp2
      go_ret2
      refine ⟨retv ?_, by go_grown⟩
      simp [applyH, applyV]
  by_cases h0k : k = 0
  · subst h0k
    cases h
    · go_enter Try.func119, Try.ntmps119
      go_wp2
      go_ret2
      refine ⟨retv ?_, by go_grown⟩
      simp [applyH, applyV]
    · go_enter Try.func119, Try.ntmps119
      go_wp2
      go_ret2
      refine ⟨retv ?_, by go_grown⟩
      simp [applyH, applyV]
  obtain ⟨g0k, g1k, g2k, g3k⟩ := ne_tests h0k h1k h2k h3k
  cases h
  · go_enter Try.func119, Try.ntmps119
    go_wp2
    go_ret2
    refine ⟨retv ?_, by go_grown⟩
    simp [applyH, applyV, h1k, h2k, h3k]
  · go_enter Try.func119, Try.ntmps119
    go_wp2
    go_ret2
    refine ⟨retv ?_, by go_grown⟩
    simp [applyH, applyV, h1k, h2k, h3k]
end Go.Proofs.Ytipbbbamjckjoaa
