/- The walks of the span layer and of its reference: each function computes what the plain spans say. The walks of the span layer's Meet and of what is built on it. The walks of the span layer's reference: Has, Empty, Norm, Meet. The walks of the span layer's reference: Norm and Meet. Parts of a slice: its beginning and its end, as they lie in memory. The walks of the span layer's reference: Short, and the ends of spans (Some, Ends). -/
import Derived.Test.YtclbmfepdlffnaaPA
import Derived.Deep.RegionHeld3
import Derived.Deep.AppendLies
namespace Go.Proofs.Ytclbmfepdlffnaa
open Go.RowKit Go.Sort
set_option linter.unusedVariables false
set_option maxRecDepth 20000
set_option linter.unusedSimpArgs false

end Go.Proofs.Ytclbmfepdlffnaa
namespace Go.Proofs.Ytclbmfepdlffnaa
open Go.RowKit Go.Sort
set_option linter.unusedVariables false
set_option maxRecDepth 20000
set_option linter.unusedSimpArgs false

theorem run_max_str2 {P : Program} {w : World} (ts : Array TypeId) (t : TypeId) (a b : ByteArray) : (Builtin.max_ ts t #[.string a, .string b]).run P w = .ok (.string (mx a b)) w := by
  cases h : Op.bytesLess a.toList b.toList <;> simp [Builtin.max_, Builtin.max2, Op.stringOp, mx, lt, h, asBool, go_sem]
theorem run_min_str2 {P : Program} {w : World} (ts : Array TypeId) (t : TypeId) (a b : ByteArray) : (Builtin.min_ ts t #[.string a, .string b]).run P w = .ok (.string (mn a b)) w := by
  have key : (Op.bytesLess a.toList b.toList || a.toList == b.toList) = !lt b a := by
    rw [beq_bl]
    by_cases h : a = b
    · subst h; simp [lt_irr]
    · rw [decide_eq_false h, Bool.or_false]
      cases h1 : lt a b with
      | true => rw [lt_asy h1]; exact h1
      | false =>
        cases h2 : lt b a with
        | true => exact h1
        | false => exact absurd (lt_tot h1 h2) h
  cases h : lt b a <;> rw [h] at key <;> simp [Builtin.min_, Builtin.min2, Op.stringOp, mn, h, asBool, go_sem, key]
attribute [local go_sem] run_max_str2 run_min_str2

end Go.Proofs.Ytclbmfepdlffnaa
namespace Go.Proofs.Ytclbmfepdlffnaa
open Go.RowKit Go.Sort
set_option linter.unusedVariables false
set_option maxRecDepth 20000
set_option linter.unusedSimpArgs false

set_option maxHeartbeats 400000 in
theorem ref_Has (s : Span) (k : ByteArray) (w : World) (h1 : s.lo.size ≤ maxLen) (h2 : s.hi.size ≤ maxLen) (h3 : k.size ≤ maxLen) :
    Calls Try.prog 120 #[.agg #[.string s.lo, .string s.hi, .bool s.opn], .string k] w fun e w' => e = .returned (.bool (has s k)) ∧ Below w.heap.size w w' := by
  obtain ⟨lo, hi, o⟩ := s
  have M1 := Lib.hid h1
  have M2 := Lib.hid h2
  have M3 := Lib.hid h3
  clear h1 h2 h3
  cases g1 : Op.bytesLess k.toList lo.toList
  · cases o
    · go_enter Try.func120, Try.ntmps120
      go_wp2_with fail
      (with_reducible refine (ref_Less _ _ M3.out M1.out _).mono ?_); rintro e w' ⟨rfl, hb1⟩
      obtain ⟨hc_hb1, hf_hb1⟩ := bcell hb1
      have hz_hb1 := size_le hb1
      repeat (first | simp only [World.size_alloc] at hc_hb1 | simp only [World.size_setCell] at hc_hb1 | simp only [World.size_drew] at hc_hb1)
      repeat (first | simp only [World.size_alloc] at hf_hb1 | simp only [World.size_setCell] at hf_hb1 | simp only [World.size_drew] at hf_hb1)
      repeat (first | simp only [World.size_alloc] at hz_hb1 | simp only [World.size_setCell] at hz_hb1 | simp only [World.size_drew] at hz_hb1)
      have hb1_ := Lib.hid (below_next (w := w) (by go_grown) hb1)
      clear hb1
      have hb1 := hb1_.out
      clear hb1_
      go_wp2_with fail
      (with_reducible refine (ref_Less _ _ M3.out M2.out _).mono ?_); rintro e w' ⟨rfl, hb2⟩
      obtain ⟨hc_hb2, hf_hb2⟩ := bcell hb2
      have hz_hb2 := size_le hb2
      repeat (first | simp only [World.size_alloc] at hc_hb2 | simp only [World.size_setCell] at hc_hb2 | simp only [World.size_drew] at hc_hb2)
      repeat (first | simp only [World.size_alloc] at hf_hb2 | simp only [World.size_setCell] at hf_hb2 | simp only [World.size_drew] at hf_hb2)
      repeat (first | simp only [World.size_alloc] at hz_hb2 | simp only [World.size_setCell] at hz_hb2 | simp only [World.size_drew] at hz_hb2)
      have hb2_ := Lib.hid (below_next (w := w) (by go_grown) hb2)
      clear hb2
      have hb2 := hb2_.out
      clear hb2_
      go_wp2
      go_ret
      exact ⟨retv (boolv (by simp [has, lt, g1])), by assumption⟩
    · go_enter Try.func120, Try.ntmps120
      go_wp2_with fail
      (with_reducible refine (ref_Less _ _ M3.out M1.out _).mono ?_); rintro e w' ⟨rfl, hb1⟩
      obtain ⟨hc_hb1, hf_hb1⟩ := bcell hb1
      have hz_hb1 := size_le hb1
      repeat (first | simp only [World.size_alloc] at hc_hb1 | simp only [World.size_setCell] at hc_hb1 | simp only [World.size_drew] at hc_hb1)
      repeat (first | simp only [World.size_alloc] at hf_hb1 | simp only [World.size_setCell] at hf_hb1 | simp only [World.size_drew] at hf_hb1)
      repeat (first | simp only [World.size_alloc] at hz_hb1 | simp only [World.size_setCell] at hz_hb1 | simp only [World.size_drew] at hz_hb1)
      have hb1_ := Lib.hid (below_next (w := w) (by go_grown) hb1)
      clear hb1
      have hb1 := hb1_.out
      clear hb1_
      go_wp2
      go_ret
      exact ⟨retv (boolv (by simp [has, lt, g1])), by assumption⟩
  · go_enter Try.func120, Try.ntmps120
    go_wp2_with fail
    (with_reducible refine (ref_Less _ _ M3.out M1.out _).mono ?_); rintro e w' ⟨rfl, hb1⟩
    obtain ⟨hc_hb1, hf_hb1⟩ := bcell hb1
    have hz_hb1 := size_le hb1
    repeat (first | simp only [World.size_alloc] at hc_hb1 | simp only [World.size_setCell] at hc_hb1 | simp only [World.size_drew] at hc_hb1)
    repeat (first | simp only [World.size_alloc] at hf_hb1 | simp only [World.size_setCell] at hf_hb1 | simp only [World.size_drew] at hf_hb1)
    repeat (first | simp only [World.size_alloc] at hz_hb1 | simp only [World.size_setCell] at hz_hb1 | simp only [World.size_drew] at hz_hb1)
    have hb1_ := Lib.hid (below_next (w := w) (by go_grown) hb1)
    clear hb1
    have hb1 := hb1_.out
    clear hb1_
    go_wp2
    go_ret
    exact ⟨retv (boolv (by simp [has, lt, g1])), by assumption⟩


set_option maxHeartbeats 400000 in
theorem ref_Empty (s : Span) (w : World) (h1 : s.lo.size ≤ maxLen) (h2 : s.hi.size ≤ maxLen) :
    Calls Try.prog 102 #[.agg #[.string s.lo, .string s.hi, .bool s.opn]] w fun e w' => e = .returned (.bool (empty s)) ∧ Below w.heap.size w w' := by
  have HE := Lib.hid (empty_iff s)
  have M1 := Lib.hid h1
  have M2 := Lib.hid h2
  clear h1 h2
  go_enter Try.func102, Try.ntmps102
  go_wp2_with fail
  (with_reducible refine (ref_Has s s.lo _ M1.out M2.out M1.out).mono ?_); rintro e w' ⟨rfl, hb1⟩
  obtain ⟨hc_hb1, hf_hb1⟩ := bcell hb1
  have hz_hb1 := size_le hb1
  repeat (first | simp only [World.size_alloc] at hc_hb1 | simp only [World.size_setCell] at hc_hb1 | simp only [World.size_drew] at hc_hb1)
  repeat (first | simp only [World.size_alloc] at hf_hb1 | simp only [World.size_setCell] at hf_hb1 | simp only [World.size_drew] at hf_hb1)
  repeat (first | simp only [World.size_alloc] at hz_hb1 | simp only [World.size_setCell] at hz_hb1 | simp only [World.size_drew] at hz_hb1)
  have hb1_ := Lib.hid (below_next (w := w) (by go_grown) hb1)
  clear hb1
  have hb1 := hb1_.out
  clear hb1_
  go_wp2
  go_ret
  exact ⟨retv (boolv HE.out.symm), by go_grown⟩
end Go.Proofs.Ytclbmfepdlffnaa
namespace Go.Proofs.Ytclbmfepdlffnaa
open Go.RowKit Go.Sort
set_option linter.unusedVariables false
set_option maxRecDepth 20000
set_option linter.unusedSimpArgs false

set_option maxHeartbeats 400000 in
theorem ref_Norm (s : Span) (w : World) (h1 : s.lo.size ≤ maxLen) (h2 : s.hi.size ≤ maxLen) :
    Calls Try.prog 122 #[.agg #[.string s.lo, .string s.hi, .bool s.opn]] w fun e w' => e = .returned (.agg #[.string (norm s).lo, .string (norm s).hi, .bool (norm s).opn]) ∧ Below w.heap.size w w' := by
  obtain ⟨lo, hi, o⟩ := s
  have M1 := Lib.hid h1
  have M2 := Lib.hid h2
  clear h1 h2
  cases h1 : empty ⟨lo, hi, o⟩ <;> cases o
  all_goals
    go_enter Try.func122, Try.ntmps122
    go_wp2_with fail
    (with_reducible refine (ref_Empty ⟨lo, hi, _⟩ _ M1.out M2.out).mono ?_); rintro e w' ⟨rfl, hb1⟩
    obtain ⟨hc_hb1, hf_hb1⟩ := bcell hb1
    have hz_hb1 := size_le hb1
    repeat (first | simp only [World.size_alloc] at hc_hb1 | simp only [World.size_setCell] at hc_hb1 | simp only [World.size_drew] at hc_hb1)
    repeat (first | simp only [World.size_alloc] at hf_hb1 | simp only [World.size_setCell] at hf_hb1 | simp only [World.size_drew] at hf_hb1)
    repeat (first | simp only [World.size_alloc] at hz_hb1 | simp only [World.size_setCell] at hz_hb1 | simp only [World.size_drew] at hz_hb1)
    have hb1_ := Lib.hid (below_next (w := w) (by go_grown) hb1)
    clear hb1
    have hb1 := hb1_.out
    clear hb1_
    have c_hb1_1 := hc_hb1 (w.heap.size) 1 (by omega)
    simp [go_sem] at c_hb1_1
    go_wp2
    (try simp only [Exit.inBlock, Exit.then])
    refine bodyPost_ret (by simp [results, Try.results122, go_sem, hc_hb1]; try rfl) rfl ?_
    refine ⟨retv ?_, ?_⟩
    · simp [norm, h1, spE]
    · go_grown

set_option maxHeartbeats 1000000 in
theorem ref_Meet (a b : Span) (w : World) (h1 : a.lo.size ≤ maxLen) (h2 : a.hi.size ≤ maxLen) (h3 : b.lo.size ≤ maxLen) (h4 : b.hi.size ≤ maxLen) :
    Calls Try.prog 98 #[.agg #[.string a.lo, .string a.hi, .bool a.opn], .agg #[.string b.lo, .string b.hi, .bool b.opn]] w fun e w' => e = .returned (.agg #[.string (meet a b).lo, .string (meet a b).hi, .bool (meet a b).opn]) ∧ Below w.heap.size w w' := by
  have HE := Lib.hid (refMeet_eq a b)
  obtain ⟨lo, hi, o⟩ := a
  obtain ⟨lo', hi', o'⟩ := b
  have M1 := Lib.hid h1
  have M2 := Lib.hid h2
  have M3 := Lib.hid h3
  have M4 := Lib.hid h4
  clear h1 h2 h3 h4
  cases g1 : Op.bytesLess lo.toList lo'.toList
  · cases o'
    · cases o
      · cases g2 : Op.bytesLess hi'.toList hi.toList
        · go_enter Try.func98, Try.ntmps98
          go_wp2_with fail
          (with_reducible refine (ref_Less _ _ M1.out M3.out _).mono ?_); rintro e w' ⟨rfl, hb1⟩
          obtain ⟨hc_hb1, hf_hb1⟩ := bcell hb1
          have hz_hb1 := size_le hb1
          repeat (first | simp only [World.size_alloc] at hc_hb1 | simp only [World.size_setCell] at hc_hb1 | simp only [World.size_drew] at hc_hb1)
          repeat (first | simp only [World.size_alloc] at hf_hb1 | simp only [World.size_setCell] at hf_hb1 | simp only [World.size_drew] at hf_hb1)
          repeat (first | simp only [World.size_alloc] at hz_hb1 | simp only [World.size_setCell] at hz_hb1 | simp only [World.size_drew] at hz_hb1)
          have hb1_ := Lib.hid (below_next (w := w) (by go_grown) hb1)
          clear hb1
          have hb1 := hb1_.out
          clear hb1_
          have c_hb1_s_0 := hc_hb1 (w.heap.size) 0 (by omega)
          simp [go_sem] at c_hb1_s_0
          have f_hb1_s_0 := hf_hb1 (w.heap.size) 0 (by omega)
          simp [go_sem] at f_hb1_s_0
          have c_hb1_s_1 := hc_hb1 (w.heap.size) 1 (by omega)
          simp [go_sem] at c_hb1_s_1
          have f_hb1_s_1 := hf_hb1 (w.heap.size) 1 (by omega)
          simp [go_sem] at f_hb1_s_1
          have c_hb1_s_2 := hc_hb1 (w.heap.size) 2 (by omega)
          simp [go_sem] at c_hb1_s_2
          have f_hb1_s_2 := hf_hb1 (w.heap.size) 2 (by omega)
          simp [go_sem] at f_hb1_s_2
          have c_hb1_sp1_0 := hc_hb1 (w.heap.size + 1) 0 (by omega)
          simp [go_sem] at c_hb1_sp1_0
          have f_hb1_sp1_0 := hf_hb1 (w.heap.size + 1) 0 (by omega)
          simp [go_sem] at f_hb1_sp1_0
          have c_hb1_sp1_1 := hc_hb1 (w.heap.size + 1) 1 (by omega)
          simp [go_sem] at c_hb1_sp1_1
          have f_hb1_sp1_1 := hf_hb1 (w.heap.size + 1) 1 (by omega)
          simp [go_sem] at f_hb1_sp1_1
          have c_hb1_sp1_2 := hc_hb1 (w.heap.size + 1) 2 (by omega)
          simp [go_sem] at c_hb1_sp1_2
          have f_hb1_sp1_2 := hf_hb1 (w.heap.size + 1) 2 (by omega)
          simp [go_sem] at f_hb1_sp1_2
          have c_hb1_sp2_0 := hc_hb1 (w.heap.size + 2) 0 (by omega)
          simp [go_sem] at c_hb1_sp2_0
          have f_hb1_sp2_0 := hf_hb1 (w.heap.size + 2) 0 (by omega)
          simp [go_sem] at f_hb1_sp2_0
          have c_hb1_sp2_1 := hc_hb1 (w.heap.size + 2) 1 (by omega)
          simp [go_sem] at c_hb1_sp2_1
          have f_hb1_sp2_1 := hf_hb1 (w.heap.size + 2) 1 (by omega)
          simp [go_sem] at f_hb1_sp2_1
          have c_hb1_sp2_2 := hc_hb1 (w.heap.size + 2) 2 (by omega)
          simp [go_sem] at c_hb1_sp2_2
          have f_hb1_sp2_2 := hf_hb1 (w.heap.size + 2) 2 (by omega)
          simp [go_sem] at f_hb1_sp2_2
          have c_hb1_sp3_0 := hc_hb1 (w.heap.size + 3) 0 (by omega)
          simp [go_sem] at c_hb1_sp3_0
          have f_hb1_sp3_0 := hf_hb1 (w.heap.size + 3) 0 (by omega)
          simp [go_sem] at f_hb1_sp3_0
          have c_hb1_sp3_1 := hc_hb1 (w.heap.size + 3) 1 (by omega)
          simp [go_sem] at c_hb1_sp3_1
          have f_hb1_sp3_1 := hf_hb1 (w.heap.size + 3) 1 (by omega)
          simp [go_sem] at f_hb1_sp3_1
          have c_hb1_sp3_2 := hc_hb1 (w.heap.size + 3) 2 (by omega)
          simp [go_sem] at c_hb1_sp3_2
          have f_hb1_sp3_2 := hf_hb1 (w.heap.size + 3) 2 (by omega)
          simp [go_sem] at f_hb1_sp3_2
          go_wp2_with fail
          (with_reducible refine (ref_Less _ _ M4.out M2.out _).mono ?_); rintro e w' ⟨rfl, hb2⟩
          obtain ⟨hc_hb2, hf_hb2⟩ := bcell hb2
          have hz_hb2 := size_le hb2
          repeat (first | simp only [World.size_alloc] at hc_hb2 | simp only [World.size_setCell] at hc_hb2 | simp only [World.size_drew] at hc_hb2)
          repeat (first | simp only [World.size_alloc] at hf_hb2 | simp only [World.size_setCell] at hf_hb2 | simp only [World.size_drew] at hf_hb2)
          repeat (first | simp only [World.size_alloc] at hz_hb2 | simp only [World.size_setCell] at hz_hb2 | simp only [World.size_drew] at hz_hb2)
          have hb2_ := Lib.hid (below_next (w := w) (by go_grown) hb2)
          clear hb2
          have hb2 := hb2_.out
          clear hb2_
          have c_hb2_sp1_0 := hc_hb2 (w.heap.size + 1) 0 (by omega)
          simp [go_sem, c_hb1_sp1_0, c_hb1_sp1_1, c_hb1_sp1_2, f_hb1_sp1_0, f_hb1_sp1_1, f_hb1_sp1_2, c_hb1_sp2_0, c_hb1_sp2_1, c_hb1_sp2_2, c_hb1_sp3_0, c_hb1_sp3_1, c_hb1_sp3_2, f_hb1_sp2_0, f_hb1_sp2_1, f_hb1_sp2_2, f_hb1_sp3_0, f_hb1_sp3_1, f_hb1_sp3_2] at c_hb2_sp1_0
          have f_hb2_sp1_0 := hf_hb2 (w.heap.size + 1) 0 (by omega)
          simp [go_sem, c_hb1_sp1_0, c_hb1_sp1_1, c_hb1_sp1_2, f_hb1_sp1_0, f_hb1_sp1_1, f_hb1_sp1_2, c_hb1_sp2_0, c_hb1_sp2_1, c_hb1_sp2_2, c_hb1_sp3_0, c_hb1_sp3_1, c_hb1_sp3_2, f_hb1_sp2_0, f_hb1_sp2_1, f_hb1_sp2_2, f_hb1_sp3_0, f_hb1_sp3_1, f_hb1_sp3_2] at f_hb2_sp1_0
          have c_hb2_sp1_1 := hc_hb2 (w.heap.size + 1) 1 (by omega)
          simp [go_sem, c_hb1_sp1_0, c_hb1_sp1_1, c_hb1_sp1_2, f_hb1_sp1_0, f_hb1_sp1_1, f_hb1_sp1_2, c_hb1_sp2_0, c_hb1_sp2_1, c_hb1_sp2_2, c_hb1_sp3_0, c_hb1_sp3_1, c_hb1_sp3_2, f_hb1_sp2_0, f_hb1_sp2_1, f_hb1_sp2_2, f_hb1_sp3_0, f_hb1_sp3_1, f_hb1_sp3_2] at c_hb2_sp1_1
          have f_hb2_sp1_1 := hf_hb2 (w.heap.size + 1) 1 (by omega)
          simp [go_sem, c_hb1_sp1_0, c_hb1_sp1_1, c_hb1_sp1_2, f_hb1_sp1_0, f_hb1_sp1_1, f_hb1_sp1_2, c_hb1_sp2_0, c_hb1_sp2_1, c_hb1_sp2_2, c_hb1_sp3_0, c_hb1_sp3_1, c_hb1_sp3_2, f_hb1_sp2_0, f_hb1_sp2_1, f_hb1_sp2_2, f_hb1_sp3_0, f_hb1_sp3_1, f_hb1_sp3_2] at f_hb2_sp1_1
          have c_hb2_sp1_2 := hc_hb2 (w.heap.size + 1) 2 (by omega)
          simp [go_sem, c_hb1_sp1_0, c_hb1_sp1_1, c_hb1_sp1_2, f_hb1_sp1_0, f_hb1_sp1_1, f_hb1_sp1_2, c_hb1_sp2_0, c_hb1_sp2_1, c_hb1_sp2_2, c_hb1_sp3_0, c_hb1_sp3_1, c_hb1_sp3_2, f_hb1_sp2_0, f_hb1_sp2_1, f_hb1_sp2_2, f_hb1_sp3_0, f_hb1_sp3_1, f_hb1_sp3_2] at c_hb2_sp1_2
          have f_hb2_sp1_2 := hf_hb2 (w.heap.size + 1) 2 (by omega)
          simp [go_sem, c_hb1_sp1_0, c_hb1_sp1_1, c_hb1_sp1_2, f_hb1_sp1_0, f_hb1_sp1_1, f_hb1_sp1_2, c_hb1_sp2_0, c_hb1_sp2_1, c_hb1_sp2_2, c_hb1_sp3_0, c_hb1_sp3_1, c_hb1_sp3_2, f_hb1_sp2_0, f_hb1_sp2_1, f_hb1_sp2_2, f_hb1_sp3_0, f_hb1_sp3_1, f_hb1_sp3_2] at f_hb2_sp1_2
          have c_hb2_sp2_0 := hc_hb2 (w.heap.size + 2) 0 (by omega)
          simp [go_sem, c_hb1_sp1_0, c_hb1_sp1_1, c_hb1_sp1_2, f_hb1_sp1_0, f_hb1_sp1_1, f_hb1_sp1_2, c_hb1_sp2_0, c_hb1_sp2_1, c_hb1_sp2_2, c_hb1_sp3_0, c_hb1_sp3_1, c_hb1_sp3_2, f_hb1_sp2_0, f_hb1_sp2_1, f_hb1_sp2_2, f_hb1_sp3_0, f_hb1_sp3_1, f_hb1_sp3_2] at c_hb2_sp2_0
          have f_hb2_sp2_0 := hf_hb2 (w.heap.size + 2) 0 (by omega)
          simp [go_sem, c_hb1_sp1_0, c_hb1_sp1_1, c_hb1_sp1_2, f_hb1_sp1_0, f_hb1_sp1_1, f_hb1_sp1_2, c_hb1_sp2_0, c_hb1_sp2_1, c_hb1_sp2_2, c_hb1_sp3_0, c_hb1_sp3_1, c_hb1_sp3_2, f_hb1_sp2_0, f_hb1_sp2_1, f_hb1_sp2_2, f_hb1_sp3_0, f_hb1_sp3_1, f_hb1_sp3_2] at f_hb2_sp2_0
          have c_hb2_sp2_1 := hc_hb2 (w.heap.size + 2) 1 (by omega)
          simp [go_sem, c_hb1_sp1_0, c_hb1_sp1_1, c_hb1_sp1_2, f_hb1_sp1_0, f_hb1_sp1_1, f_hb1_sp1_2, c_hb1_sp2_0, c_hb1_sp2_1, c_hb1_sp2_2, c_hb1_sp3_0, c_hb1_sp3_1, c_hb1_sp3_2, f_hb1_sp2_0, f_hb1_sp2_1, f_hb1_sp2_2, f_hb1_sp3_0, f_hb1_sp3_1, f_hb1_sp3_2] at c_hb2_sp2_1
          have f_hb2_sp2_1 := hf_hb2 (w.heap.size + 2) 1 (by omega)
          simp [go_sem, c_hb1_sp1_0, c_hb1_sp1_1, c_hb1_sp1_2, f_hb1_sp1_0, f_hb1_sp1_1, f_hb1_sp1_2, c_hb1_sp2_0, c_hb1_sp2_1, c_hb1_sp2_2, c_hb1_sp3_0, c_hb1_sp3_1, c_hb1_sp3_2, f_hb1_sp2_0, f_hb1_sp2_1, f_hb1_sp2_2, f_hb1_sp3_0, f_hb1_sp3_1, f_hb1_sp3_2] at f_hb2_sp2_1
          have c_hb2_sp2_2 := hc_hb2 (w.heap.size + 2) 2 (by omega)
          simp [go_sem, c_hb1_sp1_0, c_hb1_sp1_1, c_hb1_sp1_2, f_hb1_sp1_0, f_hb1_sp1_1, f_hb1_sp1_2, c_hb1_sp2_0, c_hb1_sp2_1, c_hb1_sp2_2, c_hb1_sp3_0, c_hb1_sp3_1, c_hb1_sp3_2, f_hb1_sp2_0, f_hb1_sp2_1, f_hb1_sp2_2, f_hb1_sp3_0, f_hb1_sp3_1, f_hb1_sp3_2] at c_hb2_sp2_2
          have f_hb2_sp2_2 := hf_hb2 (w.heap.size + 2) 2 (by omega)
          simp [go_sem, c_hb1_sp1_0, c_hb1_sp1_1, c_hb1_sp1_2, f_hb1_sp1_0, f_hb1_sp1_1, f_hb1_sp1_2, c_hb1_sp2_0, c_hb1_sp2_1, c_hb1_sp2_2, c_hb1_sp3_0, c_hb1_sp3_1, c_hb1_sp3_2, f_hb1_sp2_0, f_hb1_sp2_1, f_hb1_sp2_2, f_hb1_sp3_0, f_hb1_sp3_1, f_hb1_sp3_2] at f_hb2_sp2_2
          have c_hb2_sp3_0 := hc_hb2 (w.heap.size + 3) 0 (by omega)
          simp [go_sem, c_hb1_sp1_0, c_hb1_sp1_1, c_hb1_sp1_2, f_hb1_sp1_0, f_hb1_sp1_1, f_hb1_sp1_2, c_hb1_sp2_0, c_hb1_sp2_1, c_hb1_sp2_2, c_hb1_sp3_0, c_hb1_sp3_1, c_hb1_sp3_2, f_hb1_sp2_0, f_hb1_sp2_1, f_hb1_sp2_2, f_hb1_sp3_0, f_hb1_sp3_1, f_hb1_sp3_2] at c_hb2_sp3_0
          have f_hb2_sp3_0 := hf_hb2 (w.heap.size + 3) 0 (by omega)
          simp [go_sem, c_hb1_sp1_0, c_hb1_sp1_1, c_hb1_sp1_2, f_hb1_sp1_0, f_hb1_sp1_1, f_hb1_sp1_2, c_hb1_sp2_0, c_hb1_sp2_1, c_hb1_sp2_2, c_hb1_sp3_0, c_hb1_sp3_1, c_hb1_sp3_2, f_hb1_sp2_0, f_hb1_sp2_1, f_hb1_sp2_2, f_hb1_sp3_0, f_hb1_sp3_1, f_hb1_sp3_2] at f_hb2_sp3_0
          have c_hb2_sp3_1 := hc_hb2 (w.heap.size + 3) 1 (by omega)
          simp [go_sem, c_hb1_sp1_0, c_hb1_sp1_1, c_hb1_sp1_2, f_hb1_sp1_0, f_hb1_sp1_1, f_hb1_sp1_2, c_hb1_sp2_0, c_hb1_sp2_1, c_hb1_sp2_2, c_hb1_sp3_0, c_hb1_sp3_1, c_hb1_sp3_2, f_hb1_sp2_0, f_hb1_sp2_1, f_hb1_sp2_2, f_hb1_sp3_0, f_hb1_sp3_1, f_hb1_sp3_2] at c_hb2_sp3_1
          have f_hb2_sp3_1 := hf_hb2 (w.heap.size + 3) 1 (by omega)
          simp [go_sem, c_hb1_sp1_0, c_hb1_sp1_1, c_hb1_sp1_2, f_hb1_sp1_0, f_hb1_sp1_1, f_hb1_sp1_2, c_hb1_sp2_0, c_hb1_sp2_1, c_hb1_sp2_2, c_hb1_sp3_0, c_hb1_sp3_1, c_hb1_sp3_2, f_hb1_sp2_0, f_hb1_sp2_1, f_hb1_sp2_2, f_hb1_sp3_0, f_hb1_sp3_1, f_hb1_sp3_2] at f_hb2_sp3_1
          have c_hb2_sp3_2 := hc_hb2 (w.heap.size + 3) 2 (by omega)
          simp [go_sem, c_hb1_sp1_0, c_hb1_sp1_1, c_hb1_sp1_2, f_hb1_sp1_0, f_hb1_sp1_1, f_hb1_sp1_2, c_hb1_sp2_0, c_hb1_sp2_1, c_hb1_sp2_2, c_hb1_sp3_0, c_hb1_sp3_1, c_hb1_sp3_2, f_hb1_sp2_0, f_hb1_sp2_1, f_hb1_sp2_2, f_hb1_sp3_0, f_hb1_sp3_1, f_hb1_sp3_2] at c_hb2_sp3_2
          have f_hb2_sp3_2 := hf_hb2 (w.heap.size + 3) 2 (by omega)
          simp [go_sem, c_hb1_sp1_0, c_hb1_sp1_1, c_hb1_sp1_2, f_hb1_sp1_0, f_hb1_sp1_1, f_hb1_sp1_2, c_hb1_sp2_0, c_hb1_sp2_1, c_hb1_sp2_2, c_hb1_sp3_0, c_hb1_sp3_1, c_hb1_sp3_2, f_hb1_sp2_0, f_hb1_sp2_1, f_hb1_sp2_2, f_hb1_sp3_0, f_hb1_sp3_1, f_hb1_sp3_2] at f_hb2_sp3_2
          go_wp2_with fail
          (with_reducible refine (ref_Norm ⟨lo, hi, false⟩ _ M1.out M2.out).mono ?_); rintro e w' ⟨rfl, hb3⟩
          obtain ⟨hc_hb3, hf_hb3⟩ := bcell hb3
          have hz_hb3 := size_le hb3
          repeat (first | simp only [World.size_alloc] at hc_hb3 | simp only [World.size_setCell] at hc_hb3 | simp only [World.size_drew] at hc_hb3)
          repeat (first | simp only [World.size_alloc] at hf_hb3 | simp only [World.size_setCell] at hf_hb3 | simp only [World.size_drew] at hf_hb3)
          repeat (first | simp only [World.size_alloc] at hz_hb3 | simp only [World.size_setCell] at hz_hb3 | simp only [World.size_drew] at hz_hb3)
          have hb3_ := Lib.hid (below_next (w := w) (by go_grown) hb3)
          clear hb3
          have hb3 := hb3_.out
          clear hb3_
          have c_hb3_sp2_0 := hc_hb3 (w.heap.size + 2) 0 (by omega)
          simp [go_sem, c_hb2_sp2_0, c_hb2_sp2_1, c_hb2_sp2_2, f_hb2_sp2_0, f_hb2_sp2_1, f_hb2_sp2_2] at c_hb3_sp2_0
          have f_hb3_sp2_0 := hf_hb3 (w.heap.size + 2) 0 (by omega)
          simp [go_sem, c_hb2_sp2_0, c_hb2_sp2_1, c_hb2_sp2_2, f_hb2_sp2_0, f_hb2_sp2_1, f_hb2_sp2_2] at f_hb3_sp2_0
          have c_hb3_sp2_1 := hc_hb3 (w.heap.size + 2) 1 (by omega)
          simp [go_sem, c_hb2_sp2_0, c_hb2_sp2_1, c_hb2_sp2_2, f_hb2_sp2_0, f_hb2_sp2_1, f_hb2_sp2_2] at c_hb3_sp2_1
          have f_hb3_sp2_1 := hf_hb3 (w.heap.size + 2) 1 (by omega)
          simp [go_sem, c_hb2_sp2_0, c_hb2_sp2_1, c_hb2_sp2_2, f_hb2_sp2_0, f_hb2_sp2_1, f_hb2_sp2_2] at f_hb3_sp2_1
          have c_hb3_sp2_2 := hc_hb3 (w.heap.size + 2) 2 (by omega)
          simp [go_sem, c_hb2_sp2_0, c_hb2_sp2_1, c_hb2_sp2_2, f_hb2_sp2_0, f_hb2_sp2_1, f_hb2_sp2_2] at c_hb3_sp2_2
          have f_hb3_sp2_2 := hf_hb3 (w.heap.size + 2) 2 (by omega)
          simp [go_sem, c_hb2_sp2_0, c_hb2_sp2_1, c_hb2_sp2_2, f_hb2_sp2_0, f_hb2_sp2_1, f_hb2_sp2_2] at f_hb3_sp2_2
          go_wp2
          (try simp only [Exit.inBlock, Exit.then])
          refine bodyPost_ret (by simp [results, Try.results98, go_sem, c_hb3_sp2_0, c_hb3_sp2_1, c_hb3_sp2_2]; try rfl) rfl ?_
          refine ⟨retv ?_, by go_grown⟩
          rw [← HE.out]; simp [refMeet, lt, g1, g2]
        · go_enter Try.func98, Try.ntmps98
          go_wp2_with fail
          (with_reducible refine (ref_Less _ _ M1.out M3.out _).mono ?_); rintro e w' ⟨rfl, hb1⟩
          obtain ⟨hc_hb1, hf_hb1⟩ := bcell hb1
          have hz_hb1 := size_le hb1
          repeat (first | simp only [World.size_alloc] at hc_hb1 | simp only [World.size_setCell] at hc_hb1 | simp only [World.size_drew] at hc_hb1)
          repeat (first | simp only [World.size_alloc] at hf_hb1 | simp only [World.size_setCell] at hf_hb1 | simp only [World.size_drew] at hf_hb1)
          repeat (first | simp only [World.size_alloc] at hz_hb1 | simp only [World.size_setCell] at hz_hb1 | simp only [World.size_drew] at hz_hb1)
          have hb1_ := Lib.hid (below_next (w := w) (by go_grown) hb1)
          clear hb1
          have hb1 := hb1_.out
          clear hb1_
          have c_hb1_s_0 := hc_hb1 (w.heap.size) 0 (by omega)
          simp [go_sem] at c_hb1_s_0
          have f_hb1_s_0 := hf_hb1 (w.heap.size) 0 (by omega)
          simp [go_sem] at f_hb1_s_0
          have c_hb1_s_1 := hc_hb1 (w.heap.size) 1 (by omega)
          simp [go_sem] at c_hb1_s_1
          have f_hb1_s_1 := hf_hb1 (w.heap.size) 1 (by omega)
          simp [go_sem] at f_hb1_s_1
          have c_hb1_s_2 := hc_hb1 (w.heap.size) 2 (by omega)
          simp [go_sem] at c_hb1_s_2
          have f_hb1_s_2 := hf_hb1 (w.heap.size) 2 (by omega)
          simp [go_sem] at f_hb1_s_2
          have c_hb1_sp1_0 := hc_hb1 (w.heap.size + 1) 0 (by omega)
          simp [go_sem] at c_hb1_sp1_0
          have f_hb1_sp1_0 := hf_hb1 (w.heap.size + 1) 0 (by omega)
          simp [go_sem] at f_hb1_sp1_0
          have c_hb1_sp1_1 := hc_hb1 (w.heap.size + 1) 1 (by omega)
          simp [go_sem] at c_hb1_sp1_1
          have f_hb1_sp1_1 := hf_hb1 (w.heap.size + 1) 1 (by omega)
          simp [go_sem] at f_hb1_sp1_1
          have c_hb1_sp1_2 := hc_hb1 (w.heap.size + 1) 2 (by omega)
          simp [go_sem] at c_hb1_sp1_2
          have f_hb1_sp1_2 := hf_hb1 (w.heap.size + 1) 2 (by omega)
          simp [go_sem] at f_hb1_sp1_2
          have c_hb1_sp2_0 := hc_hb1 (w.heap.size + 2) 0 (by omega)
          simp [go_sem] at c_hb1_sp2_0
          have f_hb1_sp2_0 := hf_hb1 (w.heap.size + 2) 0 (by omega)
          simp [go_sem] at f_hb1_sp2_0
          have c_hb1_sp2_1 := hc_hb1 (w.heap.size + 2) 1 (by omega)
          simp [go_sem] at c_hb1_sp2_1
          have f_hb1_sp2_1 := hf_hb1 (w.heap.size + 2) 1 (by omega)
          simp [go_sem] at f_hb1_sp2_1
          have c_hb1_sp2_2 := hc_hb1 (w.heap.size + 2) 2 (by omega)
          simp [go_sem] at c_hb1_sp2_2
          have f_hb1_sp2_2 := hf_hb1 (w.heap.size + 2) 2 (by omega)
          simp [go_sem] at f_hb1_sp2_2
          have c_hb1_sp3_0 := hc_hb1 (w.heap.size + 3) 0 (by omega)
          simp [go_sem] at c_hb1_sp3_0
          have f_hb1_sp3_0 := hf_hb1 (w.heap.size + 3) 0 (by omega)
          simp [go_sem] at f_hb1_sp3_0
          have c_hb1_sp3_1 := hc_hb1 (w.heap.size + 3) 1 (by omega)
          simp [go_sem] at c_hb1_sp3_1
          have f_hb1_sp3_1 := hf_hb1 (w.heap.size + 3) 1 (by omega)
          simp [go_sem] at f_hb1_sp3_1
          have c_hb1_sp3_2 := hc_hb1 (w.heap.size + 3) 2 (by omega)
          simp [go_sem] at c_hb1_sp3_2
          have f_hb1_sp3_2 := hf_hb1 (w.heap.size + 3) 2 (by omega)
          simp [go_sem] at f_hb1_sp3_2
          go_wp2_with fail
          (with_reducible refine (ref_Less _ _ M4.out M2.out _).mono ?_); rintro e w' ⟨rfl, hb2⟩
          obtain ⟨hc_hb2, hf_hb2⟩ := bcell hb2
          have hz_hb2 := size_le hb2
          repeat (first | simp only [World.size_alloc] at hc_hb2 | simp only [World.size_setCell] at hc_hb2 | simp only [World.size_drew] at hc_hb2)
          repeat (first | simp only [World.size_alloc] at hf_hb2 | simp only [World.size_setCell] at hf_hb2 | simp only [World.size_drew] at hf_hb2)
          repeat (first | simp only [World.size_alloc] at hz_hb2 | simp only [World.size_setCell] at hz_hb2 | simp only [World.size_drew] at hz_hb2)
          have hb2_ := Lib.hid (below_next (w := w) (by go_grown) hb2)
          clear hb2
          have hb2 := hb2_.out
          clear hb2_
          have c_hb2_sp1_0 := hc_hb2 (w.heap.size + 1) 0 (by omega)
          simp [go_sem, c_hb1_sp1_0, c_hb1_sp1_1, c_hb1_sp1_2, f_hb1_sp1_0, f_hb1_sp1_1, f_hb1_sp1_2, c_hb1_sp2_0, c_hb1_sp2_1, c_hb1_sp2_2, c_hb1_sp3_0, c_hb1_sp3_1, c_hb1_sp3_2, f_hb1_sp2_0, f_hb1_sp2_1, f_hb1_sp2_2, f_hb1_sp3_0, f_hb1_sp3_1, f_hb1_sp3_2] at c_hb2_sp1_0
          have f_hb2_sp1_0 := hf_hb2 (w.heap.size + 1) 0 (by omega)
          simp [go_sem, c_hb1_sp1_0, c_hb1_sp1_1, c_hb1_sp1_2, f_hb1_sp1_0, f_hb1_sp1_1, f_hb1_sp1_2, c_hb1_sp2_0, c_hb1_sp2_1, c_hb1_sp2_2, c_hb1_sp3_0, c_hb1_sp3_1, c_hb1_sp3_2, f_hb1_sp2_0, f_hb1_sp2_1, f_hb1_sp2_2, f_hb1_sp3_0, f_hb1_sp3_1, f_hb1_sp3_2] at f_hb2_sp1_0
          have c_hb2_sp1_1 := hc_hb2 (w.heap.size + 1) 1 (by omega)
          simp [go_sem, c_hb1_sp1_0, c_hb1_sp1_1, c_hb1_sp1_2, f_hb1_sp1_0, f_hb1_sp1_1, f_hb1_sp1_2, c_hb1_sp2_0, c_hb1_sp2_1, c_hb1_sp2_2, c_hb1_sp3_0, c_hb1_sp3_1, c_hb1_sp3_2, f_hb1_sp2_0, f_hb1_sp2_1, f_hb1_sp2_2, f_hb1_sp3_0, f_hb1_sp3_1, f_hb1_sp3_2] at c_hb2_sp1_1
          have f_hb2_sp1_1 := hf_hb2 (w.heap.size + 1) 1 (by omega)
          simp [go_sem, c_hb1_sp1_0, c_hb1_sp1_1, c_hb1_sp1_2, f_hb1_sp1_0, f_hb1_sp1_1, f_hb1_sp1_2, c_hb1_sp2_0, c_hb1_sp2_1, c_hb1_sp2_2, c_hb1_sp3_0, c_hb1_sp3_1, c_hb1_sp3_2, f_hb1_sp2_0, f_hb1_sp2_1, f_hb1_sp2_2, f_hb1_sp3_0, f_hb1_sp3_1, f_hb1_sp3_2] at f_hb2_sp1_1
          have c_hb2_sp1_2 := hc_hb2 (w.heap.size + 1) 2 (by omega)
          simp [go_sem, c_hb1_sp1_0, c_hb1_sp1_1, c_hb1_sp1_2, f_hb1_sp1_0, f_hb1_sp1_1, f_hb1_sp1_2, c_hb1_sp2_0, c_hb1_sp2_1, c_hb1_sp2_2, c_hb1_sp3_0, c_hb1_sp3_1, c_hb1_sp3_2, f_hb1_sp2_0, f_hb1_sp2_1, f_hb1_sp2_2, f_hb1_sp3_0, f_hb1_sp3_1, f_hb1_sp3_2] at c_hb2_sp1_2
          have f_hb2_sp1_2 := hf_hb2 (w.heap.size + 1) 2 (by omega)
          simp [go_sem, c_hb1_sp1_0, c_hb1_sp1_1, c_hb1_sp1_2, f_hb1_sp1_0, f_hb1_sp1_1, f_hb1_sp1_2, c_hb1_sp2_0, c_hb1_sp2_1, c_hb1_sp2_2, c_hb1_sp3_0, c_hb1_sp3_1, c_hb1_sp3_2, f_hb1_sp2_0, f_hb1_sp2_1, f_hb1_sp2_2, f_hb1_sp3_0, f_hb1_sp3_1, f_hb1_sp3_2] at f_hb2_sp1_2
          have c_hb2_sp2_0 := hc_hb2 (w.heap.size + 2) 0 (by omega)
          simp [go_sem, c_hb1_sp1_0, c_hb1_sp1_1, c_hb1_sp1_2, f_hb1_sp1_0, f_hb1_sp1_1, f_hb1_sp1_2, c_hb1_sp2_0, c_hb1_sp2_1, c_hb1_sp2_2, c_hb1_sp3_0, c_hb1_sp3_1, c_hb1_sp3_2, f_hb1_sp2_0, f_hb1_sp2_1, f_hb1_sp2_2, f_hb1_sp3_0, f_hb1_sp3_1, f_hb1_sp3_2] at c_hb2_sp2_0
          have f_hb2_sp2_0 := hf_hb2 (w.heap.size + 2) 0 (by omega)
          simp [go_sem, c_hb1_sp1_0, c_hb1_sp1_1, c_hb1_sp1_2, f_hb1_sp1_0, f_hb1_sp1_1, f_hb1_sp1_2, c_hb1_sp2_0, c_hb1_sp2_1, c_hb1_sp2_2, c_hb1_sp3_0, c_hb1_sp3_1, c_hb1_sp3_2, f_hb1_sp2_0, f_hb1_sp2_1, f_hb1_sp2_2, f_hb1_sp3_0, f_hb1_sp3_1, f_hb1_sp3_2] at f_hb2_sp2_0
          have c_hb2_sp2_1 := hc_hb2 (w.heap.size + 2) 1 (by omega)
          simp [go_sem, c_hb1_sp1_0, c_hb1_sp1_1, c_hb1_sp1_2, f_hb1_sp1_0, f_hb1_sp1_1, f_hb1_sp1_2, c_hb1_sp2_0, c_hb1_sp2_1, c_hb1_sp2_2, c_hb1_sp3_0, c_hb1_sp3_1, c_hb1_sp3_2, f_hb1_sp2_0, f_hb1_sp2_1, f_hb1_sp2_2, f_hb1_sp3_0, f_hb1_sp3_1, f_hb1_sp3_2] at c_hb2_sp2_1
          have f_hb2_sp2_1 := hf_hb2 (w.heap.size + 2) 1 (by omega)
          simp [go_sem, c_hb1_sp1_0, c_hb1_sp1_1, c_hb1_sp1_2, f_hb1_sp1_0, f_hb1_sp1_1, f_hb1_sp1_2, c_hb1_sp2_0, c_hb1_sp2_1, c_hb1_sp2_2, c_hb1_sp3_0, c_hb1_sp3_1, c_hb1_sp3_2, f_hb1_sp2_0, f_hb1_sp2_1, f_hb1_sp2_2, f_hb1_sp3_0, f_hb1_sp3_1, f_hb1_sp3_2] at f_hb2_sp2_1
          have c_hb2_sp2_2 := hc_hb2 (w.heap.size + 2) 2 (by omega)
          simp [go_sem, c_hb1_sp1_0, c_hb1_sp1_1, c_hb1_sp1_2, f_hb1_sp1_0, f_hb1_sp1_1, f_hb1_sp1_2, c_hb1_sp2_0, c_hb1_sp2_1, c_hb1_sp2_2, c_hb1_sp3_0, c_hb1_sp3_1, c_hb1_sp3_2, f_hb1_sp2_0, f_hb1_sp2_1, f_hb1_sp2_2, f_hb1_sp3_0, f_hb1_sp3_1, f_hb1_sp3_2] at c_hb2_sp2_2
          have f_hb2_sp2_2 := hf_hb2 (w.heap.size + 2) 2 (by omega)
          simp [go_sem, c_hb1_sp1_0, c_hb1_sp1_1, c_hb1_sp1_2, f_hb1_sp1_0, f_hb1_sp1_1, f_hb1_sp1_2, c_hb1_sp2_0, c_hb1_sp2_1, c_hb1_sp2_2, c_hb1_sp3_0, c_hb1_sp3_1, c_hb1_sp3_2, f_hb1_sp2_0, f_hb1_sp2_1, f_hb1_sp2_2, f_hb1_sp3_0, f_hb1_sp3_1, f_hb1_sp3_2] at f_hb2_sp2_2
          have c_hb2_sp3_0 := hc_hb2 (w.heap.size + 3) 0 (by omega)
          simp [go_sem, c_hb1_sp1_0, c_hb1_sp1_1, c_hb1_sp1_2, f_hb1_sp1_0, f_hb1_sp1_1, f_hb1_sp1_2, c_hb1_sp2_0, c_hb1_sp2_1, c_hb1_sp2_2, c_hb1_sp3_0, c_hb1_sp3_1, c_hb1_sp3_2, f_hb1_sp2_0, f_hb1_sp2_1, f_hb1_sp2_2, f_hb1_sp3_0, f_hb1_sp3_1, f_hb1_sp3_2] at c_hb2_sp3_0
          have f_hb2_sp3_0 := hf_hb2 (w.heap.size + 3) 0 (by omega)
          simp [go_sem, c_hb1_sp1_0, c_hb1_sp1_1, c_hb1_sp1_2, f_hb1_sp1_0, f_hb1_sp1_1, f_hb1_sp1_2, c_hb1_sp2_0, c_hb1_sp2_1, c_hb1_sp2_2, c_hb1_sp3_0, c_hb1_sp3_1, c_hb1_sp3_2, f_hb1_sp2_0, f_hb1_sp2_1, f_hb1_sp2_2, f_hb1_sp3_0, f_hb1_sp3_1, f_hb1_sp3_2] at f_hb2_sp3_0
          have c_hb2_sp3_1 := hc_hb2 (w.heap.size + 3) 1 (by omega)
          simp [go_sem, c_hb1_sp1_0, c_hb1_sp1_1, c_hb1_sp1_2, f_hb1_sp1_0, f_hb1_sp1_1, f_hb1_sp1_2, c_hb1_sp2_0, c_hb1_sp2_1, c_hb1_sp2_2, c_hb1_sp3_0, c_hb1_sp3_1, c_hb1_sp3_2, f_hb1_sp2_0, f_hb1_sp2_1, f_hb1_sp2_2, f_hb1_sp3_0, f_hb1_sp3_1, f_hb1_sp3_2] at c_hb2_sp3_1
          have f_hb2_sp3_1 := hf_hb2 (w.heap.size + 3) 1 (by omega)
          simp [go_sem, c_hb1_sp1_0, c_hb1_sp1_1, c_hb1_sp1_2, f_hb1_sp1_0, f_hb1_sp1_1, f_hb1_sp1_2, c_hb1_sp2_0, c_hb1_sp2_1, c_hb1_sp2_2, c_hb1_sp3_0, c_hb1_sp3_1, c_hb1_sp3_2, f_hb1_sp2_0, f_hb1_sp2_1, f_hb1_sp2_2, f_hb1_sp3_0, f_hb1_sp3_1, f_hb1_sp3_2] at f_hb2_sp3_1
          have c_hb2_sp3_2 := hc_hb2 (w.heap.size + 3) 2 (by omega)
          simp [go_sem, c_hb1_sp1_0, c_hb1_sp1_1, c_hb1_sp1_2, f_hb1_sp1_0, f_hb1_sp1_1, f_hb1_sp1_2, c_hb1_sp2_0, c_hb1_sp2_1, c_hb1_sp2_2, c_hb1_sp3_0, c_hb1_sp3_1, c_hb1_sp3_2, f_hb1_sp2_0, f_hb1_sp2_1, f_hb1_sp2_2, f_hb1_sp3_0, f_hb1_sp3_1, f_hb1_sp3_2] at c_hb2_sp3_2
          have f_hb2_sp3_2 := hf_hb2 (w.heap.size + 3) 2 (by omega)
          simp [go_sem, c_hb1_sp1_0, c_hb1_sp1_1, c_hb1_sp1_2, f_hb1_sp1_0, f_hb1_sp1_1, f_hb1_sp1_2, c_hb1_sp2_0, c_hb1_sp2_1, c_hb1_sp2_2, c_hb1_sp3_0, c_hb1_sp3_1, c_hb1_sp3_2, f_hb1_sp2_0, f_hb1_sp2_1, f_hb1_sp2_2, f_hb1_sp3_0, f_hb1_sp3_1, f_hb1_sp3_2] at f_hb2_sp3_2
          go_wp2_with fail
          (with_reducible refine (ref_Norm ⟨lo, hi', false⟩ _ M1.out M4.out).mono ?_); rintro e w' ⟨rfl, hb3⟩
          obtain ⟨hc_hb3, hf_hb3⟩ := bcell hb3
          have hz_hb3 := size_le hb3
          repeat (first | simp only [World.size_alloc] at hc_hb3 | simp only [World.size_setCell] at hc_hb3 | simp only [World.size_drew] at hc_hb3)
          repeat (first | simp only [World.size_alloc] at hf_hb3 | simp only [World.size_setCell] at hf_hb3 | simp only [World.size_drew] at hf_hb3)
          repeat (first | simp only [World.size_alloc] at hz_hb3 | simp only [World.size_setCell] at hz_hb3 | simp only [World.size_drew] at hz_hb3)
          have hb3_ := Lib.hid (below_next (w := w) (by go_grown) hb3)
          clear hb3
          have hb3 := hb3_.out
          clear hb3_
          have c_hb3_sp2_0 := hc_hb3 (w.heap.size + 2) 0 (by omega)
          simp [go_sem, c_hb2_sp2_0, c_hb2_sp2_1, c_hb2_sp2_2, f_hb2_sp2_0, f_hb2_sp2_1, f_hb2_sp2_2] at c_hb3_sp2_0
          have f_hb3_sp2_0 := hf_hb3 (w.heap.size + 2) 0 (by omega)
          simp [go_sem, c_hb2_sp2_0, c_hb2_sp2_1, c_hb2_sp2_2, f_hb2_sp2_0, f_hb2_sp2_1, f_hb2_sp2_2] at f_hb3_sp2_0
          have c_hb3_sp2_1 := hc_hb3 (w.heap.size + 2) 1 (by omega)
          simp [go_sem, c_hb2_sp2_0, c_hb2_sp2_1, c_hb2_sp2_2, f_hb2_sp2_0, f_hb2_sp2_1, f_hb2_sp2_2] at c_hb3_sp2_1
          have f_hb3_sp2_1 := hf_hb3 (w.heap.size + 2) 1 (by omega)
          simp [go_sem, c_hb2_sp2_0, c_hb2_sp2_1, c_hb2_sp2_2, f_hb2_sp2_0, f_hb2_sp2_1, f_hb2_sp2_2] at f_hb3_sp2_1
          have c_hb3_sp2_2 := hc_hb3 (w.heap.size + 2) 2 (by omega)
          simp [go_sem, c_hb2_sp2_0, c_hb2_sp2_1, c_hb2_sp2_2, f_hb2_sp2_0, f_hb2_sp2_1, f_hb2_sp2_2] at c_hb3_sp2_2
          have f_hb3_sp2_2 := hf_hb3 (w.heap.size + 2) 2 (by omega)
          simp [go_sem, c_hb2_sp2_0, c_hb2_sp2_1, c_hb2_sp2_2, f_hb2_sp2_0, f_hb2_sp2_1, f_hb2_sp2_2] at f_hb3_sp2_2
          go_wp2
          (try simp only [Exit.inBlock, Exit.then])
          refine bodyPost_ret (by simp [results, Try.results98, go_sem, c_hb3_sp2_0, c_hb3_sp2_1, c_hb3_sp2_2]; try rfl) rfl ?_
          refine ⟨retv ?_, by go_grown⟩
          rw [← HE.out]; simp [refMeet, lt, g1, g2]
      · go_enter Try.func98, Try.ntmps98
        go_wp2_with fail
        (with_reducible refine (ref_Less _ _ M1.out M3.out _).mono ?_); rintro e w' ⟨rfl, hb1⟩
        obtain ⟨hc_hb1, hf_hb1⟩ := bcell hb1
        have hz_hb1 := size_le hb1
        repeat (first | simp only [World.size_alloc] at hc_hb1 | simp only [World.size_setCell] at hc_hb1 | simp only [World.size_drew] at hc_hb1)
        repeat (first | simp only [World.size_alloc] at hf_hb1 | simp only [World.size_setCell] at hf_hb1 | simp only [World.size_drew] at hf_hb1)
        repeat (first | simp only [World.size_alloc] at hz_hb1 | simp only [World.size_setCell] at hz_hb1 | simp only [World.size_drew] at hz_hb1)
        have hb1_ := Lib.hid (below_next (w := w) (by go_grown) hb1)
        clear hb1
        have hb1 := hb1_.out
        clear hb1_
        have c_hb1_s_0 := hc_hb1 (w.heap.size) 0 (by omega)
        simp [go_sem] at c_hb1_s_0
        have f_hb1_s_0 := hf_hb1 (w.heap.size) 0 (by omega)
        simp [go_sem] at f_hb1_s_0
        have c_hb1_s_1 := hc_hb1 (w.heap.size) 1 (by omega)
        simp [go_sem] at c_hb1_s_1
        have f_hb1_s_1 := hf_hb1 (w.heap.size) 1 (by omega)
        simp [go_sem] at f_hb1_s_1
        have c_hb1_s_2 := hc_hb1 (w.heap.size) 2 (by omega)
        simp [go_sem] at c_hb1_s_2
        have f_hb1_s_2 := hf_hb1 (w.heap.size) 2 (by omega)
        simp [go_sem] at f_hb1_s_2
        have c_hb1_sp1_0 := hc_hb1 (w.heap.size + 1) 0 (by omega)
        simp [go_sem] at c_hb1_sp1_0
        have f_hb1_sp1_0 := hf_hb1 (w.heap.size + 1) 0 (by omega)
        simp [go_sem] at f_hb1_sp1_0
        have c_hb1_sp1_1 := hc_hb1 (w.heap.size + 1) 1 (by omega)
        simp [go_sem] at c_hb1_sp1_1
        have f_hb1_sp1_1 := hf_hb1 (w.heap.size + 1) 1 (by omega)
        simp [go_sem] at f_hb1_sp1_1
        have c_hb1_sp1_2 := hc_hb1 (w.heap.size + 1) 2 (by omega)
        simp [go_sem] at c_hb1_sp1_2
        have f_hb1_sp1_2 := hf_hb1 (w.heap.size + 1) 2 (by omega)
        simp [go_sem] at f_hb1_sp1_2
        have c_hb1_sp2_0 := hc_hb1 (w.heap.size + 2) 0 (by omega)
        simp [go_sem] at c_hb1_sp2_0
        have f_hb1_sp2_0 := hf_hb1 (w.heap.size + 2) 0 (by omega)
        simp [go_sem] at f_hb1_sp2_0
        have c_hb1_sp2_1 := hc_hb1 (w.heap.size + 2) 1 (by omega)
        simp [go_sem] at c_hb1_sp2_1
        have f_hb1_sp2_1 := hf_hb1 (w.heap.size + 2) 1 (by omega)
        simp [go_sem] at f_hb1_sp2_1
        have c_hb1_sp2_2 := hc_hb1 (w.heap.size + 2) 2 (by omega)
        simp [go_sem] at c_hb1_sp2_2
        have f_hb1_sp2_2 := hf_hb1 (w.heap.size + 2) 2 (by omega)
        simp [go_sem] at f_hb1_sp2_2
        have c_hb1_sp3_0 := hc_hb1 (w.heap.size + 3) 0 (by omega)
        simp [go_sem] at c_hb1_sp3_0
        have f_hb1_sp3_0 := hf_hb1 (w.heap.size + 3) 0 (by omega)
        simp [go_sem] at f_hb1_sp3_0
        have c_hb1_sp3_1 := hc_hb1 (w.heap.size + 3) 1 (by omega)
        simp [go_sem] at c_hb1_sp3_1
        have f_hb1_sp3_1 := hf_hb1 (w.heap.size + 3) 1 (by omega)
        simp [go_sem] at f_hb1_sp3_1
        have c_hb1_sp3_2 := hc_hb1 (w.heap.size + 3) 2 (by omega)
        simp [go_sem] at c_hb1_sp3_2
        have f_hb1_sp3_2 := hf_hb1 (w.heap.size + 3) 2 (by omega)
        simp [go_sem] at f_hb1_sp3_2
        go_wp2_with fail
        (with_reducible refine (ref_Norm ⟨lo, hi', false⟩ _ M1.out M4.out).mono ?_); rintro e w' ⟨rfl, hb3⟩
        obtain ⟨hc_hb3, hf_hb3⟩ := bcell hb3
        have hz_hb3 := size_le hb3
        repeat (first | simp only [World.size_alloc] at hc_hb3 | simp only [World.size_setCell] at hc_hb3 | simp only [World.size_drew] at hc_hb3)
        repeat (first | simp only [World.size_alloc] at hf_hb3 | simp only [World.size_setCell] at hf_hb3 | simp only [World.size_drew] at hf_hb3)
        repeat (first | simp only [World.size_alloc] at hz_hb3 | simp only [World.size_setCell] at hz_hb3 | simp only [World.size_drew] at hz_hb3)
        have hb3_ := Lib.hid (below_next (w := w) (by go_grown) hb3)
        clear hb3
        have hb3 := hb3_.out
        clear hb3_
        have c_hb3_sp2_0 := hc_hb3 (w.heap.size + 2) 0 (by omega)
        simp [go_sem, c_hb1_sp2_0, c_hb1_sp2_1, c_hb1_sp2_2, f_hb1_sp2_0, f_hb1_sp2_1, f_hb1_sp2_2] at c_hb3_sp2_0
        have f_hb3_sp2_0 := hf_hb3 (w.heap.size + 2) 0 (by omega)
        simp [go_sem, c_hb1_sp2_0, c_hb1_sp2_1, c_hb1_sp2_2, f_hb1_sp2_0, f_hb1_sp2_1, f_hb1_sp2_2] at f_hb3_sp2_0
        have c_hb3_sp2_1 := hc_hb3 (w.heap.size + 2) 1 (by omega)
        simp [go_sem, c_hb1_sp2_0, c_hb1_sp2_1, c_hb1_sp2_2, f_hb1_sp2_0, f_hb1_sp2_1, f_hb1_sp2_2] at c_hb3_sp2_1
        have f_hb3_sp2_1 := hf_hb3 (w.heap.size + 2) 1 (by omega)
        simp [go_sem, c_hb1_sp2_0, c_hb1_sp2_1, c_hb1_sp2_2, f_hb1_sp2_0, f_hb1_sp2_1, f_hb1_sp2_2] at f_hb3_sp2_1
        have c_hb3_sp2_2 := hc_hb3 (w.heap.size + 2) 2 (by omega)
        simp [go_sem, c_hb1_sp2_0, c_hb1_sp2_1, c_hb1_sp2_2, f_hb1_sp2_0, f_hb1_sp2_1, f_hb1_sp2_2] at c_hb3_sp2_2
        have f_hb3_sp2_2 := hf_hb3 (w.heap.size + 2) 2 (by omega)
        simp [go_sem, c_hb1_sp2_0, c_hb1_sp2_1, c_hb1_sp2_2, f_hb1_sp2_0, f_hb1_sp2_1, f_hb1_sp2_2] at f_hb3_sp2_2
        go_wp2
        (try simp only [Exit.inBlock, Exit.then])
        refine bodyPost_ret (by simp [results, Try.results98, go_sem, c_hb3_sp2_0, c_hb3_sp2_1, c_hb3_sp2_2]; try rfl) rfl ?_
        refine ⟨retv ?_, by go_grown⟩
        rw [← HE.out]; simp [refMeet, lt, g1]
    · cases o
      · go_enter Try.func98, Try.ntmps98
        go_wp2_with fail
        (with_reducible refine (ref_Less _ _ M1.out M3.out _).mono ?_); rintro e w' ⟨rfl, hb1⟩
        obtain ⟨hc_hb1, hf_hb1⟩ := bcell hb1
        have hz_hb1 := size_le hb1
        repeat (first | simp only [World.size_alloc] at hc_hb1 | simp only [World.size_setCell] at hc_hb1 | simp only [World.size_drew] at hc_hb1)
        repeat (first | simp only [World.size_alloc] at hf_hb1 | simp only [World.size_setCell] at hf_hb1 | simp only [World.size_drew] at hf_hb1)
        repeat (first | simp only [World.size_alloc] at hz_hb1 | simp only [World.size_setCell] at hz_hb1 | simp only [World.size_drew] at hz_hb1)
        have hb1_ := Lib.hid (below_next (w := w) (by go_grown) hb1)
        clear hb1
        have hb1 := hb1_.out
        clear hb1_
        have c_hb1_s_0 := hc_hb1 (w.heap.size) 0 (by omega)
        simp [go_sem] at c_hb1_s_0
        have f_hb1_s_0 := hf_hb1 (w.heap.size) 0 (by omega)
        simp [go_sem] at f_hb1_s_0
        have c_hb1_s_1 := hc_hb1 (w.heap.size) 1 (by omega)
        simp [go_sem] at c_hb1_s_1
        have f_hb1_s_1 := hf_hb1 (w.heap.size) 1 (by omega)
        simp [go_sem] at f_hb1_s_1
        have c_hb1_s_2 := hc_hb1 (w.heap.size) 2 (by omega)
        simp [go_sem] at c_hb1_s_2
        have f_hb1_s_2 := hf_hb1 (w.heap.size) 2 (by omega)
        simp [go_sem] at f_hb1_s_2
        have c_hb1_sp1_0 := hc_hb1 (w.heap.size + 1) 0 (by omega)
        simp [go_sem] at c_hb1_sp1_0
        have f_hb1_sp1_0 := hf_hb1 (w.heap.size + 1) 0 (by omega)
        simp [go_sem] at f_hb1_sp1_0
        have c_hb1_sp1_1 := hc_hb1 (w.heap.size + 1) 1 (by omega)
        simp [go_sem] at c_hb1_sp1_1
        have f_hb1_sp1_1 := hf_hb1 (w.heap.size + 1) 1 (by omega)
        simp [go_sem] at f_hb1_sp1_1
        have c_hb1_sp1_2 := hc_hb1 (w.heap.size + 1) 2 (by omega)
        simp [go_sem] at c_hb1_sp1_2
        have f_hb1_sp1_2 := hf_hb1 (w.heap.size + 1) 2 (by omega)
        simp [go_sem] at f_hb1_sp1_2
        have c_hb1_sp2_0 := hc_hb1 (w.heap.size + 2) 0 (by omega)
        simp [go_sem] at c_hb1_sp2_0
        have f_hb1_sp2_0 := hf_hb1 (w.heap.size + 2) 0 (by omega)
        simp [go_sem] at f_hb1_sp2_0
        have c_hb1_sp2_1 := hc_hb1 (w.heap.size + 2) 1 (by omega)
        simp [go_sem] at c_hb1_sp2_1
        have f_hb1_sp2_1 := hf_hb1 (w.heap.size + 2) 1 (by omega)
        simp [go_sem] at f_hb1_sp2_1
        have c_hb1_sp2_2 := hc_hb1 (w.heap.size + 2) 2 (by omega)
        simp [go_sem] at c_hb1_sp2_2
        have f_hb1_sp2_2 := hf_hb1 (w.heap.size + 2) 2 (by omega)
        simp [go_sem] at f_hb1_sp2_2
        have c_hb1_sp3_0 := hc_hb1 (w.heap.size + 3) 0 (by omega)
        simp [go_sem] at c_hb1_sp3_0
        have f_hb1_sp3_0 := hf_hb1 (w.heap.size + 3) 0 (by omega)
        simp [go_sem] at f_hb1_sp3_0
        have c_hb1_sp3_1 := hc_hb1 (w.heap.size + 3) 1 (by omega)
        simp [go_sem] at c_hb1_sp3_1
        have f_hb1_sp3_1 := hf_hb1 (w.heap.size + 3) 1 (by omega)
        simp [go_sem] at f_hb1_sp3_1
        have c_hb1_sp3_2 := hc_hb1 (w.heap.size + 3) 2 (by omega)
        simp [go_sem] at c_hb1_sp3_2
        have f_hb1_sp3_2 := hf_hb1 (w.heap.size + 3) 2 (by omega)
        simp [go_sem] at f_hb1_sp3_2
        go_wp2_with fail
        (with_reducible refine (ref_Norm ⟨lo, hi, false⟩ _ M1.out M2.out).mono ?_); rintro e w' ⟨rfl, hb3⟩
        obtain ⟨hc_hb3, hf_hb3⟩ := bcell hb3
        have hz_hb3 := size_le hb3
        repeat (first | simp only [World.size_alloc] at hc_hb3 | simp only [World.size_setCell] at hc_hb3 | simp only [World.size_drew] at hc_hb3)
        repeat (first | simp only [World.size_alloc] at hf_hb3 | simp only [World.size_setCell] at hf_hb3 | simp only [World.size_drew] at hf_hb3)
        repeat (first | simp only [World.size_alloc] at hz_hb3 | simp only [World.size_setCell] at hz_hb3 | simp only [World.size_drew] at hz_hb3)
        have hb3_ := Lib.hid (below_next (w := w) (by go_grown) hb3)
        clear hb3
        have hb3 := hb3_.out
        clear hb3_
        have c_hb3_sp2_0 := hc_hb3 (w.heap.size + 2) 0 (by omega)
        simp [go_sem, c_hb1_sp2_0, c_hb1_sp2_1, c_hb1_sp2_2, f_hb1_sp2_0, f_hb1_sp2_1, f_hb1_sp2_2] at c_hb3_sp2_0
        have f_hb3_sp2_0 := hf_hb3 (w.heap.size + 2) 0 (by omega)
        simp [go_sem, c_hb1_sp2_0, c_hb1_sp2_1, c_hb1_sp2_2, f_hb1_sp2_0, f_hb1_sp2_1, f_hb1_sp2_2] at f_hb3_sp2_0
        have c_hb3_sp2_1 := hc_hb3 (w.heap.size + 2) 1 (by omega)
        simp [go_sem, c_hb1_sp2_0, c_hb1_sp2_1, c_hb1_sp2_2, f_hb1_sp2_0, f_hb1_sp2_1, f_hb1_sp2_2] at c_hb3_sp2_1
        have f_hb3_sp2_1 := hf_hb3 (w.heap.size + 2) 1 (by omega)
        simp [go_sem, c_hb1_sp2_0, c_hb1_sp2_1, c_hb1_sp2_2, f_hb1_sp2_0, f_hb1_sp2_1, f_hb1_sp2_2] at f_hb3_sp2_1
        have c_hb3_sp2_2 := hc_hb3 (w.heap.size + 2) 2 (by omega)
        simp [go_sem, c_hb1_sp2_0, c_hb1_sp2_1, c_hb1_sp2_2, f_hb1_sp2_0, f_hb1_sp2_1, f_hb1_sp2_2] at c_hb3_sp2_2
        have f_hb3_sp2_2 := hf_hb3 (w.heap.size + 2) 2 (by omega)
        simp [go_sem, c_hb1_sp2_0, c_hb1_sp2_1, c_hb1_sp2_2, f_hb1_sp2_0, f_hb1_sp2_1, f_hb1_sp2_2] at f_hb3_sp2_2
        go_wp2
        (try simp only [Exit.inBlock, Exit.then])
        refine bodyPost_ret (by simp [results, Try.results98, go_sem, c_hb3_sp2_0, c_hb3_sp2_1, c_hb3_sp2_2]; try rfl) rfl ?_
        refine ⟨retv ?_, by go_grown⟩
        rw [← HE.out]; simp [refMeet, lt, g1]
      · go_enter Try.func98, Try.ntmps98
        go_wp2_with fail
        (with_reducible refine (ref_Less _ _ M1.out M3.out _).mono ?_); rintro e w' ⟨rfl, hb1⟩
        obtain ⟨hc_hb1, hf_hb1⟩ := bcell hb1
        have hz_hb1 := size_le hb1
        repeat (first | simp only [World.size_alloc] at hc_hb1 | simp only [World.size_setCell] at hc_hb1 | simp only [World.size_drew] at hc_hb1)
        repeat (first | simp only [World.size_alloc] at hf_hb1 | simp only [World.size_setCell] at hf_hb1 | simp only [World.size_drew] at hf_hb1)
        repeat (first | simp only [World.size_alloc] at hz_hb1 | simp only [World.size_setCell] at hz_hb1 | simp only [World.size_drew] at hz_hb1)
        have hb1_ := Lib.hid (below_next (w := w) (by go_grown) hb1)
        clear hb1
        have hb1 := hb1_.out
        clear hb1_
        have c_hb1_s_0 := hc_hb1 (w.heap.size) 0 (by omega)
        simp [go_sem] at c_hb1_s_0
        have f_hb1_s_0 := hf_hb1 (w.heap.size) 0 (by omega)
        simp [go_sem] at f_hb1_s_0
        have c_hb1_s_1 := hc_hb1 (w.heap.size) 1 (by omega)
        simp [go_sem] at c_hb1_s_1
        have f_hb1_s_1 := hf_hb1 (w.heap.size) 1 (by omega)
        simp [go_sem] at f_hb1_s_1
        have c_hb1_s_2 := hc_hb1 (w.heap.size) 2 (by omega)
        simp [go_sem] at c_hb1_s_2
        have f_hb1_s_2 := hf_hb1 (w.heap.size) 2 (by omega)
        simp [go_sem] at f_hb1_s_2
        have c_hb1_sp1_0 := hc_hb1 (w.heap.size + 1) 0 (by omega)
        simp [go_sem] at c_hb1_sp1_0
        have f_hb1_sp1_0 := hf_hb1 (w.heap.size + 1) 0 (by omega)
        simp [go_sem] at f_hb1_sp1_0
        have c_hb1_sp1_1 := hc_hb1 (w.heap.size + 1) 1 (by omega)
        simp [go_sem] at c_hb1_sp1_1
        have f_hb1_sp1_1 := hf_hb1 (w.heap.size + 1) 1 (by omega)
        simp [go_sem] at f_hb1_sp1_1
        have c_hb1_sp1_2 := hc_hb1 (w.heap.size + 1) 2 (by omega)
        simp [go_sem] at c_hb1_sp1_2
        have f_hb1_sp1_2 := hf_hb1 (w.heap.size + 1) 2 (by omega)
        simp [go_sem] at f_hb1_sp1_2
        have c_hb1_sp2_0 := hc_hb1 (w.heap.size + 2) 0 (by omega)
        simp [go_sem] at c_hb1_sp2_0
        have f_hb1_sp2_0 := hf_hb1 (w.heap.size + 2) 0 (by omega)
        simp [go_sem] at f_hb1_sp2_0
        have c_hb1_sp2_1 := hc_hb1 (w.heap.size + 2) 1 (by omega)
        simp [go_sem] at c_hb1_sp2_1
        have f_hb1_sp2_1 := hf_hb1 (w.heap.size + 2) 1 (by omega)
        simp [go_sem] at f_hb1_sp2_1
        have c_hb1_sp2_2 := hc_hb1 (w.heap.size + 2) 2 (by omega)
        simp [go_sem] at c_hb1_sp2_2
        have f_hb1_sp2_2 := hf_hb1 (w.heap.size + 2) 2 (by omega)
        simp [go_sem] at f_hb1_sp2_2
        have c_hb1_sp3_0 := hc_hb1 (w.heap.size + 3) 0 (by omega)
        simp [go_sem] at c_hb1_sp3_0
        have f_hb1_sp3_0 := hf_hb1 (w.heap.size + 3) 0 (by omega)
        simp [go_sem] at f_hb1_sp3_0
        have c_hb1_sp3_1 := hc_hb1 (w.heap.size + 3) 1 (by omega)
        simp [go_sem] at c_hb1_sp3_1
        have f_hb1_sp3_1 := hf_hb1 (w.heap.size + 3) 1 (by omega)
        simp [go_sem] at f_hb1_sp3_1
        have c_hb1_sp3_2 := hc_hb1 (w.heap.size + 3) 2 (by omega)
        simp [go_sem] at c_hb1_sp3_2
        have f_hb1_sp3_2 := hf_hb1 (w.heap.size + 3) 2 (by omega)
        simp [go_sem] at f_hb1_sp3_2
        go_wp2_with fail
        (with_reducible refine (ref_Norm ⟨lo, hi, true⟩ _ M1.out M2.out).mono ?_); rintro e w' ⟨rfl, hb3⟩
        obtain ⟨hc_hb3, hf_hb3⟩ := bcell hb3
        have hz_hb3 := size_le hb3
        repeat (first | simp only [World.size_alloc] at hc_hb3 | simp only [World.size_setCell] at hc_hb3 | simp only [World.size_drew] at hc_hb3)
        repeat (first | simp only [World.size_alloc] at hf_hb3 | simp only [World.size_setCell] at hf_hb3 | simp only [World.size_drew] at hf_hb3)
        repeat (first | simp only [World.size_alloc] at hz_hb3 | simp only [World.size_setCell] at hz_hb3 | simp only [World.size_drew] at hz_hb3)
        have hb3_ := Lib.hid (below_next (w := w) (by go_grown) hb3)
        clear hb3
        have hb3 := hb3_.out
        clear hb3_
        have c_hb3_sp2_0 := hc_hb3 (w.heap.size + 2) 0 (by omega)
        simp [go_sem, c_hb1_sp2_0, c_hb1_sp2_1, c_hb1_sp2_2, f_hb1_sp2_0, f_hb1_sp2_1, f_hb1_sp2_2] at c_hb3_sp2_0
        have f_hb3_sp2_0 := hf_hb3 (w.heap.size + 2) 0 (by omega)
        simp [go_sem, c_hb1_sp2_0, c_hb1_sp2_1, c_hb1_sp2_2, f_hb1_sp2_0, f_hb1_sp2_1, f_hb1_sp2_2] at f_hb3_sp2_0
        have c_hb3_sp2_1 := hc_hb3 (w.heap.size + 2) 1 (by omega)
        simp [go_sem, c_hb1_sp2_0, c_hb1_sp2_1, c_hb1_sp2_2, f_hb1_sp2_0, f_hb1_sp2_1, f_hb1_sp2_2] at c_hb3_sp2_1
        have f_hb3_sp2_1 := hf_hb3 (w.heap.size + 2) 1 (by omega)
        simp [go_sem, c_hb1_sp2_0, c_hb1_sp2_1, c_hb1_sp2_2, f_hb1_sp2_0, f_hb1_sp2_1, f_hb1_sp2_2] at f_hb3_sp2_1
        have c_hb3_sp2_2 := hc_hb3 (w.heap.size + 2) 2 (by omega)
        simp [go_sem, c_hb1_sp2_0, c_hb1_sp2_1, c_hb1_sp2_2, f_hb1_sp2_0, f_hb1_sp2_1, f_hb1_sp2_2] at c_hb3_sp2_2
        have f_hb3_sp2_2 := hf_hb3 (w.heap.size + 2) 2 (by omega)
        simp [go_sem, c_hb1_sp2_0, c_hb1_sp2_1, c_hb1_sp2_2, f_hb1_sp2_0, f_hb1_sp2_1, f_hb1_sp2_2] at f_hb3_sp2_2
        go_wp2
        (try simp only [Exit.inBlock, Exit.then])
        refine bodyPost_ret (by simp [results, Try.results98, go_sem, c_hb3_sp2_0, c_hb3_sp2_1, c_hb3_sp2_2]; try rfl) rfl ?_
        refine ⟨retv ?_, by go_grown⟩
        rw [← HE.out]; simp [refMeet, lt, g1]
  · cases o'
    · cases o
      · cases g2 : Op.bytesLess hi'.toList hi.toList
        · go_enter Try.func98, Try.ntmps98
          go_wp2_with fail
          (with_reducible refine (ref_Less _ _ M1.out M3.out _).mono ?_); rintro e w' ⟨rfl, hb1⟩
          obtain ⟨hc_hb1, hf_hb1⟩ := bcell hb1
          have hz_hb1 := size_le hb1
          repeat (first | simp only [World.size_alloc] at hc_hb1 | simp only [World.size_setCell] at hc_hb1 | simp only [World.size_drew] at hc_hb1)
          repeat (first | simp only [World.size_alloc] at hf_hb1 | simp only [World.size_setCell] at hf_hb1 | simp only [World.size_drew] at hf_hb1)
          repeat (first | simp only [World.size_alloc] at hz_hb1 | simp only [World.size_setCell] at hz_hb1 | simp only [World.size_drew] at hz_hb1)
          have hb1_ := Lib.hid (below_next (w := w) (by go_grown) hb1)
          clear hb1
          have hb1 := hb1_.out
          clear hb1_
          have c_hb1_s_0 := hc_hb1 (w.heap.size) 0 (by omega)
          simp [go_sem] at c_hb1_s_0
          have f_hb1_s_0 := hf_hb1 (w.heap.size) 0 (by omega)
          simp [go_sem] at f_hb1_s_0
          have c_hb1_s_1 := hc_hb1 (w.heap.size) 1 (by omega)
          simp [go_sem] at c_hb1_s_1
          have f_hb1_s_1 := hf_hb1 (w.heap.size) 1 (by omega)
          simp [go_sem] at f_hb1_s_1
          have c_hb1_s_2 := hc_hb1 (w.heap.size) 2 (by omega)
          simp [go_sem] at c_hb1_s_2
          have f_hb1_s_2 := hf_hb1 (w.heap.size) 2 (by omega)
          simp [go_sem] at f_hb1_s_2
          have c_hb1_sp1_0 := hc_hb1 (w.heap.size + 1) 0 (by omega)
          simp [go_sem] at c_hb1_sp1_0
          have f_hb1_sp1_0 := hf_hb1 (w.heap.size + 1) 0 (by omega)
          simp [go_sem] at f_hb1_sp1_0
          have c_hb1_sp1_1 := hc_hb1 (w.heap.size + 1) 1 (by omega)
          simp [go_sem] at c_hb1_sp1_1
          have f_hb1_sp1_1 := hf_hb1 (w.heap.size + 1) 1 (by omega)
          simp [go_sem] at f_hb1_sp1_1
          have c_hb1_sp1_2 := hc_hb1 (w.heap.size + 1) 2 (by omega)
          simp [go_sem] at c_hb1_sp1_2
          have f_hb1_sp1_2 := hf_hb1 (w.heap.size + 1) 2 (by omega)
          simp [go_sem] at f_hb1_sp1_2
          have c_hb1_sp2_0 := hc_hb1 (w.heap.size + 2) 0 (by omega)
          simp [go_sem] at c_hb1_sp2_0
          have f_hb1_sp2_0 := hf_hb1 (w.heap.size + 2) 0 (by omega)
          simp [go_sem] at f_hb1_sp2_0
          have c_hb1_sp2_1 := hc_hb1 (w.heap.size + 2) 1 (by omega)
          simp [go_sem] at c_hb1_sp2_1
          have f_hb1_sp2_1 := hf_hb1 (w.heap.size + 2) 1 (by omega)
          simp [go_sem] at f_hb1_sp2_1
          have c_hb1_sp2_2 := hc_hb1 (w.heap.size + 2) 2 (by omega)
          simp [go_sem] at c_hb1_sp2_2
          have f_hb1_sp2_2 := hf_hb1 (w.heap.size + 2) 2 (by omega)
          simp [go_sem] at f_hb1_sp2_2
          have c_hb1_sp3_0 := hc_hb1 (w.heap.size + 3) 0 (by omega)
          simp [go_sem] at c_hb1_sp3_0
          have f_hb1_sp3_0 := hf_hb1 (w.heap.size + 3) 0 (by omega)
          simp [go_sem] at f_hb1_sp3_0
          have c_hb1_sp3_1 := hc_hb1 (w.heap.size + 3) 1 (by omega)
          simp [go_sem] at c_hb1_sp3_1
          have f_hb1_sp3_1 := hf_hb1 (w.heap.size + 3) 1 (by omega)
          simp [go_sem] at f_hb1_sp3_1
          have c_hb1_sp3_2 := hc_hb1 (w.heap.size + 3) 2 (by omega)
          simp [go_sem] at c_hb1_sp3_2
          have f_hb1_sp3_2 := hf_hb1 (w.heap.size + 3) 2 (by omega)
          simp [go_sem] at f_hb1_sp3_2
          go_wp2_with fail
          (with_reducible refine (ref_Less _ _ M4.out M2.out _).mono ?_); rintro e w' ⟨rfl, hb2⟩
          obtain ⟨hc_hb2, hf_hb2⟩ := bcell hb2
          have hz_hb2 := size_le hb2
          repeat (first | simp only [World.size_alloc] at hc_hb2 | simp only [World.size_setCell] at hc_hb2 | simp only [World.size_drew] at hc_hb2)
          repeat (first | simp only [World.size_alloc] at hf_hb2 | simp only [World.size_setCell] at hf_hb2 | simp only [World.size_drew] at hf_hb2)
          repeat (first | simp only [World.size_alloc] at hz_hb2 | simp only [World.size_setCell] at hz_hb2 | simp only [World.size_drew] at hz_hb2)
          have hb2_ := Lib.hid (below_next (w := w) (by go_grown) hb2)
          clear hb2
          have hb2 := hb2_.out
          clear hb2_
          have c_hb2_sp1_0 := hc_hb2 (w.heap.size + 1) 0 (by omega)
          simp [go_sem, c_hb1_sp1_0, c_hb1_sp1_1, c_hb1_sp1_2, f_hb1_sp1_0, f_hb1_sp1_1, f_hb1_sp1_2, c_hb1_sp2_0, c_hb1_sp2_1, c_hb1_sp2_2, c_hb1_sp3_0, c_hb1_sp3_1, c_hb1_sp3_2, f_hb1_sp2_0, f_hb1_sp2_1, f_hb1_sp2_2, f_hb1_sp3_0, f_hb1_sp3_1, f_hb1_sp3_2] at c_hb2_sp1_0
          have f_hb2_sp1_0 := hf_hb2 (w.heap.size + 1) 0 (by omega)
          simp [go_sem, c_hb1_sp1_0, c_hb1_sp1_1, c_hb1_sp1_2, f_hb1_sp1_0, f_hb1_sp1_1, f_hb1_sp1_2, c_hb1_sp2_0, c_hb1_sp2_1, c_hb1_sp2_2, c_hb1_sp3_0, c_hb1_sp3_1, c_hb1_sp3_2, f_hb1_sp2_0, f_hb1_sp2_1, f_hb1_sp2_2, f_hb1_sp3_0, f_hb1_sp3_1, f_hb1_sp3_2] at f_hb2_sp1_0
          have c_hb2_sp1_1 := hc_hb2 (w.heap.size + 1) 1 (by omega)
          simp [go_sem, c_hb1_sp1_0, c_hb1_sp1_1, c_hb1_sp1_2, f_hb1_sp1_0, f_hb1_sp1_1, f_hb1_sp1_2, c_hb1_sp2_0, c_hb1_sp2_1, c_hb1_sp2_2, c_hb1_sp3_0, c_hb1_sp3_1, c_hb1_sp3_2, f_hb1_sp2_0, f_hb1_sp2_1, f_hb1_sp2_2, f_hb1_sp3_0, f_hb1_sp3_1, f_hb1_sp3_2] at c_hb2_sp1_1
          have f_hb2_sp1_1 := hf_hb2 (w.heap.size + 1) 1 (by omega)
          simp [go_sem, c_hb1_sp1_0, c_hb1_sp1_1, c_hb1_sp1_2, f_hb1_sp1_0, f_hb1_sp1_1, f_hb1_sp1_2, c_hb1_sp2_0, c_hb1_sp2_1, c_hb1_sp2_2, c_hb1_sp3_0, c_hb1_sp3_1, c_hb1_sp3_2, f_hb1_sp2_0, f_hb1_sp2_1, f_hb1_sp2_2, f_hb1_sp3_0, f_hb1_sp3_1, f_hb1_sp3_2] at f_hb2_sp1_1
          have c_hb2_sp1_2 := hc_hb2 (w.heap.size + 1) 2 (by omega)
          simp [go_sem, c_hb1_sp1_0, c_hb1_sp1_1, c_hb1_sp1_2, f_hb1_sp1_0, f_hb1_sp1_1, f_hb1_sp1_2, c_hb1_sp2_0, c_hb1_sp2_1, c_hb1_sp2_2, c_hb1_sp3_0, c_hb1_sp3_1, c_hb1_sp3_2, f_hb1_sp2_0, f_hb1_sp2_1, f_hb1_sp2_2, f_hb1_sp3_0, f_hb1_sp3_1, f_hb1_sp3_2] at c_hb2_sp1_2
          have f_hb2_sp1_2 := hf_hb2 (w.heap.size + 1) 2 (by omega)
          simp [go_sem, c_hb1_sp1_0, c_hb1_sp1_1, c_hb1_sp1_2, f_hb1_sp1_0, f_hb1_sp1_1, f_hb1_sp1_2, c_hb1_sp2_0, c_hb1_sp2_1, c_hb1_sp2_2, c_hb1_sp3_0, c_hb1_sp3_1, c_hb1_sp3_2, f_hb1_sp2_0, f_hb1_sp2_1, f_hb1_sp2_2, f_hb1_sp3_0, f_hb1_sp3_1, f_hb1_sp3_2] at f_hb2_sp1_2
          have c_hb2_sp2_0 := hc_hb2 (w.heap.size + 2) 0 (by omega)
          simp [go_sem, c_hb1_sp1_0, c_hb1_sp1_1, c_hb1_sp1_2, f_hb1_sp1_0, f_hb1_sp1_1, f_hb1_sp1_2, c_hb1_sp2_0, c_hb1_sp2_1, c_hb1_sp2_2, c_hb1_sp3_0, c_hb1_sp3_1, c_hb1_sp3_2, f_hb1_sp2_0, f_hb1_sp2_1, f_hb1_sp2_2, f_hb1_sp3_0, f_hb1_sp3_1, f_hb1_sp3_2] at c_hb2_sp2_0
          have f_hb2_sp2_0 := hf_hb2 (w.heap.size + 2) 0 (by omega)
          simp [go_sem, c_hb1_sp1_0, c_hb1_sp1_1, c_hb1_sp1_2, f_hb1_sp1_0, f_hb1_sp1_1, f_hb1_sp1_2, c_hb1_sp2_0, c_hb1_sp2_1, c_hb1_sp2_2, c_hb1_sp3_0, c_hb1_sp3_1, c_hb1_sp3_2, f_hb1_sp2_0, f_hb1_sp2_1, f_hb1_sp2_2, f_hb1_sp3_0, f_hb1_sp3_1, f_hb1_sp3_2] at f_hb2_sp2_0
          have c_hb2_sp2_1 := hc_hb2 (w.heap.size + 2) 1 (by omega)
          simp [go_sem, c_hb1_sp1_0, c_hb1_sp1_1, c_hb1_sp1_2, f_hb1_sp1_0, f_hb1_sp1_1, f_hb1_sp1_2, c_hb1_sp2_0, c_hb1_sp2_1, c_hb1_sp2_2, c_hb1_sp3_0, c_hb1_sp3_1, c_hb1_sp3_2, f_hb1_sp2_0, f_hb1_sp2_1, f_hb1_sp2_2, f_hb1_sp3_0, f_hb1_sp3_1, f_hb1_sp3_2] at c_hb2_sp2_1
          have f_hb2_sp2_1 := hf_hb2 (w.heap.size + 2) 1 (by omega)
          simp [go_sem, c_hb1_sp1_0, c_hb1_sp1_1, c_hb1_sp1_2, f_hb1_sp1_0, f_hb1_sp1_1, f_hb1_sp1_2, c_hb1_sp2_0, c_hb1_sp2_1, c_hb1_sp2_2, c_hb1_sp3_0, c_hb1_sp3_1, c_hb1_sp3_2, f_hb1_sp2_0, f_hb1_sp2_1, f_hb1_sp2_2, f_hb1_sp3_0, f_hb1_sp3_1, f_hb1_sp3_2] at f_hb2_sp2_1
          have c_hb2_sp2_2 := hc_hb2 (w.heap.size + 2) 2 (by omega)
          simp [go_sem, c_hb1_sp1_0, c_hb1_sp1_1, c_hb1_sp1_2, f_hb1_sp1_0, f_hb1_sp1_1, f_hb1_sp1_2, c_hb1_sp2_0, c_hb1_sp2_1, c_hb1_sp2_2, c_hb1_sp3_0, c_hb1_sp3_1, c_hb1_sp3_2, f_hb1_sp2_0, f_hb1_sp2_1, f_hb1_sp2_2, f_hb1_sp3_0, f_hb1_sp3_1, f_hb1_sp3_2] at c_hb2_sp2_2
          have f_hb2_sp2_2 := hf_hb2 (w.heap.size + 2) 2 (by omega)
          simp [go_sem, c_hb1_sp1_0, c_hb1_sp1_1, c_hb1_sp1_2, f_hb1_sp1_0, f_hb1_sp1_1, f_hb1_sp1_2, c_hb1_sp2_0, c_hb1_sp2_1, c_hb1_sp2_2, c_hb1_sp3_0, c_hb1_sp3_1, c_hb1_sp3_2, f_hb1_sp2_0, f_hb1_sp2_1, f_hb1_sp2_2, f_hb1_sp3_0, f_hb1_sp3_1, f_hb1_sp3_2] at f_hb2_sp2_2
          have c_hb2_sp3_0 := hc_hb2 (w.heap.size + 3) 0 (by omega)
          simp [go_sem, c_hb1_sp1_0, c_hb1_sp1_1, c_hb1_sp1_2, f_hb1_sp1_0, f_hb1_sp1_1, f_hb1_sp1_2, c_hb1_sp2_0, c_hb1_sp2_1, c_hb1_sp2_2, c_hb1_sp3_0, c_hb1_sp3_1, c_hb1_sp3_2, f_hb1_sp2_0, f_hb1_sp2_1, f_hb1_sp2_2, f_hb1_sp3_0, f_hb1_sp3_1, f_hb1_sp3_2] at c_hb2_sp3_0
          have f_hb2_sp3_0 := hf_hb2 (w.heap.size + 3) 0 (by omega)
          simp [go_sem, c_hb1_sp1_0, c_hb1_sp1_1, c_hb1_sp1_2, f_hb1_sp1_0, f_hb1_sp1_1, f_hb1_sp1_2, c_hb1_sp2_0, c_hb1_sp2_1, c_hb1_sp2_2, c_hb1_sp3_0, c_hb1_sp3_1, c_hb1_sp3_2, f_hb1_sp2_0, f_hb1_sp2_1, f_hb1_sp2_2, f_hb1_sp3_0, f_hb1_sp3_1, f_hb1_sp3_2] at f_hb2_sp3_0
          have c_hb2_sp3_1 := hc_hb2 (w.heap.size + 3) 1 (by omega)
          simp [go_sem, c_hb1_sp1_0, c_hb1_sp1_1, c_hb1_sp1_2, f_hb1_sp1_0, f_hb1_sp1_1, f_hb1_sp1_2, c_hb1_sp2_0, c_hb1_sp2_1, c_hb1_sp2_2, c_hb1_sp3_0, c_hb1_sp3_1, c_hb1_sp3_2, f_hb1_sp2_0, f_hb1_sp2_1, f_hb1_sp2_2, f_hb1_sp3_0, f_hb1_sp3_1, f_hb1_sp3_2] at c_hb2_sp3_1
          have f_hb2_sp3_1 := hf_hb2 (w.heap.size + 3) 1 (by omega)
          simp [go_sem, c_hb1_sp1_0, c_hb1_sp1_1, c_hb1_sp1_2, f_hb1_sp1_0, f_hb1_sp1_1, f_hb1_sp1_2, c_hb1_sp2_0, c_hb1_sp2_1, c_hb1_sp2_2, c_hb1_sp3_0, c_hb1_sp3_1, c_hb1_sp3_2, f_hb1_sp2_0, f_hb1_sp2_1, f_hb1_sp2_2, f_hb1_sp3_0, f_hb1_sp3_1, f_hb1_sp3_2] at f_hb2_sp3_1
          have c_hb2_sp3_2 := hc_hb2 (w.heap.size + 3) 2 (by omega)
          simp [go_sem, c_hb1_sp1_0, c_hb1_sp1_1, c_hb1_sp1_2, f_hb1_sp1_0, f_hb1_sp1_1, f_hb1_sp1_2, c_hb1_sp2_0, c_hb1_sp2_1, c_hb1_sp2_2, c_hb1_sp3_0, c_hb1_sp3_1, c_hb1_sp3_2, f_hb1_sp2_0, f_hb1_sp2_1, f_hb1_sp2_2, f_hb1_sp3_0, f_hb1_sp3_1, f_hb1_sp3_2] at c_hb2_sp3_2
          have f_hb2_sp3_2 := hf_hb2 (w.heap.size + 3) 2 (by omega)
          simp [go_sem, c_hb1_sp1_0, c_hb1_sp1_1, c_hb1_sp1_2, f_hb1_sp1_0, f_hb1_sp1_1, f_hb1_sp1_2, c_hb1_sp2_0, c_hb1_sp2_1, c_hb1_sp2_2, c_hb1_sp3_0, c_hb1_sp3_1, c_hb1_sp3_2, f_hb1_sp2_0, f_hb1_sp2_1, f_hb1_sp2_2, f_hb1_sp3_0, f_hb1_sp3_1, f_hb1_sp3_2] at f_hb2_sp3_2
          go_wp2_with fail
          (with_reducible refine (ref_Norm ⟨lo', hi, false⟩ _ M3.out M2.out).mono ?_); rintro e w' ⟨rfl, hb3⟩
          obtain ⟨hc_hb3, hf_hb3⟩ := bcell hb3
          have hz_hb3 := size_le hb3
          repeat (first | simp only [World.size_alloc] at hc_hb3 | simp only [World.size_setCell] at hc_hb3 | simp only [World.size_drew] at hc_hb3)
          repeat (first | simp only [World.size_alloc] at hf_hb3 | simp only [World.size_setCell] at hf_hb3 | simp only [World.size_drew] at hf_hb3)
          repeat (first | simp only [World.size_alloc] at hz_hb3 | simp only [World.size_setCell] at hz_hb3 | simp only [World.size_drew] at hz_hb3)
          have hb3_ := Lib.hid (below_next (w := w) (by go_grown) hb3)
          clear hb3
          have hb3 := hb3_.out
          clear hb3_
          have c_hb3_sp2_0 := hc_hb3 (w.heap.size + 2) 0 (by omega)
          simp [go_sem, c_hb2_sp2_0, c_hb2_sp2_1, c_hb2_sp2_2, f_hb2_sp2_0, f_hb2_sp2_1, f_hb2_sp2_2] at c_hb3_sp2_0
          have f_hb3_sp2_0 := hf_hb3 (w.heap.size + 2) 0 (by omega)
          simp [go_sem, c_hb2_sp2_0, c_hb2_sp2_1, c_hb2_sp2_2, f_hb2_sp2_0, f_hb2_sp2_1, f_hb2_sp2_2] at f_hb3_sp2_0
          have c_hb3_sp2_1 := hc_hb3 (w.heap.size + 2) 1 (by omega)
          simp [go_sem, c_hb2_sp2_0, c_hb2_sp2_1, c_hb2_sp2_2, f_hb2_sp2_0, f_hb2_sp2_1, f_hb2_sp2_2] at c_hb3_sp2_1
          have f_hb3_sp2_1 := hf_hb3 (w.heap.size + 2) 1 (by omega)
          simp [go_sem, c_hb2_sp2_0, c_hb2_sp2_1, c_hb2_sp2_2, f_hb2_sp2_0, f_hb2_sp2_1, f_hb2_sp2_2] at f_hb3_sp2_1
          have c_hb3_sp2_2 := hc_hb3 (w.heap.size + 2) 2 (by omega)
          simp [go_sem, c_hb2_sp2_0, c_hb2_sp2_1, c_hb2_sp2_2, f_hb2_sp2_0, f_hb2_sp2_1, f_hb2_sp2_2] at c_hb3_sp2_2
          have f_hb3_sp2_2 := hf_hb3 (w.heap.size + 2) 2 (by omega)
          simp [go_sem, c_hb2_sp2_0, c_hb2_sp2_1, c_hb2_sp2_2, f_hb2_sp2_0, f_hb2_sp2_1, f_hb2_sp2_2] at f_hb3_sp2_2
          go_wp2
          (try simp only [Exit.inBlock, Exit.then])
          refine bodyPost_ret (by simp [results, Try.results98, go_sem, c_hb3_sp2_0, c_hb3_sp2_1, c_hb3_sp2_2]; try rfl) rfl ?_
          refine ⟨retv ?_, by go_grown⟩
          rw [← HE.out]; simp [refMeet, lt, g1, g2]
        · go_enter Try.func98, Try.ntmps98
          go_wp2_with fail
          (with_reducible refine (ref_Less _ _ M1.out M3.out _).mono ?_); rintro e w' ⟨rfl, hb1⟩
          obtain ⟨hc_hb1, hf_hb1⟩ := bcell hb1
          have hz_hb1 := size_le hb1
          repeat (first | simp only [World.size_alloc] at hc_hb1 | simp only [World.size_setCell] at hc_hb1 | simp only [World.size_drew] at hc_hb1)
          repeat (first | simp only [World.size_alloc] at hf_hb1 | simp only [World.size_setCell] at hf_hb1 | simp only [World.size_drew] at hf_hb1)
          repeat (first | simp only [World.size_alloc] at hz_hb1 | simp only [World.size_setCell] at hz_hb1 | simp only [World.size_drew] at hz_hb1)
          have hb1_ := Lib.hid (below_next (w := w) (by go_grown) hb1)
          clear hb1
          have hb1 := hb1_.out
          clear hb1_
          have c_hb1_s_0 := hc_hb1 (w.heap.size) 0 (by omega)
          simp [go_sem] at c_hb1_s_0
          have f_hb1_s_0 := hf_hb1 (w.heap.size) 0 (by omega)
          simp [go_sem] at f_hb1_s_0
          have c_hb1_s_1 := hc_hb1 (w.heap.size) 1 (by omega)
          simp [go_sem] at c_hb1_s_1
          have f_hb1_s_1 := hf_hb1 (w.heap.size) 1 (by omega)
          simp [go_sem] at f_hb1_s_1
          have c_hb1_s_2 := hc_hb1 (w.heap.size) 2 (by omega)
          simp [go_sem] at c_hb1_s_2
          have f_hb1_s_2 := hf_hb1 (w.heap.size) 2 (by omega)
          simp [go_sem] at f_hb1_s_2
          have c_hb1_sp1_0 := hc_hb1 (w.heap.size + 1) 0 (by omega)
          simp [go_sem] at c_hb1_sp1_0
          have f_hb1_sp1_0 := hf_hb1 (w.heap.size + 1) 0 (by omega)
          simp [go_sem] at f_hb1_sp1_0
          have c_hb1_sp1_1 := hc_hb1 (w.heap.size + 1) 1 (by omega)
          simp [go_sem] at c_hb1_sp1_1
          have f_hb1_sp1_1 := hf_hb1 (w.heap.size + 1) 1 (by omega)
          simp [go_sem] at f_hb1_sp1_1
          have c_hb1_sp1_2 := hc_hb1 (w.heap.size + 1) 2 (by omega)
          simp [go_sem] at c_hb1_sp1_2
          have f_hb1_sp1_2 := hf_hb1 (w.heap.size + 1) 2 (by omega)
          simp [go_sem] at f_hb1_sp1_2
          have c_hb1_sp2_0 := hc_hb1 (w.heap.size + 2) 0 (by omega)
          simp [go_sem] at c_hb1_sp2_0
          have f_hb1_sp2_0 := hf_hb1 (w.heap.size + 2) 0 (by omega)
          simp [go_sem] at f_hb1_sp2_0
          have c_hb1_sp2_1 := hc_hb1 (w.heap.size + 2) 1 (by omega)
          simp [go_sem] at c_hb1_sp2_1
          have f_hb1_sp2_1 := hf_hb1 (w.heap.size + 2) 1 (by omega)
          simp [go_sem] at f_hb1_sp2_1
          have c_hb1_sp2_2 := hc_hb1 (w.heap.size + 2) 2 (by omega)
          simp [go_sem] at c_hb1_sp2_2
          have f_hb1_sp2_2 := hf_hb1 (w.heap.size + 2) 2 (by omega)
          simp [go_sem] at f_hb1_sp2_2
          have c_hb1_sp3_0 := hc_hb1 (w.heap.size + 3) 0 (by omega)
          simp [go_sem] at c_hb1_sp3_0
          have f_hb1_sp3_0 := hf_hb1 (w.heap.size + 3) 0 (by omega)
          simp [go_sem] at f_hb1_sp3_0
          have c_hb1_sp3_1 := hc_hb1 (w.heap.size + 3) 1 (by omega)
          simp [go_sem] at c_hb1_sp3_1
          have f_hb1_sp3_1 := hf_hb1 (w.heap.size + 3) 1 (by omega)
          simp [go_sem] at f_hb1_sp3_1
          have c_hb1_sp3_2 := hc_hb1 (w.heap.size + 3) 2 (by omega)
          simp [go_sem] at c_hb1_sp3_2
          have f_hb1_sp3_2 := hf_hb1 (w.heap.size + 3) 2 (by omega)
          simp [go_sem] at f_hb1_sp3_2
          go_wp2_with fail
          (with_reducible refine (ref_Less _ _ M4.out M2.out _).mono ?_); rintro e w' ⟨rfl, hb2⟩
          obtain ⟨hc_hb2, hf_hb2⟩ := bcell hb2
          have hz_hb2 := size_le hb2
          repeat (first | simp only [World.size_alloc] at hc_hb2 | simp only [World.size_setCell] at hc_hb2 | simp only [World.size_drew] at hc_hb2)
          repeat (first | simp only [World.size_alloc] at hf_hb2 | simp only [World.size_setCell] at hf_hb2 | simp only [World.size_drew] at hf_hb2)
          repeat (first | simp only [World.size_alloc] at hz_hb2 | simp only [World.size_setCell] at hz_hb2 | simp only [World.size_drew] at hz_hb2)
          have hb2_ := Lib.hid (below_next (w := w) (by go_grown) hb2)
          clear hb2
          have hb2 := hb2_.out
          clear hb2_
          have c_hb2_sp1_0 := hc_hb2 (w.heap.size + 1) 0 (by omega)
          simp [go_sem, c_hb1_sp1_0, c_hb1_sp1_1, c_hb1_sp1_2, f_hb1_sp1_0, f_hb1_sp1_1, f_hb1_sp1_2, c_hb1_sp2_0, c_hb1_sp2_1, c_hb1_sp2_2, c_hb1_sp3_0, c_hb1_sp3_1, c_hb1_sp3_2, f_hb1_sp2_0, f_hb1_sp2_1, f_hb1_sp2_2, f_hb1_sp3_0, f_hb1_sp3_1, f_hb1_sp3_2] at c_hb2_sp1_0
          have f_hb2_sp1_0 := hf_hb2 (w.heap.size + 1) 0 (by omega)
          simp [go_sem, c_hb1_sp1_0, c_hb1_sp1_1, c_hb1_sp1_2, f_hb1_sp1_0, f_hb1_sp1_1, f_hb1_sp1_2, c_hb1_sp2_0, c_hb1_sp2_1, c_hb1_sp2_2, c_hb1_sp3_0, c_hb1_sp3_1, c_hb1_sp3_2, f_hb1_sp2_0, f_hb1_sp2_1, f_hb1_sp2_2, f_hb1_sp3_0, f_hb1_sp3_1, f_hb1_sp3_2] at f_hb2_sp1_0
          have c_hb2_sp1_1 := hc_hb2 (w.heap.size + 1) 1 (by omega)
          simp [go_sem, c_hb1_sp1_0, c_hb1_sp1_1, c_hb1_sp1_2, f_hb1_sp1_0, f_hb1_sp1_1, f_hb1_sp1_2, c_hb1_sp2_0, c_hb1_sp2_1, c_hb1_sp2_2, c_hb1_sp3_0, c_hb1_sp3_1, c_hb1_sp3_2, f_hb1_sp2_0, f_hb1_sp2_1, f_hb1_sp2_2, f_hb1_sp3_0, f_hb1_sp3_1, f_hb1_sp3_2] at c_hb2_sp1_1
          have f_hb2_sp1_1 := hf_hb2 (w.heap.size + 1) 1 (by omega)
          simp [go_sem, c_hb1_sp1_0, c_hb1_sp1_1, c_hb1_sp1_2, f_hb1_sp1_0, f_hb1_sp1_1, f_hb1_sp1_2, c_hb1_sp2_0, c_hb1_sp2_1, c_hb1_sp2_2, c_hb1_sp3_0, c_hb1_sp3_1, c_hb1_sp3_2, f_hb1_sp2_0, f_hb1_sp2_1, f_hb1_sp2_2, f_hb1_sp3_0, f_hb1_sp3_1, f_hb1_sp3_2] at f_hb2_sp1_1
          have c_hb2_sp1_2 := hc_hb2 (w.heap.size + 1) 2 (by omega)
          simp [go_sem, c_hb1_sp1_0, c_hb1_sp1_1, c_hb1_sp1_2, f_hb1_sp1_0, f_hb1_sp1_1, f_hb1_sp1_2, c_hb1_sp2_0, c_hb1_sp2_1, c_hb1_sp2_2, c_hb1_sp3_0, c_hb1_sp3_1, c_hb1_sp3_2, f_hb1_sp2_0, f_hb1_sp2_1, f_hb1_sp2_2, f_hb1_sp3_0, f_hb1_sp3_1, f_hb1_sp3_2] at c_hb2_sp1_2
          have f_hb2_sp1_2 := hf_hb2 (w.heap.size + 1) 2 (by omega)
          simp [go_sem, c_hb1_sp1_0, c_hb1_sp1_1, c_hb1_sp1_2, f_hb1_sp1_0, f_hb1_sp1_1, f_hb1_sp1_2, c_hb1_sp2_0, c_hb1_sp2_1, c_hb1_sp2_2, c_hb1_sp3_0, c_hb1_sp3_1, c_hb1_sp3_2, f_hb1_sp2_0, f_hb1_sp2_1, f_hb1_sp2_2, f_hb1_sp3_0, f_hb1_sp3_1, f_hb1_sp3_2] at f_hb2_sp1_2
          have c_hb2_sp2_0 := hc_hb2 (w.heap.size + 2) 0 (by omega)
          simp [go_sem, c_hb1_sp1_0, c_hb1_sp1_1, c_hb1_sp1_2, f_hb1_sp1_0, f_hb1_sp1_1, f_hb1_sp1_2, c_hb1_sp2_0, c_hb1_sp2_1, c_hb1_sp2_2, c_hb1_sp3_0, c_hb1_sp3_1, c_hb1_sp3_2, f_hb1_sp2_0, f_hb1_sp2_1, f_hb1_sp2_2, f_hb1_sp3_0, f_hb1_sp3_1, f_hb1_sp3_2] at c_hb2_sp2_0
          have f_hb2_sp2_0 := hf_hb2 (w.heap.size + 2) 0 (by omega)
          simp [go_sem, c_hb1_sp1_0, c_hb1_sp1_1, c_hb1_sp1_2, f_hb1_sp1_0, f_hb1_sp1_1, f_hb1_sp1_2, c_hb1_sp2_0, c_hb1_sp2_1, c_hb1_sp2_2, c_hb1_sp3_0, c_hb1_sp3_1, c_hb1_sp3_2, f_hb1_sp2_0, f_hb1_sp2_1, f_hb1_sp2_2, f_hb1_sp3_0, f_hb1_sp3_1, f_hb1_sp3_2] at f_hb2_sp2_0
          have c_hb2_sp2_1 := hc_hb2 (w.heap.size + 2) 1 (by omega)
          simp [go_sem, c_hb1_sp1_0, c_hb1_sp1_1, c_hb1_sp1_2, f_hb1_sp1_0, f_hb1_sp1_1, f_hb1_sp1_2, c_hb1_sp2_0, c_hb1_sp2_1, c_hb1_sp2_2, c_hb1_sp3_0, c_hb1_sp3_1, c_hb1_sp3_2, f_hb1_sp2_0, f_hb1_sp2_1, f_hb1_sp2_2, f_hb1_sp3_0, f_hb1_sp3_1, f_hb1_sp3_2] at c_hb2_sp2_1
          have f_hb2_sp2_1 := hf_hb2 (w.heap.size + 2) 1 (by omega)
          simp [go_sem, c_hb1_sp1_0, c_hb1_sp1_1, c_hb1_sp1_2, f_hb1_sp1_0, f_hb1_sp1_1, f_hb1_sp1_2, c_hb1_sp2_0, c_hb1_sp2_1, c_hb1_sp2_2, c_hb1_sp3_0, c_hb1_sp3_1, c_hb1_sp3_2, f_hb1_sp2_0, f_hb1_sp2_1, f_hb1_sp2_2, f_hb1_sp3_0, f_hb1_sp3_1, f_hb1_sp3_2] at f_hb2_sp2_1
          have c_hb2_sp2_2 := hc_hb2 (w.heap.size + 2) 2 (by omega)
          simp [go_sem, c_hb1_sp1_0, c_hb1_sp1_1, c_hb1_sp1_2, f_hb1_sp1_0, f_hb1_sp1_1, f_hb1_sp1_2, c_hb1_sp2_0, c_hb1_sp2_1, c_hb1_sp2_2, c_hb1_sp3_0, c_hb1_sp3_1, c_hb1_sp3_2, f_hb1_sp2_0, f_hb1_sp2_1, f_hb1_sp2_2, f_hb1_sp3_0, f_hb1_sp3_1, f_hb1_sp3_2] at c_hb2_sp2_2
          have f_hb2_sp2_2 := hf_hb2 (w.heap.size + 2) 2 (by omega)
          simp [go_sem, c_hb1_sp1_0, c_hb1_sp1_1, c_hb1_sp1_2, f_hb1_sp1_0, f_hb1_sp1_1, f_hb1_sp1_2, c_hb1_sp2_0, c_hb1_sp2_1, c_hb1_sp2_2, c_hb1_sp3_0, c_hb1_sp3_1, c_hb1_sp3_2, f_hb1_sp2_0, f_hb1_sp2_1, f_hb1_sp2_2, f_hb1_sp3_0, f_hb1_sp3_1, f_hb1_sp3_2] at f_hb2_sp2_2
          have c_hb2_sp3_0 := hc_hb2 (w.heap.size + 3) 0 (by omega)
          simp [go_sem, c_hb1_sp1_0, c_hb1_sp1_1, c_hb1_sp1_2, f_hb1_sp1_0, f_hb1_sp1_1, f_hb1_sp1_2, c_hb1_sp2_0, c_hb1_sp2_1, c_hb1_sp2_2, c_hb1_sp3_0, c_hb1_sp3_1, c_hb1_sp3_2, f_hb1_sp2_0, f_hb1_sp2_1, f_hb1_sp2_2, f_hb1_sp3_0, f_hb1_sp3_1, f_hb1_sp3_2] at c_hb2_sp3_0
          have f_hb2_sp3_0 := hf_hb2 (w.heap.size + 3) 0 (by omega)
          simp [go_sem, c_hb1_sp1_0, c_hb1_sp1_1, c_hb1_sp1_2, f_hb1_sp1_0, f_hb1_sp1_1, f_hb1_sp1_2, c_hb1_sp2_0, c_hb1_sp2_1, c_hb1_sp2_2, c_hb1_sp3_0, c_hb1_sp3_1, c_hb1_sp3_2, f_hb1_sp2_0, f_hb1_sp2_1, f_hb1_sp2_2, f_hb1_sp3_0, f_hb1_sp3_1, f_hb1_sp3_2] at f_hb2_sp3_0
          have c_hb2_sp3_1 := hc_hb2 (w.heap.size + 3) 1 (by omega)
          simp [go_sem, c_hb1_sp1_0, c_hb1_sp1_1, c_hb1_sp1_2, f_hb1_sp1_0, f_hb1_sp1_1, f_hb1_sp1_2, c_hb1_sp2_0, c_hb1_sp2_1, c_hb1_sp2_2, c_hb1_sp3_0, c_hb1_sp3_1, c_hb1_sp3_2, f_hb1_sp2_0, f_hb1_sp2_1, f_hb1_sp2_2, f_hb1_sp3_0, f_hb1_sp3_1, f_hb1_sp3_2] at c_hb2_sp3_1
          have f_hb2_sp3_1 := hf_hb2 (w.heap.size + 3) 1 (by omega)
          simp [go_sem, c_hb1_sp1_0, c_hb1_sp1_1, c_hb1_sp1_2, f_hb1_sp1_0, f_hb1_sp1_1, f_hb1_sp1_2, c_hb1_sp2_0, c_hb1_sp2_1, c_hb1_sp2_2, c_hb1_sp3_0, c_hb1_sp3_1, c_hb1_sp3_2, f_hb1_sp2_0, f_hb1_sp2_1, f_hb1_sp2_2, f_hb1_sp3_0, f_hb1_sp3_1, f_hb1_sp3_2] at f_hb2_sp3_1
          have c_hb2_sp3_2 := hc_hb2 (w.heap.size + 3) 2 (by omega)
          simp [go_sem, c_hb1_sp1_0, c_hb1_sp1_1, c_hb1_sp1_2, f_hb1_sp1_0, f_hb1_sp1_1, f_hb1_sp1_2, c_hb1_sp2_0, c_hb1_sp2_1, c_hb1_sp2_2, c_hb1_sp3_0, c_hb1_sp3_1, c_hb1_sp3_2, f_hb1_sp2_0, f_hb1_sp2_1, f_hb1_sp2_2, f_hb1_sp3_0, f_hb1_sp3_1, f_hb1_sp3_2] at c_hb2_sp3_2
          have f_hb2_sp3_2 := hf_hb2 (w.heap.size + 3) 2 (by omega)
          simp [go_sem, c_hb1_sp1_0, c_hb1_sp1_1, c_hb1_sp1_2, f_hb1_sp1_0, f_hb1_sp1_1, f_hb1_sp1_2, c_hb1_sp2_0, c_hb1_sp2_1, c_hb1_sp2_2, c_hb1_sp3_0, c_hb1_sp3_1, c_hb1_sp3_2, f_hb1_sp2_0, f_hb1_sp2_1, f_hb1_sp2_2, f_hb1_sp3_0, f_hb1_sp3_1, f_hb1_sp3_2] at f_hb2_sp3_2
          go_wp2_with fail
          (with_reducible refine (ref_Norm ⟨lo', hi', false⟩ _ M3.out M4.out).mono ?_); rintro e w' ⟨rfl, hb3⟩
          obtain ⟨hc_hb3, hf_hb3⟩ := bcell hb3
          have hz_hb3 := size_le hb3
          repeat (first | simp only [World.size_alloc] at hc_hb3 | simp only [World.size_setCell] at hc_hb3 | simp only [World.size_drew] at hc_hb3)
          repeat (first | simp only [World.size_alloc] at hf_hb3 | simp only [World.size_setCell] at hf_hb3 | simp only [World.size_drew] at hf_hb3)
          repeat (first | simp only [World.size_alloc] at hz_hb3 | simp only [World.size_setCell] at hz_hb3 | simp only [World.size_drew] at hz_hb3)
          have hb3_ := Lib.hid (below_next (w := w) (by go_grown) hb3)
          clear hb3
          have hb3 := hb3_.out
          clear hb3_
          have c_hb3_sp2_0 := hc_hb3 (w.heap.size + 2) 0 (by omega)
          simp [go_sem, c_hb2_sp2_0, c_hb2_sp2_1, c_hb2_sp2_2, f_hb2_sp2_0, f_hb2_sp2_1, f_hb2_sp2_2] at c_hb3_sp2_0
          have f_hb3_sp2_0 := hf_hb3 (w.heap.size + 2) 0 (by omega)
          simp [go_sem, c_hb2_sp2_0, c_hb2_sp2_1, c_hb2_sp2_2, f_hb2_sp2_0, f_hb2_sp2_1, f_hb2_sp2_2] at f_hb3_sp2_0
          have c_hb3_sp2_1 := hc_hb3 (w.heap.size + 2) 1 (by omega)
          simp [go_sem, c_hb2_sp2_0, c_hb2_sp2_1, c_hb2_sp2_2, f_hb2_sp2_0, f_hb2_sp2_1, f_hb2_sp2_2] at c_hb3_sp2_1
          have f_hb3_sp2_1 := hf_hb3 (w.heap.size + 2) 1 (by omega)
          simp [go_sem, c_hb2_sp2_0, c_hb2_sp2_1, c_hb2_sp2_2, f_hb2_sp2_0, f_hb2_sp2_1, f_hb2_sp2_2] at f_hb3_sp2_1
          have c_hb3_sp2_2 := hc_hb3 (w.heap.size + 2) 2 (by omega)
          simp [go_sem, c_hb2_sp2_0, c_hb2_sp2_1, c_hb2_sp2_2, f_hb2_sp2_0, f_hb2_sp2_1, f_hb2_sp2_2] at c_hb3_sp2_2
          have f_hb3_sp2_2 := hf_hb3 (w.heap.size + 2) 2 (by omega)
          simp [go_sem, c_hb2_sp2_0, c_hb2_sp2_1, c_hb2_sp2_2, f_hb2_sp2_0, f_hb2_sp2_1, f_hb2_sp2_2] at f_hb3_sp2_2
          go_wp2
          (try simp only [Exit.inBlock, Exit.then])
          refine bodyPost_ret (by simp [results, Try.results98, go_sem, c_hb3_sp2_0, c_hb3_sp2_1, c_hb3_sp2_2]; try rfl) rfl ?_
          refine ⟨retv ?_, by go_grown⟩
          rw [← HE.out]; simp [refMeet, lt, g1, g2]
      · go_enter Try.func98, Try.ntmps98
        go_wp2_with fail
        (with_reducible refine (ref_Less _ _ M1.out M3.out _).mono ?_); rintro e w' ⟨rfl, hb1⟩
        obtain ⟨hc_hb1, hf_hb1⟩ := bcell hb1
        have hz_hb1 := size_le hb1
        repeat (first | simp only [World.size_alloc] at hc_hb1 | simp only [World.size_setCell] at hc_hb1 | simp only [World.size_drew] at hc_hb1)
        repeat (first | simp only [World.size_alloc] at hf_hb1 | simp only [World.size_setCell] at hf_hb1 | simp only [World.size_drew] at hf_hb1)
        repeat (first | simp only [World.size_alloc] at hz_hb1 | simp only [World.size_setCell] at hz_hb1 | simp only [World.size_drew] at hz_hb1)
        have hb1_ := Lib.hid (below_next (w := w) (by go_grown) hb1)
        clear hb1
        have hb1 := hb1_.out
        clear hb1_
        have c_hb1_s_0 := hc_hb1 (w.heap.size) 0 (by omega)
        simp [go_sem] at c_hb1_s_0
        have f_hb1_s_0 := hf_hb1 (w.heap.size) 0 (by omega)
        simp [go_sem] at f_hb1_s_0
        have c_hb1_s_1 := hc_hb1 (w.heap.size) 1 (by omega)
        simp [go_sem] at c_hb1_s_1
        have f_hb1_s_1 := hf_hb1 (w.heap.size) 1 (by omega)
        simp [go_sem] at f_hb1_s_1
        have c_hb1_s_2 := hc_hb1 (w.heap.size) 2 (by omega)
        simp [go_sem] at c_hb1_s_2
        have f_hb1_s_2 := hf_hb1 (w.heap.size) 2 (by omega)
        simp [go_sem] at f_hb1_s_2
        have c_hb1_sp1_0 := hc_hb1 (w.heap.size + 1) 0 (by omega)
        simp [go_sem] at c_hb1_sp1_0
        have f_hb1_sp1_0 := hf_hb1 (w.heap.size + 1) 0 (by omega)
        simp [go_sem] at f_hb1_sp1_0
        have c_hb1_sp1_1 := hc_hb1 (w.heap.size + 1) 1 (by omega)
        simp [go_sem] at c_hb1_sp1_1
        have f_hb1_sp1_1 := hf_hb1 (w.heap.size + 1) 1 (by omega)
        simp [go_sem] at f_hb1_sp1_1
        have c_hb1_sp1_2 := hc_hb1 (w.heap.size + 1) 2 (by omega)
        simp [go_sem] at c_hb1_sp1_2
        have f_hb1_sp1_2 := hf_hb1 (w.heap.size + 1) 2 (by omega)
        simp [go_sem] at f_hb1_sp1_2
        have c_hb1_sp2_0 := hc_hb1 (w.heap.size + 2) 0 (by omega)
        simp [go_sem] at c_hb1_sp2_0
        have f_hb1_sp2_0 := hf_hb1 (w.heap.size + 2) 0 (by omega)
        simp [go_sem] at f_hb1_sp2_0
        have c_hb1_sp2_1 := hc_hb1 (w.heap.size + 2) 1 (by omega)
        simp [go_sem] at c_hb1_sp2_1
        have f_hb1_sp2_1 := hf_hb1 (w.heap.size + 2) 1 (by omega)
        simp [go_sem] at f_hb1_sp2_1
        have c_hb1_sp2_2 := hc_hb1 (w.heap.size + 2) 2 (by omega)
        simp [go_sem] at c_hb1_sp2_2
        have f_hb1_sp2_2 := hf_hb1 (w.heap.size + 2) 2 (by omega)
        simp [go_sem] at f_hb1_sp2_2
        have c_hb1_sp3_0 := hc_hb1 (w.heap.size + 3) 0 (by omega)
        simp [go_sem] at c_hb1_sp3_0
        have f_hb1_sp3_0 := hf_hb1 (w.heap.size + 3) 0 (by omega)
        simp [go_sem] at f_hb1_sp3_0
        have c_hb1_sp3_1 := hc_hb1 (w.heap.size + 3) 1 (by omega)
        simp [go_sem] at c_hb1_sp3_1
        have f_hb1_sp3_1 := hf_hb1 (w.heap.size + 3) 1 (by omega)
        simp [go_sem] at f_hb1_sp3_1
        have c_hb1_sp3_2 := hc_hb1 (w.heap.size + 3) 2 (by omega)
        simp [go_sem] at c_hb1_sp3_2
        have f_hb1_sp3_2 := hf_hb1 (w.heap.size + 3) 2 (by omega)
        simp [go_sem] at f_hb1_sp3_2
        go_wp2_with fail
        (with_reducible refine (ref_Norm ⟨lo', hi', false⟩ _ M3.out M4.out).mono ?_); rintro e w' ⟨rfl, hb3⟩
        obtain ⟨hc_hb3, hf_hb3⟩ := bcell hb3
        have hz_hb3 := size_le hb3
        repeat (first | simp only [World.size_alloc] at hc_hb3 | simp only [World.size_setCell] at hc_hb3 | simp only [World.size_drew] at hc_hb3)
        repeat (first | simp only [World.size_alloc] at hf_hb3 | simp only [World.size_setCell] at hf_hb3 | simp only [World.size_drew] at hf_hb3)
        repeat (first | simp only [World.size_alloc] at hz_hb3 | simp only [World.size_setCell] at hz_hb3 | simp only [World.size_drew] at hz_hb3)
        have hb3_ := Lib.hid (below_next (w := w) (by go_grown) hb3)
        clear hb3
        have hb3 := hb3_.out
        clear hb3_
        have c_hb3_sp2_0 := hc_hb3 (w.heap.size + 2) 0 (by omega)
        simp [go_sem, c_hb1_sp2_0, c_hb1_sp2_1, c_hb1_sp2_2, f_hb1_sp2_0, f_hb1_sp2_1, f_hb1_sp2_2] at c_hb3_sp2_0
        have f_hb3_sp2_0 := hf_hb3 (w.heap.size + 2) 0 (by omega)
        simp [go_sem, c_hb1_sp2_0, c_hb1_sp2_1, c_hb1_sp2_2, f_hb1_sp2_0, f_hb1_sp2_1, f_hb1_sp2_2] at f_hb3_sp2_0
        have c_hb3_sp2_1 := hc_hb3 (w.heap.size + 2) 1 (by omega)
        simp [go_sem, c_hb1_sp2_0, c_hb1_sp2_1, c_hb1_sp2_2, f_hb1_sp2_0, f_hb1_sp2_1, f_hb1_sp2_2] at c_hb3_sp2_1
        have f_hb3_sp2_1 := hf_hb3 (w.heap.size + 2) 1 (by omega)
        simp [go_sem, c_hb1_sp2_0, c_hb1_sp2_1, c_hb1_sp2_2, f_hb1_sp2_0, f_hb1_sp2_1, f_hb1_sp2_2] at f_hb3_sp2_1
        have c_hb3_sp2_2 := hc_hb3 (w.heap.size + 2) 2 (by omega)
        simp [go_sem, c_hb1_sp2_0, c_hb1_sp2_1, c_hb1_sp2_2, f_hb1_sp2_0, f_hb1_sp2_1, f_hb1_sp2_2] at c_hb3_sp2_2
        have f_hb3_sp2_2 := hf_hb3 (w.heap.size + 2) 2 (by omega)
        simp [go_sem, c_hb1_sp2_0, c_hb1_sp2_1, c_hb1_sp2_2, f_hb1_sp2_0, f_hb1_sp2_1, f_hb1_sp2_2] at f_hb3_sp2_2
        go_wp2
        (try simp only [Exit.inBlock, Exit.then])
        refine bodyPost_ret (by simp [results, Try.results98, go_sem, c_hb3_sp2_0, c_hb3_sp2_1, c_hb3_sp2_2]; try rfl) rfl ?_
        refine ⟨retv ?_, by go_grown⟩
        rw [← HE.out]; simp [refMeet, lt, g1]
    · cases o
      · go_enter Try.func98, Try.ntmps98
        go_wp2_with fail
        (with_reducible refine (ref_Less _ _ M1.out M3.out _).mono ?_); rintro e w' ⟨rfl, hb1⟩
        obtain ⟨hc_hb1, hf_hb1⟩ := bcell hb1
        have hz_hb1 := size_le hb1
        repeat (first | simp only [World.size_alloc] at hc_hb1 | simp only [World.size_setCell] at hc_hb1 | simp only [World.size_drew] at hc_hb1)
        repeat (first | simp only [World.size_alloc] at hf_hb1 | simp only [World.size_setCell] at hf_hb1 | simp only [World.size_drew] at hf_hb1)
        repeat (first | simp only [World.size_alloc] at hz_hb1 | simp only [World.size_setCell] at hz_hb1 | simp only [World.size_drew] at hz_hb1)
        have hb1_ := Lib.hid (below_next (w := w) (by go_grown) hb1)
        clear hb1
        have hb1 := hb1_.out
        clear hb1_
        have c_hb1_s_0 := hc_hb1 (w.heap.size) 0 (by omega)
        simp [go_sem] at c_hb1_s_0
        have f_hb1_s_0 := hf_hb1 (w.heap.size) 0 (by omega)
        simp [go_sem] at f_hb1_s_0
        have c_hb1_s_1 := hc_hb1 (w.heap.size) 1 (by omega)
        simp [go_sem] at c_hb1_s_1
        have f_hb1_s_1 := hf_hb1 (w.heap.size) 1 (by omega)
        simp [go_sem] at f_hb1_s_1
        have c_hb1_s_2 := hc_hb1 (w.heap.size) 2 (by omega)
        simp [go_sem] at c_hb1_s_2
        have f_hb1_s_2 := hf_hb1 (w.heap.size) 2 (by omega)
        simp [go_sem] at f_hb1_s_2
        have c_hb1_sp1_0 := hc_hb1 (w.heap.size + 1) 0 (by omega)
        simp [go_sem] at c_hb1_sp1_0
        have f_hb1_sp1_0 := hf_hb1 (w.heap.size + 1) 0 (by omega)
        simp [go_sem] at f_hb1_sp1_0
        have c_hb1_sp1_1 := hc_hb1 (w.heap.size + 1) 1 (by omega)
        simp [go_sem] at c_hb1_sp1_1
        have f_hb1_sp1_1 := hf_hb1 (w.heap.size + 1) 1 (by omega)
        simp [go_sem] at f_hb1_sp1_1
        have c_hb1_sp1_2 := hc_hb1 (w.heap.size + 1) 2 (by omega)
        simp [go_sem] at c_hb1_sp1_2
        have f_hb1_sp1_2 := hf_hb1 (w.heap.size + 1) 2 (by omega)
        simp [go_sem] at f_hb1_sp1_2
        have c_hb1_sp2_0 := hc_hb1 (w.heap.size + 2) 0 (by omega)
        simp [go_sem] at c_hb1_sp2_0
        have f_hb1_sp2_0 := hf_hb1 (w.heap.size + 2) 0 (by omega)
        simp [go_sem] at f_hb1_sp2_0
        have c_hb1_sp2_1 := hc_hb1 (w.heap.size + 2) 1 (by omega)
        simp [go_sem] at c_hb1_sp2_1
        have f_hb1_sp2_1 := hf_hb1 (w.heap.size + 2) 1 (by omega)
        simp [go_sem] at f_hb1_sp2_1
        have c_hb1_sp2_2 := hc_hb1 (w.heap.size + 2) 2 (by omega)
        simp [go_sem] at c_hb1_sp2_2
        have f_hb1_sp2_2 := hf_hb1 (w.heap.size + 2) 2 (by omega)
        simp [go_sem] at f_hb1_sp2_2
        have c_hb1_sp3_0 := hc_hb1 (w.heap.size + 3) 0 (by omega)
        simp [go_sem] at c_hb1_sp3_0
        have f_hb1_sp3_0 := hf_hb1 (w.heap.size + 3) 0 (by omega)
        simp [go_sem] at f_hb1_sp3_0
        have c_hb1_sp3_1 := hc_hb1 (w.heap.size + 3) 1 (by omega)
        simp [go_sem] at c_hb1_sp3_1
        have f_hb1_sp3_1 := hf_hb1 (w.heap.size + 3) 1 (by omega)
        simp [go_sem] at f_hb1_sp3_1
        have c_hb1_sp3_2 := hc_hb1 (w.heap.size + 3) 2 (by omega)
        simp [go_sem] at c_hb1_sp3_2
        have f_hb1_sp3_2 := hf_hb1 (w.heap.size + 3) 2 (by omega)
        simp [go_sem] at f_hb1_sp3_2
        go_wp2_with fail
        (with_reducible refine (ref_Norm ⟨lo', hi, false⟩ _ M3.out M2.out).mono ?_); rintro e w' ⟨rfl, hb3⟩
        obtain ⟨hc_hb3, hf_hb3⟩ := bcell hb3
        have hz_hb3 := size_le hb3
        repeat (first | simp only [World.size_alloc] at hc_hb3 | simp only [World.size_setCell] at hc_hb3 | simp only [World.size_drew] at hc_hb3)
        repeat (first | simp only [World.size_alloc] at hf_hb3 | simp only [World.size_setCell] at hf_hb3 | simp only [World.size_drew] at hf_hb3)
        repeat (first | simp only [World.size_alloc] at hz_hb3 | simp only [World.size_setCell] at hz_hb3 | simp only [World.size_drew] at hz_hb3)
        have hb3_ := Lib.hid (below_next (w := w) (by go_grown) hb3)
        clear hb3
        have hb3 := hb3_.out
        clear hb3_
        have c_hb3_sp2_0 := hc_hb3 (w.heap.size + 2) 0 (by omega)
        simp [go_sem, c_hb1_sp2_0, c_hb1_sp2_1, c_hb1_sp2_2, f_hb1_sp2_0, f_hb1_sp2_1, f_hb1_sp2_2] at c_hb3_sp2_0
        have f_hb3_sp2_0 := hf_hb3 (w.heap.size + 2) 0 (by omega)
        simp [go_sem, c_hb1_sp2_0, c_hb1_sp2_1, c_hb1_sp2_2, f_hb1_sp2_0, f_hb1_sp2_1, f_hb1_sp2_2] at f_hb3_sp2_0
        have c_hb3_sp2_1 := hc_hb3 (w.heap.size + 2) 1 (by omega)
        simp [go_sem, c_hb1_sp2_0, c_hb1_sp2_1, c_hb1_sp2_2, f_hb1_sp2_0, f_hb1_sp2_1, f_hb1_sp2_2] at c_hb3_sp2_1
        have f_hb3_sp2_1 := hf_hb3 (w.heap.size + 2) 1 (by omega)
        simp [go_sem, c_hb1_sp2_0, c_hb1_sp2_1, c_hb1_sp2_2, f_hb1_sp2_0, f_hb1_sp2_1, f_hb1_sp2_2] at f_hb3_sp2_1
        have c_hb3_sp2_2 := hc_hb3 (w.heap.size + 2) 2 (by omega)
        simp [go_sem, c_hb1_sp2_0, c_hb1_sp2_1, c_hb1_sp2_2, f_hb1_sp2_0, f_hb1_sp2_1, f_hb1_sp2_2] at c_hb3_sp2_2
        have f_hb3_sp2_2 := hf_hb3 (w.heap.size + 2) 2 (by omega)
        simp [go_sem, c_hb1_sp2_0, c_hb1_sp2_1, c_hb1_sp2_2, f_hb1_sp2_0, f_hb1_sp2_1, f_hb1_sp2_2] at f_hb3_sp2_2
        go_wp2
        (try simp only [Exit.inBlock, Exit.then])
        refine bodyPost_ret (by simp [results, Try.results98, go_sem, c_hb3_sp2_0, c_hb3_sp2_1, c_hb3_sp2_2]; try rfl) rfl ?_
        refine ⟨retv ?_, by go_grown⟩
        rw [← HE.out]; simp [refMeet, lt, g1]
      · go_enter Try.func98, Try.ntmps98
        go_wp2_with fail
        (with_reducible refine (ref_Less _ _ M1.out M3.out _).mono ?_); rintro e w' ⟨rfl, hb1⟩
        obtain ⟨hc_hb1, hf_hb1⟩ := bcell hb1
        have hz_hb1 := size_le hb1
        repeat (first | simp only [World.size_alloc] at hc_hb1 | simp only [World.size_setCell] at hc_hb1 | simp only [World.size_drew] at hc_hb1)
        repeat (first | simp only [World.size_alloc] at hf_hb1 | simp only [World.size_setCell] at hf_hb1 | simp only [World.size_drew] at hf_hb1)
        repeat (first | simp only [World.size_alloc] at hz_hb1 | simp only [World.size_setCell] at hz_hb1 | simp only [World.size_drew] at hz_hb1)
        have hb1_ := Lib.hid (below_next (w := w) (by go_grown) hb1)
        clear hb1
        have hb1 := hb1_.out
        clear hb1_
        have c_hb1_s_0 := hc_hb1 (w.heap.size) 0 (by omega)
        simp [go_sem] at c_hb1_s_0
        have f_hb1_s_0 := hf_hb1 (w.heap.size) 0 (by omega)
        simp [go_sem] at f_hb1_s_0
        have c_hb1_s_1 := hc_hb1 (w.heap.size) 1 (by omega)
        simp [go_sem] at c_hb1_s_1
        have f_hb1_s_1 := hf_hb1 (w.heap.size) 1 (by omega)
        simp [go_sem] at f_hb1_s_1
        have c_hb1_s_2 := hc_hb1 (w.heap.size) 2 (by omega)
        simp [go_sem] at c_hb1_s_2
        have f_hb1_s_2 := hf_hb1 (w.heap.size) 2 (by omega)
        simp [go_sem] at f_hb1_s_2
        have c_hb1_sp1_0 := hc_hb1 (w.heap.size + 1) 0 (by omega)
        simp [go_sem] at c_hb1_sp1_0
        have f_hb1_sp1_0 := hf_hb1 (w.heap.size + 1) 0 (by omega)
        simp [go_sem] at f_hb1_sp1_0
        have c_hb1_sp1_1 := hc_hb1 (w.heap.size + 1) 1 (by omega)
        simp [go_sem] at c_hb1_sp1_1
        have f_hb1_sp1_1 := hf_hb1 (w.heap.size + 1) 1 (by omega)
        simp [go_sem] at f_hb1_sp1_1
        have c_hb1_sp1_2 := hc_hb1 (w.heap.size + 1) 2 (by omega)
        simp [go_sem] at c_hb1_sp1_2
        have f_hb1_sp1_2 := hf_hb1 (w.heap.size + 1) 2 (by omega)
        simp [go_sem] at f_hb1_sp1_2
        have c_hb1_sp2_0 := hc_hb1 (w.heap.size + 2) 0 (by omega)
        simp [go_sem] at c_hb1_sp2_0
        have f_hb1_sp2_0 := hf_hb1 (w.heap.size + 2) 0 (by omega)
        simp [go_sem] at f_hb1_sp2_0
        have c_hb1_sp2_1 := hc_hb1 (w.heap.size + 2) 1 (by omega)
        simp [go_sem] at c_hb1_sp2_1
        have f_hb1_sp2_1 := hf_hb1 (w.heap.size + 2) 1 (by omega)
        simp [go_sem] at f_hb1_sp2_1
        have c_hb1_sp2_2 := hc_hb1 (w.heap.size + 2) 2 (by omega)
        simp [go_sem] at c_hb1_sp2_2
        have f_hb1_sp2_2 := hf_hb1 (w.heap.size + 2) 2 (by omega)
        simp [go_sem] at f_hb1_sp2_2
        have c_hb1_sp3_0 := hc_hb1 (w.heap.size + 3) 0 (by omega)
        simp [go_sem] at c_hb1_sp3_0
        have f_hb1_sp3_0 := hf_hb1 (w.heap.size + 3) 0 (by omega)
        simp [go_sem] at f_hb1_sp3_0
        have c_hb1_sp3_1 := hc_hb1 (w.heap.size + 3) 1 (by omega)
        simp [go_sem] at c_hb1_sp3_1
        have f_hb1_sp3_1 := hf_hb1 (w.heap.size + 3) 1 (by omega)
        simp [go_sem] at f_hb1_sp3_1
        have c_hb1_sp3_2 := hc_hb1 (w.heap.size + 3) 2 (by omega)
        simp [go_sem] at c_hb1_sp3_2
        have f_hb1_sp3_2 := hf_hb1 (w.heap.size + 3) 2 (by omega)
        simp [go_sem] at f_hb1_sp3_2
        go_wp2_with fail
        (with_reducible refine (ref_Norm ⟨lo', hi, true⟩ _ M3.out M2.out).mono ?_); rintro e w' ⟨rfl, hb3⟩
        obtain ⟨hc_hb3, hf_hb3⟩ := bcell hb3
        have hz_hb3 := size_le hb3
        repeat (first | simp only [World.size_alloc] at hc_hb3 | simp only [World.size_setCell] at hc_hb3 | simp only [World.size_drew] at hc_hb3)
        repeat (first | simp only [World.size_alloc] at hf_hb3 | simp only [World.size_setCell] at hf_hb3 | simp only [World.size_drew] at hf_hb3)
        repeat (first | simp only [World.size_alloc] at hz_hb3 | simp only [World.size_setCell] at hz_hb3 | simp only [World.size_drew] at hz_hb3)
        have hb3_ := Lib.hid (below_next (w := w) (by go_grown) hb3)
        clear hb3
        have hb3 := hb3_.out
        clear hb3_
        have c_hb3_sp2_0 := hc_hb3 (w.heap.size + 2) 0 (by omega)
        simp [go_sem, c_hb1_sp2_0, c_hb1_sp2_1, c_hb1_sp2_2, f_hb1_sp2_0, f_hb1_sp2_1, f_hb1_sp2_2] at c_hb3_sp2_0
        have f_hb3_sp2_0 := hf_hb3 (w.heap.size + 2) 0 (by omega)
        simp [go_sem, c_hb1_sp2_0, c_hb1_sp2_1, c_hb1_sp2_2, f_hb1_sp2_0, f_hb1_sp2_1, f_hb1_sp2_2] at f_hb3_sp2_0
        have c_hb3_sp2_1 := hc_hb3 (w.heap.size + 2) 1 (by omega)
        simp [go_sem, c_hb1_sp2_0, c_hb1_sp2_1, c_hb1_sp2_2, f_hb1_sp2_0, f_hb1_sp2_1, f_hb1_sp2_2] at c_hb3_sp2_1
        have f_hb3_sp2_1 := hf_hb3 (w.heap.size + 2) 1 (by omega)
        simp [go_sem, c_hb1_sp2_0, c_hb1_sp2_1, c_hb1_sp2_2, f_hb1_sp2_0, f_hb1_sp2_1, f_hb1_sp2_2] at f_hb3_sp2_1
        have c_hb3_sp2_2 := hc_hb3 (w.heap.size + 2) 2 (by omega)
        simp [go_sem, c_hb1_sp2_0, c_hb1_sp2_1, c_hb1_sp2_2, f_hb1_sp2_0, f_hb1_sp2_1, f_hb1_sp2_2] at c_hb3_sp2_2
        have f_hb3_sp2_2 := hf_hb3 (w.heap.size + 2) 2 (by omega)
        simp [go_sem, c_hb1_sp2_0, c_hb1_sp2_1, c_hb1_sp2_2, f_hb1_sp2_0, f_hb1_sp2_1, f_hb1_sp2_2] at f_hb3_sp2_2
        go_wp2
        (try simp only [Exit.inBlock, Exit.then])
        refine bodyPost_ret (by simp [results, Try.results98, go_sem, c_hb3_sp2_0, c_hb3_sp2_1, c_hb3_sp2_2]; try rfl) rfl ?_
        refine ⟨retv ?_, by go_grown⟩
        rw [← HE.out]; simp [refMeet, lt, g1]
end Go.Proofs.Ytclbmfepdlffnaa
namespace Go.Proofs.Ytclbmfepdlffnaa
open Go.RowKit
set_option linter.unusedVariables false
set_option maxRecDepth 20000
set_option linter.unusedSimpArgs false

theorem Sl.take {α : Type} {w : World} {k : Nat} {cells : α → List Value} {A : Option Addr} {c : Nat} {l : List α} (h : Sl w k cells (.slice A l.length c) l) {q : Nat} (hq : q ≤ l.length) :
    Sl w k cells (.slice A q c) (l.take q) := by
  obtain ⟨A', c', he, h1, h2, h3⟩ := h
  injection he with hA _ hc
  subst hA; subst hc
  refine ⟨A, c, by rw [List.length_take, Nat.min_eq_left hq], by rw [List.length_take]; omega, h2, ?_⟩
  rcases h3 with h3 | ⟨b, off, rfl, hb, hc⟩
  · subst h3; exact .inl (by simp)
  · refine .inr ⟨b, off, rfl, hb, fun i u hi hu j x hx => ?_⟩
    rw [List.length_take] at hi
    refine hc i u (by omega) ?_ j x hx
    rw [← hu, List.getElem_take]
theorem Sl.drop {α : Type} {w : World} {k : Nat} {cells : α → List Value} {A : Option Addr} {c : Nat} {l : List α} (h : Sl w k cells (.slice A l.length c) l) {q : Nat} (hq : q ≤ l.length) :
    Sl w k cells (.slice (if c = q then A else A.map (·.add (q * k))) (l.length - q) (c - q)) (l.drop q) := by
  obtain ⟨A', c', he, h1, h2, h3⟩ := h
  injection he with hA _ hc
  subst hA; subst hc
  refine ⟨_, _, by rw [List.length_drop], by rw [List.length_drop]; omega, by omega, ?_⟩
  rcases h3 with h3 | ⟨b, off, rfl, hb, hc⟩
  · subst h3; exact .inl (by simp)
  · by_cases hcq : c = q
    · exact .inl (List.drop_eq_nil_of_le (by omega))
    · refine .inr ⟨b, off + q * k, by rw [if_neg hcq]; simp [Addr.add], hb, fun i u hi hu j x hx => ?_⟩
      rw [List.length_drop] at hi
      have := hc (q + i) u (by omega) (by rw [← hu, List.getElem_drop]) j x hx
      rw [← this]
      congr 2
      rw [Nat.add_mul]; omega
end Go.Proofs.Ytclbmfepdlffnaa
namespace Go.Proofs.Ytclbmfepdlffnaa
open Go.RowKit Go.Sort
set_option linter.unusedVariables false
set_option maxRecDepth 20000
set_option linter.unusedSimpArgs false
end Go.Proofs.Ytclbmfepdlffnaa
