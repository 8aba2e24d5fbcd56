/- The walks of the span layer's reference: Norm and Meet. -/
import Derived.Test.YtipbbbamjckjoaaSpanR
namespace Go.Proofs.Ytipbbbamjckjoaa
open Go.RowKit Go.Sort
set_option linter.unusedVariables false
set_option maxRecDepth 20000
set_option linter.unusedSimpArgs false

set_option maxHeartbeats 400000 in
theorem ref_Norm (s : Span) (w : World) (h1 : s.lo.size ≤ maxLen) (h2 : s.hi.size ≤ maxLen) :
    Calls Try.prog 32 #[.agg #[.string s.lo, .string s.hi, .bool s.opn]] w fun e w' => e = .returned (.agg #[.string (norm s).lo, .string (norm s).hi, .bool (norm s).opn]) ∧ Below w.heap.size w w' := by
  obtain ⟨lo, hi, o⟩ := s
  have M1 := Lib.hid h1
  have M2 := Lib.hid h2
  clear h1 h2
  cases h1 : empty ⟨lo, hi, o⟩ <;> cases o
  all_goals
    go_enter Try.func32, Try.ntmps32
    go_wp2_with fail
    (with_reducible refine (ref_Empty ⟨lo, hi, _⟩ _ M1.out M2.out).mono ?_); rintro e w' ⟨rfl, hb1⟩
    obtain ⟨hc_hb1, hf_hb1⟩ := bcell hb1
    have hz_hb1 := size_le hb1
    repeat (first | simp only [World.size_alloc] at hc_hb1 | simp only [World.size_setCell] at hc_hb1 | simp only [World.size_drew] at hc_hb1)
    repeat (first | simp only [World.size_alloc] at hf_hb1 | simp only [World.size_setCell] at hf_hb1 | simp only [World.size_drew] at hf_hb1)
    repeat (first | simp only [World.size_alloc] at hz_hb1 | simp only [World.size_setCell] at hz_hb1 | simp only [World.size_drew] at hz_hb1)
    have hb1_ := Lib.hid (below_next (w := w) (by go_grown) hb1)
    clear hb1
    have hb1 := hb1_.out
    clear hb1_
    have c_hb1_1 := hc_hb1 (w.heap.size) 1 (by omega)
    simp [go_sem] at c_hb1_1
    go_wp2
    (try simp only [Exit.inBlock, Exit.then])
    refine bodyPost_ret (by simp [results, Try.results32, go_sem, hc_hb1]; try rfl) rfl ?_
    refine ⟨retv ?_, ?_⟩
    · simp [norm, h1, spE]
    · go_grown

set_option maxHeartbeats 1000000 in
theorem ref_Meet (a b : Span) (w : World) (h1 : a.lo.size ≤ maxLen) (h2 : a.hi.size ≤ maxLen) (h3 : b.lo.size ≤ maxLen) (h4 : b.hi.size ≤ maxLen) :
    Calls Try.prog 26 #[.agg #[.string a.lo, .string a.hi, .bool a.opn], .agg #[.string b.lo, .string b.hi, .bool b.opn]] w fun e w' => e = .returned (.agg #[.string (meet a b).lo, .string (meet a b).hi, .bool (meet a b).opn]) ∧ Below w.heap.size w w' := by
  have HE := Lib.hid (refMeet_eq a b)
  obtain ⟨lo, hi, o⟩ := a
  obtain ⟨lo', hi', o'⟩ := b
  have M1 := Lib.hid h1
  have M2 := Lib.hid h2
  have M3 := Lib.hid h3
  have M4 := Lib.hid h4
  clear h1 h2 h3 h4
  cases g1 : Op.bytesLess lo.toList lo'.toList
  · cases o'
    · cases o
      · cases g2 : Op.bytesLess hi'.toList hi.toList
        · go_enter Try.func26, Try.ntmps26
          go_wp2_with fail
          (with_reducible refine (ref_Less _ _ M1.out M3.out _).mono ?_); rintro e w' ⟨rfl, hb1⟩
          obtain ⟨hc_hb1, hf_hb1⟩ := bcell hb1
          have hz_hb1 := size_le hb1
          repeat (first | simp only [World.size_alloc] at hc_hb1 | simp only [World.size_setCell] at hc_hb1 | simp only [World.size_drew] at hc_hb1)
          repeat (first | simp only [World.size_alloc] at hf_hb1 | simp only [World.size_setCell] at hf_hb1 | simp only [World.size_drew] at hf_hb1)
          repeat (first | simp only [World.size_alloc] at hz_hb1 | simp only [World.size_setCell] at hz_hb1 | simp only [World.size_drew] at hz_hb1)
          have hb1_ := Lib.hid (below_next (w := w) (by go_grown) hb1)
          clear hb1
          have hb1 := hb1_.out
          clear hb1_
          have c_hb1_s_0 := hc_hb1 (w.heap.size) 0 (by omega)
          simp [go_sem] at c_hb1_s_0
          have f_hb1_s_0 := hf_hb1 (w.heap.size) 0 (by omega)
          simp [go_sem] at f_hb1_s_0
          have c_hb1_s_1 := hc_hb1 (w.heap.size) 1 (by omega)
          simp [go_sem] at c_hb1_s_1
          have f_hb1_s_1 := hf_hb1 (w.heap.size) 1 (by omega)
          simp [go_sem] at f_hb1_s_1
          have c_hb1_s_2 := hc_hb1 (w.heap.size) 2 (by omega)
          simp [go_sem] at c_hb1_s_2
          have f_hb1_s_2 := hf_hb1 (w.heap.size) 2 (by omega)
          simp [go_sem] at f_hb1_s_2
          have c_hb1_sp1_0 := hc_hb1 (w.heap.size + 1) 0 (by omega)
          simp [go_sem] at c_hb1_sp1_0
          have f_hb1_sp1_0 := hf_hb1 (w.heap.size + 1) 0 (by omega)
          simp [go_sem] at f_hb1_sp1_0
          have c_hb1_sp1_1 := hc_hb1 (w.heap.size + 1) 1 (by omega)
          simp [go_sem] at c_hb1_sp1_1
          have f_hb1_sp1_1 := hf_hb1 (w.heap.size + 1) 1 (by omega)
          simp [go_sem] at f_hb1_sp1_1
          have c_hb1_sp1_2 := hc_hb1 (w.heap.size + 1) 2 (by omega)
          simp [go_sem] at c_hb1_sp1_2
          have f_hb1_sp1_2 := hf_hb1 (w.heap.size + 1) 2 (by omega)
          simp [go_sem] at f_hb1_sp1_2
          have c_hb1_sp2_0 := hc_hb1 (w.heap.size + 2) 0 (by omega)
          simp [go_sem] at c_hb1_sp2_0
          have f_hb1_sp2_0 := hf_hb1 (w.heap.size + 2) 0 (by omega)
          simp [go_sem] at f_hb1_sp2_0
          have c_hb1_sp2_1 := hc_hb1 (w.heap.size + 2) 1 (by omega)
          simp [go_sem] at c_hb1_sp2_1
          have f_hb1_sp2_1 := hf_hb1 (w.heap.size + 2) 1 (by omega)
          simp [go_sem] at f_hb1_sp2_1
          have c_hb1_sp2_2 := hc_hb1 (w.heap.size + 2) 2 (by omega)
          simp [go_sem] at c_hb1_sp2_2
          have f_hb1_sp2_2 := hf_hb1 (w.heap.size + 2) 2 (by omega)
          simp [go_sem] at f_hb1_sp2_2
          have c_hb1_sp3_0 := hc_hb1 (w.heap.size + 3) 0 (by omega)
          simp [go_sem] at c_hb1_sp3_0
          have f_hb1_sp3_0 := hf_hb1 (w.heap.size + 3) 0 (by omega)
          simp [go_sem] at f_hb1_sp3_0
          have c_hb1_sp3_1 := hc_hb1 (w.heap.size + 3) 1 (by omega)
          simp [go_sem] at c_hb1_sp3_1
          have f_hb1_sp3_1 := hf_hb1 (w.heap.size + 3) 1 (by omega)
          simp [go_sem] at f_hb1_sp3_1
          have c_hb1_sp3_2 := hc_hb1 (w.heap.size + 3) 2 (by omega)
          simp [go_sem] at c_hb1_sp3_2
          have f_hb1_sp3_2 := hf_hb1 (w.heap.size + 3) 2 (by omega)
          simp [go_sem] at f_hb1_sp3_2
          go_wp2_with fail
          (with_reducible refine (ref_Less _ _ M4.out M2.out _).mono ?_); rintro e w' ⟨rfl, hb2⟩
          obtain ⟨hc_hb2, hf_hb2⟩ := bcell hb2
          have hz_hb2 := size_le hb2
          repeat (first | simp only [World.size_alloc] at hc_hb2 | simp only [World.size_setCell] at hc_hb2 | simp only [World.size_drew] at hc_hb2)
          repeat (first | simp only [World.size_alloc] at hf_hb2 | simp only [World.size_setCell] at hf_hb2 | simp only [World.size_drew] at hf_hb2)
          repeat (first | simp only [World.size_alloc] at hz_hb2 | simp only [World.size_setCell] at hz_hb2 | simp only [World.size_drew] at hz_hb2)
          have hb2_ := Lib.hid (below_next (w := w) (by go_grown) hb2)
          clear hb2
          have hb2 := hb2_.out
          clear hb2_
          have c_hb2_sp1_0 := hc_hb2 (w.heap.size + 1) 0 (by omega)
          simp [go_sem, c_hb1_sp1_0, c_hb1_sp1_1, c_hb1_sp1_2, f_hb1_sp1_0, f_hb1_sp1_1, f_hb1_sp1_2, c_hb1_sp2_0, c_hb1_sp2_1, c_hb1_sp2_2, c_hb1_sp3_0, c_hb1_sp3_1, c_hb1_sp3_2, f_hb1_sp2_0, f_hb1_sp2_1, f_hb1_sp2_2, f_hb1_sp3_0, f_hb1_sp3_1, f_hb1_sp3_2] at c_hb2_sp1_0
          have f_hb2_sp1_0 := hf_hb2 (w.heap.size + 1) 0 (by omega)
          simp [go_sem, c_hb1_sp1_0, c_hb1_sp1_1, c_hb1_sp1_2, f_hb1_sp1_0, f_hb1_sp1_1, f_hb1_sp1_2, c_hb1_sp2_0, c_hb1_sp2_1, c_hb1_sp2_2, c_hb1_sp3_0, c_hb1_sp3_1, c_hb1_sp3_2, f_hb1_sp2_0, f_hb1_sp2_1, f_hb1_sp2_2, f_hb1_sp3_0, f_hb1_sp3_1, f_hb1_sp3_2] at f_hb2_sp1_0
          have c_hb2_sp1_1 := hc_hb2 (w.heap.size + 1) 1 (by omega)
          simp [go_sem, c_hb1_sp1_0, c_hb1_sp1_1, c_hb1_sp1_2, f_hb1_sp1_0, f_hb1_sp1_1, f_hb1_sp1_2, c_hb1_sp2_0, c_hb1_sp2_1, c_hb1_sp2_2, c_hb1_sp3_0, c_hb1_sp3_1, c_hb1_sp3_2, f_hb1_sp2_0, f_hb1_sp2_1, f_hb1_sp2_2, f_hb1_sp3_0, f_hb1_sp3_1, f_hb1_sp3_2] at c_hb2_sp1_1
          have f_hb2_sp1_1 := hf_hb2 (w.heap.size + 1) 1 (by omega)
          simp [go_sem, c_hb1_sp1_0, c_hb1_sp1_1, c_hb1_sp1_2, f_hb1_sp1_0, f_hb1_sp1_1, f_hb1_sp1_2, c_hb1_sp2_0, c_hb1_sp2_1, c_hb1_sp2_2, c_hb1_sp3_0, c_hb1_sp3_1, c_hb1_sp3_2, f_hb1_sp2_0, f_hb1_sp2_1, f_hb1_sp2_2, f_hb1_sp3_0, f_hb1_sp3_1, f_hb1_sp3_2] at f_hb2_sp1_1
          have c_hb2_sp1_2 := hc_hb2 (w.heap.size + 1) 2 (by omega)
          simp [go_sem, c_hb1_sp1_0, c_hb1_sp1_1, c_hb1_sp1_2, f_hb1_sp1_0, f_hb1_sp1_1, f_hb1_sp1_2, c_hb1_sp2_0, c_hb1_sp2_1, c_hb1_sp2_2, c_hb1_sp3_0, c_hb1_sp3_1, c_hb1_sp3_2, f_hb1_sp2_0, f_hb1_sp2_1, f_hb1_sp2_2, f_hb1_sp3_0, f_hb1_sp3_1, f_hb1_sp3_2] at c_hb2_sp1_2
          have f_hb2_sp1_2 := hf_hb2 (w.heap.size + 1) 2 (by omega)
          simp [go_sem, c_hb1_sp1_0, c_hb1_sp1_1, c_hb1_sp1_2, f_hb1_sp1_0, f_hb1_sp1_1, f_hb1_sp1_2, c_hb1_sp2_0, c_hb1_sp2_1, c_hb1_sp2_2, c_hb1_sp3_0, c_hb1_sp3_1, c_hb1_sp3_2, f_hb1_sp2_0, f_hb1_sp2_1, f_hb1_sp2_2, f_hb1_sp3_0, f_hb1_sp3_1, f_hb1_sp3_2] at f_hb2_sp1_2
          have c_hb2_sp2_0 := hc_hb2 (w.heap.size + 2) 0 (by omega)
          simp [go_sem, c_hb1_sp1_0, c_hb1_sp1_1, c_hb1_sp1_2, f_hb1_sp1_0, f_hb1_sp1_1, f_hb1_sp1_2, c_hb1_sp2_0, c_hb1_sp2_1, c_hb1_sp2_2, c_hb1_sp3_0, c_hb1_sp3_1, c_hb1_sp3_2, f_hb1_sp2_0, f_hb1_sp2_1, f_hb1_sp2_2, f_hb1_sp3_0, f_hb1_sp3_1, f_hb1_sp3_2] at c_hb2_sp2_0
          have f_hb2_sp2_0 := hf_hb2 (w.heap.size + 2) 0 (by omega)
          simp [go_sem, c_hb1_sp1_0, c_hb1_sp1_1, c_hb1_sp1_2, f_hb1_sp1_0, f_hb1_sp1_1, f_hb1_sp1_2, c_hb1_sp2_0, c_hb1_sp2_1, c_hb1_sp2_2, c_hb1_sp3_0, c_hb1_sp3_1, c_hb1_sp3_2, f_hb1_sp2_0, f_hb1_sp2_1, f_hb1_sp2_2, f_hb1_sp3_0, f_hb1_sp3_1, f_hb1_sp3_2] at f_hb2_sp2_0
          have c_hb2_sp2_1 := hc_hb2 (w.heap.size + 2) 1 (by omega)
          simp [go_sem, c_hb1_sp1_0, c_hb1_sp1_1, c_hb1_sp1_2, f_hb1_sp1_0, f_hb1_sp1_1, f_hb1_sp1_2, c_hb1_sp2_0, c_hb1_sp2_1, c_hb1_sp2_2, c_hb1_sp3_0, c_hb1_sp3_1, c_hb1_sp3_2, f_hb1_sp2_0, f_hb1_sp2_1, f_hb1_sp2_2, f_hb1_sp3_0, f_hb1_sp3_1, f_hb1_sp3_2] at c_hb2_sp2_1
          have f_hb2_sp2_1 := hf_hb2 (w.heap.size + 2) 1 (by omega)
          simp [go_sem, c_hb1_sp1_0, c_hb1_sp1_1, c_hb1_sp1_2, f_hb1_sp1_0, f_hb1_sp1_1, f_hb1_sp1_2, c_hb1_sp2_0, c_hb1_sp2_1, c_hb1_sp2_2, c_hb1_sp3_0, c_hb1_sp3_1, c_hb1_sp3_2, f_hb1_sp2_0, f_hb1_sp2_1, f_hb1_sp2_2, f_hb1_sp3_0, f_hb1_sp3_1, f_hb1_sp3_2] at f_hb2_sp2_1
          have c_hb2_sp2_2 := hc_hb2 (w.heap.size + 2) 2 (by omega)
          simp [go_sem, c_hb1_sp1_0, c_hb1_sp1_1, c_hb1_sp1_2, f_hb1_sp1_0, f_hb1_sp1_1, f_hb1_sp1_2, c_hb1_sp2_0, c_hb1_sp2_1, c_hb1_sp2_2, c_hb1_sp3_0, c_hb1_sp3_1, c_hb1_sp3_2, f_hb1_sp2_0, f_hb1_sp2_1, f_hb1_sp2_2, f_hb1_sp3_0, f_hb1_sp3_1, f_hb1_sp3_2] at c_hb2_sp2_2
          have f_hb2_sp2_2 := hf_hb2 (w.heap.size + 2) 2 (by omega)
          simp [go_sem, c_hb1_sp1_0, c_hb1_sp1_1, c_hb1_sp1_2, f_hb1_sp1_0, f_hb1_sp1_1, f_hb1_sp1_2, c_hb1_sp2_0, c_hb1_sp2_1, c_hb1_sp2_2, c_hb1_sp3_0, c_hb1_sp3_1, c_hb1_sp3_2, f_hb1_sp2_0, f_hb1_sp2_1, f_hb1_sp2_2, f_hb1_sp3_0, f_hb1_sp3_1, f_hb1_sp3_2] at f_hb2_sp2_2
          have c_hb2_sp3_0 := hc_hb2 (w.heap.size + 3) 0 (by omega)
          simp [go_sem, c_hb1_sp1_0, c_hb1_sp1_1, c_hb1_sp1_2, f_hb1_sp1_0, f_hb1_sp1_1, f_hb1_sp1_2, c_hb1_sp2_0, c_hb1_sp2_1, c_hb1_sp2_2, c_hb1_sp3_0, c_hb1_sp3_1, c_hb1_sp3_2, f_hb1_sp2_0, f_hb1_sp2_1, f_hb1_sp2_2, f_hb1_sp3_0, f_hb1_sp3_1, f_hb1_sp3_2] at c_hb2_sp3_0
          have f_hb2_sp3_0 := hf_hb2 (w.heap.size + 3) 0 (by omega)
          simp [go_sem, c_hb1_sp1_0, c_hb1_sp1_1, c_hb1_sp1_2, f_hb1_sp1_0, f_hb1_sp1_1, f_hb1_sp1_2, c_hb1_sp2_0, c_hb1_sp2_1, c_hb1_sp2_2, c_hb1_sp3_0, c_hb1_sp3_1, c_hb1_sp3_2, f_hb1_sp2_0, f_hb1_sp2_1, f_hb1_sp2_2, f_hb1_sp3_0, f_hb1_sp3_1, f_hb1_sp3_2] at f_hb2_sp3_0
          have c_hb2_sp3_1 := hc_hb2 (w.heap.size + 3) 1 (by omega)
          simp [go_sem, c_hb1_sp1_0, c_hb1_sp1_1, c_hb1_sp1_2, f_hb1_sp1_0, f_hb1_sp1_1, f_hb1_sp1_2, c_hb1_sp2_0, c_hb1_sp2_1, c_hb1_sp2_2, c_hb1_sp3_0, c_hb1_sp3_1, c_hb1_sp3_2, f_hb1_sp2_0, f_hb1_sp2_1, f_hb1_sp2_2, f_hb1_sp3_0, f_hb1_sp3_1, f_hb1_sp3_2] at c_hb2_sp3_1
          have f_hb2_sp3_1 := hf_hb2 (w.heap.size + 3) 1 (by omega)
          simp [go_sem, c_hb1_sp1_0, c_hb1_sp1_1, c_hb1_sp1_2, f_hb1_sp1_0, f_hb1_sp1_1, f_hb1_sp1_2, c_hb1_sp2_0, c_hb1_sp2_1, c_hb1_sp2_2, c_hb1_sp3_0, c_hb1_sp3_1, c_hb1_sp3_2, f_hb1_sp2_0, f_hb1_sp2_1, f_hb1_sp2_2, f_hb1_sp3_0, f_hb1_sp3_1, f_hb1_sp3_2] at f_hb2_sp3_1
          have c_hb2_sp3_2 := hc_hb2 (w.heap.size + 3) 2 (by omega)
          simp [go_sem, c_hb1_sp1_0, c_hb1_sp1_1, c_hb1_sp1_2, f_hb1_sp1_0, f_hb1_sp1_1, f_hb1_sp1_2, c_hb1_sp2_0, c_hb1_sp2_1, c_hb1_sp2_2, c_hb1_sp3_0, c_hb1_sp3_1, c_hb1_sp3_2, f_hb1_sp2_0, f_hb1_sp2_1, f_hb1_sp2_2, f_hb1_sp3_0, f_hb1_sp3_1, f_hb1_sp3_2] at c_hb2_sp3_2
          have f_hb2_sp3_2 := hf_hb2 (w.heap.size + 3) 2 (by omega)
          simp [go_sem, c_hb1_sp1_0, c_hb1_sp1_1, c_hb1_sp1_2, f_hb1_sp1_0, f_hb1_sp1_1, f_hb1_sp1_2, c_hb1_sp2_0, c_hb1_sp2_1, c_hb1_sp2_2, c_hb1_sp3_0, c_hb1_sp3_1, c_hb1_sp3_2, f_hb1_sp2_0, f_hb1_sp2_1, f_hb1_sp2_2, f_hb1_sp3_0, f_hb1_sp3_1, f_hb1_sp3_2] at f_hb2_sp3_2
          go_wp2_with fail
          (with_reducible refine (ref_Norm ⟨lo, hi, false⟩ _ M1.out M2.out).mono ?_); rintro e w' ⟨rfl, hb3⟩
          obtain ⟨hc_hb3, hf_hb3⟩ := bcell hb3
          have hz_hb3 := size_le hb3
          repeat (first | simp only [World.size_alloc] at hc_hb3 | simp only [World.size_setCell] at hc_hb3 | simp only [World.size_drew] at hc_hb3)
          repeat (first | simp only [World.size_alloc] at hf_hb3 | simp only [World.size_setCell] at hf_hb3 | simp only [World.size_drew] at hf_hb3)
          repeat (first | simp only [World.size_alloc] at hz_hb3 | simp only [World.size_setCell] at hz_hb3 | simp only [World.size_drew] at hz_hb3)
          have hb3_ := Lib.hid (below_next (w := w) (by go_grown) hb3)
          clear hb3
          have hb3 := hb3_.out
          clear hb3_
          have c_hb3_sp2_0 := hc_hb3 (w.heap.size + 2) 0 (by omega)
          simp [go_sem, c_hb2_sp2_0, c_hb2_sp2_1, c_hb2_sp2_2, f_hb2_sp2_0, f_hb2_sp2_1, f_hb2_sp2_2] at c_hb3_sp2_0
          have f_hb3_sp2_0 := hf_hb3 (w.heap.size + 2) 0 (by omega)
          simp [go_sem, c_hb2_sp2_0, c_hb2_sp2_1, c_hb2_sp2_2, f_hb2_sp2_0, f_hb2_sp2_1, f_hb2_sp2_2] at f_hb3_sp2_0
          have c_hb3_sp2_1 := hc_hb3 (w.heap.size + 2) 1 (by omega)
          simp [go_sem, c_hb2_sp2_0, c_hb2_sp2_1, c_hb2_sp2_2, f_hb2_sp2_0, f_hb2_sp2_1, f_hb2_sp2_2] at c_hb3_sp2_1
          have f_hb3_sp2_1 := hf_hb3 (w.heap.size + 2) 1 (by omega)
          simp [go_sem, c_hb2_sp2_0, c_hb2_sp2_1, c_hb2_sp2_2, f_hb2_sp2_0, f_hb2_sp2_1, f_hb2_sp2_2] at f_hb3_sp2_1
          have c_hb3_sp2_2 := hc_hb3 (w.heap.size + 2) 2 (by omega)
          simp [go_sem, c_hb2_sp2_0, c_hb2_sp2_1, c_hb2_sp2_2, f_hb2_sp2_0, f_hb2_sp2_1, f_hb2_sp2_2] at c_hb3_sp2_2
          have f_hb3_sp2_2 := hf_hb3 (w.heap.size + 2) 2 (by omega)
          simp [go_sem, c_hb2_sp2_0, c_hb2_sp2_1, c_hb2_sp2_2, f_hb2_sp2_0, f_hb2_sp2_1, f_hb2_sp2_2] at f_hb3_sp2_2
          go_wp2
          (try simp only [Exit.inBlock, Exit.then])
          refine bodyPost_ret (by simp [results, Try.results26, go_sem, c_hb3_sp2_0, c_hb3_sp2_1, c_hb3_sp2_2]; try rfl) rfl ?_
          refine ⟨retv ?_, by go_grown⟩
          rw [← HE.out]; simp [refMeet, lt, g1, g2]
        · go_enter Try.func26, Try.ntmps26
          go_wp2_with fail
          (with_reducible refine (ref_Less _ _ M1.out M3.out _).mono ?_); rintro e w' ⟨rfl, hb1⟩
          obtain ⟨hc_hb1, hf_hb1⟩ := bcell hb1
          have hz_hb1 := size_le hb1
          repeat (first | simp only [World.size_alloc] at hc_hb1 | simp only [World.size_setCell] at hc_hb1 | simp only [World.size_drew] at hc_hb1)
          repeat (first | simp only [World.size_alloc] at hf_hb1 | simp only [World.size_setCell] at hf_hb1 | simp only [World.size_drew] at hf_hb1)
          repeat (first | simp only [World.size_alloc] at hz_hb1 | simp only [World.size_setCell] at hz_hb1 | simp only [World.size_drew] at hz_hb1)
          have hb1_ := Lib.hid (below_next (w := w) (by go_grown) hb1)
          clear hb1
          have hb1 := hb1_.out
          clear hb1_
          have c_hb1_s_0 := hc_hb1 (w.heap.size) 0 (by omega)
          simp [go_sem] at c_hb1_s_0
          have f_hb1_s_0 := hf_hb1 (w.heap.size) 0 (by omega)
          simp [go_sem] at f_hb1_s_0
          have c_hb1_s_1 := hc_hb1 (w.heap.size) 1 (by omega)
          simp [go_sem] at c_hb1_s_1
          have f_hb1_s_1 := hf_hb1 (w.heap.size) 1 (by omega)
          simp [go_sem] at f_hb1_s_1
          have c_hb1_s_2 := hc_hb1 (w.heap.size) 2 (by omega)
          simp [go_sem] at c_hb1_s_2
          have f_hb1_s_2 := hf_hb1 (w.heap.size) 2 (by omega)
          simp [go_sem] at f_hb1_s_2
          have c_hb1_sp1_0 := hc_hb1 (w.heap.size + 1) 0 (by omega)
          simp [go_sem] at c_hb1_sp1_0
          have f_hb1_sp1_0 := hf_hb1 (w.heap.size + 1) 0 (by omega)
          simp [go_sem] at f_hb1_sp1_0
          have c_hb1_sp1_1 := hc_hb1 (w.heap.size + 1) 1 (by omega)
          simp [go_sem] at c_hb1_sp1_1
          have f_hb1_sp1_1 := hf_hb1 (w.heap.size + 1) 1 (by omega)
          simp [go_sem] at f_hb1_sp1_1
          have c_hb1_sp1_2 := hc_hb1 (w.heap.size + 1) 2 (by omega)
          simp [go_sem] at c_hb1_sp1_2
          have f_hb1_sp1_2 := hf_hb1 (w.heap.size + 1) 2 (by omega)
          simp [go_sem] at f_hb1_sp1_2
          have c_hb1_sp2_0 := hc_hb1 (w.heap.size + 2) 0 (by omega)
          simp [go_sem] at c_hb1_sp2_0
          have f_hb1_sp2_0 := hf_hb1 (w.heap.size + 2) 0 (by omega)
          simp [go_sem] at f_hb1_sp2_0
          have c_hb1_sp2_1 := hc_hb1 (w.heap.size + 2) 1 (by omega)
          simp [go_sem] at c_hb1_sp2_1
          have f_hb1_sp2_1 := hf_hb1 (w.heap.size + 2) 1 (by omega)
          simp [go_sem] at f_hb1_sp2_1
          have c_hb1_sp2_2 := hc_hb1 (w.heap.size + 2) 2 (by omega)
          simp [go_sem] at c_hb1_sp2_2
          have f_hb1_sp2_2 := hf_hb1 (w.heap.size + 2) 2 (by omega)
          simp [go_sem] at f_hb1_sp2_2
          have c_hb1_sp3_0 := hc_hb1 (w.heap.size + 3) 0 (by omega)
          simp [go_sem] at c_hb1_sp3_0
          have f_hb1_sp3_0 := hf_hb1 (w.heap.size + 3) 0 (by omega)
          simp [go_sem] at f_hb1_sp3_0
          have c_hb1_sp3_1 := hc_hb1 (w.heap.size + 3) 1 (by omega)
          simp [go_sem] at c_hb1_sp3_1
          have f_hb1_sp3_1 := hf_hb1 (w.heap.size + 3) 1 (by omega)
          simp [go_sem] at f_hb1_sp3_1
          have c_hb1_sp3_2 := hc_hb1 (w.heap.size + 3) 2 (by omega)
          simp [go_sem] at c_hb1_sp3_2
          have f_hb1_sp3_2 := hf_hb1 (w.heap.size + 3) 2 (by omega)
          simp [go_sem] at f_hb1_sp3_2
          go_wp2_with fail
          (with_reducible refine (ref_Less _ _ M4.out M2.out _).mono ?_); rintro e w' ⟨rfl, hb2⟩
          obtain ⟨hc_hb2, hf_hb2⟩ := bcell hb2
          have hz_hb2 := size_le hb2
          repeat (first | simp only [World.size_alloc] at hc_hb2 | simp only [World.size_setCell] at hc_hb2 | simp only [World.size_drew] at hc_hb2)
          repeat (first | simp only [World.size_alloc] at hf_hb2 | simp only [World.size_setCell] at hf_hb2 | simp only [World.size_drew] at hf_hb2)
          repeat (first | simp only [World.size_alloc] at hz_hb2 | simp only [World.size_setCell] at hz_hb2 | simp only [World.size_drew] at hz_hb2)
          have hb2_ := Lib.hid (below_next (w := w) (by go_grown) hb2)
          clear hb2
          have hb2 := hb2_.out
          clear hb2_
          have c_hb2_sp1_0 := hc_hb2 (w.heap.size + 1) 0 (by omega)
          simp [go_sem, c_hb1_sp1_0, c_hb1_sp1_1, c_hb1_sp1_2, f_hb1_sp1_0, f_hb1_sp1_1, f_hb1_sp1_2, c_hb1_sp2_0, c_hb1_sp2_1, c_hb1_sp2_2, c_hb1_sp3_0, c_hb1_sp3_1, c_hb1_sp3_2, f_hb1_sp2_0, f_hb1_sp2_1, f_hb1_sp2_2, f_hb1_sp3_0, f_hb1_sp3_1, f_hb1_sp3_2] at c_hb2_sp1_0
          have f_hb2_sp1_0 := hf_hb2 (w.heap.size + 1) 0 (by omega)
          simp [go_sem, c_hb1_sp1_0, c_hb1_sp1_1, c_hb1_sp1_2, f_hb1_sp1_0, f_hb1_sp1_1, f_hb1_sp1_2, c_hb1_sp2_0, c_hb1_sp2_1, c_hb1_sp2_2, c_hb1_sp3_0, c_hb1_sp3_1, c_hb1_sp3_2, f_hb1_sp2_0, f_hb1_sp2_1, f_hb1_sp2_2, f_hb1_sp3_0, f_hb1_sp3_1, f_hb1_sp3_2] at f_hb2_sp1_0
          have c_hb2_sp1_1 := hc_hb2 (w.heap.size + 1) 1 (by omega)
          simp [go_sem, c_hb1_sp1_0, c_hb1_sp1_1, c_hb1_sp1_2, f_hb1_sp1_0, f_hb1_sp1_1, f_hb1_sp1_2, c_hb1_sp2_0, c_hb1_sp2_1, c_hb1_sp2_2, c_hb1_sp3_0, c_hb1_sp3_1, c_hb1_sp3_2, f_hb1_sp2_0, f_hb1_sp2_1, f_hb1_sp2_2, f_hb1_sp3_0, f_hb1_sp3_1, f_hb1_sp3_2] at c_hb2_sp1_1
          have f_hb2_sp1_1 := hf_hb2 (w.heap.size + 1) 1 (by omega)
          simp [go_sem, c_hb1_sp1_0, c_hb1_sp1_1, c_hb1_sp1_2, f_hb1_sp1_0, f_hb1_sp1_1, f_hb1_sp1_2, c_hb1_sp2_0, c_hb1_sp2_1, c_hb1_sp2_2, c_hb1_sp3_0, c_hb1_sp3_1, c_hb1_sp3_2, f_hb1_sp2_0, f_hb1_sp2_1, f_hb1_sp2_2, f_hb1_sp3_0, f_hb1_sp3_1, f_hb1_sp3_2] at f_hb2_sp1_1
          have c_hb2_sp1_2 := hc_hb2 (w.heap.size + 1) 2 (by omega)
          simp [go_sem, c_hb1_sp1_0, c_hb1_sp1_1, c_hb1_sp1_2, f_hb1_sp1_0, f_hb1_sp1_1, f_hb1_sp1_2, c_hb1_sp2_0, c_hb1_sp2_1, c_hb1_sp2_2, c_hb1_sp3_0, c_hb1_sp3_1, c_hb1_sp3_2, f_hb1_sp2_0, f_hb1_sp2_1, f_hb1_sp2_2, f_hb1_sp3_0, f_hb1_sp3_1, f_hb1_sp3_2] at c_hb2_sp1_2
          have f_hb2_sp1_2 := hf_hb2 (w.heap.size + 1) 2 (by omega)
          simp [go_sem, c_hb1_sp1_0, c_hb1_sp1_1, c_hb1_sp1_2, f_hb1_sp1_0, f_hb1_sp1_1, f_hb1_sp1_2, c_hb1_sp2_0, c_hb1_sp2_1, c_hb1_sp2_2, c_hb1_sp3_0, c_hb1_sp3_1, c_hb1_sp3_2, f_hb1_sp2_0, f_hb1_sp2_1, f_hb1_sp2_2, f_hb1_sp3_0, f_hb1_sp3_1, f_hb1_sp3_2] at f_hb2_sp1_2
          have c_hb2_sp2_0 := hc_hb2 (w.heap.size + 2) 0 (by omega)
          simp [go_sem, c_hb1_sp1_0, c_hb1_sp1_1, c_hb1_sp1_2, f_hb1_sp1_0, f_hb1_sp1_1, f_hb1_sp1_2, c_hb1_sp2_0, c_hb1_sp2_1, c_hb1_sp2_2, c_hb1_sp3_0, c_hb1_sp3_1, c_hb1_sp3_2, f_hb1_sp2_0, f_hb1_sp2_1, f_hb1_sp2_2, f_hb1_sp3_0, f_hb1_sp3_1, f_hb1_sp3_2] at c_hb2_sp2_0
          have f_hb2_sp2_0 := hf_hb2 (w.heap.size + 2) 0 (by omega)
          simp [go_sem, c_hb1_sp1_0, c_hb1_sp1_1, c_hb1_sp1_2, f_hb1_sp1_0, f_hb1_sp1_1, f_hb1_sp1_2, c_hb1_sp2_0, c_hb1_sp2_1, c_hb1_sp2_2, c_hb1_sp3_0, c_hb1_sp3_1, c_hb1_sp3_2, f_hb1_sp2_0, f_hb1_sp2_1, f_hb1_sp2_2, f_hb1_sp3_0, f_hb1_sp3_1, f_hb1_sp3_2] at f_hb2_sp2_0
          have c_hb2_sp2_1 := hc_hb2 (w.heap.size + 2) 1 (by omega)
          simp [go_sem, c_hb1_sp1_0, c_hb1_sp1_1, c_hb1_sp1_2, f_hb1_sp1_0, f_hb1_sp1_1, f_hb1_sp1_2, c_hb1_sp2_0, c_hb1_sp2_1, c_hb1_sp2_2, c_hb1_sp3_0, c_hb1_sp3_1, c_hb1_sp3_2, f_hb1_sp2_0, f_hb1_sp2_1, f_hb1_sp2_2, f_hb1_sp3_0, f_hb1_sp3_1, f_hb1_sp3_2] at c_hb2_sp2_1
          have f_hb2_sp2_1 := hf_hb2 (w.heap.size + 2) 1 (by omega)
          simp [go_sem, c_hb1_sp1_0, c_hb1_sp1_1, c_hb1_sp1_2, f_hb1_sp1_0, f_hb1_sp1_1, f_hb1_sp1_2, c_hb1_sp2_0, c_hb1_sp2_1, c_hb1_sp2_2, c_hb1_sp3_0, c_hb1_sp3_1, c_hb1_sp3_2, f_hb1_sp2_0, f_hb1_sp2_1, f_hb1_sp2_2, f_hb1_sp3_0, f_hb1_sp3_1, f_hb1_sp3_2] at f_hb2_sp2_1
          have c_hb2_sp2_2 := hc_hb2 (w.heap.size + 2) 2 (by omega)
          simp [go_sem, c_hb1_sp1_0, c_hb1_sp1_1, c_hb1_sp1_2, f_hb1_sp1_0, f_hb1_sp1_1, f_hb1_sp1_2, c_hb1_sp2_0, c_hb1_sp2_1, c_hb1_sp2_2, c_hb1_sp3_0, c_hb1_sp3_1, c_hb1_sp3_2, f_hb1_sp2_0, f_hb1_sp2_1, f_hb1_sp2_2, f_hb1_sp3_0, f_hb1_sp3_1, f_hb1_sp3_2] at c_hb2_sp2_2
          have f_hb2_sp2_2 := hf_hb2 (w.heap.size + 2) 2 (by omega)
          simp [go_sem, c_hb1_sp1_0, c_hb1_sp1_1, c_hb1_sp1_2, f_hb1_sp1_0, f_hb1_sp1_1, f_hb1_sp1_2, c_hb1_sp2_0, c_hb1_sp2_1, c_hb1_sp2_2, c_hb1_sp3_0, c_hb1_sp3_1, c_hb1_sp3_2, f_hb1_sp2_0, f_hb1_sp2_1, f_hb1_sp2_2, f_hb1_sp3_0, f_hb1_sp3_1, f_hb1_sp3_2] at f_hb2_sp2_2
          have c_hb2_sp3_0 := hc_hb2 (w.heap.size + 3) 0 (by omega)
          simp [go_sem, c_hb1_sp1_0, c_hb1_sp1_1, c_hb1_sp1_2, f_hb1_sp1_0, f_hb1_sp1_1, f_hb1_sp1_2, c_hb1_sp2_0, c_hb1_sp2_1, c_hb1_sp2_2, c_hb1_sp3_0, c_hb1_sp3_1, c_hb1_sp3_2, f_hb1_sp2_0, f_hb1_sp2_1, f_hb1_sp2_2, f_hb1_sp3_0, f_hb1_sp3_1, f_hb1_sp3_2] at c_hb2_sp3_0
          have f_hb2_sp3_0 := hf_hb2 (w.heap.size + 3) 0 (by omega)
          simp [go_sem, c_hb1_sp1_0, c_hb1_sp1_1, c_hb1_sp1_2, f_hb1_sp1_0, f_hb1_sp1_1, f_hb1_sp1_2, c_hb1_sp2_0, c_hb1_sp2_1, c_hb1_sp2_2, c_hb1_sp3_0, c_hb1_sp3_1, c_hb1_sp3_2, f_hb1_sp2_0, f_hb1_sp2_1, f_hb1_sp2_2, f_hb1_sp3_0, f_hb1_sp3_1, f_hb1_sp3_2] at f_hb2_sp3_0
          have c_hb2_sp3_1 := hc_hb2 (w.heap.size + 3) 1 (by omega)
          simp [go_sem, c_hb1_sp1_0, c_hb1_sp1_1, c_hb1_sp1_2, f_hb1_sp1_0, f_hb1_sp1_1, f_hb1_sp1_2, c_hb1_sp2_0, c_hb1_sp2_1, c_hb1_sp2_2, c_hb1_sp3_0, c_hb1_sp3_1, c_hb1_sp3_2, f_hb1_sp2_0, f_hb1_sp2_1, f_hb1_sp2_2, f_hb1_sp3_0, f_hb1_sp3_1, f_hb1_sp3_2] at c_hb2_sp3_1
          have f_hb2_sp3_1 := hf_hb2 (w.heap.size + 3) 1 (by omega)
          simp [go_sem, c_hb1_sp1_0, c_hb1_sp1_1, c_hb1_sp1_2, f_hb1_sp1_0, f_hb1_sp1_1, f_hb1_sp1_2, c_hb1_sp2_0, c_hb1_sp2_1, c_hb1_sp2_2, c_hb1_sp3_0, c_hb1_sp3_1, c_hb1_sp3_2, f_hb1_sp2_0, f_hb1_sp2_1, f_hb1_sp2_2, f_hb1_sp3_0, f_hb1_sp3_1, f_hb1_sp3_2] at f_hb2_sp3_1
          have c_hb2_sp3_2 := hc_hb2 (w.heap.size + 3) 2 (by omega)
          simp [go_sem, c_hb1_sp1_0, c_hb1_sp1_1, c_hb1_sp1_2, f_hb1_sp1_0, f_hb1_sp1_1, f_hb1_sp1_2, c_hb1_sp2_0, c_hb1_sp2_1, c_hb1_sp2_2, c_hb1_sp3_0, c_hb1_sp3_1, c_hb1_sp3_2, f_hb1_sp2_0, f_hb1_sp2_1, f_hb1_sp2_2, f_hb1_sp3_0, f_hb1_sp3_1, f_hb1_sp3_2] at c_hb2_sp3_2
          have f_hb2_sp3_2 := hf_hb2 (w.heap.size + 3) 2 (by omega)
          simp [go_sem, c_hb1_sp1_0, c_hb1_sp1_1, c_hb1_sp1_2, f_hb1_sp1_0, f_hb1_sp1_1, f_hb1_sp1_2, c_hb1_sp2_0, c_hb1_sp2_1, c_hb1_sp2_2, c_hb1_sp3_0, c_hb1_sp3_1, c_hb1_sp3_2, f_hb1_sp2_0, f_hb1_sp2_1, f_hb1_sp2_2, f_hb1_sp3_0, f_hb1_sp3_1, f_hb1_sp3_2] at f_hb2_sp3_2
          go_wp2_with fail
          (with_reducible refine (ref_Norm ⟨lo, hi', false⟩ _ M1.out M4.out).mono ?_); rintro e w' ⟨rfl, hb3⟩
          obtain ⟨hc_hb3, hf_hb3⟩ := bcell hb3
          have hz_hb3 := size_le hb3
          repeat (first | simp only [World.size_alloc] at hc_hb3 | simp only [World.size_setCell] at hc_hb3 | simp only [World.size_drew] at hc_hb3)
          repeat (first | simp only [World.size_alloc] at hf_hb3 | simp only [World.size_setCell] at hf_hb3 | simp only [World.size_drew] at hf_hb3)
          repeat (first | simp only [World.size_alloc] at hz_hb3 | simp only [World.size_setCell] at hz_hb3 | simp only [World.size_drew] at hz_hb3)
          have hb3_ := Lib.hid (below_next (w := w) (by go_grown) hb3)
          clear hb3
          have hb3 := hb3_.out
          clear hb3_
          have c_hb3_sp2_0 := hc_hb3 (w.heap.size + 2) 0 (by omega)
          simp [go_sem, c_hb2_sp2_0, c_hb2_sp2_1, c_hb2_sp2_2, f_hb2_sp2_0, f_hb2_sp2_1, f_hb2_sp2_2] at c_hb3_sp2_0
          have f_hb3_sp2_0 := hf_hb3 (w.heap.size + 2) 0 (by omega)
          simp [go_sem, c_hb2_sp2_0, c_hb2_sp2_1, c_hb2_sp2_2, f_hb2_sp2_0, f_hb2_sp2_1, f_hb2_sp2_2] at f_hb3_sp2_0
          have c_hb3_sp2_1 := hc_hb3 (w.heap.size + 2) 1 (by omega)
          simp [go_sem, c_hb2_sp2_0, c_hb2_sp2_1, c_hb2_sp2_2, f_hb2_sp2_0, f_hb2_sp2_1, f_hb2_sp2_2] at c_hb3_sp2_1
          have f_hb3_sp2_1 := hf_hb3 (w.heap.size + 2) 1 (by omega)
          simp [go_sem, c_hb2_sp2_0, c_hb2_sp2_1, c_hb2_sp2_2, f_hb2_sp2_0, f_hb2_sp2_1, f_hb2_sp2_2] at f_hb3_sp2_1
          have c_hb3_sp2_2 := hc_hb3 (w.heap.size + 2) 2 (by omega)
          simp [go_sem, c_hb2_sp2_0, c_hb2_sp2_1, c_hb2_sp2_2, f_hb2_sp2_0, f_hb2_sp2_1, f_hb2_sp2_2] at c_hb3_sp2_2
          have f_hb3_sp2_2 := hf_hb3 (w.heap.size + 2) 2 (by omega)
          simp [go_sem, c_hb2_sp2_0, c_hb2_sp2_1, c_hb2_sp2_2, f_hb2_sp2_0, f_hb2_sp2_1, f_hb2_sp2_2] at f_hb3_sp2_2
          go_wp2
          (try simp only [Exit.inBlock, Exit.then])
          refine bodyPost_ret (by simp [results, Try.results26, go_sem, c_hb3_sp2_0, c_hb3_sp2_1, c_hb3_sp2_2]; try rfl) rfl ?_
          refine ⟨retv ?_, by go_grown⟩
          rw [← HE.out]; simp [refMeet, lt, g1, g2]
      · go_enter Try.func26, Try.ntmps26
        go_wp2_with fail
        (with_reducible refine (ref_Less _ _ M1.out M3.out _).mono ?_); rintro e w' ⟨rfl, hb1⟩
        obtain ⟨hc_hb1, hf_hb1⟩ := bcell hb1
        have hz_hb1 := size_le hb1
        repeat (first | simp only [World.size_alloc] at hc_hb1 | simp only [World.size_setCell] at hc_hb1 | simp only [World.size_drew] at hc_hb1)
        repeat (first | simp only [World.size_alloc] at hf_hb1 | simp only [World.size_setCell] at hf_hb1 | simp only [World.size_drew] at hf_hb1)
        repeat (first | simp only [World.size_alloc] at hz_hb1 | simp only [World.size_setCell] at hz_hb1 | simp only [World.size_drew] at hz_hb1)
        have hb1_ := Lib.hid (below_next (w := w) (by go_grown) hb1)
        clear hb1
        have hb1 := hb1_.out
        clear hb1_
        have c_hb1_s_0 := hc_hb1 (w.heap.size) 0 (by omega)
        simp [go_sem] at c_hb1_s_0
        have f_hb1_s_0 := hf_hb1 (w.heap.size) 0 (by omega)
        simp [go_sem] at f_hb1_s_0
        have c_hb1_s_1 := hc_hb1 (w.heap.size) 1 (by omega)
        simp [go_sem] at c_hb1_s_1
        have f_hb1_s_1 := hf_hb1 (w.heap.size) 1 (by omega)
        simp [go_sem] at f_hb1_s_1
        have c_hb1_s_2 := hc_hb1 (w.heap.size) 2 (by omega)
        simp [go_sem] at c_hb1_s_2
        have f_hb1_s_2 := hf_hb1 (w.heap.size) 2 (by omega)
        simp [go_sem] at f_hb1_s_2
        have c_hb1_sp1_0 := hc_hb1 (w.heap.size + 1) 0 (by omega)
        simp [go_sem] at c_hb1_sp1_0
        have f_hb1_sp1_0 := hf_hb1 (w.heap.size + 1) 0 (by omega)
        simp [go_sem] at f_hb1_sp1_0
        have c_hb1_sp1_1 := hc_hb1 (w.heap.size + 1) 1 (by omega)
        simp [go_sem] at c_hb1_sp1_1
        have f_hb1_sp1_1 := hf_hb1 (w.heap.size + 1) 1 (by omega)
        simp [go_sem] at f_hb1_sp1_1
        have c_hb1_sp1_2 := hc_hb1 (w.heap.size + 1) 2 (by omega)
        simp [go_sem] at c_hb1_sp1_2
        have f_hb1_sp1_2 := hf_hb1 (w.heap.size + 1) 2 (by omega)
        simp [go_sem] at f_hb1_sp1_2
        have c_hb1_sp2_0 := hc_hb1 (w.heap.size + 2) 0 (by omega)
        simp [go_sem] at c_hb1_sp2_0
        have f_hb1_sp2_0 := hf_hb1 (w.heap.size + 2) 0 (by omega)
        simp [go_sem] at f_hb1_sp2_0
        have c_hb1_sp2_1 := hc_hb1 (w.heap.size + 2) 1 (by omega)
        simp [go_sem] at c_hb1_sp2_1
        have f_hb1_sp2_1 := hf_hb1 (w.heap.size + 2) 1 (by omega)
        simp [go_sem] at f_hb1_sp2_1
        have c_hb1_sp2_2 := hc_hb1 (w.heap.size + 2) 2 (by omega)
        simp [go_sem] at c_hb1_sp2_2
        have f_hb1_sp2_2 := hf_hb1 (w.heap.size + 2) 2 (by omega)
        simp [go_sem] at f_hb1_sp2_2
        have c_hb1_sp3_0 := hc_hb1 (w.heap.size + 3) 0 (by omega)
        simp [go_sem] at c_hb1_sp3_0
        have f_hb1_sp3_0 := hf_hb1 (w.heap.size + 3) 0 (by omega)
        simp [go_sem] at f_hb1_sp3_0
        have c_hb1_sp3_1 := hc_hb1 (w.heap.size + 3) 1 (by omega)
        simp [go_sem] at c_hb1_sp3_1
        have f_hb1_sp3_1 := hf_hb1 (w.heap.size + 3) 1 (by omega)
        simp [go_sem] at f_hb1_sp3_1
        have c_hb1_sp3_2 := hc_hb1 (w.heap.size + 3) 2 (by omega)
        simp [go_sem] at c_hb1_sp3_2
        have f_hb1_sp3_2 := hf_hb1 (w.heap.size + 3) 2 (by omega)
        simp [go_sem] at f_hb1_sp3_2
        go_wp2_with fail
        (with_reducible refine (ref_Norm ⟨lo, hi', false⟩ _ M1.out M4.out).mono ?_); rintro e w' ⟨rfl, hb3⟩
        obtain ⟨hc_hb3, hf_hb3⟩ := bcell hb3
        have hz_hb3 := size_le hb3
        repeat (first | simp only [World.size_alloc] at hc_hb3 | simp only [World.size_setCell] at hc_hb3 | simp only [World.size_drew] at hc_hb3)
        repeat (first | simp only [World.size_alloc] at hf_hb3 | simp only [World.size_setCell] at hf_hb3 | simp only [World.size_drew] at hf_hb3)
        repeat (first | simp only [World.size_alloc] at hz_hb3 | simp only [World.size_setCell] at hz_hb3 | simp only [World.size_drew] at hz_hb3)
        have hb3_ := Lib.hid (below_next (w := w) (by go_grown) hb3)
        clear hb3
        have hb3 := hb3_.out
        clear hb3_
        have c_hb3_sp2_0 := hc_hb3 (w.heap.size + 2) 0 (by omega)
        simp [go_sem, c_hb1_sp2_0, c_hb1_sp2_1, c_hb1_sp2_2, f_hb1_sp2_0, f_hb1_sp2_1, f_hb1_sp2_2] at c_hb3_sp2_0
        have f_hb3_sp2_0 := hf_hb3 (w.heap.size + 2) 0 (by omega)
        simp [go_sem, c_hb1_sp2_0, c_hb1_sp2_1, c_hb1_sp2_2, f_hb1_sp2_0, f_hb1_sp2_1, f_hb1_sp2_2] at f_hb3_sp2_0
        have c_hb3_sp2_1 := hc_hb3 (w.heap.size + 2) 1 (by omega)
        simp [go_sem, c_hb1_sp2_0, c_hb1_sp2_1, c_hb1_sp2_2, f_hb1_sp2_0, f_hb1_sp2_1, f_hb1_sp2_2] at c_hb3_sp2_1
        have f_hb3_sp2_1 := hf_hb3 (w.heap.size + 2) 1 (by omega)
        simp [go_sem, c_hb1_sp2_0, c_hb1_sp2_1, c_hb1_sp2_2, f_hb1_sp2_0, f_hb1_sp2_1, f_hb1_sp2_2] at f_hb3_sp2_1
        have c_hb3_sp2_2 := hc_hb3 (w.heap.size + 2) 2 (by omega)
        simp [go_sem, c_hb1_sp2_0, c_hb1_sp2_1, c_hb1_sp2_2, f_hb1_sp2_0, f_hb1_sp2_1, f_hb1_sp2_2] at c_hb3_sp2_2
        have f_hb3_sp2_2 := hf_hb3 (w.heap.size + 2) 2 (by omega)
        simp [go_sem, c_hb1_sp2_0, c_hb1_sp2_1, c_hb1_sp2_2, f_hb1_sp2_0, f_hb1_sp2_1, f_hb1_sp2_2] at f_hb3_sp2_2
        go_wp2
        (try simp only [Exit.inBlock, Exit.then])
        refine bodyPost_ret (by simp [results, Try.results26, go_sem, c_hb3_sp2_0, c_hb3_sp2_1, c_hb3_sp2_2]; try rfl) rfl ?_
        refine ⟨retv ?_, by go_grown⟩
        rw [← HE.out]; simp [refMeet, lt, g1]
    · cases o
      · go_enter Try.func26, Try.ntmps26
        go_wp2_with fail
        (with_reducible refine (ref_Less _ _ M1.out M3.out _).mono ?_); rintro e w' ⟨rfl, hb1⟩
        obtain ⟨hc_hb1, hf_hb1⟩ := bcell hb1
        have hz_hb1 := size_le hb1
        repeat (first | simp only [World.size_alloc] at hc_hb1 | simp only [World.size_setCell] at hc_hb1 | simp only [World.size_drew] at hc_hb1)
        repeat (first | simp only [World.size_alloc] at hf_hb1 | simp only [World.size_setCell] at hf_hb1 | simp only [World.size_drew] at hf_hb1)
        repeat (first | simp only [World.size_alloc] at hz_hb1 | simp only [World.size_setCell] at hz_hb1 | simp only [World.size_drew] at hz_hb1)
        have hb1_ := Lib.hid (below_next (w := w) (by go_grown) hb1)
        clear hb1
        have hb1 := hb1_.out
        clear hb1_
        have c_hb1_s_0 := hc_hb1 (w.heap.size) 0 (by omega)
        simp [go_sem] at c_hb1_s_0
        have f_hb1_s_0 := hf_hb1 (w.heap.size) 0 (by omega)
        simp [go_sem] at f_hb1_s_0
        have c_hb1_s_1 := hc_hb1 (w.heap.size) 1 (by omega)
        simp [go_sem] at c_hb1_s_1
        have f_hb1_s_1 := hf_hb1 (w.heap.size) 1 (by omega)
        simp [go_sem] at f_hb1_s_1
        have c_hb1_s_2 := hc_hb1 (w.heap.size) 2 (by omega)
        simp [go_sem] at c_hb1_s_2
        have f_hb1_s_2 := hf_hb1 (w.heap.size) 2 (by omega)
        simp [go_sem] at f_hb1_s_2
        have c_hb1_sp1_0 := hc_hb1 (w.heap.size + 1) 0 (by omega)
        simp [go_sem] at c_hb1_sp1_0
        have f_hb1_sp1_0 := hf_hb1 (w.heap.size + 1) 0 (by omega)
        simp [go_sem] at f_hb1_sp1_0
        have c_hb1_sp1_1 := hc_hb1 (w.heap.size + 1) 1 (by omega)
        simp [go_sem] at c_hb1_sp1_1
        have f_hb1_sp1_1 := hf_hb1 (w.heap.size + 1) 1 (by omega)
        simp [go_sem] at f_hb1_sp1_1
        have c_hb1_sp1_2 := hc_hb1 (w.heap.size + 1) 2 (by omega)
        simp [go_sem] at c_hb1_sp1_2
        have f_hb1_sp1_2 := hf_hb1 (w.heap.size + 1) 2 (by omega)
        simp [go_sem] at f_hb1_sp1_2
        have c_hb1_sp2_0 := hc_hb1 (w.heap.size + 2) 0 (by omega)
        simp [go_sem] at c_hb1_sp2_0
        have f_hb1_sp2_0 := hf_hb1 (w.heap.size + 2) 0 (by omega)
        simp [go_sem] at f_hb1_sp2_0
        have c_hb1_sp2_1 := hc_hb1 (w.heap.size + 2) 1 (by omega)
        simp [go_sem] at c_hb1_sp2_1
        have f_hb1_sp2_1 := hf_hb1 (w.heap.size + 2) 1 (by omega)
        simp [go_sem] at f_hb1_sp2_1
        have c_hb1_sp2_2 := hc_hb1 (w.heap.size + 2) 2 (by omega)
        simp [go_sem] at c_hb1_sp2_2
        have f_hb1_sp2_2 := hf_hb1 (w.heap.size + 2) 2 (by omega)
        simp [go_sem] at f_hb1_sp2_2
        have c_hb1_sp3_0 := hc_hb1 (w.heap.size + 3) 0 (by omega)
        simp [go_sem] at c_hb1_sp3_0
        have f_hb1_sp3_0 := hf_hb1 (w.heap.size + 3) 0 (by omega)
        simp [go_sem] at f_hb1_sp3_0
        have c_hb1_sp3_1 := hc_hb1 (w.heap.size + 3) 1 (by omega)
        simp [go_sem] at c_hb1_sp3_1
        have f_hb1_sp3_1 := hf_hb1 (w.heap.size + 3) 1 (by omega)
        simp [go_sem] at f_hb1_sp3_1
        have c_hb1_sp3_2 := hc_hb1 (w.heap.size + 3) 2 (by omega)
        simp [go_sem] at c_hb1_sp3_2
        have f_hb1_sp3_2 := hf_hb1 (w.heap.size + 3) 2 (by omega)
        simp [go_sem] at f_hb1_sp3_2
        go_wp2_with fail
        (with_reducible refine (ref_Norm ⟨lo, hi, false⟩ _ M1.out M2.out).mono ?_); rintro e w' ⟨rfl, hb3⟩
        obtain ⟨hc_hb3, hf_hb3⟩ := bcell hb3
        have hz_hb3 := size_le hb3
        repeat (first | simp only [World.size_alloc] at hc_hb3 | simp only [World.size_setCell] at hc_hb3 | simp only [World.size_drew] at hc_hb3)
        repeat (first | simp only [World.size_alloc] at hf_hb3 | simp only [World.size_setCell] at hf_hb3 | simp only [World.size_drew] at hf_hb3)
        repeat (first | simp only [World.size_alloc] at hz_hb3 | simp only [World.size_setCell] at hz_hb3 | simp only [World.size_drew] at hz_hb3)
        have hb3_ := Lib.hid (below_next (w := w) (by go_grown) hb3)
        clear hb3
        have hb3 := hb3_.out
        clear hb3_
        have c_hb3_sp2_0 := hc_hb3 (w.heap.size + 2) 0 (by omega)
        simp [go_sem, c_hb1_sp2_0, c_hb1_sp2_1, c_hb1_sp2_2, f_hb1_sp2_0, f_hb1_sp2_1, f_hb1_sp2_2] at c_hb3_sp2_0
        have f_hb3_sp2_0 := hf_hb3 (w.heap.size + 2) 0 (by omega)
        simp [go_sem, c_hb1_sp2_0, c_hb1_sp2_1, c_hb1_sp2_2, f_hb1_sp2_0, f_hb1_sp2_1, f_hb1_sp2_2] at f_hb3_sp2_0
        have c_hb3_sp2_1 := hc_hb3 (w.heap.size + 2) 1 (by omega)
        simp [go_sem, c_hb1_sp2_0, c_hb1_sp2_1, c_hb1_sp2_2, f_hb1_sp2_0, f_hb1_sp2_1, f_hb1_sp2_2] at c_hb3_sp2_1
        have f_hb3_sp2_1 := hf_hb3 (w.heap.size + 2) 1 (by omega)
        simp [go_sem, c_hb1_sp2_0, c_hb1_sp2_1, c_hb1_sp2_2, f_hb1_sp2_0, f_hb1_sp2_1, f_hb1_sp2_2] at f_hb3_sp2_1
        have c_hb3_sp2_2 := hc_hb3 (w.heap.size + 2) 2 (by omega)
        simp [go_sem, c_hb1_sp2_0, c_hb1_sp2_1, c_hb1_sp2_2, f_hb1_sp2_0, f_hb1_sp2_1, f_hb1_sp2_2] at c_hb3_sp2_2
        have f_hb3_sp2_2 := hf_hb3 (w.heap.size + 2) 2 (by omega)
        simp [go_sem, c_hb1_sp2_0, c_hb1_sp2_1, c_hb1_sp2_2, f_hb1_sp2_0, f_hb1_sp2_1, f_hb1_sp2_2] at f_hb3_sp2_2
        go_wp2
        (try simp only [Exit.inBlock, Exit.then])
        refine bodyPost_ret (by simp [results, Try.results26, go_sem, c_hb3_sp2_0, c_hb3_sp2_1, c_hb3_sp2_2]; try rfl) rfl ?_
        refine ⟨retv ?_, by go_grown⟩
        rw [← HE.out]; simp [refMeet, lt, g1]
      · go_enter Try.func26, Try.ntmps26
        go_wp2_with fail
        (with_reducible refine (ref_Less _ _ M1.out M3.out _).mono ?_); rintro e w' ⟨rfl, hb1⟩
        obtain ⟨hc_hb1, hf_hb1⟩ := bcell hb1
        have hz_hb1 := size_le hb1
        repeat (first | simp only [World.size_alloc] at hc_hb1 | simp only [World.size_setCell] at hc_hb1 | simp only [World.size_drew] at hc_hb1)
        repeat (first | simp only [World.size_alloc] at hf_hb1 | simp only [World.size_setCell] at hf_hb1 | simp only [World.size_drew] at hf_hb1)
        repeat (first | simp only [World.size_alloc] at hz_hb1 | simp only [World.size_setCell] at hz_hb1 | simp only [World.size_drew] at hz_hb1)
        have hb1_ := Lib.hid (below_next (w := w) (by go_grown) hb1)
        clear hb1
        have hb1 := hb1_.out
        clear hb1_
        have c_hb1_s_0 := hc_hb1 (w.heap.size) 0 (by omega)
        simp [go_sem] at c_hb1_s_0
        have f_hb1_s_0 := hf_hb1 (w.heap.size) 0 (by omega)
        simp [go_sem] at f_hb1_s_0
        have c_hb1_s_1 := hc_hb1 (w.heap.size) 1 (by omega)
        simp [go_sem] at c_hb1_s_1
        have f_hb1_s_1 := hf_hb1 (w.heap.size) 1 (by omega)
        simp [go_sem] at f_hb1_s_1
        have c_hb1_s_2 := hc_hb1 (w.heap.size) 2 (by omega)
        simp [go_sem] at c_hb1_s_2
        have f_hb1_s_2 := hf_hb1 (w.heap.size) 2 (by omega)
        simp [go_sem] at f_hb1_s_2
        have c_hb1_sp1_0 := hc_hb1 (w.heap.size + 1) 0 (by omega)
        simp [go_sem] at c_hb1_sp1_0
        have f_hb1_sp1_0 := hf_hb1 (w.heap.size + 1) 0 (by omega)
        simp [go_sem] at f_hb1_sp1_0
        have c_hb1_sp1_1 := hc_hb1 (w.heap.size + 1) 1 (by omega)
        simp [go_sem] at c_hb1_sp1_1
        have f_hb1_sp1_1 := hf_hb1 (w.heap.size + 1) 1 (by omega)
        simp [go_sem] at f_hb1_sp1_1
        have c_hb1_sp1_2 := hc_hb1 (w.heap.size + 1) 2 (by omega)
        simp [go_sem] at c_hb1_sp1_2
        have f_hb1_sp1_2 := hf_hb1 (w.heap.size + 1) 2 (by omega)
        simp [go_sem] at f_hb1_sp1_2
        have c_hb1_sp2_0 := hc_hb1 (w.heap.size + 2) 0 (by omega)
        simp [go_sem] at c_hb1_sp2_0
        have f_hb1_sp2_0 := hf_hb1 (w.heap.size + 2) 0 (by omega)
        simp [go_sem] at f_hb1_sp2_0
        have c_hb1_sp2_1 := hc_hb1 (w.heap.size + 2) 1 (by omega)
        simp [go_sem] at c_hb1_sp2_1
        have f_hb1_sp2_1 := hf_hb1 (w.heap.size + 2) 1 (by omega)
        simp [go_sem] at f_hb1_sp2_1
        have c_hb1_sp2_2 := hc_hb1 (w.heap.size + 2) 2 (by omega)
        simp [go_sem] at c_hb1_sp2_2
        have f_hb1_sp2_2 := hf_hb1 (w.heap.size + 2) 2 (by omega)
        simp [go_sem] at f_hb1_sp2_2
        have c_hb1_sp3_0 := hc_hb1 (w.heap.size + 3) 0 (by omega)
        simp [go_sem] at c_hb1_sp3_0
        have f_hb1_sp3_0 := hf_hb1 (w.heap.size + 3) 0 (by omega)
        simp [go_sem] at f_hb1_sp3_0
        have c_hb1_sp3_1 := hc_hb1 (w.heap.size + 3) 1 (by omega)
        simp [go_sem] at c_hb1_sp3_1
        have f_hb1_sp3_1 := hf_hb1 (w.heap.size + 3) 1 (by omega)
        simp [go_sem] at f_hb1_sp3_1
        have c_hb1_sp3_2 := hc_hb1 (w.heap.size + 3) 2 (by omega)
        simp [go_sem] at c_hb1_sp3_2
        have f_hb1_sp3_2 := hf_hb1 (w.heap.size + 3) 2 (by omega)
        simp [go_sem] at f_hb1_sp3_2
        go_wp2_with fail
        (with_reducible refine (ref_Norm ⟨lo, hi, true⟩ _ M1.out M2.out).mono ?_); rintro e w' ⟨rfl, hb3⟩
        obtain ⟨hc_hb3, hf_hb3⟩ := bcell hb3
        have hz_hb3 := size_le hb3
        repeat (first | simp only [World.size_alloc] at hc_hb3 | simp only [World.size_setCell] at hc_hb3 | simp only [World.size_drew] at hc_hb3)
        repeat (first | simp only [World.size_alloc] at hf_hb3 | simp only [World.size_setCell] at hf_hb3 | simp only [World.size_drew] at hf_hb3)
        repeat (first | simp only [World.size_alloc] at hz_hb3 | simp only [World.size_setCell] at hz_hb3 | simp only [World.size_drew] at hz_hb3)
        have hb3_ := Lib.hid (below_next (w := w) (by go_grown) hb3)
        clear hb3
        have hb3 := hb3_.out
        clear hb3_
        have c_hb3_sp2_0 := hc_hb3 (w.heap.size + 2) 0 (by omega)
        simp [go_sem, c_hb1_sp2_0, c_hb1_sp2_1, c_hb1_sp2_2, f_hb1_sp2_0, f_hb1_sp2_1, f_hb1_sp2_2] at c_hb3_sp2_0
        have f_hb3_sp2_0 := hf_hb3 (w.heap.size + 2) 0 (by omega)
        simp [go_sem, c_hb1_sp2_0, c_hb1_sp2_1, c_hb1_sp2_2, f_hb1_sp2_0, f_hb1_sp2_1, f_hb1_sp2_2] at f_hb3_sp2_0
        have c_hb3_sp2_1 := hc_hb3 (w.heap.size + 2) 1 (by omega)
        simp [go_sem, c_hb1_sp2_0, c_hb1_sp2_1, c_hb1_sp2_2, f_hb1_sp2_0, f_hb1_sp2_1, f_hb1_sp2_2] at c_hb3_sp2_1
        have f_hb3_sp2_1 := hf_hb3 (w.heap.size + 2) 1 (by omega)
        simp [go_sem, c_hb1_sp2_0, c_hb1_sp2_1, c_hb1_sp2_2, f_hb1_sp2_0, f_hb1_sp2_1, f_hb1_sp2_2] at f_hb3_sp2_1
        have c_hb3_sp2_2 := hc_hb3 (w.heap.size + 2) 2 (by omega)
        simp [go_sem, c_hb1_sp2_0, c_hb1_sp2_1, c_hb1_sp2_2, f_hb1_sp2_0, f_hb1_sp2_1, f_hb1_sp2_2] at c_hb3_sp2_2
        have f_hb3_sp2_2 := hf_hb3 (w.heap.size + 2) 2 (by omega)
        simp [go_sem, c_hb1_sp2_0, c_hb1_sp2_1, c_hb1_sp2_2, f_hb1_sp2_0, f_hb1_sp2_1, f_hb1_sp2_2] at f_hb3_sp2_2
        go_wp2
        (try simp only [Exit.inBlock, Exit.then])
        refine bodyPost_ret (by simp [results, Try.results26, go_sem, c_hb3_sp2_0, c_hb3_sp2_1, c_hb3_sp2_2]; try rfl) rfl ?_
        refine ⟨retv ?_, by go_grown⟩
        rw [← HE.out]; simp [refMeet, lt, g1]
  · cases o'
    · cases o
      · cases g2 : Op.bytesLess hi'.toList hi.toList
        · go_enter Try.func26, Try.ntmps26
          go_wp2_with fail
          (with_reducible refine (ref_Less _ _ M1.out M3.out _).mono ?_); rintro e w' ⟨rfl, hb1⟩
          obtain ⟨hc_hb1, hf_hb1⟩ := bcell hb1
          have hz_hb1 := size_le hb1
          repeat (first | simp only [World.size_alloc] at hc_hb1 | simp only [World.size_setCell] at hc_hb1 | simp only [World.size_drew] at hc_hb1)
          repeat (first | simp only [World.size_alloc] at hf_hb1 | simp only [World.size_setCell] at hf_hb1 | simp only [World.size_drew] at hf_hb1)
          repeat (first | simp only [World.size_alloc] at hz_hb1 | simp only [World.size_setCell] at hz_hb1 | simp only [World.size_drew] at hz_hb1)
          have hb1_ := Lib.hid (below_next (w := w) (by go_grown) hb1)
          clear hb1
          have hb1 := hb1_.out
          clear hb1_
          have c_hb1_s_0 := hc_hb1 (w.heap.size) 0 (by omega)
          simp [go_sem] at c_hb1_s_0
          have f_hb1_s_0 := hf_hb1 (w.heap.size) 0 (by omega)
          simp [go_sem] at f_hb1_s_0
          have c_hb1_s_1 := hc_hb1 (w.heap.size) 1 (by omega)
          simp [go_sem] at c_hb1_s_1
          have f_hb1_s_1 := hf_hb1 (w.heap.size) 1 (by omega)
          simp [go_sem] at f_hb1_s_1
          have c_hb1_s_2 := hc_hb1 (w.heap.size) 2 (by omega)
          simp [go_sem] at c_hb1_s_2
          have f_hb1_s_2 := hf_hb1 (w.heap.size) 2 (by omega)
          simp [go_sem] at f_hb1_s_2
          have c_hb1_sp1_0 := hc_hb1 (w.heap.size + 1) 0 (by omega)
          simp [go_sem] at c_hb1_sp1_0
          have f_hb1_sp1_0 := hf_hb1 (w.heap.size + 1) 0 (by omega)
          simp [go_sem] at f_hb1_sp1_0
          have c_hb1_sp1_1 := hc_hb1 (w.heap.size + 1) 1 (by omega)
          simp [go_sem] at c_hb1_sp1_1
          have f_hb1_sp1_1 := hf_hb1 (w.heap.size + 1) 1 (by omega)
          simp [go_sem] at f_hb1_sp1_1
          have c_hb1_sp1_2 := hc_hb1 (w.heap.size + 1) 2 (by omega)
          simp [go_sem] at c_hb1_sp1_2
          have f_hb1_sp1_2 := hf_hb1 (w.heap.size + 1) 2 (by omega)
          simp [go_sem] at f_hb1_sp1_2
          have c_hb1_sp2_0 := hc_hb1 (w.heap.size + 2) 0 (by omega)
          simp [go_sem] at c_hb1_sp2_0
          have f_hb1_sp2_0 := hf_hb1 (w.heap.size + 2) 0 (by omega)
          simp [go_sem] at f_hb1_sp2_0
          have c_hb1_sp2_1 := hc_hb1 (w.heap.size + 2) 1 (by omega)
          simp [go_sem] at c_hb1_sp2_1
          have f_hb1_sp2_1 := hf_hb1 (w.heap.size + 2) 1 (by omega)
          simp [go_sem] at f_hb1_sp2_1
          have c_hb1_sp2_2 := hc_hb1 (w.heap.size + 2) 2 (by omega)
          simp [go_sem] at c_hb1_sp2_2
          have f_hb1_sp2_2 := hf_hb1 (w.heap.size + 2) 2 (by omega)
          simp [go_sem] at f_hb1_sp2_2
          have c_hb1_sp3_0 := hc_hb1 (w.heap.size + 3) 0 (by omega)
          simp [go_sem] at c_hb1_sp3_0
          have f_hb1_sp3_0 := hf_hb1 (w.heap.size + 3) 0 (by omega)
          simp [go_sem] at f_hb1_sp3_0
          have c_hb1_sp3_1 := hc_hb1 (w.heap.size + 3) 1 (by omega)
          simp [go_sem] at c_hb1_sp3_1
          have f_hb1_sp3_1 := hf_hb1 (w.heap.size + 3) 1 (by omega)
          simp [go_sem] at f_hb1_sp3_1
          have c_hb1_sp3_2 := hc_hb1 (w.heap.size + 3) 2 (by omega)
          simp [go_sem] at c_hb1_sp3_2
          have f_hb1_sp3_2 := hf_hb1 (w.heap.size + 3) 2 (by omega)
          simp [go_sem] at f_hb1_sp3_2
          go_wp2_with fail
          (with_reducible refine (ref_Less _ _ M4.out M2.out _).mono ?_); rintro e w' ⟨rfl, hb2⟩
          obtain ⟨hc_hb2, hf_hb2⟩ := bcell hb2
          have hz_hb2 := size_le hb2
          repeat (first | simp only [World.size_alloc] at hc_hb2 | simp only [World.size_setCell] at hc_hb2 | simp only [World.size_drew] at hc_hb2)
          repeat (first | simp only [World.size_alloc] at hf_hb2 | simp only [World.size_setCell] at hf_hb2 | simp only [World.size_drew] at hf_hb2)
          repeat (first | simp only [World.size_alloc] at hz_hb2 | simp only [World.size_setCell] at hz_hb2 | simp only [World.size_drew] at hz_hb2)
          have hb2_ := Lib.hid (below_next (w := w) (by go_grown) hb2)
          clear hb2
          have hb2 := hb2_.out
          clear hb2_
          have c_hb2_sp1_0 := hc_hb2 (w.heap.size + 1) 0 (by omega)
          simp [go_sem, c_hb1_sp1_0, c_hb1_sp1_1, c_hb1_sp1_2, f_hb1_sp1_0, f_hb1_sp1_1, f_hb1_sp1_2, c_hb1_sp2_0, c_hb1_sp2_1, c_hb1_sp2_2, c_hb1_sp3_0, c_hb1_sp3_1, c_hb1_sp3_2, f_hb1_sp2_0, f_hb1_sp2_1, f_hb1_sp2_2, f_hb1_sp3_0, f_hb1_sp3_1, f_hb1_sp3_2] at c_hb2_sp1_0
          have f_hb2_sp1_0 := hf_hb2 (w.heap.size + 1) 0 (by omega)
          simp [go_sem, c_hb1_sp1_0, c_hb1_sp1_1, c_hb1_sp1_2, f_hb1_sp1_0, f_hb1_sp1_1, f_hb1_sp1_2, c_hb1_sp2_0, c_hb1_sp2_1, c_hb1_sp2_2, c_hb1_sp3_0, c_hb1_sp3_1, c_hb1_sp3_2, f_hb1_sp2_0, f_hb1_sp2_1, f_hb1_sp2_2, f_hb1_sp3_0, f_hb1_sp3_1, f_hb1_sp3_2] at f_hb2_sp1_0
          have c_hb2_sp1_1 := hc_hb2 (w.heap.size + 1) 1 (by omega)
          simp [go_sem, c_hb1_sp1_0, c_hb1_sp1_1, c_hb1_sp1_2, f_hb1_sp1_0, f_hb1_sp1_1, f_hb1_sp1_2, c_hb1_sp2_0, c_hb1_sp2_1, c_hb1_sp2_2, c_hb1_sp3_0, c_hb1_sp3_1, c_hb1_sp3_2, f_hb1_sp2_0, f_hb1_sp2_1, f_hb1_sp2_2, f_hb1_sp3_0, f_hb1_sp3_1, f_hb1_sp3_2] at c_hb2_sp1_1
          have f_hb2_sp1_1 := hf_hb2 (w.heap.size + 1) 1 (by omega)
          simp [go_sem, c_hb1_sp1_0, c_hb1_sp1_1, c_hb1_sp1_2, f_hb1_sp1_0, f_hb1_sp1_1, f_hb1_sp1_2, c_hb1_sp2_0, c_hb1_sp2_1, c_hb1_sp2_2, c_hb1_sp3_0, c_hb1_sp3_1, c_hb1_sp3_2, f_hb1_sp2_0, f_hb1_sp2_1, f_hb1_sp2_2, f_hb1_sp3_0, f_hb1_sp3_1, f_hb1_sp3_2] at f_hb2_sp1_1
          have c_hb2_sp1_2 := hc_hb2 (w.heap.size + 1) 2 (by omega)
          simp [go_sem, c_hb1_sp1_0, c_hb1_sp1_1, c_hb1_sp1_2, f_hb1_sp1_0, f_hb1_sp1_1, f_hb1_sp1_2, c_hb1_sp2_0, c_hb1_sp2_1, c_hb1_sp2_2, c_hb1_sp3_0, c_hb1_sp3_1, c_hb1_sp3_2, f_hb1_sp2_0, f_hb1_sp2_1, f_hb1_sp2_2, f_hb1_sp3_0, f_hb1_sp3_1, f_hb1_sp3_2] at c_hb2_sp1_2
          have f_hb2_sp1_2 := hf_hb2 (w.heap.size + 1) 2 (by omega)
          simp [go_sem, c_hb1_sp1_0, c_hb1_sp1_1, c_hb1_sp1_2, f_hb1_sp1_0, f_hb1_sp1_1, f_hb1_sp1_2, c_hb1_sp2_0, c_hb1_sp2_1, c_hb1_sp2_2, c_hb1_sp3_0, c_hb1_sp3_1, c_hb1_sp3_2, f_hb1_sp2_0, f_hb1_sp2_1, f_hb1_sp2_2, f_hb1_sp3_0, f_hb1_sp3_1, f_hb1_sp3_2] at f_hb2_sp1_2
          have c_hb2_sp2_0 := hc_hb2 (w.heap.size + 2) 0 (by omega)
          simp [go_sem, c_hb1_sp1_0, c_hb1_sp1_1, c_hb1_sp1_2, f_hb1_sp1_0, f_hb1_sp1_1, f_hb1_sp1_2, c_hb1_sp2_0, c_hb1_sp2_1, c_hb1_sp2_2, c_hb1_sp3_0, c_hb1_sp3_1, c_hb1_sp3_2, f_hb1_sp2_0, f_hb1_sp2_1, f_hb1_sp2_2, f_hb1_sp3_0, f_hb1_sp3_1, f_hb1_sp3_2] at c_hb2_sp2_0
          have f_hb2_sp2_0 := hf_hb2 (w.heap.size + 2) 0 (by omega)
          simp [go_sem, c_hb1_sp1_0, c_hb1_sp1_1, c_hb1_sp1_2, f_hb1_sp1_0, f_hb1_sp1_1, f_hb1_sp1_2, c_hb1_sp2_0, c_hb1_sp2_1, c_hb1_sp2_2, c_hb1_sp3_0, c_hb1_sp3_1, c_hb1_sp3_2, f_hb1_sp2_0, f_hb1_sp2_1, f_hb1_sp2_2, f_hb1_sp3_0, f_hb1_sp3_1, f_hb1_sp3_2] at f_hb2_sp2_0
          have c_hb2_sp2_1 := hc_hb2 (w.heap.size + 2) 1 (by omega)
          simp [go_sem, c_hb1_sp1_0, c_hb1_sp1_1, c_hb1_sp1_2, f_hb1_sp1_0, f_hb1_sp1_1, f_hb1_sp1_2, c_hb1_sp2_0, c_hb1_sp2_1, c_hb1_sp2_2, c_hb1_sp3_0, c_hb1_sp3_1, c_hb1_sp3_2, f_hb1_sp2_0, f_hb1_sp2_1, f_hb1_sp2_2, f_hb1_sp3_0, f_hb1_sp3_1, f_hb1_sp3_2] at c_hb2_sp2_1
          have f_hb2_sp2_1 := hf_hb2 (w.heap.size + 2) 1 (by omega)
          simp [go_sem, c_hb1_sp1_0, c_hb1_sp1_1, c_hb1_sp1_2, f_hb1_sp1_0, f_hb1_sp1_1, f_hb1_sp1_2, c_hb1_sp2_0, c_hb1_sp2_1, c_hb1_sp2_2, c_hb1_sp3_0, c_hb1_sp3_1, c_hb1_sp3_2, f_hb1_sp2_0, f_hb1_sp2_1, f_hb1_sp2_2, f_hb1_sp3_0, f_hb1_sp3_1, f_hb1_sp3_2] at f_hb2_sp2_1
          have c_hb2_sp2_2 := hc_hb2 (w.heap.size + 2) 2 (by omega)
          simp [go_sem, c_hb1_sp1_0, c_hb1_sp1_1, c_hb1_sp1_2, f_hb1_sp1_0, f_hb1_sp1_1, f_hb1_sp1_2, c_hb1_sp2_0, c_hb1_sp2_1, c_hb1_sp2_2, c_hb1_sp3_0, c_hb1_sp3_1, c_hb1_sp3_2, f_hb1_sp2_0, f_hb1_sp2_1, f_hb1_sp2_2, f_hb1_sp3_0, f_hb1_sp3_1, f_hb1_sp3_2] at c_hb2_sp2_2
          have f_hb2_sp2_2 := hf_hb2 (w.heap.size + 2) 2 (by omega)
          simp [go_sem, c_hb1_sp1_0, c_hb1_sp1_1, c_hb1_sp1_2, f_hb1_sp1_0, f_hb1_sp1_1, f_hb1_sp1_2, c_hb1_sp2_0, c_hb1_sp2_1, c_hb1_sp2_2, c_hb1_sp3_0, c_hb1_sp3_1, c_hb1_sp3_2, f_hb1_sp2_0, f_hb1_sp2_1, f_hb1_sp2_2, f_hb1_sp3_0, f_hb1_sp3_1, f_hb1_sp3_2] at f_hb2_sp2_2
          have c_hb2_sp3_0 := hc_hb2 (w.heap.size + 3) 0 (by omega)
          simp [go_sem, c_hb1_sp1_0, c_hb1_sp1_1, c_hb1_sp1_2, f_hb1_sp1_0, f_hb1_sp1_1, f_hb1_sp1_2, c_hb1_sp2_0, c_hb1_sp2_1, c_hb1_sp2_2, c_hb1_sp3_0, c_hb1_sp3_1, c_hb1_sp3_2, f_hb1_sp2_0, f_hb1_sp2_1, f_hb1_sp2_2, f_hb1_sp3_0, f_hb1_sp3_1, f_hb1_sp3_2] at c_hb2_sp3_0
          have f_hb2_sp3_0 := hf_hb2 (w.heap.size + 3) 0 (by omega)
          simp [go_sem, c_hb1_sp1_0, c_hb1_sp1_1, c_hb1_sp1_2, f_hb1_sp1_0, f_hb1_sp1_1, f_hb1_sp1_2, c_hb1_sp2_0, c_hb1_sp2_1, c_hb1_sp2_2, c_hb1_sp3_0, c_hb1_sp3_1, c_hb1_sp3_2, f_hb1_sp2_0, f_hb1_sp2_1, f_hb1_sp2_2, f_hb1_sp3_0, f_hb1_sp3_1, f_hb1_sp3_2] at f_hb2_sp3_0
          have c_hb2_sp3_1 := hc_hb2 (w.heap.size + 3) 1 (by omega)
          simp [go_sem, c_hb1_sp1_0, c_hb1_sp1_1, c_hb1_sp1_2, f_hb1_sp1_0, f_hb1_sp1_1, f_hb1_sp1_2, c_hb1_sp2_0, c_hb1_sp2_1, c_hb1_sp2_2, c_hb1_sp3_0, c_hb1_sp3_1, c_hb1_sp3_2, f_hb1_sp2_0, f_hb1_sp2_1, f_hb1_sp2_2, f_hb1_sp3_0, f_hb1_sp3_1, f_hb1_sp3_2] at c_hb2_sp3_1
          have f_hb2_sp3_1 := hf_hb2 (w.heap.size + 3) 1 (by omega)
          simp [go_sem, c_hb1_sp1_0, c_hb1_sp1_1, c_hb1_sp1_2, f_hb1_sp1_0, f_hb1_sp1_1, f_hb1_sp1_2, c_hb1_sp2_0, c_hb1_sp2_1, c_hb1_sp2_2, c_hb1_sp3_0, c_hb1_sp3_1, c_hb1_sp3_2, f_hb1_sp2_0, f_hb1_sp2_1, f_hb1_sp2_2, f_hb1_sp3_0, f_hb1_sp3_1, f_hb1_sp3_2] at f_hb2_sp3_1
          have c_hb2_sp3_2 := hc_hb2 (w.heap.size + 3) 2 (by omega)
          simp [go_sem, c_hb1_sp1_0, c_hb1_sp1_1, c_hb1_sp1_2, f_hb1_sp1_0, f_hb1_sp1_1, f_hb1_sp1_2, c_hb1_sp2_0, c_hb1_sp2_1, c_hb1_sp2_2, c_hb1_sp3_0, c_hb1_sp3_1, c_hb1_sp3_2, f_hb1_sp2_0, f_hb1_sp2_1, f_hb1_sp2_2, f_hb1_sp3_0, f_hb1_sp3_1, f_hb1_sp3_2] at c_hb2_sp3_2
          have f_hb2_sp3_2 := hf_hb2 (w.heap.size + 3) 2 (by omega)
          simp [go_sem, c_hb1_sp1_0, c_hb1_sp1_1, c_hb1_sp1_2, f_hb1_sp1_0, f_hb1_sp1_1, f_hb1_sp1_2, c_hb1_sp2_0, c_hb1_sp2_1, c_hb1_sp2_2, c_hb1_sp3_0, c_hb1_sp3_1, c_hb1_sp3_2, f_hb1_sp2_0, f_hb1_sp2_1, f_hb1_sp2_2, f_hb1_sp3_0, f_hb1_sp3_1, f_hb1_sp3_2] at f_hb2_sp3_2
          go_wp2_with fail
          (with_reducible refine (ref_Norm ⟨lo', hi, false⟩ _ M3.out M2.out).mono ?_); rintro e w' ⟨rfl, hb3⟩
          obtain ⟨hc_hb3, hf_hb3⟩ := bcell hb3
          have hz_hb3 := size_le hb3
          repeat (first | simp only [World.size_alloc] at hc_hb3 | simp only [World.size_setCell] at hc_hb3 | simp only [World.size_drew] at hc_hb3)
          repeat (first | simp only [World.size_alloc] at hf_hb3 | simp only [World.size_setCell] at hf_hb3 | simp only [World.size_drew] at hf_hb3)
          repeat (first | simp only [World.size_alloc] at hz_hb3 | simp only [World.size_setCell] at hz_hb3 | simp only [World.size_drew] at hz_hb3)
          have hb3_ := Lib.hid (below_next (w := w) (by go_grown) hb3)
          clear hb3
          have hb3 := hb3_.out
          clear hb3_
          have c_hb3_sp2_0 := hc_hb3 (w.heap.size + 2) 0 (by omega)
          simp [go_sem, c_hb2_sp2_0, c_hb2_sp2_1, c_hb2_sp2_2, f_hb2_sp2_0, f_hb2_sp2_1, f_hb2_sp2_2] at c_hb3_sp2_0
          have f_hb3_sp2_0 := hf_hb3 (w.heap.size + 2) 0 (by omega)
          simp [go_sem, c_hb2_sp2_0, c_hb2_sp2_1, c_hb2_sp2_2, f_hb2_sp2_0, f_hb2_sp2_1, f_hb2_sp2_2] at f_hb3_sp2_0
          have c_hb3_sp2_1 := hc_hb3 (w.heap.size + 2) 1 (by omega)
          simp [go_sem, c_hb2_sp2_0, c_hb2_sp2_1, c_hb2_sp2_2, f_hb2_sp2_0, f_hb2_sp2_1, f_hb2_sp2_2] at c_hb3_sp2_1
          have f_hb3_sp2_1 := hf_hb3 (w.heap.size + 2) 1 (by omega)
          simp [go_sem, c_hb2_sp2_0, c_hb2_sp2_1, c_hb2_sp2_2, f_hb2_sp2_0, f_hb2_sp2_1, f_hb2_sp2_2] at f_hb3_sp2_1
          have c_hb3_sp2_2 := hc_hb3 (w.heap.size + 2) 2 (by omega)
          simp [go_sem, c_hb2_sp2_0, c_hb2_sp2_1, c_hb2_sp2_2, f_hb2_sp2_0, f_hb2_sp2_1, f_hb2_sp2_2] at c_hb3_sp2_2
          have f_hb3_sp2_2 := hf_hb3 (w.heap.size + 2) 2 (by omega)
          simp [go_sem, c_hb2_sp2_0, c_hb2_sp2_1, c_hb2_sp2_2, f_hb2_sp2_0, f_hb2_sp2_1, f_hb2_sp2_2] at f_hb3_sp2_2
          go_wp2
          (try simp only [Exit.inBlock, Exit.then])
          refine bodyPost_ret (by simp [results, Try.results26, go_sem, c_hb3_sp2_0, c_hb3_sp2_1, c_hb3_sp2_2]; try rfl) rfl ?_
          refine ⟨retv ?_, by go_grown⟩
          rw [← HE.out]; simp [refMeet, lt, g1, g2]
        · go_enter Try.func26, Try.ntmps26
          go_wp2_with fail
          (with_reducible refine (ref_Less _ _ M1.out M3.out _).mono ?_); rintro e w' ⟨rfl, hb1⟩
          obtain ⟨hc_hb1, hf_hb1⟩ := bcell hb1
          have hz_hb1 := size_le hb1
          repeat (first | simp only [World.size_alloc] at hc_hb1 | simp only [World.size_setCell] at hc_hb1 | simp only [World.size_drew] at hc_hb1)
          repeat (first | simp only [World.size_alloc] at hf_hb1 | simp only [World.size_setCell] at hf_hb1 | simp only [World.size_drew] at hf_hb1)
          repeat (first | simp only [World.size_alloc] at hz_hb1 | simp only [World.size_setCell] at hz_hb1 | simp only [World.size_drew] at hz_hb1)
          have hb1_ := Lib.hid (below_next (w := w) (by go_grown) hb1)
          clear hb1
          have hb1 := hb1_.out
          clear hb1_
          have c_hb1_s_0 := hc_hb1 (w.heap.size) 0 (by omega)
          simp [go_sem] at c_hb1_s_0
          have f_hb1_s_0 := hf_hb1 (w.heap.size) 0 (by omega)
          simp [go_sem] at f_hb1_s_0
          have c_hb1_s_1 := hc_hb1 (w.heap.size) 1 (by omega)
          simp [go_sem] at c_hb1_s_1
          have f_hb1_s_1 := hf_hb1 (w.heap.size) 1 (by omega)
          simp [go_sem] at f_hb1_s_1
          have c_hb1_s_2 := hc_hb1 (w.heap.size) 2 (by omega)
          simp [go_sem] at c_hb1_s_2
          have f_hb1_s_2 := hf_hb1 (w.heap.size) 2 (by omega)
          simp [go_sem] at f_hb1_s_2
          have c_hb1_sp1_0 := hc_hb1 (w.heap.size + 1) 0 (by omega)
          simp [go_sem] at c_hb1_sp1_0
          have f_hb1_sp1_0 := hf_hb1 (w.heap.size + 1) 0 (by omega)
          simp [go_sem] at f_hb1_sp1_0
          have c_hb1_sp1_1 := hc_hb1 (w.heap.size + 1) 1 (by omega)
          simp [go_sem] at c_hb1_sp1_1
          have f_hb1_sp1_1 := hf_hb1 (w.heap.size + 1) 1 (by omega)
          simp [go_sem] at f_hb1_sp1_1
          have c_hb1_sp1_2 := hc_hb1 (w.heap.size + 1) 2 (by omega)
          simp [go_sem] at c_hb1_sp1_2
          have f_hb1_sp1_2 := hf_hb1 (w.heap.size + 1) 2 (by omega)
          simp [go_sem] at f_hb1_sp1_2
          have c_hb1_sp2_0 := hc_hb1 (w.heap.size + 2) 0 (by omega)
          simp [go_sem] at c_hb1_sp2_0
          have f_hb1_sp2_0 := hf_hb1 (w.heap.size + 2) 0 (by omega)
          simp [go_sem] at f_hb1_sp2_0
          have c_hb1_sp2_1 := hc_hb1 (w.heap.size + 2) 1 (by omega)
          simp [go_sem] at c_hb1_sp2_1
          have f_hb1_sp2_1 := hf_hb1 (w.heap.size + 2) 1 (by omega)
          simp [go_sem] at f_hb1_sp2_1
          have c_hb1_sp2_2 := hc_hb1 (w.heap.size + 2) 2 (by omega)
          simp [go_sem] at c_hb1_sp2_2
          have f_hb1_sp2_2 := hf_hb1 (w.heap.size + 2) 2 (by omega)
          simp [go_sem] at f_hb1_sp2_2
          have c_hb1_sp3_0 := hc_hb1 (w.heap.size + 3) 0 (by omega)
          simp [go_sem] at c_hb1_sp3_0
          have f_hb1_sp3_0 := hf_hb1 (w.heap.size + 3) 0 (by omega)
          simp [go_sem] at f_hb1_sp3_0
          have c_hb1_sp3_1 := hc_hb1 (w.heap.size + 3) 1 (by omega)
          simp [go_sem] at c_hb1_sp3_1
          have f_hb1_sp3_1 := hf_hb1 (w.heap.size + 3) 1 (by omega)
          simp [go_sem] at f_hb1_sp3_1
          have c_hb1_sp3_2 := hc_hb1 (w.heap.size + 3) 2 (by omega)
          simp [go_sem] at c_hb1_sp3_2
          have f_hb1_sp3_2 := hf_hb1 (w.heap.size + 3) 2 (by omega)
          simp [go_sem] at f_hb1_sp3_2
          go_wp2_with fail
          (with_reducible refine (ref_Less _ _ M4.out M2.out _).mono ?_); rintro e w' ⟨rfl, hb2⟩
          obtain ⟨hc_hb2, hf_hb2⟩ := bcell hb2
          have hz_hb2 := size_le hb2
          repeat (first | simp only [World.size_alloc] at hc_hb2 | simp only [World.size_setCell] at hc_hb2 | simp only [World.size_drew] at hc_hb2)
          repeat (first | simp only [World.size_alloc] at hf_hb2 | simp only [World.size_setCell] at hf_hb2 | simp only [World.size_drew] at hf_hb2)
          repeat (first | simp only [World.size_alloc] at hz_hb2 | simp only [World.size_setCell] at hz_hb2 | simp only [World.size_drew] at hz_hb2)
          have hb2_ := Lib.hid (below_next (w := w) (by go_grown) hb2)
          clear hb2
          have hb2 := hb2_.out
          clear hb2_
          have c_hb2_sp1_0 := hc_hb2 (w.heap.size + 1) 0 (by omega)
          simp [go_sem, c_hb1_sp1_0, c_hb1_sp1_1, c_hb1_sp1_2, f_hb1_sp1_0, f_hb1_sp1_1, f_hb1_sp1_2, c_hb1_sp2_0, c_hb1_sp2_1, c_hb1_sp2_2, c_hb1_sp3_0, c_hb1_sp3_1, c_hb1_sp3_2, f_hb1_sp2_0, f_hb1_sp2_1, f_hb1_sp2_2, f_hb1_sp3_0, f_hb1_sp3_1, f_hb1_sp3_2] at c_hb2_sp1_0
          have f_hb2_sp1_0 := hf_hb2 (w.heap.size + 1) 0 (by omega)
          simp [go_sem, c_hb1_sp1_0, c_hb1_sp1_1, c_hb1_sp1_2, f_hb1_sp1_0, f_hb1_sp1_1, f_hb1_sp1_2, c_hb1_sp2_0, c_hb1_sp2_1, c_hb1_sp2_2, c_hb1_sp3_0, c_hb1_sp3_1, c_hb1_sp3_2, f_hb1_sp2_0, f_hb1_sp2_1, f_hb1_sp2_2, f_hb1_sp3_0, f_hb1_sp3_1, f_hb1_sp3_2] at f_hb2_sp1_0
          have c_hb2_sp1_1 := hc_hb2 (w.heap.size + 1) 1 (by omega)
          simp [go_sem, c_hb1_sp1_0, c_hb1_sp1_1, c_hb1_sp1_2, f_hb1_sp1_0, f_hb1_sp1_1, f_hb1_sp1_2, c_hb1_sp2_0, c_hb1_sp2_1, c_hb1_sp2_2, c_hb1_sp3_0, c_hb1_sp3_1, c_hb1_sp3_2, f_hb1_sp2_0, f_hb1_sp2_1, f_hb1_sp2_2, f_hb1_sp3_0, f_hb1_sp3_1, f_hb1_sp3_2] at c_hb2_sp1_1
          have f_hb2_sp1_1 := hf_hb2 (w.heap.size + 1) 1 (by omega)
          simp [go_sem, c_hb1_sp1_0, c_hb1_sp1_1, c_hb1_sp1_2, f_hb1_sp1_0, f_hb1_sp1_1, f_hb1_sp1_2, c_hb1_sp2_0, c_hb1_sp2_1, c_hb1_sp2_2, c_hb1_sp3_0, c_hb1_sp3_1, c_hb1_sp3_2, f_hb1_sp2_0, f_hb1_sp2_1, f_hb1_sp2_2, f_hb1_sp3_0, f_hb1_sp3_1, f_hb1_sp3_2] at f_hb2_sp1_1
          have c_hb2_sp1_2 := hc_hb2 (w.heap.size + 1) 2 (by omega)
          simp [go_sem, c_hb1_sp1_0, c_hb1_sp1_1, c_hb1_sp1_2, f_hb1_sp1_0, f_hb1_sp1_1, f_hb1_sp1_2, c_hb1_sp2_0, c_hb1_sp2_1, c_hb1_sp2_2, c_hb1_sp3_0, c_hb1_sp3_1, c_hb1_sp3_2, f_hb1_sp2_0, f_hb1_sp2_1, f_hb1_sp2_2, f_hb1_sp3_0, f_hb1_sp3_1, f_hb1_sp3_2] at c_hb2_sp1_2
          have f_hb2_sp1_2 := hf_hb2 (w.heap.size + 1) 2 (by omega)
          simp [go_sem, c_hb1_sp1_0, c_hb1_sp1_1, c_hb1_sp1_2, f_hb1_sp1_0, f_hb1_sp1_1, f_hb1_sp1_2, c_hb1_sp2_0, c_hb1_sp2_1, c_hb1_sp2_2, c_hb1_sp3_0, c_hb1_sp3_1, c_hb1_sp3_2, f_hb1_sp2_0, f_hb1_sp2_1, f_hb1_sp2_2, f_hb1_sp3_0, f_hb1_sp3_1, f_hb1_sp3_2] at f_hb2_sp1_2
          have c_hb2_sp2_0 := hc_hb2 (w.heap.size + 2) 0 (by omega)
          simp [go_sem, c_hb1_sp1_0, c_hb1_sp1_1, c_hb1_sp1_2, f_hb1_sp1_0, f_hb1_sp1_1, f_hb1_sp1_2, c_hb1_sp2_0, c_hb1_sp2_1, c_hb1_sp2_2, c_hb1_sp3_0, c_hb1_sp3_1, c_hb1_sp3_2, f_hb1_sp2_0, f_hb1_sp2_1, f_hb1_sp2_2, f_hb1_sp3_0, f_hb1_sp3_1, f_hb1_sp3_2] at c_hb2_sp2_0
          have f_hb2_sp2_0 := hf_hb2 (w.heap.size + 2) 0 (by omega)
          simp [go_sem, c_hb1_sp1_0, c_hb1_sp1_1, c_hb1_sp1_2, f_hb1_sp1_0, f_hb1_sp1_1, f_hb1_sp1_2, c_hb1_sp2_0, c_hb1_sp2_1, c_hb1_sp2_2, c_hb1_sp3_0, c_hb1_sp3_1, c_hb1_sp3_2, f_hb1_sp2_0, f_hb1_sp2_1, f_hb1_sp2_2, f_hb1_sp3_0, f_hb1_sp3_1, f_hb1_sp3_2] at f_hb2_sp2_0
          have c_hb2_sp2_1 := hc_hb2 (w.heap.size + 2) 1 (by omega)
          simp [go_sem, c_hb1_sp1_0, c_hb1_sp1_1, c_hb1_sp1_2, f_hb1_sp1_0, f_hb1_sp1_1, f_hb1_sp1_2, c_hb1_sp2_0, c_hb1_sp2_1, c_hb1_sp2_2, c_hb1_sp3_0, c_hb1_sp3_1, c_hb1_sp3_2, f_hb1_sp2_0, f_hb1_sp2_1, f_hb1_sp2_2, f_hb1_sp3_0, f_hb1_sp3_1, f_hb1_sp3_2] at c_hb2_sp2_1
          have f_hb2_sp2_1 := hf_hb2 (w.heap.size + 2) 1 (by omega)
          simp [go_sem, c_hb1_sp1_0, c_hb1_sp1_1, c_hb1_sp1_2, f_hb1_sp1_0, f_hb1_sp1_1, f_hb1_sp1_2, c_hb1_sp2_0, c_hb1_sp2_1, c_hb1_sp2_2, c_hb1_sp3_0, c_hb1_sp3_1, c_hb1_sp3_2, f_hb1_sp2_0, f_hb1_sp2_1, f_hb1_sp2_2, f_hb1_sp3_0, f_hb1_sp3_1, f_hb1_sp3_2] at f_hb2_sp2_1
          have c_hb2_sp2_2 := hc_hb2 (w.heap.size + 2) 2 (by omega)
          simp [go_sem, c_hb1_sp1_0, c_hb1_sp1_1, c_hb1_sp1_2, f_hb1_sp1_0, f_hb1_sp1_1, f_hb1_sp1_2, c_hb1_sp2_0, c_hb1_sp2_1, c_hb1_sp2_2, c_hb1_sp3_0, c_hb1_sp3_1, c_hb1_sp3_2, f_hb1_sp2_0, f_hb1_sp2_1, f_hb1_sp2_2, f_hb1_sp3_0, f_hb1_sp3_1, f_hb1_sp3_2] at c_hb2_sp2_2
          have f_hb2_sp2_2 := hf_hb2 (w.heap.size + 2) 2 (by omega)
          simp [go_sem, c_hb1_sp1_0, c_hb1_sp1_1, c_hb1_sp1_2, f_hb1_sp1_0, f_hb1_sp1_1, f_hb1_sp1_2, c_hb1_sp2_0, c_hb1_sp2_1, c_hb1_sp2_2, c_hb1_sp3_0, c_hb1_sp3_1, c_hb1_sp3_2, f_hb1_sp2_0, f_hb1_sp2_1, f_hb1_sp2_2, f_hb1_sp3_0, f_hb1_sp3_1, f_hb1_sp3_2] at f_hb2_sp2_2
          have c_hb2_sp3_0 := hc_hb2 (w.heap.size + 3) 0 (by omega)
          simp [go_sem, c_hb1_sp1_0, c_hb1_sp1_1, c_hb1_sp1_2, f_hb1_sp1_0, f_hb1_sp1_1, f_hb1_sp1_2, c_hb1_sp2_0, c_hb1_sp2_1, c_hb1_sp2_2, c_hb1_sp3_0, c_hb1_sp3_1, c_hb1_sp3_2, f_hb1_sp2_0, f_hb1_sp2_1, f_hb1_sp2_2, f_hb1_sp3_0, f_hb1_sp3_1, f_hb1_sp3_2] at c_hb2_sp3_0
          have f_hb2_sp3_0 := hf_hb2 (w.heap.size + 3) 0 (by omega)
          simp [go_sem, c_hb1_sp1_0, c_hb1_sp1_1, c_hb1_sp1_2, f_hb1_sp1_0, f_hb1_sp1_1, f_hb1_sp1_2, c_hb1_sp2_0, c_hb1_sp2_1, c_hb1_sp2_2, c_hb1_sp3_0, c_hb1_sp3_1, c_hb1_sp3_2, f_hb1_sp2_0, f_hb1_sp2_1, f_hb1_sp2_2, f_hb1_sp3_0, f_hb1_sp3_1, f_hb1_sp3_2] at f_hb2_sp3_0
          have c_hb2_sp3_1 := hc_hb2 (w.heap.size + 3) 1 (by omega)
          simp [go_sem, c_hb1_sp1_0, c_hb1_sp1_1, c_hb1_sp1_2, f_hb1_sp1_0, f_hb1_sp1_1, f_hb1_sp1_2, c_hb1_sp2_0, c_hb1_sp2_1, c_hb1_sp2_2, c_hb1_sp3_0, c_hb1_sp3_1, c_hb1_sp3_2, f_hb1_sp2_0, f_hb1_sp2_1, f_hb1_sp2_2, f_hb1_sp3_0, f_hb1_sp3_1, f_hb1_sp3_2] at c_hb2_sp3_1
          have f_hb2_sp3_1 := hf_hb2 (w.heap.size + 3) 1 (by omega)
          simp [go_sem, c_hb1_sp1_0, c_hb1_sp1_1, c_hb1_sp1_2, f_hb1_sp1_0, f_hb1_sp1_1, f_hb1_sp1_2, c_hb1_sp2_0, c_hb1_sp2_1, c_hb1_sp2_2, c_hb1_sp3_0, c_hb1_sp3_1, c_hb1_sp3_2, f_hb1_sp2_0, f_hb1_sp2_1, f_hb1_sp2_2, f_hb1_sp3_0, f_hb1_sp3_1, f_hb1_sp3_2] at f_hb2_sp3_1
          have c_hb2_sp3_2 := hc_hb2 (w.heap.size + 3) 2 (by omega)
          simp [go_sem, c_hb1_sp1_0, c_hb1_sp1_1, c_hb1_sp1_2, f_hb1_sp1_0, f_hb1_sp1_1, f_hb1_sp1_2, c_hb1_sp2_0, c_hb1_sp2_1, c_hb1_sp2_2, c_hb1_sp3_0, c_hb1_sp3_1, c_hb1_sp3_2, f_hb1_sp2_0, f_hb1_sp2_1, f_hb1_sp2_2, f_hb1_sp3_0, f_hb1_sp3_1, f_hb1_sp3_2] at c_hb2_sp3_2
          have f_hb2_sp3_2 := hf_hb2 (w.heap.size + 3) 2 (by omega)
          simp [go_sem, c_hb1_sp1_0, c_hb1_sp1_1, c_hb1_sp1_2, f_hb1_sp1_0, f_hb1_sp1_1, f_hb1_sp1_2, c_hb1_sp2_0, c_hb1_sp2_1, c_hb1_sp2_2, c_hb1_sp3_0, c_hb1_sp3_1, c_hb1_sp3_2, f_hb1_sp2_0, f_hb1_sp2_1, f_hb1_sp2_2, f_hb1_sp3_0, f_hb1_sp3_1, f_hb1_sp3_2] at f_hb2_sp3_2
          go_wp2_with fail
          (with_reducible refine (ref_Norm ⟨lo', hi', false⟩ _ M3.out M4.out).mono ?_); rintro e w' ⟨rfl, hb3⟩
          obtain ⟨hc_hb3, hf_hb3⟩ := bcell hb3
          have hz_hb3 := size_le hb3
          repeat (first | simp only [World.size_alloc] at hc_hb3 | simp only [World.size_setCell] at hc_hb3 | simp only [World.size_drew] at hc_hb3)
          repeat (first | simp only [World.size_alloc] at hf_hb3 | simp only [World.size_setCell] at hf_hb3 | simp only [World.size_drew] at hf_hb3)
          repeat (first | simp only [World.size_alloc] at hz_hb3 | simp only [World.size_setCell] at hz_hb3 | simp only [World.size_drew] at hz_hb3)
          have hb3_ := Lib.hid (below_next (w := w) (by go_grown) hb3)
          clear hb3
          have hb3 := hb3_.out
          clear hb3_
          have c_hb3_sp2_0 := hc_hb3 (w.heap.size + 2) 0 (by omega)
          simp [go_sem, c_hb2_sp2_0, c_hb2_sp2_1, c_hb2_sp2_2, f_hb2_sp2_0, f_hb2_sp2_1, f_hb2_sp2_2] at c_hb3_sp2_0
          have f_hb3_sp2_0 := hf_hb3 (w.heap.size + 2) 0 (by omega)
          simp [go_sem, c_hb2_sp2_0, c_hb2_sp2_1, c_hb2_sp2_2, f_hb2_sp2_0, f_hb2_sp2_1, f_hb2_sp2_2] at f_hb3_sp2_0
          have c_hb3_sp2_1 := hc_hb3 (w.heap.size + 2) 1 (by omega)
          simp [go_sem, c_hb2_sp2_0, c_hb2_sp2_1, c_hb2_sp2_2, f_hb2_sp2_0, f_hb2_sp2_1, f_hb2_sp2_2] at c_hb3_sp2_1
          have f_hb3_sp2_1 := hf_hb3 (w.heap.size + 2) 1 (by omega)
          simp [go_sem, c_hb2_sp2_0, c_hb2_sp2_1, c_hb2_sp2_2, f_hb2_sp2_0, f_hb2_sp2_1, f_hb2_sp2_2] at f_hb3_sp2_1
          have c_hb3_sp2_2 := hc_hb3 (w.heap.size + 2) 2 (by omega)
          simp [go_sem, c_hb2_sp2_0, c_hb2_sp2_1, c_hb2_sp2_2, f_hb2_sp2_0, f_hb2_sp2_1, f_hb2_sp2_2] at c_hb3_sp2_2
          have f_hb3_sp2_2 := hf_hb3 (w.heap.size + 2) 2 (by omega)
          simp [go_sem, c_hb2_sp2_0, c_hb2_sp2_1, c_hb2_sp2_2, f_hb2_sp2_0, f_hb2_sp2_1, f_hb2_sp2_2] at f_hb3_sp2_2
          go_wp2
          (try simp only [Exit.inBlock, Exit.then])
          refine bodyPost_ret (by simp [results, Try.results26, go_sem, c_hb3_sp2_0, c_hb3_sp2_1, c_hb3_sp2_2]; try rfl) rfl ?_
          refine ⟨retv ?_, by go_grown⟩
          rw [← HE.out]; simp [refMeet, lt, g1, g2]
      · go_enter Try.func26, Try.ntmps26
        go_wp2_with fail
        (with_reducible refine (ref_Less _ _ M1.out M3.out _).mono ?_); rintro e w' ⟨rfl, hb1⟩
        obtain ⟨hc_hb1, hf_hb1⟩ := bcell hb1
        have hz_hb1 := size_le hb1
        repeat (first | simp only [World.size_alloc] at hc_hb1 | simp only [World.size_setCell] at hc_hb1 | simp only [World.size_drew] at hc_hb1)
        repeat (first | simp only [World.size_alloc] at hf_hb1 | simp only [World.size_setCell] at hf_hb1 | simp only [World.size_drew] at hf_hb1)
        repeat (first | simp only [World.size_alloc] at hz_hb1 | simp only [World.size_setCell] at hz_hb1 | simp only [World.size_drew] at hz_hb1)
        have hb1_ := Lib.hid (below_next (w := w) (by go_grown) hb1)
        clear hb1
        have hb1 := hb1_.out
        clear hb1_
        have c_hb1_s_0 := hc_hb1 (w.heap.size) 0 (by omega)
        simp [go_sem] at c_hb1_s_0
        have f_hb1_s_0 := hf_hb1 (w.heap.size) 0 (by omega)
        simp [go_sem] at f_hb1_s_0
        have c_hb1_s_1 := hc_hb1 (w.heap.size) 1 (by omega)
        simp [go_sem] at c_hb1_s_1
        have f_hb1_s_1 := hf_hb1 (w.heap.size) 1 (by omega)
        simp [go_sem] at f_hb1_s_1
        have c_hb1_s_2 := hc_hb1 (w.heap.size) 2 (by omega)
        simp [go_sem] at c_hb1_s_2
        have f_hb1_s_2 := hf_hb1 (w.heap.size) 2 (by omega)
        simp [go_sem] at f_hb1_s_2
        have c_hb1_sp1_0 := hc_hb1 (w.heap.size + 1) 0 (by omega)
        simp [go_sem] at c_hb1_sp1_0
        have f_hb1_sp1_0 := hf_hb1 (w.heap.size + 1) 0 (by omega)
        simp [go_sem] at f_hb1_sp1_0
        have c_hb1_sp1_1 := hc_hb1 (w.heap.size + 1) 1 (by omega)
        simp [go_sem] at c_hb1_sp1_1
        have f_hb1_sp1_1 := hf_hb1 (w.heap.size + 1) 1 (by omega)
        simp [go_sem] at f_hb1_sp1_1
        have c_hb1_sp1_2 := hc_hb1 (w.heap.size + 1) 2 (by omega)
        simp [go_sem] at c_hb1_sp1_2
        have f_hb1_sp1_2 := hf_hb1 (w.heap.size + 1) 2 (by omega)
        simp [go_sem] at f_hb1_sp1_2
        have c_hb1_sp2_0 := hc_hb1 (w.heap.size + 2) 0 (by omega)
        simp [go_sem] at c_hb1_sp2_0
        have f_hb1_sp2_0 := hf_hb1 (w.heap.size + 2) 0 (by omega)
        simp [go_sem] at f_hb1_sp2_0
        have c_hb1_sp2_1 := hc_hb1 (w.heap.size + 2) 1 (by omega)
        simp [go_sem] at c_hb1_sp2_1
        have f_hb1_sp2_1 := hf_hb1 (w.heap.size + 2) 1 (by omega)
        simp [go_sem] at f_hb1_sp2_1
        have c_hb1_sp2_2 := hc_hb1 (w.heap.size + 2) 2 (by omega)
        simp [go_sem] at c_hb1_sp2_2
        have f_hb1_sp2_2 := hf_hb1 (w.heap.size + 2) 2 (by omega)
        simp [go_sem] at f_hb1_sp2_2
        have c_hb1_sp3_0 := hc_hb1 (w.heap.size + 3) 0 (by omega)
        simp [go_sem] at c_hb1_sp3_0
        have f_hb1_sp3_0 := hf_hb1 (w.heap.size + 3) 0 (by omega)
        simp [go_sem] at f_hb1_sp3_0
        have c_hb1_sp3_1 := hc_hb1 (w.heap.size + 3) 1 (by omega)
        simp [go_sem] at c_hb1_sp3_1
        have f_hb1_sp3_1 := hf_hb1 (w.heap.size + 3) 1 (by omega)
        simp [go_sem] at f_hb1_sp3_1
        have c_hb1_sp3_2 := hc_hb1 (w.heap.size + 3) 2 (by omega)
        simp [go_sem] at c_hb1_sp3_2
        have f_hb1_sp3_2 := hf_hb1 (w.heap.size + 3) 2 (by omega)
        simp [go_sem] at f_hb1_sp3_2
        go_wp2_with fail
        (with_reducible refine (ref_Norm ⟨lo', hi', false⟩ _ M3.out M4.out).mono ?_); rintro e w' ⟨rfl, hb3⟩
        obtain ⟨hc_hb3, hf_hb3⟩ := bcell hb3
        have hz_hb3 := size_le hb3
        repeat (first | simp only [World.size_alloc] at hc_hb3 | simp only [World.size_setCell] at hc_hb3 | simp only [World.size_drew] at hc_hb3)
        repeat (first | simp only [World.size_alloc] at hf_hb3 | simp only [World.size_setCell] at hf_hb3 | simp only [World.size_drew] at hf_hb3)
        repeat (first | simp only [World.size_alloc] at hz_hb3 | simp only [World.size_setCell] at hz_hb3 | simp only [World.size_drew] at hz_hb3)
        have hb3_ := Lib.hid (below_next (w := w) (by go_grown) hb3)
        clear hb3
        have hb3 := hb3_.out
        clear hb3_
        have c_hb3_sp2_0 := hc_hb3 (w.heap.size + 2) 0 (by omega)
        simp [go_sem, c_hb1_sp2_0, c_hb1_sp2_1, c_hb1_sp2_2, f_hb1_sp2_0, f_hb1_sp2_1, f_hb1_sp2_2] at c_hb3_sp2_0
        have f_hb3_sp2_0 := hf_hb3 (w.heap.size + 2) 0 (by omega)
        simp [go_sem, c_hb1_sp2_0, c_hb1_sp2_1, c_hb1_sp2_2, f_hb1_sp2_0, f_hb1_sp2_1, f_hb1_sp2_2] at f_hb3_sp2_0
        have c_hb3_sp2_1 := hc_hb3 (w.heap.size + 2) 1 (by omega)
        simp [go_sem, c_hb1_sp2_0, c_hb1_sp2_1, c_hb1_sp2_2, f_hb1_sp2_0, f_hb1_sp2_1, f_hb1_sp2_2] at c_hb3_sp2_1
        have f_hb3_sp2_1 := hf_hb3 (w.heap.size + 2) 1 (by omega)
        simp [go_sem, c_hb1_sp2_0, c_hb1_sp2_1, c_hb1_sp2_2, f_hb1_sp2_0, f_hb1_sp2_1, f_hb1_sp2_2] at f_hb3_sp2_1
        have c_hb3_sp2_2 := hc_hb3 (w.heap.size + 2) 2 (by omega)
        simp [go_sem, c_hb1_sp2_0, c_hb1_sp2_1, c_hb1_sp2_2, f_hb1_sp2_0, f_hb1_sp2_1, f_hb1_sp2_2] at c_hb3_sp2_2
        have f_hb3_sp2_2 := hf_hb3 (w.heap.size + 2) 2 (by omega)
        simp [go_sem, c_hb1_sp2_0, c_hb1_sp2_1, c_hb1_sp2_2, f_hb1_sp2_0, f_hb1_sp2_1, f_hb1_sp2_2] at f_hb3_sp2_2
        go_wp2
        (try simp only [Exit.inBlock, Exit.then])
        refine bodyPost_ret (by simp [results, Try.results26, go_sem, c_hb3_sp2_0, c_hb3_sp2_1, c_hb3_sp2_2]; try rfl) rfl ?_
        refine ⟨retv ?_, by go_grown⟩
        rw [← HE.out]; simp [refMeet, lt, g1]
    · cases o
      · go_enter Try.func26, Try.ntmps26
        go_wp2_with fail
        (with_reducible refine (ref_Less _ _ M1.out M3.out _).mono ?_); rintro e w' ⟨rfl, hb1⟩
        obtain ⟨hc_hb1, hf_hb1⟩ := bcell hb1
        have hz_hb1 := size_le hb1
        repeat (first | simp only [World.size_alloc] at hc_hb1 | simp only [World.size_setCell] at hc_hb1 | simp only [World.size_drew] at hc_hb1)
        repeat (first | simp only [World.size_alloc] at hf_hb1 | simp only [World.size_setCell] at hf_hb1 | simp only [World.size_drew] at hf_hb1)
        repeat (first | simp only [World.size_alloc] at hz_hb1 | simp only [World.size_setCell] at hz_hb1 | simp only [World.size_drew] at hz_hb1)
        have hb1_ := Lib.hid (below_next (w := w) (by go_grown) hb1)
        clear hb1
        have hb1 := hb1_.out
        clear hb1_
        have c_hb1_s_0 := hc_hb1 (w.heap.size) 0 (by omega)
        simp [go_sem] at c_hb1_s_0
        have f_hb1_s_0 := hf_hb1 (w.heap.size) 0 (by omega)
        simp [go_sem] at f_hb1_s_0
        have c_hb1_s_1 := hc_hb1 (w.heap.size) 1 (by omega)
        simp [go_sem] at c_hb1_s_1
        have f_hb1_s_1 := hf_hb1 (w.heap.size) 1 (by omega)
        simp [go_sem] at f_hb1_s_1
        have c_hb1_s_2 := hc_hb1 (w.heap.size) 2 (by omega)
        simp [go_sem] at c_hb1_s_2
        have f_hb1_s_2 := hf_hb1 (w.heap.size) 2 (by omega)
        simp [go_sem] at f_hb1_s_2
        have c_hb1_sp1_0 := hc_hb1 (w.heap.size + 1) 0 (by omega)
        simp [go_sem] at c_hb1_sp1_0
        have f_hb1_sp1_0 := hf_hb1 (w.heap.size + 1) 0 (by omega)
        simp [go_sem] at f_hb1_sp1_0
        have c_hb1_sp1_1 := hc_hb1 (w.heap.size + 1) 1 (by omega)
        simp [go_sem] at c_hb1_sp1_1
        have f_hb1_sp1_1 := hf_hb1 (w.heap.size + 1) 1 (by omega)
        simp [go_sem] at f_hb1_sp1_1
        have c_hb1_sp1_2 := hc_hb1 (w.heap.size + 1) 2 (by omega)
        simp [go_sem] at c_hb1_sp1_2
        have f_hb1_sp1_2 := hf_hb1 (w.heap.size + 1) 2 (by omega)
        simp [go_sem] at f_hb1_sp1_2
        have c_hb1_sp2_0 := hc_hb1 (w.heap.size + 2) 0 (by omega)
        simp [go_sem] at c_hb1_sp2_0
        have f_hb1_sp2_0 := hf_hb1 (w.heap.size + 2) 0 (by omega)
        simp [go_sem] at f_hb1_sp2_0
        have c_hb1_sp2_1 := hc_hb1 (w.heap.size + 2) 1 (by omega)
        simp [go_sem] at c_hb1_sp2_1
        have f_hb1_sp2_1 := hf_hb1 (w.heap.size + 2) 1 (by omega)
        simp [go_sem] at f_hb1_sp2_1
        have c_hb1_sp2_2 := hc_hb1 (w.heap.size + 2) 2 (by omega)
        simp [go_sem] at c_hb1_sp2_2
        have f_hb1_sp2_2 := hf_hb1 (w.heap.size + 2) 2 (by omega)
        simp [go_sem] at f_hb1_sp2_2
        have c_hb1_sp3_0 := hc_hb1 (w.heap.size + 3) 0 (by omega)
        simp [go_sem] at c_hb1_sp3_0
        have f_hb1_sp3_0 := hf_hb1 (w.heap.size + 3) 0 (by omega)
        simp [go_sem] at f_hb1_sp3_0
        have c_hb1_sp3_1 := hc_hb1 (w.heap.size + 3) 1 (by omega)
        simp [go_sem] at c_hb1_sp3_1
        have f_hb1_sp3_1 := hf_hb1 (w.heap.size + 3) 1 (by omega)
        simp [go_sem] at f_hb1_sp3_1
        have c_hb1_sp3_2 := hc_hb1 (w.heap.size + 3) 2 (by omega)
        simp [go_sem] at c_hb1_sp3_2
        have f_hb1_sp3_2 := hf_hb1 (w.heap.size + 3) 2 (by omega)
        simp [go_sem] at f_hb1_sp3_2
        go_wp2_with fail
        (with_reducible refine (ref_Norm ⟨lo', hi, false⟩ _ M3.out M2.out).mono ?_); rintro e w' ⟨rfl, hb3⟩
        obtain ⟨hc_hb3, hf_hb3⟩ := bcell hb3
        have hz_hb3 := size_le hb3
        repeat (first | simp only [World.size_alloc] at hc_hb3 | simp only [World.size_setCell] at hc_hb3 | simp only [World.size_drew] at hc_hb3)
        repeat (first | simp only [World.size_alloc] at hf_hb3 | simp only [World.size_setCell] at hf_hb3 | simp only [World.size_drew] at hf_hb3)
        repeat (first | simp only [World.size_alloc] at hz_hb3 | simp only [World.size_setCell] at hz_hb3 | simp only [World.size_drew] at hz_hb3)
        have hb3_ := Lib.hid (below_next (w := w) (by go_grown) hb3)
        clear hb3
        have hb3 := hb3_.out
        clear hb3_
        have c_hb3_sp2_0 := hc_hb3 (w.heap.size + 2) 0 (by omega)
        simp [go_sem, c_hb1_sp2_0, c_hb1_sp2_1, c_hb1_sp2_2, f_hb1_sp2_0, f_hb1_sp2_1, f_hb1_sp2_2] at c_hb3_sp2_0
        have f_hb3_sp2_0 := hf_hb3 (w.heap.size + 2) 0 (by omega)
        simp [go_sem, c_hb1_sp2_0, c_hb1_sp2_1, c_hb1_sp2_2, f_hb1_sp2_0, f_hb1_sp2_1, f_hb1_sp2_2] at f_hb3_sp2_0
        have c_hb3_sp2_1 := hc_hb3 (w.heap.size + 2) 1 (by omega)
        simp [go_sem, c_hb1_sp2_0, c_hb1_sp2_1, c_hb1_sp2_2, f_hb1_sp2_0, f_hb1_sp2_1, f_hb1_sp2_2] at c_hb3_sp2_1
        have f_hb3_sp2_1 := hf_hb3 (w.heap.size + 2) 1 (by omega)
        simp [go_sem, c_hb1_sp2_0, c_hb1_sp2_1, c_hb1_sp2_2, f_hb1_sp2_0, f_hb1_sp2_1, f_hb1_sp2_2] at f_hb3_sp2_1
        have c_hb3_sp2_2 := hc_hb3 (w.heap.size + 2) 2 (by omega)
        simp [go_sem, c_hb1_sp2_0, c_hb1_sp2_1, c_hb1_sp2_2, f_hb1_sp2_0, f_hb1_sp2_1, f_hb1_sp2_2] at c_hb3_sp2_2
        have f_hb3_sp2_2 := hf_hb3 (w.heap.size + 2) 2 (by omega)
        simp [go_sem, c_hb1_sp2_0, c_hb1_sp2_1, c_hb1_sp2_2, f_hb1_sp2_0, f_hb1_sp2_1, f_hb1_sp2_2] at f_hb3_sp2_2
        go_wp2
        (try simp only [Exit.inBlock, Exit.then])
        refine bodyPost_ret (by simp [results, Try.results26, go_sem, c_hb3_sp2_0, c_hb3_sp2_1, c_hb3_sp2_2]; try rfl) rfl ?_
        refine ⟨retv ?_, by go_grown⟩
        rw [← HE.out]; simp [refMeet, lt, g1]
      · go_enter Try.func26, Try.ntmps26
        go_wp2_with fail
        (with_reducible refine (ref_Less _ _ M1.out M3.out _).mono ?_); rintro e w' ⟨rfl, hb1⟩
        obtain ⟨hc_hb1, hf_hb1⟩ := bcell hb1
        have hz_hb1 := size_le hb1
        repeat (first | simp only [World.size_alloc] at hc_hb1 | simp only [World.size_setCell] at hc_hb1 | simp only [World.size_drew] at hc_hb1)
        repeat (first | simp only [World.size_alloc] at hf_hb1 | simp only [World.size_setCell] at hf_hb1 | simp only [World.size_drew] at hf_hb1)
        repeat (first | simp only [World.size_alloc] at hz_hb1 | simp only [World.size_setCell] at hz_hb1 | simp only [World.size_drew] at hz_hb1)
        have hb1_ := Lib.hid (below_next (w := w) (by go_grown) hb1)
        clear hb1
        have hb1 := hb1_.out
        clear hb1_
        have c_hb1_s_0 := hc_hb1 (w.heap.size) 0 (by omega)
        simp [go_sem] at c_hb1_s_0
        have f_hb1_s_0 := hf_hb1 (w.heap.size) 0 (by omega)
        simp [go_sem] at f_hb1_s_0
        have c_hb1_s_1 := hc_hb1 (w.heap.size) 1 (by omega)
        simp [go_sem] at c_hb1_s_1
        have f_hb1_s_1 := hf_hb1 (w.heap.size) 1 (by omega)
        simp [go_sem] at f_hb1_s_1
        have c_hb1_s_2 := hc_hb1 (w.heap.size) 2 (by omega)
        simp [go_sem] at c_hb1_s_2
        have f_hb1_s_2 := hf_hb1 (w.heap.size) 2 (by omega)
        simp [go_sem] at f_hb1_s_2
        have c_hb1_sp1_0 := hc_hb1 (w.heap.size + 1) 0 (by omega)
        simp [go_sem] at c_hb1_sp1_0
        have f_hb1_sp1_0 := hf_hb1 (w.heap.size + 1) 0 (by omega)
        simp [go_sem] at f_hb1_sp1_0
        have c_hb1_sp1_1 := hc_hb1 (w.heap.size + 1) 1 (by omega)
        simp [go_sem] at c_hb1_sp1_1
        have f_hb1_sp1_1 := hf_hb1 (w.heap.size + 1) 1 (by omega)
        simp [go_sem] at f_hb1_sp1_1
        have c_hb1_sp1_2 := hc_hb1 (w.heap.size + 1) 2 (by omega)
        simp [go_sem] at c_hb1_sp1_2
        have f_hb1_sp1_2 := hf_hb1 (w.heap.size + 1) 2 (by omega)
        simp [go_sem] at f_hb1_sp1_2
        have c_hb1_sp2_0 := hc_hb1 (w.heap.size + 2) 0 (by omega)
        simp [go_sem] at c_hb1_sp2_0
        have f_hb1_sp2_0 := hf_hb1 (w.heap.size + 2) 0 (by omega)
        simp [go_sem] at f_hb1_sp2_0
        have c_hb1_sp2_1 := hc_hb1 (w.heap.size + 2) 1 (by omega)
        simp [go_sem] at c_hb1_sp2_1
        have f_hb1_sp2_1 := hf_hb1 (w.heap.size + 2) 1 (by omega)
        simp [go_sem] at f_hb1_sp2_1
        have c_hb1_sp2_2 := hc_hb1 (w.heap.size + 2) 2 (by omega)
        simp [go_sem] at c_hb1_sp2_2
        have f_hb1_sp2_2 := hf_hb1 (w.heap.size + 2) 2 (by omega)
        simp [go_sem] at f_hb1_sp2_2
        have c_hb1_sp3_0 := hc_hb1 (w.heap.size + 3) 0 (by omega)
        simp [go_sem] at c_hb1_sp3_0
        have f_hb1_sp3_0 := hf_hb1 (w.heap.size + 3) 0 (by omega)
        simp [go_sem] at f_hb1_sp3_0
        have c_hb1_sp3_1 := hc_hb1 (w.heap.size + 3) 1 (by omega)
        simp [go_sem] at c_hb1_sp3_1
        have f_hb1_sp3_1 := hf_hb1 (w.heap.size + 3) 1 (by omega)
        simp [go_sem] at f_hb1_sp3_1
        have c_hb1_sp3_2 := hc_hb1 (w.heap.size + 3) 2 (by omega)
        simp [go_sem] at c_hb1_sp3_2
        have f_hb1_sp3_2 := hf_hb1 (w.heap.size + 3) 2 (by omega)
        simp [go_sem] at f_hb1_sp3_2
        go_wp2_with fail
        (with_reducible refine (ref_Norm ⟨lo', hi, true⟩ _ M3.out M2.out).mono ?_); rintro e w' ⟨rfl, hb3⟩
        obtain ⟨hc_hb3, hf_hb3⟩ := bcell hb3
        have hz_hb3 := size_le hb3
        repeat (first | simp only [World.size_alloc] at hc_hb3 | simp only [World.size_setCell] at hc_hb3 | simp only [World.size_drew] at hc_hb3)
        repeat (first | simp only [World.size_alloc] at hf_hb3 | simp only [World.size_setCell] at hf_hb3 | simp only [World.size_drew] at hf_hb3)
        repeat (first | simp only [World.size_alloc] at hz_hb3 | simp only [World.size_setCell] at hz_hb3 | simp only [World.size_drew] at hz_hb3)
        have hb3_ := Lib.hid (below_next (w := w) (by go_grown) hb3)
        clear hb3
        have hb3 := hb3_.out
        clear hb3_
        have c_hb3_sp2_0 := hc_hb3 (w.heap.size + 2) 0 (by omega)
        simp [go_sem, c_hb1_sp2_0, c_hb1_sp2_1, c_hb1_sp2_2, f_hb1_sp2_0, f_hb1_sp2_1, f_hb1_sp2_2] at c_hb3_sp2_0
        have f_hb3_sp2_0 := hf_hb3 (w.heap.size + 2) 0 (by omega)
        simp [go_sem, c_hb1_sp2_0, c_hb1_sp2_1, c_hb1_sp2_2, f_hb1_sp2_0, f_hb1_sp2_1, f_hb1_sp2_2] at f_hb3_sp2_0
        have c_hb3_sp2_1 := hc_hb3 (w.heap.size + 2) 1 (by omega)
        simp [go_sem, c_hb1_sp2_0, c_hb1_sp2_1, c_hb1_sp2_2, f_hb1_sp2_0, f_hb1_sp2_1, f_hb1_sp2_2] at c_hb3_sp2_1
        have f_hb3_sp2_1 := hf_hb3 (w.heap.size + 2) 1 (by omega)
        simp [go_sem, c_hb1_sp2_0, c_hb1_sp2_1, c_hb1_sp2_2, f_hb1_sp2_0, f_hb1_sp2_1, f_hb1_sp2_2] at f_hb3_sp2_1
        have c_hb3_sp2_2 := hc_hb3 (w.heap.size + 2) 2 (by omega)
        simp [go_sem, c_hb1_sp2_0, c_hb1_sp2_1, c_hb1_sp2_2, f_hb1_sp2_0, f_hb1_sp2_1, f_hb1_sp2_2] at c_hb3_sp2_2
        have f_hb3_sp2_2 := hf_hb3 (w.heap.size + 2) 2 (by omega)
        simp [go_sem, c_hb1_sp2_0, c_hb1_sp2_1, c_hb1_sp2_2, f_hb1_sp2_0, f_hb1_sp2_1, f_hb1_sp2_2] at f_hb3_sp2_2
        go_wp2
        (try simp only [Exit.inBlock, Exit.then])
        refine bodyPost_ret (by simp [results, Try.results26, go_sem, c_hb3_sp2_0, c_hb3_sp2_1, c_hb3_sp2_2]; try rfl) rfl ?_
        refine ⟨retv ?_, by go_grown⟩
        rw [← HE.out]; simp [refMeet, lt, g1]
end Go.Proofs.Ytipbbbamjckjoaa
