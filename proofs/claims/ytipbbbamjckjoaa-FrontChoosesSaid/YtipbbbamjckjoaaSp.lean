/- The walks of the span layer and of its reference: each function computes what the plain spans say. The walks of the span layer's Meet and of what is built on it. The walks of the span layer's reference: Has, Empty, Norm, Meet. The walks of the span layer's reference: Norm and Meet. Parts of a slice: its beginning and its end, as they lie in memory. The walks of the span layer's reference: Short, and the ends of spans (Some, Ends). -/
import Derived.Test.YtipbbbamjckjoaaA
import Derived.Deep.RegionHeld3
import Derived.Deep.AppendLies
namespace Go.Proofs.Ytipbbbamjckjoaa
open Go.RowKit Go.Sort
set_option linter.unusedVariables false
set_option maxRecDepth 20000
set_option linter.unusedSimpArgs false

set_option maxHeartbeats 400000 in
theorem span_Has (s : Span) (k : ByteArray) (w : World) :
    Calls Try.prog 77 #[.agg #[.string s.lo, .string s.hi, .bool s.opn], .string k] w fun e w' => e = .returned (.bool (has s k)) ∧ Below w.heap.size w w' := by
  cases h1 : Op.bytesLess k.toList s.lo.toList <;> cases h2 : s.opn
  all_goals
    go_enter Try.func77, Try.ntmps77
    go_wp2
    go_ret
    exact ⟨retv (boolv (by simp [has, lt, h1, h2])), by go_grown⟩

set_option maxHeartbeats 400000 in
theorem span_Empty (s : Span) (w : World) :
    Calls Try.prog 75 #[.agg #[.string s.lo, .string s.hi, .bool s.opn]] w fun e w' => e = .returned (.bool (empty s)) ∧ Below w.heap.size w w' := by
  cases h2 : s.opn
  all_goals
    go_enter Try.func75, Try.ntmps75
    go_wp2
    go_ret
    exact ⟨retv (boolv (by simp [empty, lt, h2])), by go_grown⟩

set_option maxHeartbeats 400000 in
theorem span_Norm (s : Span) (w : World) :
    Calls Try.prog 109 #[.agg #[.string s.lo, .string s.hi, .bool s.opn]] w fun e w' => e = .returned (.agg #[.string (norm s).lo, .string (norm s).hi, .bool (norm s).opn]) ∧ Below w.heap.size w w' := by
  obtain ⟨lo, hi, o⟩ := s
  cases h1 : empty ⟨lo, hi, o⟩ <;> cases o
  all_goals
    go_enter Try.func109, Try.ntmps109
    go_wp2_with fail
    (with_reducible refine (span_Empty ⟨lo, hi, _⟩ _).mono ?_); rintro e w' ⟨rfl, hb1⟩
    obtain ⟨hc_hb1, hf_hb1⟩ := bcell hb1
    have hz_hb1 := size_le hb1
    repeat (first | simp only [World.size_alloc] at hc_hb1 | simp only [World.size_setCell] at hc_hb1 | simp only [World.size_drew] at hc_hb1)
    repeat (first | simp only [World.size_alloc] at hf_hb1 | simp only [World.size_setCell] at hf_hb1 | simp only [World.size_drew] at hf_hb1)
    repeat (first | simp only [World.size_alloc] at hz_hb1 | simp only [World.size_setCell] at hz_hb1 | simp only [World.size_drew] at hz_hb1)
    have hb1_ := Lib.hid (below_next (w := w) (by go_grown) hb1)
    clear hb1
    have hb1 := hb1_.out
    clear hb1_
    have c_hb1_1 := hc_hb1 (w.heap.size) 1 (by omega)
    simp [go_sem] at c_hb1_1
    go_wp2
    (try simp only [Exit.inBlock, Exit.then])
    refine bodyPost_ret (by simp [results, Try.results109, go_sem, hc_hb1, c_hb1_1]; try rfl) rfl ?_
    refine ⟨retv ?_, ?_⟩
    · simp [norm, h1, spE]
    · go_grown

set_option maxHeartbeats 400000 in
theorem span_All (w : World) : Calls Try.prog 108 #[] w fun e w' => e = .returned (.agg #[.string all.lo, .string all.hi, .bool all.opn]) ∧ Below w.heap.size w w' := by
  go_enter Try.func108, Try.ntmps108
  go_wp2
  (try simp only [Exit.inBlock, Exit.then])
  refine bodyPost_ret (by simp [results, Try.results108, go_sem, all]; try rfl) rfl ?_
  exact ⟨rfl, by go_grown⟩

set_option maxHeartbeats 400000 in
theorem key_Next (k : ByteArray) (h : k.size ≤ 1000000) (w : World) : Calls Try.prog 116 #[.string k] w fun e w' => e = .returned (.string (nx k)) ∧ w = w' := by
  go_enter Try.func116, Try.ntmps116
  go_wp2
  go_ret
  exact ⟨rfl, rfl⟩

set_option maxHeartbeats 400000 in
theorem span_Point (k : ByteArray) (h : k.size ≤ 1000000) (w : World) : Calls Try.prog 73 #[.string k] w fun e w' => e = .returned (.agg #[.string (point k).lo, .string (point k).hi, .bool (point k).opn]) ∧ Below w.heap.size w w' := by
  go_enter Try.func73, Try.ntmps73
  go_wp2_with fail
  (with_reducible refine (key_Next k h _).mono ?_); rintro e w' ⟨rfl, rfl⟩
  go_wp2
  (try simp only [Exit.inBlock, Exit.then])
  refine bodyPost_ret (by simp [results, Try.results73, go_sem, point]; try rfl) rfl ?_
  exact ⟨rfl, by go_grown⟩

end Go.Proofs.Ytipbbbamjckjoaa
namespace Go.Proofs.Ytipbbbamjckjoaa
open Go.RowKit Go.Sort
set_option linter.unusedVariables false
set_option maxRecDepth 20000
set_option linter.unusedSimpArgs false

theorem run_max_str2 {P : Program} {w : World} (ts : Array TypeId) (t : TypeId) (a b : ByteArray) : (Builtin.max_ ts t #[.string a, .string b]).run P w = .ok (.string (mx a b)) w := by
  cases h : Op.bytesLess a.toList b.toList <;> simp [Builtin.max_, Builtin.max2, Op.stringOp, mx, lt, h, asBool, go_sem]
theorem run_min_str2 {P : Program} {w : World} (ts : Array TypeId) (t : TypeId) (a b : ByteArray) : (Builtin.min_ ts t #[.string a, .string b]).run P w = .ok (.string (mn a b)) w := by
  have key : (Op.bytesLess a.toList b.toList || a.toList == b.toList) = !lt b a := by
    rw [beq_bl]
    by_cases h : a = b
    · subst h; simp [lt_irr]
    · rw [decide_eq_false h, Bool.or_false]
      cases h1 : lt a b with
      | true => rw [lt_asy h1]; exact h1
      | false =>
        cases h2 : lt b a with
        | true => exact h1
        | false => exact absurd (lt_tot h1 h2) h
  cases h : lt b a <;> rw [h] at key <;> simp [Builtin.min_, Builtin.min2, Op.stringOp, mn, h, asBool, go_sem, key]
attribute [local go_sem] run_max_str2 run_min_str2
attribute [local go_sem ↓] run_eql_Span run_neq_Span

set_option maxHeartbeats 400000 in
theorem span_Meet (a b : Span) (w : World) :
    Calls Try.prog 80 #[.agg #[.string a.lo, .string a.hi, .bool a.opn], .agg #[.string b.lo, .string b.hi, .bool b.opn]] w fun e w' => e = .returned (.agg #[.string (meet a b).lo, .string (meet a b).hi, .bool (meet a b).opn]) ∧ Below w.heap.size w w' := by
  obtain ⟨lo, hi, o⟩ := a
  obtain ⟨lo', hi', o'⟩ := b
  cases o <;> cases o'
  · go_enter Try.func80, Try.ntmps80
    go_wp2_with fail
    (with_reducible refine (span_Norm ⟨mx lo lo', mn hi hi', false⟩ _).mono ?_); rintro e w' ⟨rfl, hb1⟩
    obtain ⟨hc_hb1, hf_hb1⟩ := bcell hb1
    have hz_hb1 := size_le hb1
    repeat (first | simp only [World.size_alloc] at hc_hb1 | simp only [World.size_setCell] at hc_hb1 | simp only [World.size_drew] at hc_hb1)
    repeat (first | simp only [World.size_alloc] at hf_hb1 | simp only [World.size_setCell] at hf_hb1 | simp only [World.size_drew] at hf_hb1)
    repeat (first | simp only [World.size_alloc] at hz_hb1 | simp only [World.size_setCell] at hz_hb1 | simp only [World.size_drew] at hz_hb1)
    have hb1_ := Lib.hid (below_next (w := w) (by go_grown) hb1)
    clear hb1
    have hb1 := hb1_.out
    clear hb1_
    go_wp2
    (try simp only [Exit.inBlock, Exit.then])
    refine bodyPost_ret (by simp [results, Try.results80, go_sem, hc_hb1]; try rfl) rfl ?_
    exact ⟨rfl, by go_grown⟩
  · go_enter Try.func80, Try.ntmps80
    go_wp2_with fail
    (with_reducible refine (span_Norm ⟨mx lo lo', hi, false⟩ _).mono ?_); rintro e w' ⟨rfl, hb1⟩
    obtain ⟨hc_hb1, hf_hb1⟩ := bcell hb1
    have hz_hb1 := size_le hb1
    repeat (first | simp only [World.size_alloc] at hc_hb1 | simp only [World.size_setCell] at hc_hb1 | simp only [World.size_drew] at hc_hb1)
    repeat (first | simp only [World.size_alloc] at hf_hb1 | simp only [World.size_setCell] at hf_hb1 | simp only [World.size_drew] at hf_hb1)
    repeat (first | simp only [World.size_alloc] at hz_hb1 | simp only [World.size_setCell] at hz_hb1 | simp only [World.size_drew] at hz_hb1)
    have hb1_ := Lib.hid (below_next (w := w) (by go_grown) hb1)
    clear hb1
    have hb1 := hb1_.out
    clear hb1_
    go_wp2
    (try simp only [Exit.inBlock, Exit.then])
    refine bodyPost_ret (by simp [results, Try.results80, go_sem, hc_hb1]; try rfl) rfl ?_
    exact ⟨rfl, by go_grown⟩
  · go_enter Try.func80, Try.ntmps80
    go_wp2_with fail
    (with_reducible refine (span_Norm ⟨mx lo lo', hi', false⟩ _).mono ?_); rintro e w' ⟨rfl, hb1⟩
    obtain ⟨hc_hb1, hf_hb1⟩ := bcell hb1
    have hz_hb1 := size_le hb1
    repeat (first | simp only [World.size_alloc] at hc_hb1 | simp only [World.size_setCell] at hc_hb1 | simp only [World.size_drew] at hc_hb1)
    repeat (first | simp only [World.size_alloc] at hf_hb1 | simp only [World.size_setCell] at hf_hb1 | simp only [World.size_drew] at hf_hb1)
    repeat (first | simp only [World.size_alloc] at hz_hb1 | simp only [World.size_setCell] at hz_hb1 | simp only [World.size_drew] at hz_hb1)
    have hb1_ := Lib.hid (below_next (w := w) (by go_grown) hb1)
    clear hb1
    have hb1 := hb1_.out
    clear hb1_
    go_wp2
    (try simp only [Exit.inBlock, Exit.then])
    refine bodyPost_ret (by simp [results, Try.results80, go_sem, hc_hb1]; try rfl) rfl ?_
    exact ⟨rfl, by go_grown⟩
  · go_enter Try.func80, Try.ntmps80
    go_wp2_with fail
    (with_reducible refine (span_Norm ⟨mx lo lo', hi', true⟩ _).mono ?_); rintro e w' ⟨rfl, hb1⟩
    obtain ⟨hc_hb1, hf_hb1⟩ := bcell hb1
    have hz_hb1 := size_le hb1
    repeat (first | simp only [World.size_alloc] at hc_hb1 | simp only [World.size_setCell] at hc_hb1 | simp only [World.size_drew] at hc_hb1)
    repeat (first | simp only [World.size_alloc] at hf_hb1 | simp only [World.size_setCell] at hf_hb1 | simp only [World.size_drew] at hf_hb1)
    repeat (first | simp only [World.size_alloc] at hz_hb1 | simp only [World.size_setCell] at hz_hb1 | simp only [World.size_drew] at hz_hb1)
    have hb1_ := Lib.hid (below_next (w := w) (by go_grown) hb1)
    clear hb1
    have hb1 := hb1_.out
    clear hb1_
    go_wp2
    (try simp only [Exit.inBlock, Exit.then])
    refine bodyPost_ret (by simp [results, Try.results80, go_sem, hc_hb1]; try rfl) rfl ?_
    exact ⟨rfl, by go_grown⟩

set_option maxHeartbeats 400000 in
theorem span_Same (a b : Span) (w : World) :
    Calls Try.prog 118 #[.agg #[.string a.lo, .string a.hi, .bool a.opn], .agg #[.string b.lo, .string b.hi, .bool b.opn]] w fun e w' => e = .returned (.bool (same a b)) ∧ Below w.heap.size w w' := by
  go_enter Try.func118, Try.ntmps118
  go_wp2
  refine wp_region_below (by kernel_rfl) (by kernel_rfl) ?_
  have hgr := @grow_cell
  repeat (go_big_quiet_step (first | (with_reducible exact qb (span_Norm a _)) | (with_reducible exact qb (span_Norm b _))))
  refine wpQuiet_nil ?_
  clear hgr
  intro w1 hb1
  have hb := Lib.hid (below_next (w := w) (by go_grown) hb1)
  clear hb1
  go_wp2
  go_ret
  exact ⟨rfl, hb.out⟩

set_option maxHeartbeats 400000 in
theorem span_Within (a b : Span) (w : World) :
    Calls Try.prog 81 #[.agg #[.string a.lo, .string a.hi, .bool a.opn], .agg #[.string b.lo, .string b.hi, .bool b.opn]] w fun e w' => e = .returned (.bool (within a b)) ∧ Below w.heap.size w w' := by
  go_enter Try.func81, Try.ntmps81
  go_wp2
  refine wp_region_below (by kernel_rfl) (by kernel_rfl) ?_
  have hgr := @grow_cell
  repeat (go_big_quiet_step (first | (go_at_call 80; exact qb (span_Meet a b _)) | (go_at_call 118; exact qb (span_Same (meet a b) a _))))
  refine wpQuiet_nil ?_
  clear hgr
  intro w1 hb1
  have hb := Lib.hid (below_next (w := w) (by go_grown) hb1)
  clear hb1
  go_wp2
  go_ret
  exact ⟨rfl, hb.out⟩

set_option maxHeartbeats 400000 in
theorem span_Touch (a b : Span) (w : World) :
    Calls Try.prog 78 #[.agg #[.string a.lo, .string a.hi, .bool a.opn], .agg #[.string b.lo, .string b.hi, .bool b.opn]] w fun e w' => e = .returned (.bool (touch a b)) ∧ Below w.heap.size w w' := by
  go_enter Try.func78, Try.ntmps78
  go_wp2_with fail
  (with_reducible refine (span_Meet a b _).mono ?_); rintro e w' ⟨rfl, hb1⟩
  obtain ⟨hc_hb1, hf_hb1⟩ := bcell hb1
  have hz_hb1 := size_le hb1
  repeat (first | simp only [World.size_alloc] at hc_hb1 | simp only [World.size_setCell] at hc_hb1 | simp only [World.size_drew] at hc_hb1)
  repeat (first | simp only [World.size_alloc] at hf_hb1 | simp only [World.size_setCell] at hf_hb1 | simp only [World.size_drew] at hf_hb1)
  repeat (first | simp only [World.size_alloc] at hz_hb1 | simp only [World.size_setCell] at hz_hb1 | simp only [World.size_drew] at hz_hb1)
  have hb1_ := Lib.hid (below_next (w := w) (by go_grown) hb1)
  clear hb1
  have hb1 := hb1_.out
  clear hb1_
  go_wp2_with fail
  (with_reducible refine (span_Empty (meet a b) _).mono ?_); rintro e w' ⟨rfl, hb2⟩
  obtain ⟨hc_hb2, hf_hb2⟩ := bcell hb2
  have hz_hb2 := size_le hb2
  repeat (first | simp only [World.size_alloc] at hc_hb2 | simp only [World.size_setCell] at hc_hb2 | simp only [World.size_drew] at hc_hb2)
  repeat (first | simp only [World.size_alloc] at hf_hb2 | simp only [World.size_setCell] at hf_hb2 | simp only [World.size_drew] at hf_hb2)
  repeat (first | simp only [World.size_alloc] at hz_hb2 | simp only [World.size_setCell] at hz_hb2 | simp only [World.size_drew] at hz_hb2)
  have hb2_ := Lib.hid (below_next (w := w) (by go_grown) hb2)
  clear hb2
  have hb2 := hb2_.out
  clear hb2_
  go_wp2
  go_ret
  exact ⟨rfl, by go_grown⟩
end Go.Proofs.Ytipbbbamjckjoaa
namespace Go.Proofs.Ytipbbbamjckjoaa
open Go.RowKit Go.Sort
set_option linter.unusedVariables false
set_option maxRecDepth 20000
set_option linter.unusedSimpArgs false

set_option maxHeartbeats 400000 in
theorem ref_Has (s : Span) (k : ByteArray) (w : World) (h1 : s.lo.size ≤ maxLen) (h2 : s.hi.size ≤ maxLen) (h3 : k.size ≤ maxLen) :
    Calls Try.prog 30 #[.agg #[.string s.lo, .string s.hi, .bool s.opn], .string k] w fun e w' => e = .returned (.bool (has s k)) ∧ Below w.heap.size w w' := by
  obtain ⟨lo, hi, o⟩ := s
  have M1 := Lib.hid h1
  have M2 := Lib.hid h2
  have M3 := Lib.hid h3
  clear h1 h2 h3
  cases g1 : Op.bytesLess k.toList lo.toList
  · cases o
    · go_enter Try.func30, Try.ntmps30
      go_wp2_with fail
      (with_reducible refine (ref_Less _ _ M3.out M1.out _).mono ?_); rintro e w' ⟨rfl, hb1⟩
      obtain ⟨hc_hb1, hf_hb1⟩ := bcell hb1
      have hz_hb1 := size_le hb1
      repeat (first | simp only [World.size_alloc] at hc_hb1 | simp only [World.size_setCell] at hc_hb1 | simp only [World.size_drew] at hc_hb1)
      repeat (first | simp only [World.size_alloc] at hf_hb1 | simp only [World.size_setCell] at hf_hb1 | simp only [World.size_drew] at hf_hb1)
      repeat (first | simp only [World.size_alloc] at hz_hb1 | simp only [World.size_setCell] at hz_hb1 | simp only [World.size_drew] at hz_hb1)
      have hb1_ := Lib.hid (below_next (w := w) (by go_grown) hb1)
      clear hb1
      have hb1 := hb1_.out
      clear hb1_
      go_wp2_with fail
      (with_reducible refine (ref_Less _ _ M3.out M2.out _).mono ?_); rintro e w' ⟨rfl, hb2⟩
      obtain ⟨hc_hb2, hf_hb2⟩ := bcell hb2
      have hz_hb2 := size_le hb2
      repeat (first | simp only [World.size_alloc] at hc_hb2 | simp only [World.size_setCell] at hc_hb2 | simp only [World.size_drew] at hc_hb2)
      repeat (first | simp only [World.size_alloc] at hf_hb2 | simp only [World.size_setCell] at hf_hb2 | simp only [World.size_drew] at hf_hb2)
      repeat (first | simp only [World.size_alloc] at hz_hb2 | simp only [World.size_setCell] at hz_hb2 | simp only [World.size_drew] at hz_hb2)
      have hb2_ := Lib.hid (below_next (w := w) (by go_grown) hb2)
      clear hb2
      have hb2 := hb2_.out
      clear hb2_
      go_wp2
      go_ret
      exact ⟨retv (boolv (by simp [has, lt, g1])), by assumption⟩
    · go_enter Try.func30, Try.ntmps30
      go_wp2_with fail
      (with_reducible refine (ref_Less _ _ M3.out M1.out _).mono ?_); rintro e w' ⟨rfl, hb1⟩
      obtain ⟨hc_hb1, hf_hb1⟩ := bcell hb1
      have hz_hb1 := size_le hb1
      repeat (first | simp only [World.size_alloc] at hc_hb1 | simp only [World.size_setCell] at hc_hb1 | simp only [World.size_drew] at hc_hb1)
      repeat (first | simp only [World.size_alloc] at hf_hb1 | simp only [World.size_setCell] at hf_hb1 | simp only [World.size_drew] at hf_hb1)
      repeat (first | simp only [World.size_alloc] at hz_hb1 | simp only [World.size_setCell] at hz_hb1 | simp only [World.size_drew] at hz_hb1)
      have hb1_ := Lib.hid (below_next (w := w) (by go_grown) hb1)
      clear hb1
      have hb1 := hb1_.out
      clear hb1_
      go_wp2
      go_ret
      exact ⟨retv (boolv (by simp [has, lt, g1])), by assumption⟩
  · go_enter Try.func30, Try.ntmps30
    go_wp2_with fail
    (with_reducible refine (ref_Less _ _ M3.out M1.out _).mono ?_); rintro e w' ⟨rfl, hb1⟩
    obtain ⟨hc_hb1, hf_hb1⟩ := bcell hb1
    have hz_hb1 := size_le hb1
    repeat (first | simp only [World.size_alloc] at hc_hb1 | simp only [World.size_setCell] at hc_hb1 | simp only [World.size_drew] at hc_hb1)
    repeat (first | simp only [World.size_alloc] at hf_hb1 | simp only [World.size_setCell] at hf_hb1 | simp only [World.size_drew] at hf_hb1)
    repeat (first | simp only [World.size_alloc] at hz_hb1 | simp only [World.size_setCell] at hz_hb1 | simp only [World.size_drew] at hz_hb1)
    have hb1_ := Lib.hid (below_next (w := w) (by go_grown) hb1)
    clear hb1
    have hb1 := hb1_.out
    clear hb1_
    go_wp2
    go_ret
    exact ⟨retv (boolv (by simp [has, lt, g1])), by assumption⟩


set_option maxHeartbeats 400000 in
theorem ref_Empty (s : Span) (w : World) (h1 : s.lo.size ≤ maxLen) (h2 : s.hi.size ≤ maxLen) :
    Calls Try.prog 25 #[.agg #[.string s.lo, .string s.hi, .bool s.opn]] w fun e w' => e = .returned (.bool (empty s)) ∧ Below w.heap.size w w' := by
  have HE := Lib.hid (empty_iff s)
  have M1 := Lib.hid h1
  have M2 := Lib.hid h2
  clear h1 h2
  go_enter Try.func25, Try.ntmps25
  go_wp2_with fail
  (with_reducible refine (ref_Has s s.lo _ M1.out M2.out M1.out).mono ?_); rintro e w' ⟨rfl, hb1⟩
  obtain ⟨hc_hb1, hf_hb1⟩ := bcell hb1
  have hz_hb1 := size_le hb1
  repeat (first | simp only [World.size_alloc] at hc_hb1 | simp only [World.size_setCell] at hc_hb1 | simp only [World.size_drew] at hc_hb1)
  repeat (first | simp only [World.size_alloc] at hf_hb1 | simp only [World.size_setCell] at hf_hb1 | simp only [World.size_drew] at hf_hb1)
  repeat (first | simp only [World.size_alloc] at hz_hb1 | simp only [World.size_setCell] at hz_hb1 | simp only [World.size_drew] at hz_hb1)
  have hb1_ := Lib.hid (below_next (w := w) (by go_grown) hb1)
  clear hb1
  have hb1 := hb1_.out
  clear hb1_
  go_wp2
  go_ret
  exact ⟨retv (boolv HE.out.symm), by go_grown⟩
end Go.Proofs.Ytipbbbamjckjoaa
namespace Go.Proofs.Ytipbbbamjckjoaa
open Go.RowKit Go.Sort
set_option linter.unusedVariables false
set_option maxRecDepth 20000
set_option linter.unusedSimpArgs false

set_option maxHeartbeats 400000 in
theorem ref_Norm (s : Span) (w : World) (h1 : s.lo.size ≤ maxLen) (h2 : s.hi.size ≤ maxLen) :
    Calls Try.prog 32 #[.agg #[.string s.lo, .string s.hi, .bool s.opn]] w fun e w' => e = .returned (.agg #[.string (norm s).lo, .string (norm s).hi, .bool (norm s).opn]) ∧ Below w.heap.size w w' := by
  obtain ⟨lo, hi, o⟩ := s
  have M1 := Lib.hid h1
  have M2 := Lib.hid h2
  clear h1 h2
  cases h1 : empty ⟨lo, hi, o⟩ <;> cases o
  all_goals
    go_enter Try.func32, Try.ntmps32
    go_wp2_with fail
    (with_reducible refine (ref_Empty ⟨lo, hi, _⟩ _ M1.out M2.out).mono ?_); rintro e w' ⟨rfl, hb1⟩
    obtain ⟨hc_hb1, hf_hb1⟩ := bcell hb1
    have hz_hb1 := size_le hb1
    repeat (first | simp only [World.size_alloc] at hc_hb1 | simp only [World.size_setCell] at hc_hb1 | simp only [World.size_drew] at hc_hb1)
    repeat (first | simp only [World.size_alloc] at hf_hb1 | simp only [World.size_setCell] at hf_hb1 | simp only [World.size_drew] at hf_hb1)
    repeat (first | simp only [World.size_alloc] at hz_hb1 | simp only [World.size_setCell] at hz_hb1 | simp only [World.size_drew] at hz_hb1)
    have hb1_ := Lib.hid (below_next (w := w) (by go_grown) hb1)
    clear hb1
    have hb1 := hb1_.out
    clear hb1_
    have c_hb1_1 := hc_hb1 (w.heap.size) 1 (by omega)
    simp [go_sem] at c_hb1_1
    go_wp2
    (try simp only [Exit.inBlock, Exit.then])
    refine bodyPost_ret (by simp [results, Try.results32, go_sem, hc_hb1]; try rfl) rfl ?_
    refine ⟨retv ?_, ?_⟩
    · simp [norm, h1, spE]
    · go_grown

set_option maxHeartbeats 1000000 in
theorem ref_Meet (a b : Span) (w : World) (h1 : a.lo.size ≤ maxLen) (h2 : a.hi.size ≤ maxLen) (h3 : b.lo.size ≤ maxLen) (h4 : b.hi.size ≤ maxLen) :
    Calls Try.prog 26 #[.agg #[.string a.lo, .string a.hi, .bool a.opn], .agg #[.string b.lo, .string b.hi, .bool b.opn]] w fun e w' => e = .returned (.agg #[.string (meet a b).lo, .string (meet a b).hi, .bool (meet a b).opn]) ∧ Below w.heap.size w w' := by
  have HE := Lib.hid (refMeet_eq a b)
  obtain ⟨lo, hi, o⟩ := a
  obtain ⟨lo', hi', o'⟩ := b
  have M1 := Lib.hid h1
  have M2 := Lib.hid h2
  have M3 := Lib.hid h3
  have M4 := Lib.hid h4
  clear h1 h2 h3 h4
  cases g1 : Op.bytesLess lo.toList lo'.toList
  · cases o'
    · cases o
      · cases g2 : Op.bytesLess hi'.toList hi.toList
        · go_enter Try.func26, Try.ntmps26
          go_wp2_with fail
          (with_reducible refine (ref_Less _ _ M1.out M3.out _).mono ?_); rintro e w' ⟨rfl, hb1⟩
          obtain ⟨hc_hb1, hf_hb1⟩ := bcell hb1
          have hz_hb1 := size_le hb1
          repeat (first | simp only [World.size_alloc] at hc_hb1 | simp only [World.size_setCell] at hc_hb1 | simp only [World.size_drew] at hc_hb1)
          repeat (first | simp only [World.size_alloc] at hf_hb1 | simp only [World.size_setCell] at hf_hb1 | simp only [World.size_drew] at hf_hb1)
          repeat (first | simp only [World.size_alloc] at hz_hb1 | simp only [World.size_setCell] at hz_hb1 | simp only [World.size_drew] at hz_hb1)
          have hb1_ := Lib.hid (below_next (w := w) (by go_grown) hb1)
          clear hb1
          have hb1 := hb1_.out
          clear hb1_
          have c_hb1_s_0 := hc_hb1 (w.heap.size) 0 (by omega)
          simp [go_sem] at c_hb1_s_0
          have f_hb1_s_0 := hf_hb1 (w.heap.size) 0 (by omega)
          simp [go_sem] at f_hb1_s_0
          have c_hb1_s_1 := hc_hb1 (w.heap.size) 1 (by omega)
          simp [go_sem] at c_hb1_s_1
          have f_hb1_s_1 := hf_hb1 (w.heap.size) 1 (by omega)
          simp [go_sem] at f_hb1_s_1
          have c_hb1_s_2 := hc_hb1 (w.heap.size) 2 (by omega)
          simp [go_sem] at c_hb1_s_2
          have f_hb1_s_2 := hf_hb1 (w.heap.size) 2 (by omega)
          simp [go_sem] at f_hb1_s_2
          have c_hb1_sp1_0 := hc_hb1 (w.heap.size + 1) 0 (by omega)
          simp [go_sem] at c_hb1_sp1_0
          have f_hb1_sp1_0 := hf_hb1 (w.heap.size + 1) 0 (by omega)
          simp [go_sem] at f_hb1_sp1_0
          have c_hb1_sp1_1 := hc_hb1 (w.heap.size + 1) 1 (by omega)
          simp [go_sem] at c_hb1_sp1_1
          have f_hb1_sp1_1 := hf_hb1 (w.heap.size + 1) 1 (by omega)
          simp [go_sem] at f_hb1_sp1_1
          have c_hb1_sp1_2 := hc_hb1 (w.heap.size + 1) 2 (by omega)
          simp [go_sem] at c_hb1_sp1_2
          have f_hb1_sp1_2 := hf_hb1 (w.heap.size + 1) 2 (by omega)
          simp [go_sem] at f_hb1_sp1_2
          have c_hb1_sp2_0 := hc_hb1 (w.heap.size + 2) 0 (by omega)
          simp [go_sem] at c_hb1_sp2_0
          have f_hb1_sp2_0 := hf_hb1 (w.heap.size + 2) 0 (by omega)
          simp [go_sem] at f_hb1_sp2_0
          have c_hb1_sp2_1 := hc_hb1 (w.heap.size + 2) 1 (by omega)
          simp [go_sem] at c_hb1_sp2_1
          have f_hb1_sp2_1 := hf_hb1 (w.heap.size + 2) 1 (by omega)
          simp [go_sem] at f_hb1_sp2_1
          have c_hb1_sp2_2 := hc_hb1 (w.heap.size + 2) 2 (by omega)
          simp [go_sem] at c_hb1_sp2_2
          have f_hb1_sp2_2 := hf_hb1 (w.heap.size + 2) 2 (by omega)
          simp [go_sem] at f_hb1_sp2_2
          have c_hb1_sp3_0 := hc_hb1 (w.heap.size + 3) 0 (by omega)
          simp [go_sem] at c_hb1_sp3_0
          have f_hb1_sp3_0 := hf_hb1 (w.heap.size + 3) 0 (by omega)
          simp [go_sem] at f_hb1_sp3_0
          have c_hb1_sp3_1 := hc_hb1 (w.heap.size + 3) 1 (by omega)
          simp [go_sem] at c_hb1_sp3_1
          have f_hb1_sp3_1 := hf_hb1 (w.heap.size + 3) 1 (by omega)
          simp [go_sem] at f_hb1_sp3_1
          have c_hb1_sp3_2 := hc_hb1 (w.heap.size + 3) 2 (by omega)
          simp [go_sem] at c_hb1_sp3_2
          have f_hb1_sp3_2 := hf_hb1 (w.heap.size + 3) 2 (by omega)
          simp [go_sem] at f_hb1_sp3_2
          go_wp2_with fail
          (with_reducible refine (ref_Less _ _ M4.out M2.out _).mono ?_); rintro e w' ⟨rfl, hb2⟩
          obtain ⟨hc_hb2, hf_hb2⟩ := bcell hb2
          have hz_hb2 := size_le hb2
          repeat (first | simp only [World.size_alloc] at hc_hb2 | simp only [World.size_setCell] at hc_hb2 | simp only [World.size_drew] at hc_hb2)
          repeat (first | simp only [World.size_alloc] at hf_hb2 | simp only [World.size_setCell] at hf_hb2 | simp only [World.size_drew] at hf_hb2)
          repeat (first | simp only [World.size_alloc] at hz_hb2 | simp only [World.size_setCell] at hz_hb2 | simp only [World.size_drew] at hz_hb2)
          have hb2_ := Lib.hid (below_next (w := w) (by go_grown) hb2)
          clear hb2
          have hb2 := hb2_.out
          clear hb2_
          have c_hb2_sp1_0 := hc_hb2 (w.heap.size + 1) 0 (by omega)
          simp [go_sem, c_hb1_sp1_0, c_hb1_sp1_1, c_hb1_sp1_2, f_hb1_sp1_0, f_hb1_sp1_1, f_hb1_sp1_2, c_hb1_sp2_0, c_hb1_sp2_1, c_hb1_sp2_2, c_hb1_sp3_0, c_hb1_sp3_1, c_hb1_sp3_2, f_hb1_sp2_0, f_hb1_sp2_1, f_hb1_sp2_2, f_hb1_sp3_0, f_hb1_sp3_1, f_hb1_sp3_2] at c_hb2_sp1_0
          have f_hb2_sp1_0 := hf_hb2 (w.heap.size + 1) 0 (by omega)
          simp [go_sem, c_hb1_sp1_0, c_hb1_sp1_1, c_hb1_sp1_2, f_hb1_sp1_0, f_hb1_sp1_1, f_hb1_sp1_2, c_hb1_sp2_0, c_hb1_sp2_1, c_hb1_sp2_2, c_hb1_sp3_0, c_hb1_sp3_1, c_hb1_sp3_2, f_hb1_sp2_0, f_hb1_sp2_1, f_hb1_sp2_2, f_hb1_sp3_0, f_hb1_sp3_1, f_hb1_sp3_2] at f_hb2_sp1_0
          have c_hb2_sp1_1 := hc_hb2 (w.heap.size + 1) 1 (by omega)
          simp [go_sem, c_hb1_sp1_0, c_hb1_sp1_1, c_hb1_sp1_2, f_hb1_sp1_0, f_hb1_sp1_1, f_hb1_sp1_2, c_hb1_sp2_0, c_hb1_sp2_1, c_hb1_sp2_2, c_hb1_sp3_0, c_hb1_sp3_1, c_hb1_sp3_2, f_hb1_sp2_0, f_hb1_sp2_1, f_hb1_sp2_2, f_hb1_sp3_0, f_hb1_sp3_1, f_hb1_sp3_2] at c_hb2_sp1_1
          have f_hb2_sp1_1 := hf_hb2 (w.heap.size + 1) 1 (by omega)
          simp [go_sem, c_hb1_sp1_0, c_hb1_sp1_1, c_hb1_sp1_2, f_hb1_sp1_0, f_hb1_sp1_1, f_hb1_sp1_2, c_hb1_sp2_0, c_hb1_sp2_1, c_hb1_sp2_2, c_hb1_sp3_0, c_hb1_sp3_1, c_hb1_sp3_2, f_hb1_sp2_0, f_hb1_sp2_1, f_hb1_sp2_2, f_hb1_sp3_0, f_hb1_sp3_1, f_hb1_sp3_2] at f_hb2_sp1_1
          have c_hb2_sp1_2 := hc_hb2 (w.heap.size + 1) 2 (by omega)
          simp [go_sem, c_hb1_sp1_0, c_hb1_sp1_1, c_hb1_sp1_2, f_hb1_sp1_0, f_hb1_sp1_1, f_hb1_sp1_2, c_hb1_sp2_0, c_hb1_sp2_1, c_hb1_sp2_2, c_hb1_sp3_0, c_hb1_sp3_1, c_hb1_sp3_2, f_hb1_sp2_0, f_hb1_sp2_1, f_hb1_sp2_2, f_hb1_sp3_0, f_hb1_sp3_1, f_hb1_sp3_2] at c_hb2_sp1_2
          have f_hb2_sp1_2 := hf_hb2 (w.heap.size + 1) 2 (by omega)
          simp [go_sem, c_hb1_sp1_0, c_hb1_sp1_1, c_hb1_sp1_2, f_hb1_sp1_0, f_hb1_sp1_1, f_hb1_sp1_2, c_hb1_sp2_0, c_hb1_sp2_1, c_hb1_sp2_2, c_hb1_sp3_0, c_hb1_sp3_1, c_hb1_sp3_2, f_hb1_sp2_0, f_hb1_sp2_1, f_hb1_sp2_2, f_hb1_sp3_0, f_hb1_sp3_1, f_hb1_sp3_2] at f_hb2_sp1_2
          have c_hb2_sp2_0 := hc_hb2 (w.heap.size + 2) 0 (by omega)
          simp [go_sem, c_hb1_sp1_0, c_hb1_sp1_1, c_hb1_sp1_2, f_hb1_sp1_0, f_hb1_sp1_1, f_hb1_sp1_2, c_hb1_sp2_0, c_hb1_sp2_1, c_hb1_sp2_2, c_hb1_sp3_0, c_hb1_sp3_1, c_hb1_sp3_2, f_hb1_sp2_0, f_hb1_sp2_1, f_hb1_sp2_2, f_hb1_sp3_0, f_hb1_sp3_1, f_hb1_sp3_2] at c_hb2_sp2_0
          have f_hb2_sp2_0 := hf_hb2 (w.heap.size + 2) 0 (by omega)
          simp [go_sem, c_hb1_sp1_0, c_hb1_sp1_1, c_hb1_sp1_2, f_hb1_sp1_0, f_hb1_sp1_1, f_hb1_sp1_2, c_hb1_sp2_0, c_hb1_sp2_1, c_hb1_sp2_2, c_hb1_sp3_0, c_hb1_sp3_1, c_hb1_sp3_2, f_hb1_sp2_0, f_hb1_sp2_1, f_hb1_sp2_2, f_hb1_sp3_0, f_hb1_sp3_1, f_hb1_sp3_2] at f_hb2_sp2_0
          have c_hb2_sp2_1 := hc_hb2 (w.heap.size + 2) 1 (by omega)
          simp [go_sem, c_hb1_sp1_0, c_hb1_sp1_1, c_hb1_sp1_2, f_hb1_sp1_0, f_hb1_sp1_1, f_hb1_sp1_2, c_hb1_sp2_0, c_hb1_sp2_1, c_hb1_sp2_2, c_hb1_sp3_0, c_hb1_sp3_1, c_hb1_sp3_2, f_hb1_sp2_0, f_hb1_sp2_1, f_hb1_sp2_2, f_hb1_sp3_0, f_hb1_sp3_1, f_hb1_sp3_2] at c_hb2_sp2_1
          have f_hb2_sp2_1 := hf_hb2 (w.heap.size + 2) 1 (by omega)
          simp [go_sem, c_hb1_sp1_0, c_hb1_sp1_1, c_hb1_sp1_2, f_hb1_sp1_0, f_hb1_sp1_1, f_hb1_sp1_2, c_hb1_sp2_0, c_hb1_sp2_1, c_hb1_sp2_2, c_hb1_sp3_0, c_hb1_sp3_1, c_hb1_sp3_2, f_hb1_sp2_0, f_hb1_sp2_1, f_hb1_sp2_2, f_hb1_sp3_0, f_hb1_sp3_1, f_hb1_sp3_2] at f_hb2_sp2_1
          have c_hb2_sp2_2 := hc_hb2 (w.heap.size + 2) 2 (by omega)
          simp [go_sem, c_hb1_sp1_0, c_hb1_sp1_1, c_hb1_sp1_2, f_hb1_sp1_0, f_hb1_sp1_1, f_hb1_sp1_2, c_hb1_sp2_0, c_hb1_sp2_1, c_hb1_sp2_2, c_hb1_sp3_0, c_hb1_sp3_1, c_hb1_sp3_2, f_hb1_sp2_0, f_hb1_sp2_1, f_hb1_sp2_2, f_hb1_sp3_0, f_hb1_sp3_1, f_hb1_sp3_2] at c_hb2_sp2_2
          have f_hb2_sp2_2 := hf_hb2 (w.heap.size + 2) 2 (by omega)
          simp [go_sem, c_hb1_sp1_0, c_hb1_sp1_1, c_hb1_sp1_2, f_hb1_sp1_0, f_hb1_sp1_1, f_hb1_sp1_2, c_hb1_sp2_0, c_hb1_sp2_1, c_hb1_sp2_2, c_hb1_sp3_0, c_hb1_sp3_1, c_hb1_sp3_2, f_hb1_sp2_0, f_hb1_sp2_1, f_hb1_sp2_2, f_hb1_sp3_0, f_hb1_sp3_1, f_hb1_sp3_2] at f_hb2_sp2_2
          have c_hb2_sp3_0 := hc_hb2 (w.heap.size + 3) 0 (by omega)
          simp [go_sem, c_hb1_sp1_0, c_hb1_sp1_1, c_hb1_sp1_2, f_hb1_sp1_0, f_hb1_sp1_1, f_hb1_sp1_2, c_hb1_sp2_0, c_hb1_sp2_1, c_hb1_sp2_2, c_hb1_sp3_0, c_hb1_sp3_1, c_hb1_sp3_2, f_hb1_sp2_0, f_hb1_sp2_1, f_hb1_sp2_2, f_hb1_sp3_0, f_hb1_sp3_1, f_hb1_sp3_2] at c_hb2_sp3_0
          have f_hb2_sp3_0 := hf_hb2 (w.heap.size + 3) 0 (by omega)
          simp [go_sem, c_hb1_sp1_0, c_hb1_sp1_1, c_hb1_sp1_2, f_hb1_sp1_0, f_hb1_sp1_1, f_hb1_sp1_2, c_hb1_sp2_0, c_hb1_sp2_1, c_hb1_sp2_2, c_hb1_sp3_0, c_hb1_sp3_1, c_hb1_sp3_2, f_hb1_sp2_0, f_hb1_sp2_1, f_hb1_sp2_2, f_hb1_sp3_0, f_hb1_sp3_1, f_hb1_sp3_2] at f_hb2_sp3_0
          have c_hb2_sp3_1 := hc_hb2 (w.heap.size + 3) 1 (by omega)
          simp [go_sem, c_hb1_sp1_0, c_hb1_sp1_1, c_hb1_sp1_2, f_hb1_sp1_0, f_hb1_sp1_1, f_hb1_sp1_2, c_hb1_sp2_0, c_hb1_sp2_1, c_hb1_sp2_2, c_hb1_sp3_0, c_hb1_sp3_1, c_hb1_sp3_2, f_hb1_sp2_0, f_hb1_sp2_1, f_hb1_sp2_2, f_hb1_sp3_0, f_hb1_sp3_1, f_hb1_sp3_2] at c_hb2_sp3_1
          have f_hb2_sp3_1 := hf_hb2 (w.heap.size + 3) 1 (by omega)
          simp [go_sem, c_hb1_sp1_0, c_hb1_sp1_1, c_hb1_sp1_2, f_hb1_sp1_0, f_hb1_sp1_1, f_hb1_sp1_2, c_hb1_sp2_0, c_hb1_sp2_1, c_hb1_sp2_2, c_hb1_sp3_0, c_hb1_sp3_1, c_hb1_sp3_2, f_hb1_sp2_0, f_hb1_sp2_1, f_hb1_sp2_2, f_hb1_sp3_0, f_hb1_sp3_1, f_hb1_sp3_2] at f_hb2_sp3_1
          have c_hb2_sp3_2 := hc_hb2 (w.heap.size + 3) 2 (by omega)
          simp [go_sem, c_hb1_sp1_0, c_hb1_sp1_1, c_hb1_sp1_2, f_hb1_sp1_0, f_hb1_sp1_1, f_hb1_sp1_2, c_hb1_sp2_0, c_hb1_sp2_1, c_hb1_sp2_2, c_hb1_sp3_0, c_hb1_sp3_1, c_hb1_sp3_2, f_hb1_sp2_0, f_hb1_sp2_1, f_hb1_sp2_2, f_hb1_sp3_0, f_hb1_sp3_1, f_hb1_sp3_2] at c_hb2_sp3_2
          have f_hb2_sp3_2 := hf_hb2 (w.heap.size + 3) 2 (by omega)
          simp [go_sem, c_hb1_sp1_0, c_hb1_sp1_1, c_hb1_sp1_2, f_hb1_sp1_0, f_hb1_sp1_1, f_hb1_sp1_2, c_hb1_sp2_0, c_hb1_sp2_1, c_hb1_sp2_2, c_hb1_sp3_0, c_hb1_sp3_1, c_hb1_sp3_2, f_hb1_sp2_0, f_hb1_sp2_1, f_hb1_sp2_2, f_hb1_sp3_0, f_hb1_sp3_1, f_hb1_sp3_2] at f_hb2_sp3_2
          go_wp2_with fail
          (with_reducible refine (ref_Norm ⟨lo, hi, false⟩ _ M1.out M2.out).mono ?_); rintro e w' ⟨rfl, hb3⟩
          obtain ⟨hc_hb3, hf_hb3⟩ := bcell hb3
          have hz_hb3 := size_le hb3
          repeat (first | simp only [World.size_alloc] at hc_hb3 | simp only [World.size_setCell] at hc_hb3 | simp only [World.size_drew] at hc_hb3)
          repeat (first | simp only [World.size_alloc] at hf_hb3 | simp only [World.size_setCell] at hf_hb3 | simp only [World.size_drew] at hf_hb3)
          repeat (first | simp only [World.size_alloc] at hz_hb3 | simp only [World.size_setCell] at hz_hb3 | simp only [World.size_drew] at hz_hb3)
          have hb3_ := Lib.hid (below_next (w := w) (by go_grown) hb3)
          clear hb3
          have hb3 := hb3_.out
          clear hb3_
          have c_hb3_sp2_0 := hc_hb3 (w.heap.size + 2) 0 (by omega)
          simp [go_sem, c_hb2_sp2_0, c_hb2_sp2_1, c_hb2_sp2_2, f_hb2_sp2_0, f_hb2_sp2_1, f_hb2_sp2_2] at c_hb3_sp2_0
          have f_hb3_sp2_0 := hf_hb3 (w.heap.size + 2) 0 (by omega)
          simp [go_sem, c_hb2_sp2_0, c_hb2_sp2_1, c_hb2_sp2_2, f_hb2_sp2_0, f_hb2_sp2_1, f_hb2_sp2_2] at f_hb3_sp2_0
          have c_hb3_sp2_1 := hc_hb3 (w.heap.size + 2) 1 (by omega)
          simp [go_sem, c_hb2_sp2_0, c_hb2_sp2_1, c_hb2_sp2_2, f_hb2_sp2_0, f_hb2_sp2_1, f_hb2_sp2_2] at c_hb3_sp2_1
          have f_hb3_sp2_1 := hf_hb3 (w.heap.size + 2) 1 (by omega)
          simp [go_sem, c_hb2_sp2_0, c_hb2_sp2_1, c_hb2_sp2_2, f_hb2_sp2_0, f_hb2_sp2_1, f_hb2_sp2_2] at f_hb3_sp2_1
          have c_hb3_sp2_2 := hc_hb3 (w.heap.size + 2) 2 (by omega)
          simp [go_sem, c_hb2_sp2_0, c_hb2_sp2_1, c_hb2_sp2_2, f_hb2_sp2_0, f_hb2_sp2_1, f_hb2_sp2_2] at c_hb3_sp2_2
          have f_hb3_sp2_2 := hf_hb3 (w.heap.size + 2) 2 (by omega)
          simp [go_sem, c_hb2_sp2_0, c_hb2_sp2_1, c_hb2_sp2_2, f_hb2_sp2_0, f_hb2_sp2_1, f_hb2_sp2_2] at f_hb3_sp2_2
          go_wp2
          (try simp only [Exit.inBlock, Exit.then])
          refine bodyPost_ret (by simp [results, Try.results26, go_sem, c_hb3_sp2_0, c_hb3_sp2_1, c_hb3_sp2_2]; try rfl) rfl ?_
          refine ⟨retv ?_, by go_grown⟩
          rw [← HE.out]; simp [refMeet, lt, g1, g2]
        · go_enter Try.func26, Try.ntmps26
          go_wp2_with fail
          (with_reducible refine (ref_Less _ _ M1.out M3.out _).mono ?_); rintro e w' ⟨rfl, hb1⟩
          obtain ⟨hc_hb1, hf_hb1⟩ := bcell hb1
          have hz_hb1 := size_le hb1
          repeat (first | simp only [World.size_alloc] at hc_hb1 | simp only [World.size_setCell] at hc_hb1 | simp only [World.size_drew] at hc_hb1)
          repeat (first | simp only [World.size_alloc] at hf_hb1 | simp only [World.size_setCell] at hf_hb1 | simp only [World.size_drew] at hf_hb1)
          repeat (first | simp only [World.size_alloc] at hz_hb1 | simp only [World.size_setCell] at hz_hb1 | simp only [World.size_drew] at hz_hb1)
          have hb1_ := Lib.hid (below_next (w := w) (by go_grown) hb1)
          clear hb1
          have hb1 := hb1_.out
          clear hb1_
          have c_hb1_s_0 := hc_hb1 (w.heap.size) 0 (by omega)
          simp [go_sem] at c_hb1_s_0
          have f_hb1_s_0 := hf_hb1 (w.heap.size) 0 (by omega)
          simp [go_sem] at f_hb1_s_0
          have c_hb1_s_1 := hc_hb1 (w.heap.size) 1 (by omega)
          simp [go_sem] at c_hb1_s_1
          have f_hb1_s_1 := hf_hb1 (w.heap.size) 1 (by omega)
          simp [go_sem] at f_hb1_s_1
          have c_hb1_s_2 := hc_hb1 (w.heap.size) 2 (by omega)
          simp [go_sem] at c_hb1_s_2
          have f_hb1_s_2 := hf_hb1 (w.heap.size) 2 (by omega)
          simp [go_sem] at f_hb1_s_2
          have c_hb1_sp1_0 := hc_hb1 (w.heap.size + 1) 0 (by omega)
          simp [go_sem] at c_hb1_sp1_0
          have f_hb1_sp1_0 := hf_hb1 (w.heap.size + 1) 0 (by omega)
          simp [go_sem] at f_hb1_sp1_0
          have c_hb1_sp1_1 := hc_hb1 (w.heap.size + 1) 1 (by omega)
          simp [go_sem] at c_hb1_sp1_1
          have f_hb1_sp1_1 := hf_hb1 (w.heap.size + 1) 1 (by omega)
          simp [go_sem] at f_hb1_sp1_1
          have c_hb1_sp1_2 := hc_hb1 (w.heap.size + 1) 2 (by omega)
          simp [go_sem] at c_hb1_sp1_2
          have f_hb1_sp1_2 := hf_hb1 (w.heap.size + 1) 2 (by omega)
          simp [go_sem] at f_hb1_sp1_2
          have c_hb1_sp2_0 := hc_hb1 (w.heap.size + 2) 0 (by omega)
          simp [go_sem] at c_hb1_sp2_0
          have f_hb1_sp2_0 := hf_hb1 (w.heap.size + 2) 0 (by omega)
          simp [go_sem] at f_hb1_sp2_0
          have c_hb1_sp2_1 := hc_hb1 (w.heap.size + 2) 1 (by omega)
          simp [go_sem] at c_hb1_sp2_1
          have f_hb1_sp2_1 := hf_hb1 (w.heap.size + 2) 1 (by omega)
          simp [go_sem] at f_hb1_sp2_1
          have c_hb1_sp2_2 := hc_hb1 (w.heap.size + 2) 2 (by omega)
          simp [go_sem] at c_hb1_sp2_2
          have f_hb1_sp2_2 := hf_hb1 (w.heap.size + 2) 2 (by omega)
          simp [go_sem] at f_hb1_sp2_2
          have c_hb1_sp3_0 := hc_hb1 (w.heap.size + 3) 0 (by omega)
          simp [go_sem] at c_hb1_sp3_0
          have f_hb1_sp3_0 := hf_hb1 (w.heap.size + 3) 0 (by omega)
          simp [go_sem] at f_hb1_sp3_0
          have c_hb1_sp3_1 := hc_hb1 (w.heap.size + 3) 1 (by omega)
          simp [go_sem] at c_hb1_sp3_1
          have f_hb1_sp3_1 := hf_hb1 (w.heap.size + 3) 1 (by omega)
          simp [go_sem] at f_hb1_sp3_1
          have c_hb1_sp3_2 := hc_hb1 (w.heap.size + 3) 2 (by omega)
          simp [go_sem] at c_hb1_sp3_2
          have f_hb1_sp3_2 := hf_hb1 (w.heap.size + 3) 2 (by omega)
          simp [go_sem] at f_hb1_sp3_2
          go_wp2_with fail
          (with_reducible refine (ref_Less _ _ M4.out M2.out _).mono ?_); rintro e w' ⟨rfl, hb2⟩
          obtain ⟨hc_hb2, hf_hb2⟩ := bcell hb2
          have hz_hb2 := size_le hb2
          repeat (first | simp only [World.size_alloc] at hc_hb2 | simp only [World.size_setCell] at hc_hb2 | simp only [World.size_drew] at hc_hb2)
          repeat (first | simp only [World.size_alloc] at hf_hb2 | simp only [World.size_setCell] at hf_hb2 | simp only [World.size_drew] at hf_hb2)
          repeat (first | simp only [World.size_alloc] at hz_hb2 | simp only [World.size_setCell] at hz_hb2 | simp only [World.size_drew] at hz_hb2)
          have hb2_ := Lib.hid (below_next (w := w) (by go_grown) hb2)
          clear hb2
          have hb2 := hb2_.out
          clear hb2_
          have c_hb2_sp1_0 := hc_hb2 (w.heap.size + 1) 0 (by omega)
          simp [go_sem, c_hb1_sp1_0, c_hb1_sp1_1, c_hb1_sp1_2, f_hb1_sp1_0, f_hb1_sp1_1, f_hb1_sp1_2, c_hb1_sp2_0, c_hb1_sp2_1, c_hb1_sp2_2, c_hb1_sp3_0, c_hb1_sp3_1, c_hb1_sp3_2, f_hb1_sp2_0, f_hb1_sp2_1, f_hb1_sp2_2, f_hb1_sp3_0, f_hb1_sp3_1, f_hb1_sp3_2] at c_hb2_sp1_0
          have f_hb2_sp1_0 := hf_hb2 (w.heap.size + 1) 0 (by omega)
          simp [go_sem, c_hb1_sp1_0, c_hb1_sp1_1, c_hb1_sp1_2, f_hb1_sp1_0, f_hb1_sp1_1, f_hb1_sp1_2, c_hb1_sp2_0, c_hb1_sp2_1, c_hb1_sp2_2, c_hb1_sp3_0, c_hb1_sp3_1, c_hb1_sp3_2, f_hb1_sp2_0, f_hb1_sp2_1, f_hb1_sp2_2, f_hb1_sp3_0, f_hb1_sp3_1, f_hb1_sp3_2] at f_hb2_sp1_0
          have c_hb2_sp1_1 := hc_hb2 (w.heap.size + 1) 1 (by omega)
          simp [go_sem, c_hb1_sp1_0, c_hb1_sp1_1, c_hb1_sp1_2, f_hb1_sp1_0, f_hb1_sp1_1, f_hb1_sp1_2, c_hb1_sp2_0, c_hb1_sp2_1, c_hb1_sp2_2, c_hb1_sp3_0, c_hb1_sp3_1, c_hb1_sp3_2, f_hb1_sp2_0, f_hb1_sp2_1, f_hb1_sp2_2, f_hb1_sp3_0, f_hb1_sp3_1, f_hb1_sp3_2] at c_hb2_sp1_1
          have f_hb2_sp1_1 := hf_hb2 (w.heap.size + 1) 1 (by omega)
          simp [go_sem, c_hb1_sp1_0, c_hb1_sp1_1, c_hb1_sp1_2, f_hb1_sp1_0, f_hb1_sp1_1, f_hb1_sp1_2, c_hb1_sp2_0, c_hb1_sp2_1, c_hb1_sp2_2, c_hb1_sp3_0, c_hb1_sp3_1, c_hb1_sp3_2, f_hb1_sp2_0, f_hb1_sp2_1, f_hb1_sp2_2, f_hb1_sp3_0, f_hb1_sp3_1, f_hb1_sp3_2] at f_hb2_sp1_1
          have c_hb2_sp1_2 := hc_hb2 (w.heap.size + 1) 2 (by omega)
          simp [go_sem, c_hb1_sp1_0, c_hb1_sp1_1, c_hb1_sp1_2, f_hb1_sp1_0, f_hb1_sp1_1, f_hb1_sp1_2, c_hb1_sp2_0, c_hb1_sp2_1, c_hb1_sp2_2, c_hb1_sp3_0, c_hb1_sp3_1, c_hb1_sp3_2, f_hb1_sp2_0, f_hb1_sp2_1, f_hb1_sp2_2, f_hb1_sp3_0, f_hb1_sp3_1, f_hb1_sp3_2] at c_hb2_sp1_2
          have f_hb2_sp1_2 := hf_hb2 (w.heap.size + 1) 2 (by omega)
          simp [go_sem, c_hb1_sp1_0, c_hb1_sp1_1, c_hb1_sp1_2, f_hb1_sp1_0, f_hb1_sp1_1, f_hb1_sp1_2, c_hb1_sp2_0, c_hb1_sp2_1, c_hb1_sp2_2, c_hb1_sp3_0, c_hb1_sp3_1, c_hb1_sp3_2, f_hb1_sp2_0, f_hb1_sp2_1, f_hb1_sp2_2, f_hb1_sp3_0, f_hb1_sp3_1, f_hb1_sp3_2] at f_hb2_sp1_2
          have c_hb2_sp2_0 := hc_hb2 (w.heap.size + 2) 0 (by omega)
          simp [go_sem, c_hb1_sp1_0, c_hb1_sp1_1, c_hb1_sp1_2, f_hb1_sp1_0, f_hb1_sp1_1, f_hb1_sp1_2, c_hb1_sp2_0, c_hb1_sp2_1, c_hb1_sp2_2, c_hb1_sp3_0, c_hb1_sp3_1, c_hb1_sp3_2, f_hb1_sp2_0, f_hb1_sp2_1, f_hb1_sp2_2, f_hb1_sp3_0, f_hb1_sp3_1, f_hb1_sp3_2] at c_hb2_sp2_0
          have f_hb2_sp2_0 := hf_hb2 (w.heap.size + 2) 0 (by omega)
          simp [go_sem, c_hb1_sp1_0, c_hb1_sp1_1, c_hb1_sp1_2, f_hb1_sp1_0, f_hb1_sp1_1, f_hb1_sp1_2, c_hb1_sp2_0, c_hb1_sp2_1, c_hb1_sp2_2, c_hb1_sp3_0, c_hb1_sp3_1, c_hb1_sp3_2, f_hb1_sp2_0, f_hb1_sp2_1, f_hb1_sp2_2, f_hb1_sp3_0, f_hb1_sp3_1, f_hb1_sp3_2] at f_hb2_sp2_0
          have c_hb2_sp2_1 := hc_hb2 (w.heap.size + 2) 1 (by omega)
          simp [go_sem, c_hb1_sp1_0, c_hb1_sp1_1, c_hb1_sp1_2, f_hb1_sp1_0, f_hb1_sp1_1, f_hb1_sp1_2, c_hb1_sp2_0, c_hb1_sp2_1, c_hb1_sp2_2, c_hb1_sp3_0, c_hb1_sp3_1, c_hb1_sp3_2, f_hb1_sp2_0, f_hb1_sp2_1, f_hb1_sp2_2, f_hb1_sp3_0, f_hb1_sp3_1, f_hb1_sp3_2] at c_hb2_sp2_1
          have f_hb2_sp2_1 := hf_hb2 (w.heap.size + 2) 1 (by omega)
          simp [go_sem, c_hb1_sp1_0, c_hb1_sp1_1, c_hb1_sp1_2, f_hb1_sp1_0, f_hb1_sp1_1, f_hb1_sp1_2, c_hb1_sp2_0, c_hb1_sp2_1, c_hb1_sp2_2, c_hb1_sp3_0, c_hb1_sp3_1, c_hb1_sp3_2, f_hb1_sp2_0, f_hb1_sp2_1, f_hb1_sp2_2, f_hb1_sp3_0, f_hb1_sp3_1, f_hb1_sp3_2] at f_hb2_sp2_1
          have c_hb2_sp2_2 := hc_hb2 (w.heap.size + 2) 2 (by omega)
          simp [go_sem, c_hb1_sp1_0, c_hb1_sp1_1, c_hb1_sp1_2, f_hb1_sp1_0, f_hb1_sp1_1, f_hb1_sp1_2, c_hb1_sp2_0, c_hb1_sp2_1, c_hb1_sp2_2, c_hb1_sp3_0, c_hb1_sp3_1, c_hb1_sp3_2, f_hb1_sp2_0, f_hb1_sp2_1, f_hb1_sp2_2, f_hb1_sp3_0, f_hb1_sp3_1, f_hb1_sp3_2] at c_hb2_sp2_2
          have f_hb2_sp2_2 := hf_hb2 (w.heap.size + 2) 2 (by omega)
          simp [go_sem, c_hb1_sp1_0, c_hb1_sp1_1, c_hb1_sp1_2, f_hb1_sp1_0, f_hb1_sp1_1, f_hb1_sp1_2, c_hb1_sp2_0, c_hb1_sp2_1, c_hb1_sp2_2, c_hb1_sp3_0, c_hb1_sp3_1, c_hb1_sp3_2, f_hb1_sp2_0, f_hb1_sp2_1, f_hb1_sp2_2, f_hb1_sp3_0, f_hb1_sp3_1, f_hb1_sp3_2] at f_hb2_sp2_2
          have c_hb2_sp3_0 := hc_hb2 (w.heap.size + 3) 0 (by omega)
          simp [go_sem, c_hb1_sp1_0, c_hb1_sp1_1, c_hb1_sp1_2, f_hb1_sp1_0, f_hb1_sp1_1, f_hb1_sp1_2, c_hb1_sp2_0, c_hb1_sp2_1, c_hb1_sp2_2, c_hb1_sp3_0, c_hb1_sp3_1, c_hb1_sp3_2, f_hb1_sp2_0, f_hb1_sp2_1, f_hb1_sp2_2, f_hb1_sp3_0, f_hb1_sp3_1, f_hb1_sp3_2] at c_hb2_sp3_0
          have f_hb2_sp3_0 := hf_hb2 (w.heap.size + 3) 0 (by omega)
          simp [go_sem, c_hb1_sp1_0, c_hb1_sp1_1, c_hb1_sp1_2, f_hb1_sp1_0, f_hb1_sp1_1, f_hb1_sp1_2, c_hb1_sp2_0, c_hb1_sp2_1, c_hb1_sp2_2, c_hb1_sp3_0, c_hb1_sp3_1, c_hb1_sp3_2, f_hb1_sp2_0, f_hb1_sp2_1, f_hb1_sp2_2, f_hb1_sp3_0, f_hb1_sp3_1, f_hb1_sp3_2] at f_hb2_sp3_0
          have c_hb2_sp3_1 := hc_hb2 (w.heap.size + 3) 1 (by omega)
          simp [go_sem, c_hb1_sp1_0, c_hb1_sp1_1, c_hb1_sp1_2, f_hb1_sp1_0, f_hb1_sp1_1, f_hb1_sp1_2, c_hb1_sp2_0, c_hb1_sp2_1, c_hb1_sp2_2, c_hb1_sp3_0, c_hb1_sp3_1, c_hb1_sp3_2, f_hb1_sp2_0, f_hb1_sp2_1, f_hb1_sp2_2, f_hb1_sp3_0, f_hb1_sp3_1, f_hb1_sp3_2] at c_hb2_sp3_1
          have f_hb2_sp3_1 := hf_hb2 (w.heap.size + 3) 1 (by omega)
          simp [go_sem, c_hb1_sp1_0, c_hb1_sp1_1, c_hb1_sp1_2, f_hb1_sp1_0, f_hb1_sp1_1, f_hb1_sp1_2, c_hb1_sp2_0, c_hb1_sp2_1, c_hb1_sp2_2, c_hb1_sp3_0, c_hb1_sp3_1, c_hb1_sp3_2, f_hb1_sp2_0, f_hb1_sp2_1, f_hb1_sp2_2, f_hb1_sp3_0, f_hb1_sp3_1, f_hb1_sp3_2] at f_hb2_sp3_1
          have c_hb2_sp3_2 := hc_hb2 (w.heap.size + 3) 2 (by omega)
          simp [go_sem, c_hb1_sp1_0, c_hb1_sp1_1, c_hb1_sp1_2, f_hb1_sp1_0, f_hb1_sp1_1, f_hb1_sp1_2, c_hb1_sp2_0, c_hb1_sp2_1, c_hb1_sp2_2, c_hb1_sp3_0, c_hb1_sp3_1, c_hb1_sp3_2, f_hb1_sp2_0, f_hb1_sp2_1, f_hb1_sp2_2, f_hb1_sp3_0, f_hb1_sp3_1, f_hb1_sp3_2] at c_hb2_sp3_2
          have f_hb2_sp3_2 := hf_hb2 (w.heap.size + 3) 2 (by omega)
          simp [go_sem, c_hb1_sp1_0, c_hb1_sp1_1, c_hb1_sp1_2, f_hb1_sp1_0, f_hb1_sp1_1, f_hb1_sp1_2, c_hb1_sp2_0, c_hb1_sp2_1, c_hb1_sp2_2, c_hb1_sp3_0, c_hb1_sp3_1, c_hb1_sp3_2, f_hb1_sp2_0, f_hb1_sp2_1, f_hb1_sp2_2, f_hb1_sp3_0, f_hb1_sp3_1, f_hb1_sp3_2] at f_hb2_sp3_2
          go_wp2_with fail
          (with_reducible refine (ref_Norm ⟨lo, hi', false⟩ _ M1.out M4.out).mono ?_); rintro e w' ⟨rfl, hb3⟩
          obtain ⟨hc_hb3, hf_hb3⟩ := bcell hb3
          have hz_hb3 := size_le hb3
          repeat (first | simp only [World.size_alloc] at hc_hb3 | simp only [World.size_setCell] at hc_hb3 | simp only [World.size_drew] at hc_hb3)
          repeat (first | simp only [World.size_alloc] at hf_hb3 | simp only [World.size_setCell] at hf_hb3 | simp only [World.size_drew] at hf_hb3)
          repeat (first | simp only [World.size_alloc] at hz_hb3 | simp only [World.size_setCell] at hz_hb3 | simp only [World.size_drew] at hz_hb3)
          have hb3_ := Lib.hid (below_next (w := w) (by go_grown) hb3)
          clear hb3
          have hb3 := hb3_.out
          clear hb3_
          have c_hb3_sp2_0 := hc_hb3 (w.heap.size + 2) 0 (by omega)
          simp [go_sem, c_hb2_sp2_0, c_hb2_sp2_1, c_hb2_sp2_2, f_hb2_sp2_0, f_hb2_sp2_1, f_hb2_sp2_2] at c_hb3_sp2_0
          have f_hb3_sp2_0 := hf_hb3 (w.heap.size + 2) 0 (by omega)
          simp [go_sem, c_hb2_sp2_0, c_hb2_sp2_1, c_hb2_sp2_2, f_hb2_sp2_0, f_hb2_sp2_1, f_hb2_sp2_2] at f_hb3_sp2_0
          have c_hb3_sp2_1 := hc_hb3 (w.heap.size + 2) 1 (by omega)
          simp [go_sem, c_hb2_sp2_0, c_hb2_sp2_1, c_hb2_sp2_2, f_hb2_sp2_0, f_hb2_sp2_1, f_hb2_sp2_2] at c_hb3_sp2_1
          have f_hb3_sp2_1 := hf_hb3 (w.heap.size + 2) 1 (by omega)
          simp [go_sem, c_hb2_sp2_0, c_hb2_sp2_1, c_hb2_sp2_2, f_hb2_sp2_0, f_hb2_sp2_1, f_hb2_sp2_2] at f_hb3_sp2_1
          have c_hb3_sp2_2 := hc_hb3 (w.heap.size + 2) 2 (by omega)
          simp [go_sem, c_hb2_sp2_0, c_hb2_sp2_1, c_hb2_sp2_2, f_hb2_sp2_0, f_hb2_sp2_1, f_hb2_sp2_2] at c_hb3_sp2_2
          have f_hb3_sp2_2 := hf_hb3 (w.heap.size + 2) 2 (by omega)
          simp [go_sem, c_hb2_sp2_0, c_hb2_sp2_1, c_hb2_sp2_2, f_hb2_sp2_0, f_hb2_sp2_1, f_hb2_sp2_2] at f_hb3_sp2_2
          go_wp2
          (try simp only [Exit.inBlock, Exit.then])
          refine bodyPost_ret (by simp [results, Try.results26, go_sem, c_hb3_sp2_0, c_hb3_sp2_1, c_hb3_sp2_2]; try rfl) rfl ?_
          refine ⟨retv ?_, by go_grown⟩
          rw [← HE.out]; simp [refMeet, lt, g1, g2]
      · go_enter Try.func26, Try.ntmps26
        go_wp2_with fail
        (with_reducible refine (ref_Less _ _ M1.out M3.out _).mono ?_); rintro e w' ⟨rfl, hb1⟩
        obtain ⟨hc_hb1, hf_hb1⟩ := bcell hb1
        have hz_hb1 := size_le hb1
        repeat (first | simp only [World.size_alloc] at hc_hb1 | simp only [World.size_setCell] at hc_hb1 | simp only [World.size_drew] at hc_hb1)
        repeat (first | simp only [World.size_alloc] at hf_hb1 | simp only [World.size_setCell] at hf_hb1 | simp only [World.size_drew] at hf_hb1)
        repeat (first | simp only [World.size_alloc] at hz_hb1 | simp only [World.size_setCell] at hz_hb1 | simp only [World.size_drew] at hz_hb1)
        have hb1_ := Lib.hid (below_next (w := w) (by go_grown) hb1)
        clear hb1
        have hb1 := hb1_.out
        clear hb1_
        have c_hb1_s_0 := hc_hb1 (w.heap.size) 0 (by omega)
        simp [go_sem] at c_hb1_s_0
        have f_hb1_s_0 := hf_hb1 (w.heap.size) 0 (by omega)
        simp [go_sem] at f_hb1_s_0
        have c_hb1_s_1 := hc_hb1 (w.heap.size) 1 (by omega)
        simp [go_sem] at c_hb1_s_1
        have f_hb1_s_1 := hf_hb1 (w.heap.size) 1 (by omega)
        simp [go_sem] at f_hb1_s_1
        have c_hb1_s_2 := hc_hb1 (w.heap.size) 2 (by omega)
        simp [go_sem] at c_hb1_s_2
        have f_hb1_s_2 := hf_hb1 (w.heap.size) 2 (by omega)
        simp [go_sem] at f_hb1_s_2
        have c_hb1_sp1_0 := hc_hb1 (w.heap.size + 1) 0 (by omega)
        simp [go_sem] at c_hb1_sp1_0
        have f_hb1_sp1_0 := hf_hb1 (w.heap.size + 1) 0 (by omega)
        simp [go_sem] at f_hb1_sp1_0
        have c_hb1_sp1_1 := hc_hb1 (w.heap.size + 1) 1 (by omega)
        simp [go_sem] at c_hb1_sp1_1
        have f_hb1_sp1_1 := hf_hb1 (w.heap.size + 1) 1 (by omega)
        simp [go_sem] at f_hb1_sp1_1
        have c_hb1_sp1_2 := hc_hb1 (w.heap.size + 1) 2 (by omega)
        simp [go_sem] at c_hb1_sp1_2
        have f_hb1_sp1_2 := hf_hb1 (w.heap.size + 1) 2 (by omega)
        simp [go_sem] at f_hb1_sp1_2
        have c_hb1_sp2_0 := hc_hb1 (w.heap.size + 2) 0 (by omega)
        simp [go_sem] at c_hb1_sp2_0
        have f_hb1_sp2_0 := hf_hb1 (w.heap.size + 2) 0 (by omega)
        simp [go_sem] at f_hb1_sp2_0
        have c_hb1_sp2_1 := hc_hb1 (w.heap.size + 2) 1 (by omega)
        simp [go_sem] at c_hb1_sp2_1
        have f_hb1_sp2_1 := hf_hb1 (w.heap.size + 2) 1 (by omega)
        simp [go_sem] at f_hb1_sp2_1
        have c_hb1_sp2_2 := hc_hb1 (w.heap.size + 2) 2 (by omega)
        simp [go_sem] at c_hb1_sp2_2
        have f_hb1_sp2_2 := hf_hb1 (w.heap.size + 2) 2 (by omega)
        simp [go_sem] at f_hb1_sp2_2
        have c_hb1_sp3_0 := hc_hb1 (w.heap.size + 3) 0 (by omega)
        simp [go_sem] at c_hb1_sp3_0
        have f_hb1_sp3_0 := hf_hb1 (w.heap.size + 3) 0 (by omega)
        simp [go_sem] at f_hb1_sp3_0
        have c_hb1_sp3_1 := hc_hb1 (w.heap.size + 3) 1 (by omega)
        simp [go_sem] at c_hb1_sp3_1
        have f_hb1_sp3_1 := hf_hb1 (w.heap.size + 3) 1 (by omega)
        simp [go_sem] at f_hb1_sp3_1
        have c_hb1_sp3_2 := hc_hb1 (w.heap.size + 3) 2 (by omega)
        simp [go_sem] at c_hb1_sp3_2
        have f_hb1_sp3_2 := hf_hb1 (w.heap.size + 3) 2 (by omega)
        simp [go_sem] at f_hb1_sp3_2
        go_wp2_with fail
        (with_reducible refine (ref_Norm ⟨lo, hi', false⟩ _ M1.out M4.out).mono ?_); rintro e w' ⟨rfl, hb3⟩
        obtain ⟨hc_hb3, hf_hb3⟩ := bcell hb3
        have hz_hb3 := size_le hb3
        repeat (first | simp only [World.size_alloc] at hc_hb3 | simp only [World.size_setCell] at hc_hb3 | simp only [World.size_drew] at hc_hb3)
        repeat (first | simp only [World.size_alloc] at hf_hb3 | simp only [World.size_setCell] at hf_hb3 | simp only [World.size_drew] at hf_hb3)
        repeat (first | simp only [World.size_alloc] at hz_hb3 | simp only [World.size_setCell] at hz_hb3 | simp only [World.size_drew] at hz_hb3)
        have hb3_ := Lib.hid (below_next (w := w) (by go_grown) hb3)
        clear hb3
        have hb3 := hb3_.out
        clear hb3_
        have c_hb3_sp2_0 := hc_hb3 (w.heap.size + 2) 0 (by omega)
        simp [go_sem, c_hb1_sp2_0, c_hb1_sp2_1, c_hb1_sp2_2, f_hb1_sp2_0, f_hb1_sp2_1, f_hb1_sp2_2] at c_hb3_sp2_0
        have f_hb3_sp2_0 := hf_hb3 (w.heap.size + 2) 0 (by omega)
        simp [go_sem, c_hb1_sp2_0, c_hb1_sp2_1, c_hb1_sp2_2, f_hb1_sp2_0, f_hb1_sp2_1, f_hb1_sp2_2] at f_hb3_sp2_0
        have c_hb3_sp2_1 := hc_hb3 (w.heap.size + 2) 1 (by omega)
        simp [go_sem, c_hb1_sp2_0, c_hb1_sp2_1, c_hb1_sp2_2, f_hb1_sp2_0, f_hb1_sp2_1, f_hb1_sp2_2] at c_hb3_sp2_1
        have f_hb3_sp2_1 := hf_hb3 (w.heap.size + 2) 1 (by omega)
        simp [go_sem, c_hb1_sp2_0, c_hb1_sp2_1, c_hb1_sp2_2, f_hb1_sp2_0, f_hb1_sp2_1, f_hb1_sp2_2] at f_hb3_sp2_1
        have c_hb3_sp2_2 := hc_hb3 (w.heap.size + 2) 2 (by omega)
        simp [go_sem, c_hb1_sp2_0, c_hb1_sp2_1, c_hb1_sp2_2, f_hb1_sp2_0, f_hb1_sp2_1, f_hb1_sp2_2] at c_hb3_sp2_2
        have f_hb3_sp2_2 := hf_hb3 (w.heap.size + 2) 2 (by omega)
        simp [go_sem, c_hb1_sp2_0, c_hb1_sp2_1, c_hb1_sp2_2, f_hb1_sp2_0, f_hb1_sp2_1, f_hb1_sp2_2] at f_hb3_sp2_2
        go_wp2
        (try simp only [Exit.inBlock, Exit.then])
        refine bodyPost_ret (by simp [results, Try.results26, go_sem, c_hb3_sp2_0, c_hb3_sp2_1, c_hb3_sp2_2]; try rfl) rfl ?_
        refine ⟨retv ?_, by go_grown⟩
        rw [← HE.out]; simp [refMeet, lt, g1]
    · cases o
      · go_enter Try.func26, Try.ntmps26
        go_wp2_with fail
        (with_reducible refine (ref_Less _ _ M1.out M3.out _).mono ?_); rintro e w' ⟨rfl, hb1⟩
        obtain ⟨hc_hb1, hf_hb1⟩ := bcell hb1
        have hz_hb1 := size_le hb1
        repeat (first | simp only [World.size_alloc] at hc_hb1 | simp only [World.size_setCell] at hc_hb1 | simp only [World.size_drew] at hc_hb1)
        repeat (first | simp only [World.size_alloc] at hf_hb1 | simp only [World.size_setCell] at hf_hb1 | simp only [World.size_drew] at hf_hb1)
        repeat (first | simp only [World.size_alloc] at hz_hb1 | simp only [World.size_setCell] at hz_hb1 | simp only [World.size_drew] at hz_hb1)
        have hb1_ := Lib.hid (below_next (w := w) (by go_grown) hb1)
        clear hb1
        have hb1 := hb1_.out
        clear hb1_
        have c_hb1_s_0 := hc_hb1 (w.heap.size) 0 (by omega)
        simp [go_sem] at c_hb1_s_0
        have f_hb1_s_0 := hf_hb1 (w.heap.size) 0 (by omega)
        simp [go_sem] at f_hb1_s_0
        have c_hb1_s_1 := hc_hb1 (w.heap.size) 1 (by omega)
        simp [go_sem] at c_hb1_s_1
        have f_hb1_s_1 := hf_hb1 (w.heap.size) 1 (by omega)
        simp [go_sem] at f_hb1_s_1
        have c_hb1_s_2 := hc_hb1 (w.heap.size) 2 (by omega)
        simp [go_sem] at c_hb1_s_2
        have f_hb1_s_2 := hf_hb1 (w.heap.size) 2 (by omega)
        simp [go_sem] at f_hb1_s_2
        have c_hb1_sp1_0 := hc_hb1 (w.heap.size + 1) 0 (by omega)
        simp [go_sem] at c_hb1_sp1_0
        have f_hb1_sp1_0 := hf_hb1 (w.heap.size + 1) 0 (by omega)
        simp [go_sem] at f_hb1_sp1_0
        have c_hb1_sp1_1 := hc_hb1 (w.heap.size + 1) 1 (by omega)
        simp [go_sem] at c_hb1_sp1_1
        have f_hb1_sp1_1 := hf_hb1 (w.heap.size + 1) 1 (by omega)
        simp [go_sem] at f_hb1_sp1_1
        have c_hb1_sp1_2 := hc_hb1 (w.heap.size + 1) 2 (by omega)
        simp [go_sem] at c_hb1_sp1_2
        have f_hb1_sp1_2 := hf_hb1 (w.heap.size + 1) 2 (by omega)
        simp [go_sem] at f_hb1_sp1_2
        have c_hb1_sp2_0 := hc_hb1 (w.heap.size + 2) 0 (by omega)
        simp [go_sem] at c_hb1_sp2_0
        have f_hb1_sp2_0 := hf_hb1 (w.heap.size + 2) 0 (by omega)
        simp [go_sem] at f_hb1_sp2_0
        have c_hb1_sp2_1 := hc_hb1 (w.heap.size + 2) 1 (by omega)
        simp [go_sem] at c_hb1_sp2_1
        have f_hb1_sp2_1 := hf_hb1 (w.heap.size + 2) 1 (by omega)
        simp [go_sem] at f_hb1_sp2_1
        have c_hb1_sp2_2 := hc_hb1 (w.heap.size + 2) 2 (by omega)
        simp [go_sem] at c_hb1_sp2_2
        have f_hb1_sp2_2 := hf_hb1 (w.heap.size + 2) 2 (by omega)
        simp [go_sem] at f_hb1_sp2_2
        have c_hb1_sp3_0 := hc_hb1 (w.heap.size + 3) 0 (by omega)
        simp [go_sem] at c_hb1_sp3_0
        have f_hb1_sp3_0 := hf_hb1 (w.heap.size + 3) 0 (by omega)
        simp [go_sem] at f_hb1_sp3_0
        have c_hb1_sp3_1 := hc_hb1 (w.heap.size + 3) 1 (by omega)
        simp [go_sem] at c_hb1_sp3_1
        have f_hb1_sp3_1 := hf_hb1 (w.heap.size + 3) 1 (by omega)
        simp [go_sem] at f_hb1_sp3_1
        have c_hb1_sp3_2 := hc_hb1 (w.heap.size + 3) 2 (by omega)
        simp [go_sem] at c_hb1_sp3_2
        have f_hb1_sp3_2 := hf_hb1 (w.heap.size + 3) 2 (by omega)
        simp [go_sem] at f_hb1_sp3_2
        go_wp2_with fail
        (with_reducible refine (ref_Norm ⟨lo, hi, false⟩ _ M1.out M2.out).mono ?_); rintro e w' ⟨rfl, hb3⟩
        obtain ⟨hc_hb3, hf_hb3⟩ := bcell hb3
        have hz_hb3 := size_le hb3
        repeat (first | simp only [World.size_alloc] at hc_hb3 | simp only [World.size_setCell] at hc_hb3 | simp only [World.size_drew] at hc_hb3)
        repeat (first | simp only [World.size_alloc] at hf_hb3 | simp only [World.size_setCell] at hf_hb3 | simp only [World.size_drew] at hf_hb3)
        repeat (first | simp only [World.size_alloc] at hz_hb3 | simp only [World.size_setCell] at hz_hb3 | simp only [World.size_drew] at hz_hb3)
        have hb3_ := Lib.hid (below_next (w := w) (by go_grown) hb3)
        clear hb3
        have hb3 := hb3_.out
        clear hb3_
        have c_hb3_sp2_0 := hc_hb3 (w.heap.size + 2) 0 (by omega)
        simp [go_sem, c_hb1_sp2_0, c_hb1_sp2_1, c_hb1_sp2_2, f_hb1_sp2_0, f_hb1_sp2_1, f_hb1_sp2_2] at c_hb3_sp2_0
        have f_hb3_sp2_0 := hf_hb3 (w.heap.size + 2) 0 (by omega)
        simp [go_sem, c_hb1_sp2_0, c_hb1_sp2_1, c_hb1_sp2_2, f_hb1_sp2_0, f_hb1_sp2_1, f_hb1_sp2_2] at f_hb3_sp2_0
        have c_hb3_sp2_1 := hc_hb3 (w.heap.size + 2) 1 (by omega)
        simp [go_sem, c_hb1_sp2_0, c_hb1_sp2_1, c_hb1_sp2_2, f_hb1_sp2_0, f_hb1_sp2_1, f_hb1_sp2_2] at c_hb3_sp2_1
        have f_hb3_sp2_1 := hf_hb3 (w.heap.size + 2) 1 (by omega)
        simp [go_sem, c_hb1_sp2_0, c_hb1_sp2_1, c_hb1_sp2_2, f_hb1_sp2_0, f_hb1_sp2_1, f_hb1_sp2_2] at f_hb3_sp2_1
        have c_hb3_sp2_2 := hc_hb3 (w.heap.size + 2) 2 (by omega)
        simp [go_sem, c_hb1_sp2_0, c_hb1_sp2_1, c_hb1_sp2_2, f_hb1_sp2_0, f_hb1_sp2_1, f_hb1_sp2_2] at c_hb3_sp2_2
        have f_hb3_sp2_2 := hf_hb3 (w.heap.size + 2) 2 (by omega)
        simp [go_sem, c_hb1_sp2_0, c_hb1_sp2_1, c_hb1_sp2_2, f_hb1_sp2_0, f_hb1_sp2_1, f_hb1_sp2_2] at f_hb3_sp2_2
        go_wp2
        (try simp only [Exit.inBlock, Exit.then])
        refine bodyPost_ret (by simp [results, Try.results26, go_sem, c_hb3_sp2_0, c_hb3_sp2_1, c_hb3_sp2_2]; try rfl) rfl ?_
        refine ⟨retv ?_, by go_grown⟩
        rw [← HE.out]; simp [refMeet, lt, g1]
      · go_enter Try.func26, Try.ntmps26
        go_wp2_with fail
        (with_reducible refine (ref_Less _ _ M1.out M3.out _).mono ?_); rintro e w' ⟨rfl, hb1⟩
        obtain ⟨hc_hb1, hf_hb1⟩ := bcell hb1
        have hz_hb1 := size_le hb1
        repeat (first | simp only [World.size_alloc] at hc_hb1 | simp only [World.size_setCell] at hc_hb1 | simp only [World.size_drew] at hc_hb1)
        repeat (first | simp only [World.size_alloc] at hf_hb1 | simp only [World.size_setCell] at hf_hb1 | simp only [World.size_drew] at hf_hb1)
        repeat (first | simp only [World.size_alloc] at hz_hb1 | simp only [World.size_setCell] at hz_hb1 | simp only [World.size_drew] at hz_hb1)
        have hb1_ := Lib.hid (below_next (w := w) (by go_grown) hb1)
        clear hb1
        have hb1 := hb1_.out
        clear hb1_
        have c_hb1_s_0 := hc_hb1 (w.heap.size) 0 (by omega)
        simp [go_sem] at c_hb1_s_0
        have f_hb1_s_0 := hf_hb1 (w.heap.size) 0 (by omega)
        simp [go_sem] at f_hb1_s_0
        have c_hb1_s_1 := hc_hb1 (w.heap.size) 1 (by omega)
        simp [go_sem] at c_hb1_s_1
        have f_hb1_s_1 := hf_hb1 (w.heap.size) 1 (by omega)
        simp [go_sem] at f_hb1_s_1
        have c_hb1_s_2 := hc_hb1 (w.heap.size) 2 (by omega)
        simp [go_sem] at c_hb1_s_2
        have f_hb1_s_2 := hf_hb1 (w.heap.size) 2 (by omega)
        simp [go_sem] at f_hb1_s_2
        have c_hb1_sp1_0 := hc_hb1 (w.heap.size + 1) 0 (by omega)
        simp [go_sem] at c_hb1_sp1_0
        have f_hb1_sp1_0 := hf_hb1 (w.heap.size + 1) 0 (by omega)
        simp [go_sem] at f_hb1_sp1_0
        have c_hb1_sp1_1 := hc_hb1 (w.heap.size + 1) 1 (by omega)
        simp [go_sem] at c_hb1_sp1_1
        have f_hb1_sp1_1 := hf_hb1 (w.heap.size + 1) 1 (by omega)
        simp [go_sem] at f_hb1_sp1_1
        have c_hb1_sp1_2 := hc_hb1 (w.heap.size + 1) 2 (by omega)
        simp [go_sem] at c_hb1_sp1_2
        have f_hb1_sp1_2 := hf_hb1 (w.heap.size + 1) 2 (by omega)
        simp [go_sem] at f_hb1_sp1_2
        have c_hb1_sp2_0 := hc_hb1 (w.heap.size + 2) 0 (by omega)
        simp [go_sem] at c_hb1_sp2_0
        have f_hb1_sp2_0 := hf_hb1 (w.heap.size + 2) 0 (by omega)
        simp [go_sem] at f_hb1_sp2_0
        have c_hb1_sp2_1 := hc_hb1 (w.heap.size + 2) 1 (by omega)
        simp [go_sem] at c_hb1_sp2_1
        have f_hb1_sp2_1 := hf_hb1 (w.heap.size + 2) 1 (by omega)
        simp [go_sem] at f_hb1_sp2_1
        have c_hb1_sp2_2 := hc_hb1 (w.heap.size + 2) 2 (by omega)
        simp [go_sem] at c_hb1_sp2_2
        have f_hb1_sp2_2 := hf_hb1 (w.heap.size + 2) 2 (by omega)
        simp [go_sem] at f_hb1_sp2_2
        have c_hb1_sp3_0 := hc_hb1 (w.heap.size + 3) 0 (by omega)
        simp [go_sem] at c_hb1_sp3_0
        have f_hb1_sp3_0 := hf_hb1 (w.heap.size + 3) 0 (by omega)
        simp [go_sem] at f_hb1_sp3_0
        have c_hb1_sp3_1 := hc_hb1 (w.heap.size + 3) 1 (by omega)
        simp [go_sem] at c_hb1_sp3_1
        have f_hb1_sp3_1 := hf_hb1 (w.heap.size + 3) 1 (by omega)
        simp [go_sem] at f_hb1_sp3_1
        have c_hb1_sp3_2 := hc_hb1 (w.heap.size + 3) 2 (by omega)
        simp [go_sem] at c_hb1_sp3_2
        have f_hb1_sp3_2 := hf_hb1 (w.heap.size + 3) 2 (by omega)
        simp [go_sem] at f_hb1_sp3_2
        go_wp2_with fail
        (with_reducible refine (ref_Norm ⟨lo, hi, true⟩ _ M1.out M2.out).mono ?_); rintro e w' ⟨rfl, hb3⟩
        obtain ⟨hc_hb3, hf_hb3⟩ := bcell hb3
        have hz_hb3 := size_le hb3
        repeat (first | simp only [World.size_alloc] at hc_hb3 | simp only [World.size_setCell] at hc_hb3 | simp only [World.size_drew] at hc_hb3)
        repeat (first | simp only [World.size_alloc] at hf_hb3 | simp only [World.size_setCell] at hf_hb3 | simp only [World.size_drew] at hf_hb3)
        repeat (first | simp only [World.size_alloc] at hz_hb3 | simp only [World.size_setCell] at hz_hb3 | simp only [World.size_drew] at hz_hb3)
        have hb3_ := Lib.hid (below_next (w := w) (by go_grown) hb3)
        clear hb3
        have hb3 := hb3_.out
        clear hb3_
        have c_hb3_sp2_0 := hc_hb3 (w.heap.size + 2) 0 (by omega)
        simp [go_sem, c_hb1_sp2_0, c_hb1_sp2_1, c_hb1_sp2_2, f_hb1_sp2_0, f_hb1_sp2_1, f_hb1_sp2_2] at c_hb3_sp2_0
        have f_hb3_sp2_0 := hf_hb3 (w.heap.size + 2) 0 (by omega)
        simp [go_sem, c_hb1_sp2_0, c_hb1_sp2_1, c_hb1_sp2_2, f_hb1_sp2_0, f_hb1_sp2_1, f_hb1_sp2_2] at f_hb3_sp2_0
        have c_hb3_sp2_1 := hc_hb3 (w.heap.size + 2) 1 (by omega)
        simp [go_sem, c_hb1_sp2_0, c_hb1_sp2_1, c_hb1_sp2_2, f_hb1_sp2_0, f_hb1_sp2_1, f_hb1_sp2_2] at c_hb3_sp2_1
        have f_hb3_sp2_1 := hf_hb3 (w.heap.size + 2) 1 (by omega)
        simp [go_sem, c_hb1_sp2_0, c_hb1_sp2_1, c_hb1_sp2_2, f_hb1_sp2_0, f_hb1_sp2_1, f_hb1_sp2_2] at f_hb3_sp2_1
        have c_hb3_sp2_2 := hc_hb3 (w.heap.size + 2) 2 (by omega)
        simp [go_sem, c_hb1_sp2_0, c_hb1_sp2_1, c_hb1_sp2_2, f_hb1_sp2_0, f_hb1_sp2_1, f_hb1_sp2_2] at c_hb3_sp2_2
        have f_hb3_sp2_2 := hf_hb3 (w.heap.size + 2) 2 (by omega)
        simp [go_sem, c_hb1_sp2_0, c_hb1_sp2_1, c_hb1_sp2_2, f_hb1_sp2_0, f_hb1_sp2_1, f_hb1_sp2_2] at f_hb3_sp2_2
        go_wp2
        (try simp only [Exit.inBlock, Exit.then])
        refine bodyPost_ret (by simp [results, Try.results26, go_sem, c_hb3_sp2_0, c_hb3_sp2_1, c_hb3_sp2_2]; try rfl) rfl ?_
        refine ⟨retv ?_, by go_grown⟩
        rw [← HE.out]; simp [refMeet, lt, g1]
  · cases o'
    · cases o
      · cases g2 : Op.bytesLess hi'.toList hi.toList
        · go_enter Try.func26, Try.ntmps26
          go_wp2_with fail
          (with_reducible refine (ref_Less _ _ M1.out M3.out _).mono ?_); rintro e w' ⟨rfl, hb1⟩
          obtain ⟨hc_hb1, hf_hb1⟩ := bcell hb1
          have hz_hb1 := size_le hb1
          repeat (first | simp only [World.size_alloc] at hc_hb1 | simp only [World.size_setCell] at hc_hb1 | simp only [World.size_drew] at hc_hb1)
          repeat (first | simp only [World.size_alloc] at hf_hb1 | simp only [World.size_setCell] at hf_hb1 | simp only [World.size_drew] at hf_hb1)
          repeat (first | simp only [World.size_alloc] at hz_hb1 | simp only [World.size_setCell] at hz_hb1 | simp only [World.size_drew] at hz_hb1)
          have hb1_ := Lib.hid (below_next (w := w) (by go_grown) hb1)
          clear hb1
          have hb1 := hb1_.out
          clear hb1_
          have c_hb1_s_0 := hc_hb1 (w.heap.size) 0 (by omega)
          simp [go_sem] at c_hb1_s_0
          have f_hb1_s_0 := hf_hb1 (w.heap.size) 0 (by omega)
          simp [go_sem] at f_hb1_s_0
          have c_hb1_s_1 := hc_hb1 (w.heap.size) 1 (by omega)
          simp [go_sem] at c_hb1_s_1
          have f_hb1_s_1 := hf_hb1 (w.heap.size) 1 (by omega)
          simp [go_sem] at f_hb1_s_1
          have c_hb1_s_2 := hc_hb1 (w.heap.size) 2 (by omega)
          simp [go_sem] at c_hb1_s_2
          have f_hb1_s_2 := hf_hb1 (w.heap.size) 2 (by omega)
          simp [go_sem] at f_hb1_s_2
          have c_hb1_sp1_0 := hc_hb1 (w.heap.size + 1) 0 (by omega)
          simp [go_sem] at c_hb1_sp1_0
          have f_hb1_sp1_0 := hf_hb1 (w.heap.size + 1) 0 (by omega)
          simp [go_sem] at f_hb1_sp1_0
          have c_hb1_sp1_1 := hc_hb1 (w.heap.size + 1) 1 (by omega)
          simp [go_sem] at c_hb1_sp1_1
          have f_hb1_sp1_1 := hf_hb1 (w.heap.size + 1) 1 (by omega)
          simp [go_sem] at f_hb1_sp1_1
          have c_hb1_sp1_2 := hc_hb1 (w.heap.size + 1) 2 (by omega)
          simp [go_sem] at c_hb1_sp1_2
          have f_hb1_sp1_2 := hf_hb1 (w.heap.size + 1) 2 (by omega)
          simp [go_sem] at f_hb1_sp1_2
          have c_hb1_sp2_0 := hc_hb1 (w.heap.size + 2) 0 (by omega)
          simp [go_sem] at c_hb1_sp2_0
          have f_hb1_sp2_0 := hf_hb1 (w.heap.size + 2) 0 (by omega)
          simp [go_sem] at f_hb1_sp2_0
          have c_hb1_sp2_1 := hc_hb1 (w.heap.size + 2) 1 (by omega)
          simp [go_sem] at c_hb1_sp2_1
          have f_hb1_sp2_1 := hf_hb1 (w.heap.size + 2) 1 (by omega)
          simp [go_sem] at f_hb1_sp2_1
          have c_hb1_sp2_2 := hc_hb1 (w.heap.size + 2) 2 (by omega)
          simp [go_sem] at c_hb1_sp2_2
          have f_hb1_sp2_2 := hf_hb1 (w.heap.size + 2) 2 (by omega)
          simp [go_sem] at f_hb1_sp2_2
          have c_hb1_sp3_0 := hc_hb1 (w.heap.size + 3) 0 (by omega)
          simp [go_sem] at c_hb1_sp3_0
          have f_hb1_sp3_0 := hf_hb1 (w.heap.size + 3) 0 (by omega)
          simp [go_sem] at f_hb1_sp3_0
          have c_hb1_sp3_1 := hc_hb1 (w.heap.size + 3) 1 (by omega)
          simp [go_sem] at c_hb1_sp3_1
          have f_hb1_sp3_1 := hf_hb1 (w.heap.size + 3) 1 (by omega)
          simp [go_sem] at f_hb1_sp3_1
          have c_hb1_sp3_2 := hc_hb1 (w.heap.size + 3) 2 (by omega)
          simp [go_sem] at c_hb1_sp3_2
          have f_hb1_sp3_2 := hf_hb1 (w.heap.size + 3) 2 (by omega)
          simp [go_sem] at f_hb1_sp3_2
          go_wp2_with fail
          (with_reducible refine (ref_Less _ _ M4.out M2.out _).mono ?_); rintro e w' ⟨rfl, hb2⟩
          obtain ⟨hc_hb2, hf_hb2⟩ := bcell hb2
          have hz_hb2 := size_le hb2
          repeat (first | simp only [World.size_alloc] at hc_hb2 | simp only [World.size_setCell] at hc_hb2 | simp only [World.size_drew] at hc_hb2)
          repeat (first | simp only [World.size_alloc] at hf_hb2 | simp only [World.size_setCell] at hf_hb2 | simp only [World.size_drew] at hf_hb2)
          repeat (first | simp only [World.size_alloc] at hz_hb2 | simp only [World.size_setCell] at hz_hb2 | simp only [World.size_drew] at hz_hb2)
          have hb2_ := Lib.hid (below_next (w := w) (by go_grown) hb2)
          clear hb2
          have hb2 := hb2_.out
          clear hb2_
          have c_hb2_sp1_0 := hc_hb2 (w.heap.size + 1) 0 (by omega)
          simp [go_sem, c_hb1_sp1_0, c_hb1_sp1_1, c_hb1_sp1_2, f_hb1_sp1_0, f_hb1_sp1_1, f_hb1_sp1_2, c_hb1_sp2_0, c_hb1_sp2_1, c_hb1_sp2_2, c_hb1_sp3_0, c_hb1_sp3_1, c_hb1_sp3_2, f_hb1_sp2_0, f_hb1_sp2_1, f_hb1_sp2_2, f_hb1_sp3_0, f_hb1_sp3_1, f_hb1_sp3_2] at c_hb2_sp1_0
          have f_hb2_sp1_0 := hf_hb2 (w.heap.size + 1) 0 (by omega)
          simp [go_sem, c_hb1_sp1_0, c_hb1_sp1_1, c_hb1_sp1_2, f_hb1_sp1_0, f_hb1_sp1_1, f_hb1_sp1_2, c_hb1_sp2_0, c_hb1_sp2_1, c_hb1_sp2_2, c_hb1_sp3_0, c_hb1_sp3_1, c_hb1_sp3_2, f_hb1_sp2_0, f_hb1_sp2_1, f_hb1_sp2_2, f_hb1_sp3_0, f_hb1_sp3_1, f_hb1_sp3_2] at f_hb2_sp1_0
          have c_hb2_sp1_1 := hc_hb2 (w.heap.size + 1) 1 (by omega)
          simp [go_sem, c_hb1_sp1_0, c_hb1_sp1_1, c_hb1_sp1_2, f_hb1_sp1_0, f_hb1_sp1_1, f_hb1_sp1_2, c_hb1_sp2_0, c_hb1_sp2_1, c_hb1_sp2_2, c_hb1_sp3_0, c_hb1_sp3_1, c_hb1_sp3_2, f_hb1_sp2_0, f_hb1_sp2_1, f_hb1_sp2_2, f_hb1_sp3_0, f_hb1_sp3_1, f_hb1_sp3_2] at c_hb2_sp1_1
          have f_hb2_sp1_1 := hf_hb2 (w.heap.size + 1) 1 (by omega)
          simp [go_sem, c_hb1_sp1_0, c_hb1_sp1_1, c_hb1_sp1_2, f_hb1_sp1_0, f_hb1_sp1_1, f_hb1_sp1_2, c_hb1_sp2_0, c_hb1_sp2_1, c_hb1_sp2_2, c_hb1_sp3_0, c_hb1_sp3_1, c_hb1_sp3_2, f_hb1_sp2_0, f_hb1_sp2_1, f_hb1_sp2_2, f_hb1_sp3_0, f_hb1_sp3_1, f_hb1_sp3_2] at f_hb2_sp1_1
          have c_hb2_sp1_2 := hc_hb2 (w.heap.size + 1) 2 (by omega)
          simp [go_sem, c_hb1_sp1_0, c_hb1_sp1_1, c_hb1_sp1_2, f_hb1_sp1_0, f_hb1_sp1_1, f_hb1_sp1_2, c_hb1_sp2_0, c_hb1_sp2_1, c_hb1_sp2_2, c_hb1_sp3_0, c_hb1_sp3_1, c_hb1_sp3_2, f_hb1_sp2_0, f_hb1_sp2_1, f_hb1_sp2_2, f_hb1_sp3_0, f_hb1_sp3_1, f_hb1_sp3_2] at c_hb2_sp1_2
          have f_hb2_sp1_2 := hf_hb2 (w.heap.size + 1) 2 (by omega)
          simp [go_sem, c_hb1_sp1_0, c_hb1_sp1_1, c_hb1_sp1_2, f_hb1_sp1_0, f_hb1_sp1_1, f_hb1_sp1_2, c_hb1_sp2_0, c_hb1_sp2_1, c_hb1_sp2_2, c_hb1_sp3_0, c_hb1_sp3_1, c_hb1_sp3_2, f_hb1_sp2_0, f_hb1_sp2_1, f_hb1_sp2_2, f_hb1_sp3_0, f_hb1_sp3_1, f_hb1_sp3_2] at f_hb2_sp1_2
          have c_hb2_sp2_0 := hc_hb2 (w.heap.size + 2) 0 (by omega)
          simp [go_sem, c_hb1_sp1_0, c_hb1_sp1_1, c_hb1_sp1_2, f_hb1_sp1_0, f_hb1_sp1_1, f_hb1_sp1_2, c_hb1_sp2_0, c_hb1_sp2_1, c_hb1_sp2_2, c_hb1_sp3_0, c_hb1_sp3_1, c_hb1_sp3_2, f_hb1_sp2_0, f_hb1_sp2_1, f_hb1_sp2_2, f_hb1_sp3_0, f_hb1_sp3_1, f_hb1_sp3_2] at c_hb2_sp2_0
          have f_hb2_sp2_0 := hf_hb2 (w.heap.size + 2) 0 (by omega)
          simp [go_sem, c_hb1_sp1_0, c_hb1_sp1_1, c_hb1_sp1_2, f_hb1_sp1_0, f_hb1_sp1_1, f_hb1_sp1_2, c_hb1_sp2_0, c_hb1_sp2_1, c_hb1_sp2_2, c_hb1_sp3_0, c_hb1_sp3_1, c_hb1_sp3_2, f_hb1_sp2_0, f_hb1_sp2_1, f_hb1_sp2_2, f_hb1_sp3_0, f_hb1_sp3_1, f_hb1_sp3_2] at f_hb2_sp2_0
          have c_hb2_sp2_1 := hc_hb2 (w.heap.size + 2) 1 (by omega)
          simp [go_sem, c_hb1_sp1_0, c_hb1_sp1_1, c_hb1_sp1_2, f_hb1_sp1_0, f_hb1_sp1_1, f_hb1_sp1_2, c_hb1_sp2_0, c_hb1_sp2_1, c_hb1_sp2_2, c_hb1_sp3_0, c_hb1_sp3_1, c_hb1_sp3_2, f_hb1_sp2_0, f_hb1_sp2_1, f_hb1_sp2_2, f_hb1_sp3_0, f_hb1_sp3_1, f_hb1_sp3_2] at c_hb2_sp2_1
          have f_hb2_sp2_1 := hf_hb2 (w.heap.size + 2) 1 (by omega)
          simp [go_sem, c_hb1_sp1_0, c_hb1_sp1_1, c_hb1_sp1_2, f_hb1_sp1_0, f_hb1_sp1_1, f_hb1_sp1_2, c_hb1_sp2_0, c_hb1_sp2_1, c_hb1_sp2_2, c_hb1_sp3_0, c_hb1_sp3_1, c_hb1_sp3_2, f_hb1_sp2_0, f_hb1_sp2_1, f_hb1_sp2_2, f_hb1_sp3_0, f_hb1_sp3_1, f_hb1_sp3_2] at f_hb2_sp2_1
          have c_hb2_sp2_2 := hc_hb2 (w.heap.size + 2) 2 (by omega)
          simp [go_sem, c_hb1_sp1_0, c_hb1_sp1_1, c_hb1_sp1_2, f_hb1_sp1_0, f_hb1_sp1_1, f_hb1_sp1_2, c_hb1_sp2_0, c_hb1_sp2_1, c_hb1_sp2_2, c_hb1_sp3_0, c_hb1_sp3_1, c_hb1_sp3_2, f_hb1_sp2_0, f_hb1_sp2_1, f_hb1_sp2_2, f_hb1_sp3_0, f_hb1_sp3_1, f_hb1_sp3_2] at c_hb2_sp2_2
          have f_hb2_sp2_2 := hf_hb2 (w.heap.size + 2) 2 (by omega)
          simp [go_sem, c_hb1_sp1_0, c_hb1_sp1_1, c_hb1_sp1_2, f_hb1_sp1_0, f_hb1_sp1_1, f_hb1_sp1_2, c_hb1_sp2_0, c_hb1_sp2_1, c_hb1_sp2_2, c_hb1_sp3_0, c_hb1_sp3_1, c_hb1_sp3_2, f_hb1_sp2_0, f_hb1_sp2_1, f_hb1_sp2_2, f_hb1_sp3_0, f_hb1_sp3_1, f_hb1_sp3_2] at f_hb2_sp2_2
          have c_hb2_sp3_0 := hc_hb2 (w.heap.size + 3) 0 (by omega)
          simp [go_sem, c_hb1_sp1_0, c_hb1_sp1_1, c_hb1_sp1_2, f_hb1_sp1_0, f_hb1_sp1_1, f_hb1_sp1_2, c_hb1_sp2_0, c_hb1_sp2_1, c_hb1_sp2_2, c_hb1_sp3_0, c_hb1_sp3_1, c_hb1_sp3_2, f_hb1_sp2_0, f_hb1_sp2_1, f_hb1_sp2_2, f_hb1_sp3_0, f_hb1_sp3_1, f_hb1_sp3_2] at c_hb2_sp3_0
          have f_hb2_sp3_0 := hf_hb2 (w.heap.size + 3) 0 (by omega)
          simp [go_sem, c_hb1_sp1_0, c_hb1_sp1_1, c_hb1_sp1_2, f_hb1_sp1_0, f_hb1_sp1_1, f_hb1_sp1_2, c_hb1_sp2_0, c_hb1_sp2_1, c_hb1_sp2_2, c_hb1_sp3_0, c_hb1_sp3_1, c_hb1_sp3_2, f_hb1_sp2_0, f_hb1_sp2_1, f_hb1_sp2_2, f_hb1_sp3_0, f_hb1_sp3_1, f_hb1_sp3_2] at f_hb2_sp3_0
          have c_hb2_sp3_1 := hc_hb2 (w.heap.size + 3) 1 (by omega)
          simp [go_sem, c_hb1_sp1_0, c_hb1_sp1_1, c_hb1_sp1_2, f_hb1_sp1_0, f_hb1_sp1_1, f_hb1_sp1_2, c_hb1_sp2_0, c_hb1_sp2_1, c_hb1_sp2_2, c_hb1_sp3_0, c_hb1_sp3_1, c_hb1_sp3_2, f_hb1_sp2_0, f_hb1_sp2_1, f_hb1_sp2_2, f_hb1_sp3_0, f_hb1_sp3_1, f_hb1_sp3_2] at c_hb2_sp3_1
          have f_hb2_sp3_1 := hf_hb2 (w.heap.size + 3) 1 (by omega)
          simp [go_sem, c_hb1_sp1_0, c_hb1_sp1_1, c_hb1_sp1_2, f_hb1_sp1_0, f_hb1_sp1_1, f_hb1_sp1_2, c_hb1_sp2_0, c_hb1_sp2_1, c_hb1_sp2_2, c_hb1_sp3_0, c_hb1_sp3_1, c_hb1_sp3_2, f_hb1_sp2_0, f_hb1_sp2_1, f_hb1_sp2_2, f_hb1_sp3_0, f_hb1_sp3_1, f_hb1_sp3_2] at f_hb2_sp3_1
          have c_hb2_sp3_2 := hc_hb2 (w.heap.size + 3) 2 (by omega)
          simp [go_sem, c_hb1_sp1_0, c_hb1_sp1_1, c_hb1_sp1_2, f_hb1_sp1_0, f_hb1_sp1_1, f_hb1_sp1_2, c_hb1_sp2_0, c_hb1_sp2_1, c_hb1_sp2_2, c_hb1_sp3_0, c_hb1_sp3_1, c_hb1_sp3_2, f_hb1_sp2_0, f_hb1_sp2_1, f_hb1_sp2_2, f_hb1_sp3_0, f_hb1_sp3_1, f_hb1_sp3_2] at c_hb2_sp3_2
          have f_hb2_sp3_2 := hf_hb2 (w.heap.size + 3) 2 (by omega)
          simp [go_sem, c_hb1_sp1_0, c_hb1_sp1_1, c_hb1_sp1_2, f_hb1_sp1_0, f_hb1_sp1_1, f_hb1_sp1_2, c_hb1_sp2_0, c_hb1_sp2_1, c_hb1_sp2_2, c_hb1_sp3_0, c_hb1_sp3_1, c_hb1_sp3_2, f_hb1_sp2_0, f_hb1_sp2_1, f_hb1_sp2_2, f_hb1_sp3_0, f_hb1_sp3_1, f_hb1_sp3_2] at f_hb2_sp3_2
          go_wp2_with fail
          (with_reducible refine (ref_Norm ⟨lo', hi, false⟩ _ M3.out M2.out).mono ?_); rintro e w' ⟨rfl, hb3⟩
          obtain ⟨hc_hb3, hf_hb3⟩ := bcell hb3
          have hz_hb3 := size_le hb3
          repeat (first | simp only [World.size_alloc] at hc_hb3 | simp only [World.size_setCell] at hc_hb3 | simp only [World.size_drew] at hc_hb3)
          repeat (first | simp only [World.size_alloc] at hf_hb3 | simp only [World.size_setCell] at hf_hb3 | simp only [World.size_drew] at hf_hb3)
          repeat (first | simp only [World.size_alloc] at hz_hb3 | simp only [World.size_setCell] at hz_hb3 | simp only [World.size_drew] at hz_hb3)
          have hb3_ := Lib.hid (below_next (w := w) (by go_grown) hb3)
          clear hb3
          have hb3 := hb3_.out
          clear hb3_
          have c_hb3_sp2_0 := hc_hb3 (w.heap.size + 2) 0 (by omega)
          simp [go_sem, c_hb2_sp2_0, c_hb2_sp2_1, c_hb2_sp2_2, f_hb2_sp2_0, f_hb2_sp2_1, f_hb2_sp2_2] at c_hb3_sp2_0
          have f_hb3_sp2_0 := hf_hb3 (w.heap.size + 2) 0 (by omega)
          simp [go_sem, c_hb2_sp2_0, c_hb2_sp2_1, c_hb2_sp2_2, f_hb2_sp2_0, f_hb2_sp2_1, f_hb2_sp2_2] at f_hb3_sp2_0
          have c_hb3_sp2_1 := hc_hb3 (w.heap.size + 2) 1 (by omega)
          simp [go_sem, c_hb2_sp2_0, c_hb2_sp2_1, c_hb2_sp2_2, f_hb2_sp2_0, f_hb2_sp2_1, f_hb2_sp2_2] at c_hb3_sp2_1
          have f_hb3_sp2_1 := hf_hb3 (w.heap.size + 2) 1 (by omega)
          simp [go_sem, c_hb2_sp2_0, c_hb2_sp2_1, c_hb2_sp2_2, f_hb2_sp2_0, f_hb2_sp2_1, f_hb2_sp2_2] at f_hb3_sp2_1
          have c_hb3_sp2_2 := hc_hb3 (w.heap.size + 2) 2 (by omega)
          simp [go_sem, c_hb2_sp2_0, c_hb2_sp2_1, c_hb2_sp2_2, f_hb2_sp2_0, f_hb2_sp2_1, f_hb2_sp2_2] at c_hb3_sp2_2
          have f_hb3_sp2_2 := hf_hb3 (w.heap.size + 2) 2 (by omega)
          simp [go_sem, c_hb2_sp2_0, c_hb2_sp2_1, c_hb2_sp2_2, f_hb2_sp2_0, f_hb2_sp2_1, f_hb2_sp2_2] at f_hb3_sp2_2
          go_wp2
          (try simp only [Exit.inBlock, Exit.then])
          refine bodyPost_ret (by simp [results, Try.results26, go_sem, c_hb3_sp2_0, c_hb3_sp2_1, c_hb3_sp2_2]; try rfl) rfl ?_
          refine ⟨retv ?_, by go_grown⟩
          rw [← HE.out]; simp [refMeet, lt, g1, g2]
        · go_enter Try.func26, Try.ntmps26
          go_wp2_with fail
          (with_reducible refine (ref_Less _ _ M1.out M3.out _).mono ?_); rintro e w' ⟨rfl, hb1⟩
          obtain ⟨hc_hb1, hf_hb1⟩ := bcell hb1
          have hz_hb1 := size_le hb1
          repeat (first | simp only [World.size_alloc] at hc_hb1 | simp only [World.size_setCell] at hc_hb1 | simp only [World.size_drew] at hc_hb1)
          repeat (first | simp only [World.size_alloc] at hf_hb1 | simp only [World.size_setCell] at hf_hb1 | simp only [World.size_drew] at hf_hb1)
          repeat (first | simp only [World.size_alloc] at hz_hb1 | simp only [World.size_setCell] at hz_hb1 | simp only [World.size_drew] at hz_hb1)
          have hb1_ := Lib.hid (below_next (w := w) (by go_grown) hb1)
          clear hb1
          have hb1 := hb1_.out
          clear hb1_
          have c_hb1_s_0 := hc_hb1 (w.heap.size) 0 (by omega)
          simp [go_sem] at c_hb1_s_0
          have f_hb1_s_0 := hf_hb1 (w.heap.size) 0 (by omega)
          simp [go_sem] at f_hb1_s_0
          have c_hb1_s_1 := hc_hb1 (w.heap.size) 1 (by omega)
          simp [go_sem] at c_hb1_s_1
          have f_hb1_s_1 := hf_hb1 (w.heap.size) 1 (by omega)
          simp [go_sem] at f_hb1_s_1
          have c_hb1_s_2 := hc_hb1 (w.heap.size) 2 (by omega)
          simp [go_sem] at c_hb1_s_2
          have f_hb1_s_2 := hf_hb1 (w.heap.size) 2 (by omega)
          simp [go_sem] at f_hb1_s_2
          have c_hb1_sp1_0 := hc_hb1 (w.heap.size + 1) 0 (by omega)
          simp [go_sem] at c_hb1_sp1_0
          have f_hb1_sp1_0 := hf_hb1 (w.heap.size + 1) 0 (by omega)
          simp [go_sem] at f_hb1_sp1_0
          have c_hb1_sp1_1 := hc_hb1 (w.heap.size + 1) 1 (by omega)
          simp [go_sem] at c_hb1_sp1_1
          have f_hb1_sp1_1 := hf_hb1 (w.heap.size + 1) 1 (by omega)
          simp [go_sem] at f_hb1_sp1_1
          have c_hb1_sp1_2 := hc_hb1 (w.heap.size + 1) 2 (by omega)
          simp [go_sem] at c_hb1_sp1_2
          have f_hb1_sp1_2 := hf_hb1 (w.heap.size + 1) 2 (by omega)
          simp [go_sem] at f_hb1_sp1_2
          have c_hb1_sp2_0 := hc_hb1 (w.heap.size + 2) 0 (by omega)
          simp [go_sem] at c_hb1_sp2_0
          have f_hb1_sp2_0 := hf_hb1 (w.heap.size + 2) 0 (by omega)
          simp [go_sem] at f_hb1_sp2_0
          have c_hb1_sp2_1 := hc_hb1 (w.heap.size + 2) 1 (by omega)
          simp [go_sem] at c_hb1_sp2_1
          have f_hb1_sp2_1 := hf_hb1 (w.heap.size + 2) 1 (by omega)
          simp [go_sem] at f_hb1_sp2_1
          have c_hb1_sp2_2 := hc_hb1 (w.heap.size + 2) 2 (by omega)
          simp [go_sem] at c_hb1_sp2_2
          have f_hb1_sp2_2 := hf_hb1 (w.heap.size + 2) 2 (by omega)
          simp [go_sem] at f_hb1_sp2_2
          have c_hb1_sp3_0 := hc_hb1 (w.heap.size + 3) 0 (by omega)
          simp [go_sem] at c_hb1_sp3_0
          have f_hb1_sp3_0 := hf_hb1 (w.heap.size + 3) 0 (by omega)
          simp [go_sem] at f_hb1_sp3_0
          have c_hb1_sp3_1 := hc_hb1 (w.heap.size + 3) 1 (by omega)
          simp [go_sem] at c_hb1_sp3_1
          have f_hb1_sp3_1 := hf_hb1 (w.heap.size + 3) 1 (by omega)
          simp [go_sem] at f_hb1_sp3_1
          have c_hb1_sp3_2 := hc_hb1 (w.heap.size + 3) 2 (by omega)
          simp [go_sem] at c_hb1_sp3_2
          have f_hb1_sp3_2 := hf_hb1 (w.heap.size + 3) 2 (by omega)
          simp [go_sem] at f_hb1_sp3_2
          go_wp2_with fail
          (with_reducible refine (ref_Less _ _ M4.out M2.out _).mono ?_); rintro e w' ⟨rfl, hb2⟩
          obtain ⟨hc_hb2, hf_hb2⟩ := bcell hb2
          have hz_hb2 := size_le hb2
          repeat (first | simp only [World.size_alloc] at hc_hb2 | simp only [World.size_setCell] at hc_hb2 | simp only [World.size_drew] at hc_hb2)
          repeat (first | simp only [World.size_alloc] at hf_hb2 | simp only [World.size_setCell] at hf_hb2 | simp only [World.size_drew] at hf_hb2)
          repeat (first | simp only [World.size_alloc] at hz_hb2 | simp only [World.size_setCell] at hz_hb2 | simp only [World.size_drew] at hz_hb2)
          have hb2_ := Lib.hid (below_next (w := w) (by go_grown) hb2)
          clear hb2
          have hb2 := hb2_.out
          clear hb2_
          have c_hb2_sp1_0 := hc_hb2 (w.heap.size + 1) 0 (by omega)
          simp [go_sem, c_hb1_sp1_0, c_hb1_sp1_1, c_hb1_sp1_2, f_hb1_sp1_0, f_hb1_sp1_1, f_hb1_sp1_2, c_hb1_sp2_0, c_hb1_sp2_1, c_hb1_sp2_2, c_hb1_sp3_0, c_hb1_sp3_1, c_hb1_sp3_2, f_hb1_sp2_0, f_hb1_sp2_1, f_hb1_sp2_2, f_hb1_sp3_0, f_hb1_sp3_1, f_hb1_sp3_2] at c_hb2_sp1_0
          have f_hb2_sp1_0 := hf_hb2 (w.heap.size + 1) 0 (by omega)
          simp [go_sem, c_hb1_sp1_0, c_hb1_sp1_1, c_hb1_sp1_2, f_hb1_sp1_0, f_hb1_sp1_1, f_hb1_sp1_2, c_hb1_sp2_0, c_hb1_sp2_1, c_hb1_sp2_2, c_hb1_sp3_0, c_hb1_sp3_1, c_hb1_sp3_2, f_hb1_sp2_0, f_hb1_sp2_1, f_hb1_sp2_2, f_hb1_sp3_0, f_hb1_sp3_1, f_hb1_sp3_2] at f_hb2_sp1_0
          have c_hb2_sp1_1 := hc_hb2 (w.heap.size + 1) 1 (by omega)
          simp [go_sem, c_hb1_sp1_0, c_hb1_sp1_1, c_hb1_sp1_2, f_hb1_sp1_0, f_hb1_sp1_1, f_hb1_sp1_2, c_hb1_sp2_0, c_hb1_sp2_1, c_hb1_sp2_2, c_hb1_sp3_0, c_hb1_sp3_1, c_hb1_sp3_2, f_hb1_sp2_0, f_hb1_sp2_1, f_hb1_sp2_2, f_hb1_sp3_0, f_hb1_sp3_1, f_hb1_sp3_2] at c_hb2_sp1_1
          have f_hb2_sp1_1 := hf_hb2 (w.heap.size + 1) 1 (by omega)
          simp [go_sem, c_hb1_sp1_0, c_hb1_sp1_1, c_hb1_sp1_2, f_hb1_sp1_0, f_hb1_sp1_1, f_hb1_sp1_2, c_hb1_sp2_0, c_hb1_sp2_1, c_hb1_sp2_2, c_hb1_sp3_0, c_hb1_sp3_1, c_hb1_sp3_2, f_hb1_sp2_0, f_hb1_sp2_1, f_hb1_sp2_2, f_hb1_sp3_0, f_hb1_sp3_1, f_hb1_sp3_2] at f_hb2_sp1_1
          have c_hb2_sp1_2 := hc_hb2 (w.heap.size + 1) 2 (by omega)
          simp [go_sem, c_hb1_sp1_0, c_hb1_sp1_1, c_hb1_sp1_2, f_hb1_sp1_0, f_hb1_sp1_1, f_hb1_sp1_2, c_hb1_sp2_0, c_hb1_sp2_1, c_hb1_sp2_2, c_hb1_sp3_0, c_hb1_sp3_1, c_hb1_sp3_2, f_hb1_sp2_0, f_hb1_sp2_1, f_hb1_sp2_2, f_hb1_sp3_0, f_hb1_sp3_1, f_hb1_sp3_2] at c_hb2_sp1_2
          have f_hb2_sp1_2 := hf_hb2 (w.heap.size + 1) 2 (by omega)
          simp [go_sem, c_hb1_sp1_0, c_hb1_sp1_1, c_hb1_sp1_2, f_hb1_sp1_0, f_hb1_sp1_1, f_hb1_sp1_2, c_hb1_sp2_0, c_hb1_sp2_1, c_hb1_sp2_2, c_hb1_sp3_0, c_hb1_sp3_1, c_hb1_sp3_2, f_hb1_sp2_0, f_hb1_sp2_1, f_hb1_sp2_2, f_hb1_sp3_0, f_hb1_sp3_1, f_hb1_sp3_2] at f_hb2_sp1_2
          have c_hb2_sp2_0 := hc_hb2 (w.heap.size + 2) 0 (by omega)
          simp [go_sem, c_hb1_sp1_0, c_hb1_sp1_1, c_hb1_sp1_2, f_hb1_sp1_0, f_hb1_sp1_1, f_hb1_sp1_2, c_hb1_sp2_0, c_hb1_sp2_1, c_hb1_sp2_2, c_hb1_sp3_0, c_hb1_sp3_1, c_hb1_sp3_2, f_hb1_sp2_0, f_hb1_sp2_1, f_hb1_sp2_2, f_hb1_sp3_0, f_hb1_sp3_1, f_hb1_sp3_2] at c_hb2_sp2_0
          have f_hb2_sp2_0 := hf_hb2 (w.heap.size + 2) 0 (by omega)
          simp [go_sem, c_hb1_sp1_0, c_hb1_sp1_1, c_hb1_sp1_2, f_hb1_sp1_0, f_hb1_sp1_1, f_hb1_sp1_2, c_hb1_sp2_0, c_hb1_sp2_1, c_hb1_sp2_2, c_hb1_sp3_0, c_hb1_sp3_1, c_hb1_sp3_2, f_hb1_sp2_0, f_hb1_sp2_1, f_hb1_sp2_2, f_hb1_sp3_0, f_hb1_sp3_1, f_hb1_sp3_2] at f_hb2_sp2_0
          have c_hb2_sp2_1 := hc_hb2 (w.heap.size + 2) 1 (by omega)
          simp [go_sem, c_hb1_sp1_0, c_hb1_sp1_1, c_hb1_sp1_2, f_hb1_sp1_0, f_hb1_sp1_1, f_hb1_sp1_2, c_hb1_sp2_0, c_hb1_sp2_1, c_hb1_sp2_2, c_hb1_sp3_0, c_hb1_sp3_1, c_hb1_sp3_2, f_hb1_sp2_0, f_hb1_sp2_1, f_hb1_sp2_2, f_hb1_sp3_0, f_hb1_sp3_1, f_hb1_sp3_2] at c_hb2_sp2_1
          have f_hb2_sp2_1 := hf_hb2 (w.heap.size + 2) 1 (by omega)
          simp [go_sem, c_hb1_sp1_0, c_hb1_sp1_1, c_hb1_sp1_2, f_hb1_sp1_0, f_hb1_sp1_1, f_hb1_sp1_2, c_hb1_sp2_0, c_hb1_sp2_1, c_hb1_sp2_2, c_hb1_sp3_0, c_hb1_sp3_1, c_hb1_sp3_2, f_hb1_sp2_0, f_hb1_sp2_1, f_hb1_sp2_2, f_hb1_sp3_0, f_hb1_sp3_1, f_hb1_sp3_2] at f_hb2_sp2_1
          have c_hb2_sp2_2 := hc_hb2 (w.heap.size + 2) 2 (by omega)
          simp [go_sem, c_hb1_sp1_0, c_hb1_sp1_1, c_hb1_sp1_2, f_hb1_sp1_0, f_hb1_sp1_1, f_hb1_sp1_2, c_hb1_sp2_0, c_hb1_sp2_1, c_hb1_sp2_2, c_hb1_sp3_0, c_hb1_sp3_1, c_hb1_sp3_2, f_hb1_sp2_0, f_hb1_sp2_1, f_hb1_sp2_2, f_hb1_sp3_0, f_hb1_sp3_1, f_hb1_sp3_2] at c_hb2_sp2_2
          have f_hb2_sp2_2 := hf_hb2 (w.heap.size + 2) 2 (by omega)
          simp [go_sem, c_hb1_sp1_0, c_hb1_sp1_1, c_hb1_sp1_2, f_hb1_sp1_0, f_hb1_sp1_1, f_hb1_sp1_2, c_hb1_sp2_0, c_hb1_sp2_1, c_hb1_sp2_2, c_hb1_sp3_0, c_hb1_sp3_1, c_hb1_sp3_2, f_hb1_sp2_0, f_hb1_sp2_1, f_hb1_sp2_2, f_hb1_sp3_0, f_hb1_sp3_1, f_hb1_sp3_2] at f_hb2_sp2_2
          have c_hb2_sp3_0 := hc_hb2 (w.heap.size + 3) 0 (by omega)
          simp [go_sem, c_hb1_sp1_0, c_hb1_sp1_1, c_hb1_sp1_2, f_hb1_sp1_0, f_hb1_sp1_1, f_hb1_sp1_2, c_hb1_sp2_0, c_hb1_sp2_1, c_hb1_sp2_2, c_hb1_sp3_0, c_hb1_sp3_1, c_hb1_sp3_2, f_hb1_sp2_0, f_hb1_sp2_1, f_hb1_sp2_2, f_hb1_sp3_0, f_hb1_sp3_1, f_hb1_sp3_2] at c_hb2_sp3_0
          have f_hb2_sp3_0 := hf_hb2 (w.heap.size + 3) 0 (by omega)
          simp [go_sem, c_hb1_sp1_0, c_hb1_sp1_1, c_hb1_sp1_2, f_hb1_sp1_0, f_hb1_sp1_1, f_hb1_sp1_2, c_hb1_sp2_0, c_hb1_sp2_1, c_hb1_sp2_2, c_hb1_sp3_0, c_hb1_sp3_1, c_hb1_sp3_2, f_hb1_sp2_0, f_hb1_sp2_1, f_hb1_sp2_2, f_hb1_sp3_0, f_hb1_sp3_1, f_hb1_sp3_2] at f_hb2_sp3_0
          have c_hb2_sp3_1 := hc_hb2 (w.heap.size + 3) 1 (by omega)
          simp [go_sem, c_hb1_sp1_0, c_hb1_sp1_1, c_hb1_sp1_2, f_hb1_sp1_0, f_hb1_sp1_1, f_hb1_sp1_2, c_hb1_sp2_0, c_hb1_sp2_1, c_hb1_sp2_2, c_hb1_sp3_0, c_hb1_sp3_1, c_hb1_sp3_2, f_hb1_sp2_0, f_hb1_sp2_1, f_hb1_sp2_2, f_hb1_sp3_0, f_hb1_sp3_1, f_hb1_sp3_2] at c_hb2_sp3_1
          have f_hb2_sp3_1 := hf_hb2 (w.heap.size + 3) 1 (by omega)
          simp [go_sem, c_hb1_sp1_0, c_hb1_sp1_1, c_hb1_sp1_2, f_hb1_sp1_0, f_hb1_sp1_1, f_hb1_sp1_2, c_hb1_sp2_0, c_hb1_sp2_1, c_hb1_sp2_2, c_hb1_sp3_0, c_hb1_sp3_1, c_hb1_sp3_2, f_hb1_sp2_0, f_hb1_sp2_1, f_hb1_sp2_2, f_hb1_sp3_0, f_hb1_sp3_1, f_hb1_sp3_2] at f_hb2_sp3_1
          have c_hb2_sp3_2 := hc_hb2 (w.heap.size + 3) 2 (by omega)
          simp [go_sem, c_hb1_sp1_0, c_hb1_sp1_1, c_hb1_sp1_2, f_hb1_sp1_0, f_hb1_sp1_1, f_hb1_sp1_2, c_hb1_sp2_0, c_hb1_sp2_1, c_hb1_sp2_2, c_hb1_sp3_0, c_hb1_sp3_1, c_hb1_sp3_2, f_hb1_sp2_0, f_hb1_sp2_1, f_hb1_sp2_2, f_hb1_sp3_0, f_hb1_sp3_1, f_hb1_sp3_2] at c_hb2_sp3_2
          have f_hb2_sp3_2 := hf_hb2 (w.heap.size + 3) 2 (by omega)
          simp [go_sem, c_hb1_sp1_0, c_hb1_sp1_1, c_hb1_sp1_2, f_hb1_sp1_0, f_hb1_sp1_1, f_hb1_sp1_2, c_hb1_sp2_0, c_hb1_sp2_1, c_hb1_sp2_2, c_hb1_sp3_0, c_hb1_sp3_1, c_hb1_sp3_2, f_hb1_sp2_0, f_hb1_sp2_1, f_hb1_sp2_2, f_hb1_sp3_0, f_hb1_sp3_1, f_hb1_sp3_2] at f_hb2_sp3_2
          go_wp2_with fail
          (with_reducible refine (ref_Norm ⟨lo', hi', false⟩ _ M3.out M4.out).mono ?_); rintro e w' ⟨rfl, hb3⟩
          obtain ⟨hc_hb3, hf_hb3⟩ := bcell hb3
          have hz_hb3 := size_le hb3
          repeat (first | simp only [World.size_alloc] at hc_hb3 | simp only [World.size_setCell] at hc_hb3 | simp only [World.size_drew] at hc_hb3)
          repeat (first | simp only [World.size_alloc] at hf_hb3 | simp only [World.size_setCell] at hf_hb3 | simp only [World.size_drew] at hf_hb3)
          repeat (first | simp only [World.size_alloc] at hz_hb3 | simp only [World.size_setCell] at hz_hb3 | simp only [World.size_drew] at hz_hb3)
          have hb3_ := Lib.hid (below_next (w := w) (by go_grown) hb3)
          clear hb3
          have hb3 := hb3_.out
          clear hb3_
          have c_hb3_sp2_0 := hc_hb3 (w.heap.size + 2) 0 (by omega)
          simp [go_sem, c_hb2_sp2_0, c_hb2_sp2_1, c_hb2_sp2_2, f_hb2_sp2_0, f_hb2_sp2_1, f_hb2_sp2_2] at c_hb3_sp2_0
          have f_hb3_sp2_0 := hf_hb3 (w.heap.size + 2) 0 (by omega)
          simp [go_sem, c_hb2_sp2_0, c_hb2_sp2_1, c_hb2_sp2_2, f_hb2_sp2_0, f_hb2_sp2_1, f_hb2_sp2_2] at f_hb3_sp2_0
          have c_hb3_sp2_1 := hc_hb3 (w.heap.size + 2) 1 (by omega)
          simp [go_sem, c_hb2_sp2_0, c_hb2_sp2_1, c_hb2_sp2_2, f_hb2_sp2_0, f_hb2_sp2_1, f_hb2_sp2_2] at c_hb3_sp2_1
          have f_hb3_sp2_1 := hf_hb3 (w.heap.size + 2) 1 (by omega)
          simp [go_sem, c_hb2_sp2_0, c_hb2_sp2_1, c_hb2_sp2_2, f_hb2_sp2_0, f_hb2_sp2_1, f_hb2_sp2_2] at f_hb3_sp2_1
          have c_hb3_sp2_2 := hc_hb3 (w.heap.size + 2) 2 (by omega)
          simp [go_sem, c_hb2_sp2_0, c_hb2_sp2_1, c_hb2_sp2_2, f_hb2_sp2_0, f_hb2_sp2_1, f_hb2_sp2_2] at c_hb3_sp2_2
          have f_hb3_sp2_2 := hf_hb3 (w.heap.size + 2) 2 (by omega)
          simp [go_sem, c_hb2_sp2_0, c_hb2_sp2_1, c_hb2_sp2_2, f_hb2_sp2_0, f_hb2_sp2_1, f_hb2_sp2_2] at f_hb3_sp2_2
          go_wp2
          (try simp only [Exit.inBlock, Exit.then])
          refine bodyPost_ret (by simp [results, Try.results26, go_sem, c_hb3_sp2_0, c_hb3_sp2_1, c_hb3_sp2_2]; try rfl) rfl ?_
          refine ⟨retv ?_, by go_grown⟩
          rw [← HE.out]; simp [refMeet, lt, g1, g2]
      · go_enter Try.func26, Try.ntmps26
        go_wp2_with fail
        (with_reducible refine (ref_Less _ _ M1.out M3.out _).mono ?_); rintro e w' ⟨rfl, hb1⟩
        obtain ⟨hc_hb1, hf_hb1⟩ := bcell hb1
        have hz_hb1 := size_le hb1
        repeat (first | simp only [World.size_alloc] at hc_hb1 | simp only [World.size_setCell] at hc_hb1 | simp only [World.size_drew] at hc_hb1)
        repeat (first | simp only [World.size_alloc] at hf_hb1 | simp only [World.size_setCell] at hf_hb1 | simp only [World.size_drew] at hf_hb1)
        repeat (first | simp only [World.size_alloc] at hz_hb1 | simp only [World.size_setCell] at hz_hb1 | simp only [World.size_drew] at hz_hb1)
        have hb1_ := Lib.hid (below_next (w := w) (by go_grown) hb1)
        clear hb1
        have hb1 := hb1_.out
        clear hb1_
        have c_hb1_s_0 := hc_hb1 (w.heap.size) 0 (by omega)
        simp [go_sem] at c_hb1_s_0
        have f_hb1_s_0 := hf_hb1 (w.heap.size) 0 (by omega)
        simp [go_sem] at f_hb1_s_0
        have c_hb1_s_1 := hc_hb1 (w.heap.size) 1 (by omega)
        simp [go_sem] at c_hb1_s_1
        have f_hb1_s_1 := hf_hb1 (w.heap.size) 1 (by omega)
        simp [go_sem] at f_hb1_s_1
        have c_hb1_s_2 := hc_hb1 (w.heap.size) 2 (by omega)
        simp [go_sem] at c_hb1_s_2
        have f_hb1_s_2 := hf_hb1 (w.heap.size) 2 (by omega)
        simp [go_sem] at f_hb1_s_2
        have c_hb1_sp1_0 := hc_hb1 (w.heap.size + 1) 0 (by omega)
        simp [go_sem] at c_hb1_sp1_0
        have f_hb1_sp1_0 := hf_hb1 (w.heap.size + 1) 0 (by omega)
        simp [go_sem] at f_hb1_sp1_0
        have c_hb1_sp1_1 := hc_hb1 (w.heap.size + 1) 1 (by omega)
        simp [go_sem] at c_hb1_sp1_1
        have f_hb1_sp1_1 := hf_hb1 (w.heap.size + 1) 1 (by omega)
        simp [go_sem] at f_hb1_sp1_1
        have c_hb1_sp1_2 := hc_hb1 (w.heap.size + 1) 2 (by omega)
        simp [go_sem] at c_hb1_sp1_2
        have f_hb1_sp1_2 := hf_hb1 (w.heap.size + 1) 2 (by omega)
        simp [go_sem] at f_hb1_sp1_2
        have c_hb1_sp2_0 := hc_hb1 (w.heap.size + 2) 0 (by omega)
        simp [go_sem] at c_hb1_sp2_0
        have f_hb1_sp2_0 := hf_hb1 (w.heap.size + 2) 0 (by omega)
        simp [go_sem] at f_hb1_sp2_0
        have c_hb1_sp2_1 := hc_hb1 (w.heap.size + 2) 1 (by omega)
        simp [go_sem] at c_hb1_sp2_1
        have f_hb1_sp2_1 := hf_hb1 (w.heap.size + 2) 1 (by omega)
        simp [go_sem] at f_hb1_sp2_1
        have c_hb1_sp2_2 := hc_hb1 (w.heap.size + 2) 2 (by omega)
        simp [go_sem] at c_hb1_sp2_2
        have f_hb1_sp2_2 := hf_hb1 (w.heap.size + 2) 2 (by omega)
        simp [go_sem] at f_hb1_sp2_2
        have c_hb1_sp3_0 := hc_hb1 (w.heap.size + 3) 0 (by omega)
        simp [go_sem] at c_hb1_sp3_0
        have f_hb1_sp3_0 := hf_hb1 (w.heap.size + 3) 0 (by omega)
        simp [go_sem] at f_hb1_sp3_0
        have c_hb1_sp3_1 := hc_hb1 (w.heap.size + 3) 1 (by omega)
        simp [go_sem] at c_hb1_sp3_1
        have f_hb1_sp3_1 := hf_hb1 (w.heap.size + 3) 1 (by omega)
        simp [go_sem] at f_hb1_sp3_1
        have c_hb1_sp3_2 := hc_hb1 (w.heap.size + 3) 2 (by omega)
        simp [go_sem] at c_hb1_sp3_2
        have f_hb1_sp3_2 := hf_hb1 (w.heap.size + 3) 2 (by omega)
        simp [go_sem] at f_hb1_sp3_2
        go_wp2_with fail
        (with_reducible refine (ref_Norm ⟨lo', hi', false⟩ _ M3.out M4.out).mono ?_); rintro e w' ⟨rfl, hb3⟩
        obtain ⟨hc_hb3, hf_hb3⟩ := bcell hb3
        have hz_hb3 := size_le hb3
        repeat (first | simp only [World.size_alloc] at hc_hb3 | simp only [World.size_setCell] at hc_hb3 | simp only [World.size_drew] at hc_hb3)
        repeat (first | simp only [World.size_alloc] at hf_hb3 | simp only [World.size_setCell] at hf_hb3 | simp only [World.size_drew] at hf_hb3)
        repeat (first | simp only [World.size_alloc] at hz_hb3 | simp only [World.size_setCell] at hz_hb3 | simp only [World.size_drew] at hz_hb3)
        have hb3_ := Lib.hid (below_next (w := w) (by go_grown) hb3)
        clear hb3
        have hb3 := hb3_.out
        clear hb3_
        have c_hb3_sp2_0 := hc_hb3 (w.heap.size + 2) 0 (by omega)
        simp [go_sem, c_hb1_sp2_0, c_hb1_sp2_1, c_hb1_sp2_2, f_hb1_sp2_0, f_hb1_sp2_1, f_hb1_sp2_2] at c_hb3_sp2_0
        have f_hb3_sp2_0 := hf_hb3 (w.heap.size + 2) 0 (by omega)
        simp [go_sem, c_hb1_sp2_0, c_hb1_sp2_1, c_hb1_sp2_2, f_hb1_sp2_0, f_hb1_sp2_1, f_hb1_sp2_2] at f_hb3_sp2_0
        have c_hb3_sp2_1 := hc_hb3 (w.heap.size + 2) 1 (by omega)
        simp [go_sem, c_hb1_sp2_0, c_hb1_sp2_1, c_hb1_sp2_2, f_hb1_sp2_0, f_hb1_sp2_1, f_hb1_sp2_2] at c_hb3_sp2_1
        have f_hb3_sp2_1 := hf_hb3 (w.heap.size + 2) 1 (by omega)
        simp [go_sem, c_hb1_sp2_0, c_hb1_sp2_1, c_hb1_sp2_2, f_hb1_sp2_0, f_hb1_sp2_1, f_hb1_sp2_2] at f_hb3_sp2_1
        have c_hb3_sp2_2 := hc_hb3 (w.heap.size + 2) 2 (by omega)
        simp [go_sem, c_hb1_sp2_0, c_hb1_sp2_1, c_hb1_sp2_2, f_hb1_sp2_0, f_hb1_sp2_1, f_hb1_sp2_2] at c_hb3_sp2_2
        have f_hb3_sp2_2 := hf_hb3 (w.heap.size + 2) 2 (by omega)
        simp [go_sem, c_hb1_sp2_0, c_hb1_sp2_1, c_hb1_sp2_2, f_hb1_sp2_0, f_hb1_sp2_1, f_hb1_sp2_2] at f_hb3_sp2_2
        go_wp2
        (try simp only [Exit.inBlock, Exit.then])
        refine bodyPost_ret (by simp [results, Try.results26, go_sem, c_hb3_sp2_0, c_hb3_sp2_1, c_hb3_sp2_2]; try rfl) rfl ?_
        refine ⟨retv ?_, by go_grown⟩
        rw [← HE.out]; simp [refMeet, lt, g1]
    · cases o
      · go_enter Try.func26, Try.ntmps26
        go_wp2_with fail
        (with_reducible refine (ref_Less _ _ M1.out M3.out _).mono ?_); rintro e w' ⟨rfl, hb1⟩
        obtain ⟨hc_hb1, hf_hb1⟩ := bcell hb1
        have hz_hb1 := size_le hb1
        repeat (first | simp only [World.size_alloc] at hc_hb1 | simp only [World.size_setCell] at hc_hb1 | simp only [World.size_drew] at hc_hb1)
        repeat (first | simp only [World.size_alloc] at hf_hb1 | simp only [World.size_setCell] at hf_hb1 | simp only [World.size_drew] at hf_hb1)
        repeat (first | simp only [World.size_alloc] at hz_hb1 | simp only [World.size_setCell] at hz_hb1 | simp only [World.size_drew] at hz_hb1)
        have hb1_ := Lib.hid (below_next (w := w) (by go_grown) hb1)
        clear hb1
        have hb1 := hb1_.out
        clear hb1_
        have c_hb1_s_0 := hc_hb1 (w.heap.size) 0 (by omega)
        simp [go_sem] at c_hb1_s_0
        have f_hb1_s_0 := hf_hb1 (w.heap.size) 0 (by omega)
        simp [go_sem] at f_hb1_s_0
        have c_hb1_s_1 := hc_hb1 (w.heap.size) 1 (by omega)
        simp [go_sem] at c_hb1_s_1
        have f_hb1_s_1 := hf_hb1 (w.heap.size) 1 (by omega)
        simp [go_sem] at f_hb1_s_1
        have c_hb1_s_2 := hc_hb1 (w.heap.size) 2 (by omega)
        simp [go_sem] at c_hb1_s_2
        have f_hb1_s_2 := hf_hb1 (w.heap.size) 2 (by omega)
        simp [go_sem] at f_hb1_s_2
        have c_hb1_sp1_0 := hc_hb1 (w.heap.size + 1) 0 (by omega)
        simp [go_sem] at c_hb1_sp1_0
        have f_hb1_sp1_0 := hf_hb1 (w.heap.size + 1) 0 (by omega)
        simp [go_sem] at f_hb1_sp1_0
        have c_hb1_sp1_1 := hc_hb1 (w.heap.size + 1) 1 (by omega)
        simp [go_sem] at c_hb1_sp1_1
        have f_hb1_sp1_1 := hf_hb1 (w.heap.size + 1) 1 (by omega)
        simp [go_sem] at f_hb1_sp1_1
        have c_hb1_sp1_2 := hc_hb1 (w.heap.size + 1) 2 (by omega)
        simp [go_sem] at c_hb1_sp1_2
        have f_hb1_sp1_2 := hf_hb1 (w.heap.size + 1) 2 (by omega)
        simp [go_sem] at f_hb1_sp1_2
        have c_hb1_sp2_0 := hc_hb1 (w.heap.size + 2) 0 (by omega)
        simp [go_sem] at c_hb1_sp2_0
        have f_hb1_sp2_0 := hf_hb1 (w.heap.size + 2) 0 (by omega)
        simp [go_sem] at f_hb1_sp2_0
        have c_hb1_sp2_1 := hc_hb1 (w.heap.size + 2) 1 (by omega)
        simp [go_sem] at c_hb1_sp2_1
        have f_hb1_sp2_1 := hf_hb1 (w.heap.size + 2) 1 (by omega)
        simp [go_sem] at f_hb1_sp2_1
        have c_hb1_sp2_2 := hc_hb1 (w.heap.size + 2) 2 (by omega)
        simp [go_sem] at c_hb1_sp2_2
        have f_hb1_sp2_2 := hf_hb1 (w.heap.size + 2) 2 (by omega)
        simp [go_sem] at f_hb1_sp2_2
        have c_hb1_sp3_0 := hc_hb1 (w.heap.size + 3) 0 (by omega)
        simp [go_sem] at c_hb1_sp3_0
        have f_hb1_sp3_0 := hf_hb1 (w.heap.size + 3) 0 (by omega)
        simp [go_sem] at f_hb1_sp3_0
        have c_hb1_sp3_1 := hc_hb1 (w.heap.size + 3) 1 (by omega)
        simp [go_sem] at c_hb1_sp3_1
        have f_hb1_sp3_1 := hf_hb1 (w.heap.size + 3) 1 (by omega)
        simp [go_sem] at f_hb1_sp3_1
        have c_hb1_sp3_2 := hc_hb1 (w.heap.size + 3) 2 (by omega)
        simp [go_sem] at c_hb1_sp3_2
        have f_hb1_sp3_2 := hf_hb1 (w.heap.size + 3) 2 (by omega)
        simp [go_sem] at f_hb1_sp3_2
        go_wp2_with fail
        (with_reducible refine (ref_Norm ⟨lo', hi, false⟩ _ M3.out M2.out).mono ?_); rintro e w' ⟨rfl, hb3⟩
        obtain ⟨hc_hb3, hf_hb3⟩ := bcell hb3
        have hz_hb3 := size_le hb3
        repeat (first | simp only [World.size_alloc] at hc_hb3 | simp only [World.size_setCell] at hc_hb3 | simp only [World.size_drew] at hc_hb3)
        repeat (first | simp only [World.size_alloc] at hf_hb3 | simp only [World.size_setCell] at hf_hb3 | simp only [World.size_drew] at hf_hb3)
        repeat (first | simp only [World.size_alloc] at hz_hb3 | simp only [World.size_setCell] at hz_hb3 | simp only [World.size_drew] at hz_hb3)
        have hb3_ := Lib.hid (below_next (w := w) (by go_grown) hb3)
        clear hb3
        have hb3 := hb3_.out
        clear hb3_
        have c_hb3_sp2_0 := hc_hb3 (w.heap.size + 2) 0 (by omega)
        simp [go_sem, c_hb1_sp2_0, c_hb1_sp2_1, c_hb1_sp2_2, f_hb1_sp2_0, f_hb1_sp2_1, f_hb1_sp2_2] at c_hb3_sp2_0
        have f_hb3_sp2_0 := hf_hb3 (w.heap.size + 2) 0 (by omega)
        simp [go_sem, c_hb1_sp2_0, c_hb1_sp2_1, c_hb1_sp2_2, f_hb1_sp2_0, f_hb1_sp2_1, f_hb1_sp2_2] at f_hb3_sp2_0
        have c_hb3_sp2_1 := hc_hb3 (w.heap.size + 2) 1 (by omega)
        simp [go_sem, c_hb1_sp2_0, c_hb1_sp2_1, c_hb1_sp2_2, f_hb1_sp2_0, f_hb1_sp2_1, f_hb1_sp2_2] at c_hb3_sp2_1
        have f_hb3_sp2_1 := hf_hb3 (w.heap.size + 2) 1 (by omega)
        simp [go_sem, c_hb1_sp2_0, c_hb1_sp2_1, c_hb1_sp2_2, f_hb1_sp2_0, f_hb1_sp2_1, f_hb1_sp2_2] at f_hb3_sp2_1
        have c_hb3_sp2_2 := hc_hb3 (w.heap.size + 2) 2 (by omega)
        simp [go_sem, c_hb1_sp2_0, c_hb1_sp2_1, c_hb1_sp2_2, f_hb1_sp2_0, f_hb1_sp2_1, f_hb1_sp2_2] at c_hb3_sp2_2
        have f_hb3_sp2_2 := hf_hb3 (w.heap.size + 2) 2 (by omega)
        simp [go_sem, c_hb1_sp2_0, c_hb1_sp2_1, c_hb1_sp2_2, f_hb1_sp2_0, f_hb1_sp2_1, f_hb1_sp2_2] at f_hb3_sp2_2
        go_wp2
        (try simp only [Exit.inBlock, Exit.then])
        refine bodyPost_ret (by simp [results, Try.results26, go_sem, c_hb3_sp2_0, c_hb3_sp2_1, c_hb3_sp2_2]; try rfl) rfl ?_
        refine ⟨retv ?_, by go_grown⟩
        rw [← HE.out]; simp [refMeet, lt, g1]
      · go_enter Try.func26, Try.ntmps26
        go_wp2_with fail
        (with_reducible refine (ref_Less _ _ M1.out M3.out _).mono ?_); rintro e w' ⟨rfl, hb1⟩
        obtain ⟨hc_hb1, hf_hb1⟩ := bcell hb1
        have hz_hb1 := size_le hb1
        repeat (first | simp only [World.size_alloc] at hc_hb1 | simp only [World.size_setCell] at hc_hb1 | simp only [World.size_drew] at hc_hb1)
        repeat (first | simp only [World.size_alloc] at hf_hb1 | simp only [World.size_setCell] at hf_hb1 | simp only [World.size_drew] at hf_hb1)
        repeat (first | simp only [World.size_alloc] at hz_hb1 | simp only [World.size_setCell] at hz_hb1 | simp only [World.size_drew] at hz_hb1)
        have hb1_ := Lib.hid (below_next (w := w) (by go_grown) hb1)
        clear hb1
        have hb1 := hb1_.out
        clear hb1_
        have c_hb1_s_0 := hc_hb1 (w.heap.size) 0 (by omega)
        simp [go_sem] at c_hb1_s_0
        have f_hb1_s_0 := hf_hb1 (w.heap.size) 0 (by omega)
        simp [go_sem] at f_hb1_s_0
        have c_hb1_s_1 := hc_hb1 (w.heap.size) 1 (by omega)
        simp [go_sem] at c_hb1_s_1
        have f_hb1_s_1 := hf_hb1 (w.heap.size) 1 (by omega)
        simp [go_sem] at f_hb1_s_1
        have c_hb1_s_2 := hc_hb1 (w.heap.size) 2 (by omega)
        simp [go_sem] at c_hb1_s_2
        have f_hb1_s_2 := hf_hb1 (w.heap.size) 2 (by omega)
        simp [go_sem] at f_hb1_s_2
        have c_hb1_sp1_0 := hc_hb1 (w.heap.size + 1) 0 (by omega)
        simp [go_sem] at c_hb1_sp1_0
        have f_hb1_sp1_0 := hf_hb1 (w.heap.size + 1) 0 (by omega)
        simp [go_sem] at f_hb1_sp1_0
        have c_hb1_sp1_1 := hc_hb1 (w.heap.size + 1) 1 (by omega)
        simp [go_sem] at c_hb1_sp1_1
        have f_hb1_sp1_1 := hf_hb1 (w.heap.size + 1) 1 (by omega)
        simp [go_sem] at f_hb1_sp1_1
        have c_hb1_sp1_2 := hc_hb1 (w.heap.size + 1) 2 (by omega)
        simp [go_sem] at c_hb1_sp1_2
        have f_hb1_sp1_2 := hf_hb1 (w.heap.size + 1) 2 (by omega)
        simp [go_sem] at f_hb1_sp1_2
        have c_hb1_sp2_0 := hc_hb1 (w.heap.size + 2) 0 (by omega)
        simp [go_sem] at c_hb1_sp2_0
        have f_hb1_sp2_0 := hf_hb1 (w.heap.size + 2) 0 (by omega)
        simp [go_sem] at f_hb1_sp2_0
        have c_hb1_sp2_1 := hc_hb1 (w.heap.size + 2) 1 (by omega)
        simp [go_sem] at c_hb1_sp2_1
        have f_hb1_sp2_1 := hf_hb1 (w.heap.size + 2) 1 (by omega)
        simp [go_sem] at f_hb1_sp2_1
        have c_hb1_sp2_2 := hc_hb1 (w.heap.size + 2) 2 (by omega)
        simp [go_sem] at c_hb1_sp2_2
        have f_hb1_sp2_2 := hf_hb1 (w.heap.size + 2) 2 (by omega)
        simp [go_sem] at f_hb1_sp2_2
        have c_hb1_sp3_0 := hc_hb1 (w.heap.size + 3) 0 (by omega)
        simp [go_sem] at c_hb1_sp3_0
        have f_hb1_sp3_0 := hf_hb1 (w.heap.size + 3) 0 (by omega)
        simp [go_sem] at f_hb1_sp3_0
        have c_hb1_sp3_1 := hc_hb1 (w.heap.size + 3) 1 (by omega)
        simp [go_sem] at c_hb1_sp3_1
        have f_hb1_sp3_1 := hf_hb1 (w.heap.size + 3) 1 (by omega)
        simp [go_sem] at f_hb1_sp3_1
        have c_hb1_sp3_2 := hc_hb1 (w.heap.size + 3) 2 (by omega)
        simp [go_sem] at c_hb1_sp3_2
        have f_hb1_sp3_2 := hf_hb1 (w.heap.size + 3) 2 (by omega)
        simp [go_sem] at f_hb1_sp3_2
        go_wp2_with fail
        (with_reducible refine (ref_Norm ⟨lo', hi, true⟩ _ M3.out M2.out).mono ?_); rintro e w' ⟨rfl, hb3⟩
        obtain ⟨hc_hb3, hf_hb3⟩ := bcell hb3
        have hz_hb3 := size_le hb3
        repeat (first | simp only [World.size_alloc] at hc_hb3 | simp only [World.size_setCell] at hc_hb3 | simp only [World.size_drew] at hc_hb3)
        repeat (first | simp only [World.size_alloc] at hf_hb3 | simp only [World.size_setCell] at hf_hb3 | simp only [World.size_drew] at hf_hb3)
        repeat (first | simp only [World.size_alloc] at hz_hb3 | simp only [World.size_setCell] at hz_hb3 | simp only [World.size_drew] at hz_hb3)
        have hb3_ := Lib.hid (below_next (w := w) (by go_grown) hb3)
        clear hb3
        have hb3 := hb3_.out
        clear hb3_
        have c_hb3_sp2_0 := hc_hb3 (w.heap.size + 2) 0 (by omega)
        simp [go_sem, c_hb1_sp2_0, c_hb1_sp2_1, c_hb1_sp2_2, f_hb1_sp2_0, f_hb1_sp2_1, f_hb1_sp2_2] at c_hb3_sp2_0
        have f_hb3_sp2_0 := hf_hb3 (w.heap.size + 2) 0 (by omega)
        simp [go_sem, c_hb1_sp2_0, c_hb1_sp2_1, c_hb1_sp2_2, f_hb1_sp2_0, f_hb1_sp2_1, f_hb1_sp2_2] at f_hb3_sp2_0
        have c_hb3_sp2_1 := hc_hb3 (w.heap.size + 2) 1 (by omega)
        simp [go_sem, c_hb1_sp2_0, c_hb1_sp2_1, c_hb1_sp2_2, f_hb1_sp2_0, f_hb1_sp2_1, f_hb1_sp2_2] at c_hb3_sp2_1
        have f_hb3_sp2_1 := hf_hb3 (w.heap.size + 2) 1 (by omega)
        simp [go_sem, c_hb1_sp2_0, c_hb1_sp2_1, c_hb1_sp2_2, f_hb1_sp2_0, f_hb1_sp2_1, f_hb1_sp2_2] at f_hb3_sp2_1
        have c_hb3_sp2_2 := hc_hb3 (w.heap.size + 2) 2 (by omega)
        simp [go_sem, c_hb1_sp2_0, c_hb1_sp2_1, c_hb1_sp2_2, f_hb1_sp2_0, f_hb1_sp2_1, f_hb1_sp2_2] at c_hb3_sp2_2
        have f_hb3_sp2_2 := hf_hb3 (w.heap.size + 2) 2 (by omega)
        simp [go_sem, c_hb1_sp2_0, c_hb1_sp2_1, c_hb1_sp2_2, f_hb1_sp2_0, f_hb1_sp2_1, f_hb1_sp2_2] at f_hb3_sp2_2
        go_wp2
        (try simp only [Exit.inBlock, Exit.then])
        refine bodyPost_ret (by simp [results, Try.results26, go_sem, c_hb3_sp2_0, c_hb3_sp2_1, c_hb3_sp2_2]; try rfl) rfl ?_
        refine ⟨retv ?_, by go_grown⟩
        rw [← HE.out]; simp [refMeet, lt, g1]
end Go.Proofs.Ytipbbbamjckjoaa
namespace Go.Proofs.Ytipbbbamjckjoaa
open Go.RowKit
set_option linter.unusedVariables false
set_option maxRecDepth 20000
set_option linter.unusedSimpArgs false

theorem Sl.take {α : Type} {w : World} {k : Nat} {cells : α → List Value} {A : Option Addr} {c : Nat} {l : List α} (h : Sl w k cells (.slice A l.length c) l) {q : Nat} (hq : q ≤ l.length) :
    Sl w k cells (.slice A q c) (l.take q) := by
  obtain ⟨A', c', he, h1, h2, h3⟩ := h
  injection he with hA _ hc
  subst hA; subst hc
  refine ⟨A, c, by rw [List.length_take, Nat.min_eq_left hq], by rw [List.length_take]; omega, h2, ?_⟩
  rcases h3 with h3 | ⟨b, off, rfl, hb, hc⟩
  · subst h3; exact .inl (by simp)
  · refine .inr ⟨b, off, rfl, hb, fun i u hi hu j x hx => ?_⟩
    rw [List.length_take] at hi
    refine hc i u (by omega) ?_ j x hx
    rw [← hu, List.getElem_take]
theorem Sl.drop {α : Type} {w : World} {k : Nat} {cells : α → List Value} {A : Option Addr} {c : Nat} {l : List α} (h : Sl w k cells (.slice A l.length c) l) {q : Nat} (hq : q ≤ l.length) :
    Sl w k cells (.slice (if c = q then A else A.map (·.add (q * k))) (l.length - q) (c - q)) (l.drop q) := by
  obtain ⟨A', c', he, h1, h2, h3⟩ := h
  injection he with hA _ hc
  subst hA; subst hc
  refine ⟨_, _, by rw [List.length_drop], by rw [List.length_drop]; omega, by omega, ?_⟩
  rcases h3 with h3 | ⟨b, off, rfl, hb, hc⟩
  · subst h3; exact .inl (by simp)
  · by_cases hcq : c = q
    · exact .inl (List.drop_eq_nil_of_le (by omega))
    · refine .inr ⟨b, off + q * k, by rw [if_neg hcq]; simp [Addr.add], hb, fun i u hi hu j x hx => ?_⟩
      rw [List.length_drop] at hi
      have := hc (q + i) u (by omega) (by rw [← hu, List.getElem_drop]) j x hx
      rw [← this]
      congr 2
      rw [Nat.add_mul]; omega
end Go.Proofs.Ytipbbbamjckjoaa
namespace Go.Proofs.Ytipbbbamjckjoaa
open Go.RowKit Go.Sort
set_option linter.unusedVariables false
set_option maxRecDepth 20000
set_option linter.unusedSimpArgs false
theorem infoStr : (Try.prog.info? 9).map (fun i => (i.zero, i.size, i.bytes)) = some (some (.string ⟨#[]⟩), 1, 16) := by kernel_rfl
/-- What a function that makes a slice leaves. -/
def RetSl {α : Type} (k : Nat) (cells : α → List Value) (l : List α) (w : World) (e : Ending) (w' : World) : Prop := ∃ v, e = .returned v ∧ Sl w' k cells v l ∧ Below w.heap.size w w'

/-- The ends of spans, each with the text right behind it. -/
def someL (l : List ByteArray) : List ByteArray := em :: l.flatMap (fun x => [x, nx x])
theorem someL_step (l : List ByteArray) (k : Nat) (h : k < l.length) : someL (l.take (k + 1)) = someL (l.take k) ++ [l[k], nx l[k]] := by
  unfold someL
  rw [List.take_succ_eq_append_getElem h, List.flatMap_append]
  simp
theorem pairs_len : ∀ l : List ByteArray, (l.flatMap (fun x => [x, nx x])).length = 2 * l.length
  | [] => rfl
  | x :: l => by rw [List.flatMap_cons, List.length_append, pairs_len l]; simp; omega
theorem someL_len (l : List ByteArray) : (someL l).length = 1 + 2 * l.length := by
  unfold someL
  rw [List.length_cons, pairs_len]; omega
theorem flat_str : ∀ l : List ByteArray, l.flatMap strCells = l.map Value.string
  | [] => rfl
  | x :: l => by rw [List.flatMap_cons, flat_str l]; rfl
theorem ends_someL (s t : Span) (k : ByteArray) : someL [s.lo, s.hi, t.lo, t.hi, k] = ends s t k := rfl

set_option maxHeartbeats 1000000 in
theorem ref_Some (v : Value) (l : List ByteArray) (w : World) (hl : SlS w v l) (hs : ∀ s ∈ l, s.size ≤ 1000000) (hn : l.length ≤ 1000) :
    Calls Try.prog 29 #[v] w (RetSl 1 strCells (someL l) w) := by
  obtain ⟨A, c, rfl, hc1, hc2, _⟩ := id hl
  obtain ⟨i0, hi0, hz0, hz1, hz2⟩ := info_parts infoStr
  unfold maxLen at hc2
  go_enter Try.func29, Try.ntmps29
  go_wp2
  go_loopw [3, 4] (fun o i w' => ∃ k : Nat, k ≤ l.length ∧ i = .int .i64 k ∧ w'.ownsRow w.heap.size 9 1 o (1 + 2 * k) ((someL (l.take k)).map Value.string) ∧ Below w.heap.size w w') (fun o i w' => l.length - (intOf i).toNat)
  case atStart =>
    refine ⟨0, Nat.zero_le _, by go_num, ?_, (Below.refl _ _).alloc (Nat.le_refl _) _⟩
    exact ⟨rfl, .inr ⟨w.heap.size, 1, _, rfl, Nat.le_refl _, heap_alloc_new w _, by omega, by unfold maxLen; omega, rfl, rfl⟩⟩
  case round =>
    obtain ⟨k, hk, rfl, hown, hbw⟩ := hrel
    by_cases hlt : k < l.length
    · obtain ⟨b, off, rfl, hb, hcell⟩ := hl.at_ hlt
      have hcell' : wr.cell? ⟨b, off + k, none⟩ = some (.string l[k]) := (hbw.cell (p := ⟨b, _, none⟩) hb).trans hcell
      have hz := hs l[k] (List.getElem_mem hlt)
      have hi0' : (0 : Int) ≤ (k : Int) := Int.natCast_nonneg _
      have hi1 : (k : Int) < (l.length : Int) := by omega
      have hX := congrArg (List.map Value.string) (someL_step l k hlt)
      rw [List.map_append] at hX
      generalize (someL (l.take k)).map Value.string = X at hown hX
      have HX := Lib.hid hX
      clear hX
      have hbs := hbw.size
      have hne : Value.ownBlock u3 ≠ some b := fun e => by have := (hown.lt b e).1; omega
      have hsum : ¬ 9223372036854775807 < l[k].size + 1 := by omega
      go_wp2
      go_region_held3 (fun w' => w'.cell? ⟨b, off + k, none⟩ = some (.string l[k]))
        (first
          | go_keep
          | (rw [hgrow.cell_far _ (by simp; omega) (Ne.symm hne)]; assumption))
        ((refine step_append_lies _ (by rfl) _ _ _ (by rfl) w.heap.size 9 i0 _ 1 16 Try.underlying43 hi0 hz0 hz1 hz2 rfl (by omega) _ (1 + 2 * k) X (by rfl) ((hown.alloc _).drew)
            ⟨wr.heap.size, 0, none⟩ 2 2 [.string l[k], .string (l[k] ++ ⟨#[0]⟩)] (by rfl) (by rfl) (World.news_of_block (cs := #[.string l[k], .string (l[k] ++ ⟨#[0]⟩)]) (t := 9) (fr := (0, 0)) (heap_alloc_new wr _)) (by simp [Value.oneCell'])
            (by omega) (by unfold maxLen; omega) (by omega) (by simp; omega) (wr.heap.size + 1) (by simp) ?_; intro gg cap w1 hown1 hgrow hat hltg))
      go_wp2
      go_roundw
      case rel =>
        refine ⟨k + 1, by omega, by go_num, ?_, ?_⟩
        · rw [HX.out]; exact hown1
        · exact Below.grown ((hbw.alloc hbs _).drew) hgrow (by simp; omega) (fun g hg => (hown.lt g hg).1)
      case measure => simp [intOf]; omega
    · obtain rfl : k = l.length := by omega
      rw [List.take_length] at hown
      have hlen := someL_len l
      generalize hXe : someL l = X at *
      go_wp2
      go_ret
      refine ⟨_, rfl, ?_, hbw⟩
      rw [← hlen] at hown
      exact Sl.of_own (fun _ _ => rfl) (by rw [flat_str]; exact hown)

/-- Have two spans, and a text, few bytes? -/
def shortB (a b : Span) (k : ByteArray) (most : Int) : Bool := decide ((a.lo.size : Int) + a.hi.size ≤ most) && decide ((b.lo.size : Int) + b.hi.size ≤ most) && decide ((k.size : Int) ≤ most)
set_option maxHeartbeats 400000 in
theorem ref_Short (a b : Span) (k : ByteArray) (most : Int) (w : World) (h1 : Sz a.lo) (h2 : Sz a.hi) (h3 : Sz b.lo) (h4 : Sz b.hi) (h5 : Sz k) :
    Calls Try.prog 15 #[.agg #[.string a.lo, .string a.hi, .bool a.opn], .agg #[.string b.lo, .string b.hi, .bool b.opn], .string k, .int .i64 most] w fun e w' => e = .returned (.bool (shortB a b k most)) ∧ Below w.heap.size w w' := by
  have z1 := h1.le
  have z2 := h2.le
  have z3 := h3.le
  have z4 := h4.le
  have z5 := h5.le
  clear h1 h2 h3 h4 h5
  cases d1 : decide ((a.lo.size : Int) + a.hi.size ≤ most)
  · go_enter Try.func15, Try.ntmps15
    go_wp2
    go_ret
    exact ⟨retv (boolv (by simp [shortB, d1])), by go_grown⟩
  · cases d2 : decide ((b.lo.size : Int) + b.hi.size ≤ most)
    · go_enter Try.func15, Try.ntmps15
      go_wp2
      go_ret
      exact ⟨retv (boolv (by simp [shortB, d1, d2])), by go_grown⟩
    · go_enter Try.func15, Try.ntmps15
      go_wp2
      go_ret
      exact ⟨retv (boolv (by simp [shortB, d1, d2])), by go_grown⟩
end Go.Proofs.Ytipbbbamjckjoaa
