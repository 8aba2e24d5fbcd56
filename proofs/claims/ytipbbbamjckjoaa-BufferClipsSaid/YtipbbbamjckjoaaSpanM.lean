/- The walks of the span layer's Meet and of what is built on it. -/
import Derived.Test.YtipbbbamjckjoaaSpanW
import Derived.Test.YtipbbbamjckjoaaEql
namespace Go.Proofs.Ytipbbbamjckjoaa
open Go.RowKit Go.Sort
set_option linter.unusedVariables false
set_option maxRecDepth 20000
set_option linter.unusedSimpArgs false

theorem run_max_str2 {P : Program} {w : World} (ts : Array TypeId) (t : TypeId) (a b : ByteArray) : (Builtin.max_ ts t #[.string a, .string b]).run P w = .ok (.string (mx a b)) w := by
  cases h : Op.bytesLess a.toList b.toList <;> simp [Builtin.max_, Builtin.max2, Op.stringOp, mx, lt, h, asBool, go_sem]
theorem run_min_str2 {P : Program} {w : World} (ts : Array TypeId) (t : TypeId) (a b : ByteArray) : (Builtin.min_ ts t #[.string a, .string b]).run P w = .ok (.string (mn a b)) w := by
  have key : (Op.bytesLess a.toList b.toList || a.toList == b.toList) = !lt b a := by
    rw [beq_bl]
    by_cases h : a = b
    · subst h; simp [lt_irr]
    · rw [decide_eq_false h, Bool.or_false]
      cases h1 : lt a b with
      | true => rw [lt_asy h1]; exact h1
      | false =>
        cases h2 : lt b a with
        | true => exact h1
        | false => exact absurd (lt_tot h1 h2) h
  cases h : lt b a <;> rw [h] at key <;> simp [Builtin.min_, Builtin.min2, Op.stringOp, mn, h, asBool, go_sem, key]
attribute [local go_sem] run_max_str2 run_min_str2
attribute [local go_sem ↓] run_eql_Span run_neq_Span

set_option maxHeartbeats 400000 in
theorem span_Meet (a b : Span) (w : World) :
    Calls Try.prog 80 #[.agg #[.string a.lo, .string a.hi, .bool a.opn], .agg #[.string b.lo, .string b.hi, .bool b.opn]] w fun e w' => e = .returned (.agg #[.string (meet a b).lo, .string (meet a b).hi, .bool (meet a b).opn]) ∧ Below w.heap.size w w' := by
  obtain ⟨lo, hi, o⟩ := a
  obtain ⟨lo', hi', o'⟩ := b
  cases o <;> cases o'
  · go_enter Try.func80, Try.ntmps80
    go_wp2_with fail
    (with_reducible refine (span_Norm ⟨mx lo lo', mn hi hi', false⟩ _).mono ?_); rintro e w' ⟨rfl, hb1⟩
    obtain ⟨hc_hb1, hf_hb1⟩ := bcell hb1
    have hz_hb1 := size_le hb1
    repeat (first | simp only [World.size_alloc] at hc_hb1 | simp only [World.size_setCell] at hc_hb1 | simp only [World.size_drew] at hc_hb1)
    repeat (first | simp only [World.size_alloc] at hf_hb1 | simp only [World.size_setCell] at hf_hb1 | simp only [World.size_drew] at hf_hb1)
    repeat (first | simp only [World.size_alloc] at hz_hb1 | simp only [World.size_setCell] at hz_hb1 | simp only [World.size_drew] at hz_hb1)
    have hb1_ := Lib.hid (below_next (w := w) (by go_grown) hb1)
    clear hb1
    have hb1 := hb1_.out
    clear hb1_
    go_wp2
    (try simp only [Exit.inBlock, Exit.then])
    refine bodyPost_ret (by simp [results, Try.results80, go_sem, hc_hb1]; try rfl) rfl ?_
    exact ⟨rfl, by go_grown⟩
  · go_enter Try.func80, Try.ntmps80
    go_wp2_with fail
    (with_reducible refine (span_Norm ⟨mx lo lo', hi, false⟩ _).mono ?_); rintro e w' ⟨rfl, hb1⟩
    obtain ⟨hc_hb1, hf_hb1⟩ := bcell hb1
    have hz_hb1 := size_le hb1
    repeat (first | simp only [World.size_alloc] at hc_hb1 | simp only [World.size_setCell] at hc_hb1 | simp only [World.size_drew] at hc_hb1)
    repeat (first | simp only [World.size_alloc] at hf_hb1 | simp only [World.size_setCell] at hf_hb1 | simp only [World.size_drew] at hf_hb1)
    repeat (first | simp only [World.size_alloc] at hz_hb1 | simp only [World.size_setCell] at hz_hb1 | simp only [World.size_drew] at hz_hb1)
    have hb1_ := Lib.hid (below_next (w := w) (by go_grown) hb1)
    clear hb1
    have hb1 := hb1_.out
    clear hb1_
    go_wp2
    (try simp only [Exit.inBlock, Exit.then])
    refine bodyPost_ret (by simp [results, Try.results80, go_sem, hc_hb1]; try rfl) rfl ?_
    exact ⟨rfl, by go_grown⟩
  · go_enter Try.func80, Try.ntmps80
    go_wp2_with fail
    (with_reducible refine (span_Norm ⟨mx lo lo', hi', false⟩ _).mono ?_); rintro e w' ⟨rfl, hb1⟩
    obtain ⟨hc_hb1, hf_hb1⟩ := bcell hb1
    have hz_hb1 := size_le hb1
    repeat (first | simp only [World.size_alloc] at hc_hb1 | simp only [World.size_setCell] at hc_hb1 | simp only [World.size_drew] at hc_hb1)
    repeat (first | simp only [World.size_alloc] at hf_hb1 | simp only [World.size_setCell] at hf_hb1 | simp only [World.size_drew] at hf_hb1)
    repeat (first | simp only [World.size_alloc] at hz_hb1 | simp only [World.size_setCell] at hz_hb1 | simp only [World.size_drew] at hz_hb1)
    have hb1_ := Lib.hid (below_next (w := w) (by go_grown) hb1)
    clear hb1
    have hb1 := hb1_.out
    clear hb1_
    go_wp2
    (try simp only [Exit.inBlock, Exit.then])
    refine bodyPost_ret (by simp [results, Try.results80, go_sem, hc_hb1]; try rfl) rfl ?_
    exact ⟨rfl, by go_grown⟩
  · go_enter Try.func80, Try.ntmps80
    go_wp2_with fail
    (with_reducible refine (span_Norm ⟨mx lo lo', hi', true⟩ _).mono ?_); rintro e w' ⟨rfl, hb1⟩
    obtain ⟨hc_hb1, hf_hb1⟩ := bcell hb1
    have hz_hb1 := size_le hb1
    repeat (first | simp only [World.size_alloc] at hc_hb1 | simp only [World.size_setCell] at hc_hb1 | simp only [World.size_drew] at hc_hb1)
    repeat (first | simp only [World.size_alloc] at hf_hb1 | simp only [World.size_setCell] at hf_hb1 | simp only [World.size_drew] at hf_hb1)
    repeat (first | simp only [World.size_alloc] at hz_hb1 | simp only [World.size_setCell] at hz_hb1 | simp only [World.size_drew] at hz_hb1)
    have hb1_ := Lib.hid (below_next (w := w) (by go_grown) hb1)
    clear hb1
    have hb1 := hb1_.out
    clear hb1_
    go_wp2
    (try simp only [Exit.inBlock, Exit.then])
    refine bodyPost_ret (by simp [results, Try.results80, go_sem, hc_hb1]; try rfl) rfl ?_
    exact ⟨rfl, by go_grown⟩

set_option maxHeartbeats 400000 in
theorem span_Same (a b : Span) (w : World) :
    Calls Try.prog 118 #[.agg #[.string a.lo, .string a.hi, .bool a.opn], .agg #[.string b.lo, .string b.hi, .bool b.opn]] w fun e w' => e = .returned (.bool (same a b)) ∧ Below w.heap.size w w' := by
  go_enter Try.func118, Try.ntmps118
  go_wp2
  refine wp_region_below (by kernel_rfl) (by kernel_rfl) ?_
  have hgr := @grow_cell
  repeat (go_big_quiet_step (first | (with_reducible exact qb (span_Norm a _)) | (with_reducible exact qb (span_Norm b _))))
  refine wpQuiet_nil ?_
  clear hgr
  intro w1 hb1
  have hb := Lib.hid (below_next (w := w) (by go_grown) hb1)
  clear hb1
  go_wp2
  go_ret
  exact ⟨rfl, hb.out⟩

set_option maxHeartbeats 400000 in
theorem span_Within (a b : Span) (w : World) :
    Calls Try.prog 81 #[.agg #[.string a.lo, .string a.hi, .bool a.opn], .agg #[.string b.lo, .string b.hi, .bool b.opn]] w fun e w' => e = .returned (.bool (within a b)) ∧ Below w.heap.size w w' := by
  go_enter Try.func81, Try.ntmps81
  go_wp2
  refine wp_region_below (by kernel_rfl) (by kernel_rfl) ?_
  have hgr := @grow_cell
  repeat (go_big_quiet_step (first | (go_at_call 80; exact qb (span_Meet a b _)) | (go_at_call 118; exact qb (span_Same (meet a b) a _))))
  refine wpQuiet_nil ?_
  clear hgr
  intro w1 hb1
  have hb := Lib.hid (below_next (w := w) (by go_grown) hb1)
  clear hb1
  go_wp2
  go_ret
  exact ⟨rfl, hb.out⟩

set_option maxHeartbeats 400000 in
theorem span_Touch (a b : Span) (w : World) :
    Calls Try.prog 78 #[.agg #[.string a.lo, .string a.hi, .bool a.opn], .agg #[.string b.lo, .string b.hi, .bool b.opn]] w fun e w' => e = .returned (.bool (touch a b)) ∧ Below w.heap.size w w' := by
  go_enter Try.func78, Try.ntmps78
  go_wp2_with fail
  (with_reducible refine (span_Meet a b _).mono ?_); rintro e w' ⟨rfl, hb1⟩
  obtain ⟨hc_hb1, hf_hb1⟩ := bcell hb1
  have hz_hb1 := size_le hb1
  repeat (first | simp only [World.size_alloc] at hc_hb1 | simp only [World.size_setCell] at hc_hb1 | simp only [World.size_drew] at hc_hb1)
  repeat (first | simp only [World.size_alloc] at hf_hb1 | simp only [World.size_setCell] at hf_hb1 | simp only [World.size_drew] at hf_hb1)
  repeat (first | simp only [World.size_alloc] at hz_hb1 | simp only [World.size_setCell] at hz_hb1 | simp only [World.size_drew] at hz_hb1)
  have hb1_ := Lib.hid (below_next (w := w) (by go_grown) hb1)
  clear hb1
  have hb1 := hb1_.out
  clear hb1_
  go_wp2_with fail
  (with_reducible refine (span_Empty (meet a b) _).mono ?_); rintro e w' ⟨rfl, hb2⟩
  obtain ⟨hc_hb2, hf_hb2⟩ := bcell hb2
  have hz_hb2 := size_le hb2
  repeat (first | simp only [World.size_alloc] at hc_hb2 | simp only [World.size_setCell] at hc_hb2 | simp only [World.size_drew] at hc_hb2)
  repeat (first | simp only [World.size_alloc] at hf_hb2 | simp only [World.size_setCell] at hf_hb2 | simp only [World.size_drew] at hf_hb2)
  repeat (first | simp only [World.size_alloc] at hz_hb2 | simp only [World.size_setCell] at hz_hb2 | simp only [World.size_drew] at hz_hb2)
  have hb2_ := Lib.hid (below_next (w := w) (by go_grown) hb2)
  clear hb2
  have hb2 := hb2_.out
  clear hb2_
  go_wp2
  go_ret
  exact ⟨rfl, by go_grown⟩
end Go.Proofs.Ytipbbbamjckjoaa
