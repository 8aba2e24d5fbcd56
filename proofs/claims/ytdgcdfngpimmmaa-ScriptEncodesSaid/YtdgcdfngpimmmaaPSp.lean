/- The walks of the span layer and of its reference: each function computes what the plain spans say. The walks of the span layer's Meet and of what is built on it. The walks of the span layer's reference: Has, Empty, Norm, Meet. The walks of the span layer's reference: Norm and Meet. Parts of a slice: its beginning and its end, as they lie in memory. The walks of the span layer's reference: Short, and the ends of spans (Some, Ends). -/
import Derived.Test.YtdgcdfngpimmmaaPA
import Derived.Deep.RegionHeld3
import Derived.Deep.AppendLies
namespace Go.Proofs.Ytdgcdfngpimmmaa
open Go.RowKit Go.Sort
set_option linter.unusedVariables false
set_option maxRecDepth 20000
set_option linter.unusedSimpArgs false

set_option maxHeartbeats 400000 in
theorem span_Empty (s : Span) (w : World) :
    Calls Try.prog 106 #[.agg #[.string s.lo, .string s.hi, .bool s.opn]] w fun e w' => e = .returned (.bool (empty s)) ∧ Below w.heap.size w w' := by
  cases h2 : s.opn
  all_goals
    go_enter Try.func106, Try.ntmps106
    go_wp2
    go_ret
    exact ⟨retv (boolv (by simp [empty, lt, h2])), by go_grown⟩

set_option maxHeartbeats 400000 in
theorem key_Next (k : ByteArray) (h : k.size ≤ 1000000) (w : World) : Calls Try.prog 138 #[.string k] w fun e w' => e = .returned (.string (nx k)) ∧ w = w' := by
  go_enter Try.func138, Try.ntmps138
  go_wp2
  go_ret
  exact ⟨rfl, rfl⟩

set_option maxHeartbeats 400000 in
theorem span_Point (k : ByteArray) (h : k.size ≤ 1000000) (w : World) : Calls Try.prog 127 #[.string k] w fun e w' => e = .returned (.agg #[.string (point k).lo, .string (point k).hi, .bool (point k).opn]) ∧ Below w.heap.size w w' := by
  go_enter Try.func127, Try.ntmps127
  go_wp2_with fail
  (with_reducible refine (key_Next k h _).mono ?_); rintro e w' ⟨rfl, rfl⟩
  go_wp2
  (try simp only [Exit.inBlock, Exit.then])
  refine bodyPost_ret (by simp [results, Try.results127, go_sem, point]; try rfl) rfl ?_
  exact ⟨rfl, by go_grown⟩

end Go.Proofs.Ytdgcdfngpimmmaa
namespace Go.Proofs.Ytdgcdfngpimmmaa
open Go.RowKit Go.Sort
set_option linter.unusedVariables false
set_option maxRecDepth 20000
set_option linter.unusedSimpArgs false

theorem run_max_str2 {P : Program} {w : World} (ts : Array TypeId) (t : TypeId) (a b : ByteArray) : (Builtin.max_ ts t #[.string a, .string b]).run P w = .ok (.string (mx a b)) w := by
  cases h : Op.bytesLess a.toList b.toList <;> simp [Builtin.max_, Builtin.max2, Op.stringOp, mx, lt, h, asBool, go_sem]
theorem run_min_str2 {P : Program} {w : World} (ts : Array TypeId) (t : TypeId) (a b : ByteArray) : (Builtin.min_ ts t #[.string a, .string b]).run P w = .ok (.string (mn a b)) w := by
  have key : (Op.bytesLess a.toList b.toList || a.toList == b.toList) = !lt b a := by
    rw [beq_bl]
    by_cases h : a = b
    · subst h; simp [lt_irr]
    · rw [decide_eq_false h, Bool.or_false]
      cases h1 : lt a b with
      | true => rw [lt_asy h1]; exact h1
      | false =>
        cases h2 : lt b a with
        | true => exact h1
        | false => exact absurd (lt_tot h1 h2) h
  cases h : lt b a <;> rw [h] at key <;> simp [Builtin.min_, Builtin.min2, Op.stringOp, mn, h, asBool, go_sem, key]
attribute [local go_sem] run_max_str2 run_min_str2

end Go.Proofs.Ytdgcdfngpimmmaa
namespace Go.Proofs.Ytdgcdfngpimmmaa
open Go.RowKit Go.Sort
set_option linter.unusedVariables false
set_option maxRecDepth 20000
set_option linter.unusedSimpArgs false

set_option maxHeartbeats 400000 in
theorem ref_Has (s : Span) (k : ByteArray) (w : World) (h1 : s.lo.size ≤ maxLen) (h2 : s.hi.size ≤ maxLen) (h3 : k.size ≤ maxLen) :
    Calls Try.prog 114 #[.agg #[.string s.lo, .string s.hi, .bool s.opn], .string k] w fun e w' => e = .returned (.bool (has s k)) ∧ Below w.heap.size w w' := by
  obtain ⟨lo, hi, o⟩ := s
  have M1 := Lib.hid h1
  have M2 := Lib.hid h2
  have M3 := Lib.hid h3
  clear h1 h2 h3
  cases g1 : Op.bytesLess k.toList lo.toList
  · cases o
    · go_enter Try.func114, Try.ntmps114
      go_wp2_with fail
      (with_reducible refine (ref_Less _ _ M3.out M1.out _).mono ?_); rintro e w' ⟨rfl, hb1⟩
      obtain ⟨hc_hb1, hf_hb1⟩ := bcell hb1
      have hz_hb1 := size_le hb1
      repeat (first | simp only [World.size_alloc] at hc_hb1 | simp only [World.size_setCell] at hc_hb1 | simp only [World.size_drew] at hc_hb1)
      repeat (first | simp only [World.size_alloc] at hf_hb1 | simp only [World.size_setCell] at hf_hb1 | simp only [World.size_drew] at hf_hb1)
      repeat (first | simp only [World.size_alloc] at hz_hb1 | simp only [World.size_setCell] at hz_hb1 | simp only [World.size_drew] at hz_hb1)
      have hb1_ := Lib.hid (below_next (w := w) (by go_grown) hb1)
      clear hb1
      have hb1 := hb1_.out
      clear hb1_
      go_wp2_with fail
      (with_reducible refine (ref_Less _ _ M3.out M2.out _).mono ?_); rintro e w' ⟨rfl, hb2⟩
      obtain ⟨hc_hb2, hf_hb2⟩ := bcell hb2
      have hz_hb2 := size_le hb2
      repeat (first | simp only [World.size_alloc] at hc_hb2 | simp only [World.size_setCell] at hc_hb2 | simp only [World.size_drew] at hc_hb2)
      repeat (first | simp only [World.size_alloc] at hf_hb2 | simp only [World.size_setCell] at hf_hb2 | simp only [World.size_drew] at hf_hb2)
      repeat (first | simp only [World.size_alloc] at hz_hb2 | simp only [World.size_setCell] at hz_hb2 | simp only [World.size_drew] at hz_hb2)
      have hb2_ := Lib.hid (below_next (w := w) (by go_grown) hb2)
      clear hb2
      have hb2 := hb2_.out
      clear hb2_
      go_wp2
      go_ret
      exact ⟨retv (boolv (by simp [has, lt, g1])), by assumption⟩
    · go_enter Try.func114, Try.ntmps114
      go_wp2_with fail
      (with_reducible refine (ref_Less _ _ M3.out M1.out _).mono ?_); rintro e w' ⟨rfl, hb1⟩
      obtain ⟨hc_hb1, hf_hb1⟩ := bcell hb1
      have hz_hb1 := size_le hb1
      repeat (first | simp only [World.size_alloc] at hc_hb1 | simp only [World.size_setCell] at hc_hb1 | simp only [World.size_drew] at hc_hb1)
      repeat (first | simp only [World.size_alloc] at hf_hb1 | simp only [World.size_setCell] at hf_hb1 | simp only [World.size_drew] at hf_hb1)
      repeat (first | simp only [World.size_alloc] at hz_hb1 | simp only [World.size_setCell] at hz_hb1 | simp only [World.size_drew] at hz_hb1)
      have hb1_ := Lib.hid (below_next (w := w) (by go_grown) hb1)
      clear hb1
      have hb1 := hb1_.out
      clear hb1_
      go_wp2
      go_ret
      exact ⟨retv (boolv (by simp [has, lt, g1])), by assumption⟩
  · go_enter Try.func114, Try.ntmps114
    go_wp2_with fail
    (with_reducible refine (ref_Less _ _ M3.out M1.out _).mono ?_); rintro e w' ⟨rfl, hb1⟩
    obtain ⟨hc_hb1, hf_hb1⟩ := bcell hb1
    have hz_hb1 := size_le hb1
    repeat (first | simp only [World.size_alloc] at hc_hb1 | simp only [World.size_setCell] at hc_hb1 | simp only [World.size_drew] at hc_hb1)
    repeat (first | simp only [World.size_alloc] at hf_hb1 | simp only [World.size_setCell] at hf_hb1 | simp only [World.size_drew] at hf_hb1)
    repeat (first | simp only [World.size_alloc] at hz_hb1 | simp only [World.size_setCell] at hz_hb1 | simp only [World.size_drew] at hz_hb1)
    have hb1_ := Lib.hid (below_next (w := w) (by go_grown) hb1)
    clear hb1
    have hb1 := hb1_.out
    clear hb1_
    go_wp2
    go_ret
    exact ⟨retv (boolv (by simp [has, lt, g1])), by assumption⟩


set_option maxHeartbeats 400000 in
theorem ref_Empty (s : Span) (w : World) (h1 : s.lo.size ≤ maxLen) (h2 : s.hi.size ≤ maxLen) :
    Calls Try.prog 102 #[.agg #[.string s.lo, .string s.hi, .bool s.opn]] w fun e w' => e = .returned (.bool (empty s)) ∧ Below w.heap.size w w' := by
  have HE := Lib.hid (empty_iff s)
  have M1 := Lib.hid h1
  have M2 := Lib.hid h2
  clear h1 h2
  go_enter Try.func102, Try.ntmps102
  go_wp2_with fail
  (with_reducible refine (ref_Has s s.lo _ M1.out M2.out M1.out).mono ?_); rintro e w' ⟨rfl, hb1⟩
  obtain ⟨hc_hb1, hf_hb1⟩ := bcell hb1
  have hz_hb1 := size_le hb1
  repeat (first | simp only [World.size_alloc] at hc_hb1 | simp only [World.size_setCell] at hc_hb1 | simp only [World.size_drew] at hc_hb1)
  repeat (first | simp only [World.size_alloc] at hf_hb1 | simp only [World.size_setCell] at hf_hb1 | simp only [World.size_drew] at hf_hb1)
  repeat (first | simp only [World.size_alloc] at hz_hb1 | simp only [World.size_setCell] at hz_hb1 | simp only [World.size_drew] at hz_hb1)
  have hb1_ := Lib.hid (below_next (w := w) (by go_grown) hb1)
  clear hb1
  have hb1 := hb1_.out
  clear hb1_
  go_wp2
  go_ret
  exact ⟨retv (boolv HE.out.symm), by go_grown⟩
end Go.Proofs.Ytdgcdfngpimmmaa
namespace Go.Proofs.Ytdgcdfngpimmmaa
open Go.RowKit Go.Sort
set_option linter.unusedVariables false
set_option maxRecDepth 20000
set_option linter.unusedSimpArgs false

end Go.Proofs.Ytdgcdfngpimmmaa
namespace Go.Proofs.Ytdgcdfngpimmmaa
open Go.RowKit
set_option linter.unusedVariables false
set_option maxRecDepth 20000
set_option linter.unusedSimpArgs false

theorem Sl.take {α : Type} {w : World} {k : Nat} {cells : α → List Value} {A : Option Addr} {c : Nat} {l : List α} (h : Sl w k cells (.slice A l.length c) l) {q : Nat} (hq : q ≤ l.length) :
    Sl w k cells (.slice A q c) (l.take q) := by
  obtain ⟨A', c', he, h1, h2, h3⟩ := h
  injection he with hA _ hc
  subst hA; subst hc
  refine ⟨A, c, by rw [List.length_take, Nat.min_eq_left hq], by rw [List.length_take]; omega, h2, ?_⟩
  rcases h3 with h3 | ⟨b, off, rfl, hb, hc⟩
  · subst h3; exact .inl (by simp)
  · refine .inr ⟨b, off, rfl, hb, fun i u hi hu j x hx => ?_⟩
    rw [List.length_take] at hi
    refine hc i u (by omega) ?_ j x hx
    rw [← hu, List.getElem_take]
theorem Sl.drop {α : Type} {w : World} {k : Nat} {cells : α → List Value} {A : Option Addr} {c : Nat} {l : List α} (h : Sl w k cells (.slice A l.length c) l) {q : Nat} (hq : q ≤ l.length) :
    Sl w k cells (.slice (if c = q then A else A.map (·.add (q * k))) (l.length - q) (c - q)) (l.drop q) := by
  obtain ⟨A', c', he, h1, h2, h3⟩ := h
  injection he with hA _ hc
  subst hA; subst hc
  refine ⟨_, _, by rw [List.length_drop], by rw [List.length_drop]; omega, by omega, ?_⟩
  rcases h3 with h3 | ⟨b, off, rfl, hb, hc⟩
  · subst h3; exact .inl (by simp)
  · by_cases hcq : c = q
    · exact .inl (List.drop_eq_nil_of_le (by omega))
    · refine .inr ⟨b, off + q * k, by rw [if_neg hcq]; simp [Addr.add], hb, fun i u hi hu j x hx => ?_⟩
      rw [List.length_drop] at hi
      have := hc (q + i) u (by omega) (by rw [← hu, List.getElem_drop]) j x hx
      rw [← this]
      congr 2
      rw [Nat.add_mul]; omega
end Go.Proofs.Ytdgcdfngpimmmaa
namespace Go.Proofs.Ytdgcdfngpimmmaa
open Go.RowKit Go.Sort
set_option linter.unusedVariables false
set_option maxRecDepth 20000
set_option linter.unusedSimpArgs false
end Go.Proofs.Ytdgcdfngpimmmaa
