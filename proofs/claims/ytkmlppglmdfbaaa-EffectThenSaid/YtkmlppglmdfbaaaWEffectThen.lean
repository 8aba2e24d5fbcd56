/- The walk of the law EffectThen. -/
import Derived.Test.YtkmlppglmdfbaaaEffAwake
import Derived.Test.YtkmlppglmdfbaaaQuiet
namespace Go.Proofs.Ytkmlppglmdfbaaa.lawEffectThen
open Go.ChangeShapes Go.WideShapes Go.ChangeAt Go.RowKit Go.Sort
set_option linter.unusedVariables false
set_option linter.unusedSimpArgs false
attribute [local go_sem ↓] run_eql_Eff run_neq_Eff

theorem sz_apply (e : Eff) (h : Bool) (v : ByteArray) (h1 : e.val.size ≤ 16) (h2 : v.size ≤ 16) : (applyV e h v).size ≤ 16 := by
  have := size_em
  unfold applyV
  split
  · exact h1
  · split
    · rw [size_tl]; omega
    · split
      · omega
      · split <;> omega

set_option maxHeartbeats 1000000 in
theorem walk (a b : Eff) (h : Bool) (v : ByteArray) (w : World) (h1 : Sz a.val) (h2 : Sz b.val) (h3 : Sz v) :
    Calls Try.prog 9 #[.agg #[.int .i64 a.kind, .string a.val], .agg #[.int .i64 b.kind, .string b.val], .bool h, .string v] w fun e w' => e = .returned (.bool true) ∧ Below w.heap.size w w' := by
  have H1 := Lib.hid h1
  have H2 := Lib.hid h2
  cases ha : rightE a
  · have HA : Hid (∀ W, Calls Try.prog 38 #[.agg #[.int .i64 a.kind, .string a.val]] W fun e w' => e = .returned (.bool false) ∧ Below W.heap.size W w') := Lib.hid (fun W => by have := ref_RightE a W h1; rw [ha] at this; exact this)
    clear h1 h2
    go_enter Try.func9, Try.ntmps9
    go_wp2_with fail
    (with_reducible refine (HA.out _).mono ?_); rintro e w' ⟨rfl, hb1⟩
    obtain ⟨hc_hb1, hf_hb1⟩ := bcell hb1
    have hz_hb1 := size_le hb1
    repeat (first | simp only [World.size_alloc] at hc_hb1 | simp only [World.size_setCell] at hc_hb1 | simp only [World.size_drew] at hc_hb1)
    repeat (first | simp only [World.size_alloc] at hf_hb1 | simp only [World.size_setCell] at hf_hb1 | simp only [World.size_drew] at hf_hb1)
    repeat (first | simp only [World.size_alloc] at hz_hb1 | simp only [World.size_setCell] at hz_hb1 | simp only [World.size_drew] at hz_hb1)
    have hb1_ := Lib.hid (below_next (w := w) (by go_grown) hb1)
    clear hb1
    have hb1 := hb1_.out
    clear hb1_
    go_wp2_with fail
    (with_reducible refine (effect_awake _).mono ?_); rintro e w' ⟨rfl, hb2⟩
    obtain ⟨hc_hb2, hf_hb2⟩ := bcell hb2
    have hz_hb2 := size_le hb2
    repeat (first | simp only [World.size_alloc] at hc_hb2 | simp only [World.size_setCell] at hc_hb2 | simp only [World.size_drew] at hc_hb2)
    repeat (first | simp only [World.size_alloc] at hf_hb2 | simp only [World.size_setCell] at hf_hb2 | simp only [World.size_drew] at hf_hb2)
    repeat (first | simp only [World.size_alloc] at hz_hb2 | simp only [World.size_setCell] at hz_hb2 | simp only [World.size_drew] at hz_hb2)
    have hb2_ := Lib.hid (below_next (w := w) (by go_grown) hb2)
    clear hb2
    have hb2 := hb2_.out
    clear hb2_
    go_wp2
    go_ret
    exact ⟨rfl, by assumption⟩
  have HA : Hid (∀ W, Calls Try.prog 38 #[.agg #[.int .i64 a.kind, .string a.val]] W fun e w' => e = .returned (.bool true) ∧ Below W.heap.size W w') := Lib.hid (fun W => by have := ref_RightE a W h1; rw [ha] at this; exact this)
  cases hb : rightE b
  · have HB : Hid (∀ W, Calls Try.prog 38 #[.agg #[.int .i64 b.kind, .string b.val]] W fun e w' => e = .returned (.bool false) ∧ Below W.heap.size W w') := Lib.hid (fun W => by have := ref_RightE b W h2; rw [hb] at this; exact this)
    clear h1 h2
    go_enter Try.func9, Try.ntmps9
    go_wp2_with fail
    (with_reducible refine (HA.out _).mono ?_); rintro e w' ⟨rfl, hb1⟩
    obtain ⟨hc_hb1, hf_hb1⟩ := bcell hb1
    have hz_hb1 := size_le hb1
    repeat (first | simp only [World.size_alloc] at hc_hb1 | simp only [World.size_setCell] at hc_hb1 | simp only [World.size_drew] at hc_hb1)
    repeat (first | simp only [World.size_alloc] at hf_hb1 | simp only [World.size_setCell] at hf_hb1 | simp only [World.size_drew] at hf_hb1)
    repeat (first | simp only [World.size_alloc] at hz_hb1 | simp only [World.size_setCell] at hz_hb1 | simp only [World.size_drew] at hz_hb1)
    have hb1_ := Lib.hid (below_next (w := w) (by go_grown) hb1)
    clear hb1
    have hb1 := hb1_.out
    clear hb1_
    have c_hb1_0 := hc_hb1 (w.heap.size + 1) 0 (by omega)
    simp [go_sem] at c_hb1_0
    have c_hb1_1 := hc_hb1 (w.heap.size + 1) 1 (by omega)
    simp [go_sem] at c_hb1_1
    go_wp2_with fail
    (with_reducible refine (HB.out _).mono ?_); rintro e w' ⟨rfl, hb2⟩
    obtain ⟨hc_hb2, hf_hb2⟩ := bcell hb2
    have hz_hb2 := size_le hb2
    repeat (first | simp only [World.size_alloc] at hc_hb2 | simp only [World.size_setCell] at hc_hb2 | simp only [World.size_drew] at hc_hb2)
    repeat (first | simp only [World.size_alloc] at hf_hb2 | simp only [World.size_setCell] at hf_hb2 | simp only [World.size_drew] at hf_hb2)
    repeat (first | simp only [World.size_alloc] at hz_hb2 | simp only [World.size_setCell] at hz_hb2 | simp only [World.size_drew] at hz_hb2)
    have hb2_ := Lib.hid (below_next (w := w) (by go_grown) hb2)
    clear hb2
    have hb2 := hb2_.out
    clear hb2_
    go_wp2_with fail
    (with_reducible refine (effect_awake _).mono ?_); rintro e w' ⟨rfl, hb3⟩
    obtain ⟨hc_hb3, hf_hb3⟩ := bcell hb3
    have hz_hb3 := size_le hb3
    repeat (first | simp only [World.size_alloc] at hc_hb3 | simp only [World.size_setCell] at hc_hb3 | simp only [World.size_drew] at hc_hb3)
    repeat (first | simp only [World.size_alloc] at hf_hb3 | simp only [World.size_setCell] at hf_hb3 | simp only [World.size_drew] at hf_hb3)
    repeat (first | simp only [World.size_alloc] at hz_hb3 | simp only [World.size_setCell] at hz_hb3 | simp only [World.size_drew] at hz_hb3)
    have hb3_ := Lib.hid (below_next (w := w) (by go_grown) hb3)
    clear hb3
    have hb3 := hb3_.out
    clear hb3_
    go_wp2
    go_ret
    exact ⟨rfl, by assumption⟩
  have HB : Hid (∀ W, Calls Try.prog 38 #[.agg #[.int .i64 b.kind, .string b.val]] W fun e w' => e = .returned (.bool true) ∧ Below W.heap.size W w') := Lib.hid (fun W => by have := ref_RightE b W h2; rw [hb] at this; exact this)
  have z3 := h3.le
  by_cases g2 : 16 < v.size
  · have d2 : decide ((16 : Int) < (v.size : Int)) = true := decide_eq_true (by omega)
    clear h1 h2
    go_enter Try.func9, Try.ntmps9
    go_wp2_with fail
    (with_reducible refine (HA.out _).mono ?_); rintro e w' ⟨rfl, hb1⟩
    obtain ⟨hc_hb1, hf_hb1⟩ := bcell hb1
    have hz_hb1 := size_le hb1
    repeat (first | simp only [World.size_alloc] at hc_hb1 | simp only [World.size_setCell] at hc_hb1 | simp only [World.size_drew] at hc_hb1)
    repeat (first | simp only [World.size_alloc] at hf_hb1 | simp only [World.size_setCell] at hf_hb1 | simp only [World.size_drew] at hf_hb1)
    repeat (first | simp only [World.size_alloc] at hz_hb1 | simp only [World.size_setCell] at hz_hb1 | simp only [World.size_drew] at hz_hb1)
    have hb1_ := Lib.hid (below_next (w := w) (by go_grown) hb1)
    clear hb1
    have hb1 := hb1_.out
    clear hb1_
    have c_hb1_0 := hc_hb1 (w.heap.size + 1) 0 (by omega)
    simp [go_sem] at c_hb1_0
    have c_hb1_1 := hc_hb1 (w.heap.size + 1) 1 (by omega)
    simp [go_sem] at c_hb1_1
    go_wp2_with fail
    (with_reducible refine (HB.out _).mono ?_); rintro e w' ⟨rfl, hb2⟩
    obtain ⟨hc_hb2, hf_hb2⟩ := bcell hb2
    have hz_hb2 := size_le hb2
    repeat (first | simp only [World.size_alloc] at hc_hb2 | simp only [World.size_setCell] at hc_hb2 | simp only [World.size_drew] at hc_hb2)
    repeat (first | simp only [World.size_alloc] at hf_hb2 | simp only [World.size_setCell] at hf_hb2 | simp only [World.size_drew] at hf_hb2)
    repeat (first | simp only [World.size_alloc] at hz_hb2 | simp only [World.size_setCell] at hz_hb2 | simp only [World.size_drew] at hz_hb2)
    have hb2_ := Lib.hid (below_next (w := w) (by go_grown) hb2)
    clear hb2
    have hb2 := hb2_.out
    clear hb2_
    go_wp2_with fail
    (with_reducible refine (effect_awake _).mono ?_); rintro e w' ⟨rfl, hb3⟩
    obtain ⟨hc_hb3, hf_hb3⟩ := bcell hb3
    have hz_hb3 := size_le hb3
    repeat (first | simp only [World.size_alloc] at hc_hb3 | simp only [World.size_setCell] at hc_hb3 | simp only [World.size_drew] at hc_hb3)
    repeat (first | simp only [World.size_alloc] at hf_hb3 | simp only [World.size_setCell] at hf_hb3 | simp only [World.size_drew] at hf_hb3)
    repeat (first | simp only [World.size_alloc] at hz_hb3 | simp only [World.size_setCell] at hz_hb3 | simp only [World.size_drew] at hz_hb3)
    have hb3_ := Lib.hid (below_next (w := w) (by go_grown) hb3)
    clear hb3
    have hb3 := hb3_.out
    clear hb3_
    go_wp2
    go_ret
    exact ⟨rfl, by assumption⟩
  have d2 : decide ((16 : Int) < (v.size : Int)) = false := decide_eq_false (by omega)
  have sa := rightE_size ha
  have sb := rightE_size hb
  have hrt := right_then ha hb
  have st := rightE_size hrt
  have hrf := refThen_eq (b := b) ha
  have hap := apply_then ha hb h v (by omega)
  have sv := sz_apply a h v sa (by omega)
  have HS := Lib.hid (show a.val.size ≤ 3000 ∧ b.val.size ≤ 3000 ∧ v.size ≤ 3000 ∧ (applyV a h v).size ≤ 3000 ∧ (thenE a b).val.size ≤ 3000 ∧ Sz (thenE a b).val from by unfold Sz; omega)
  have CRT : Hid (∀ W, Calls Try.prog 38 #[.agg #[.int .i64 (thenE a b).kind, .string (thenE a b).val]] W fun e w' => e = .returned (.bool true) ∧ Below W.heap.size W w') := Lib.hid (fun W => by have := ref_RightE (thenE a b) W HS.out.2.2.2.2.2; rw [hrt] at this; exact this)
  have CRF : Hid (∀ W, Calls Try.prog 43 #[.agg #[.int .i64 a.kind, .string a.val], .agg #[.int .i64 b.kind, .string b.val]] W fun e w' => e = .returned (.agg #[.int .i64 (thenE a b).kind, .string (thenE a b).val]) ∧ Below W.heap.size W w') := Lib.hid (fun W => by have := ref_Then a b W HS.out.1 HS.out.2.1; rw [hrf] at this; exact this)
  have CT : Hid (∀ W, Calls Try.prog 40 #[.agg #[.int .i64 a.kind, .string a.val], .agg #[.int .i64 b.kind, .string b.val]] W fun e w' => e = .returned (.agg #[.int .i64 (thenE a b).kind, .string (thenE a b).val]) ∧ Below W.heap.size W w') := Lib.hid (fun W => effect_Then a b W HS.out.1 HS.out.2.1)
  have CA : Hid (∀ W, Calls Try.prog 41 #[.agg #[.int .i64 a.kind, .string a.val], .bool h, .string v] W fun e w' => e = .returned (.tuple #[.bool (applyH a h), .string (applyV a h v)]) ∧ Below W.heap.size W w') := Lib.hid (fun W => ref_Apply a h v W HS.out.1 HS.out.2.2.1)
  have CB : Hid (∀ W, Calls Try.prog 41 #[.agg #[.int .i64 b.kind, .string b.val], .bool (applyH a h), .string (applyV a h v)] W fun e w' => e = .returned (.tuple #[.bool (applyH (thenE a b) h), .string (applyV (thenE a b) h v)]) ∧ Below W.heap.size W w') :=
    Lib.hid (fun W => by have := ref_Apply b (applyH a h) (applyV a h v) W HS.out.2.1 HS.out.2.2.2.1; rw [hap.1, hap.2] at this; exact this)
  have CE : Hid (∀ W, Calls Try.prog 42 #[.agg #[.int .i64 (thenE a b).kind, .string (thenE a b).val], .bool h, .string v] W fun e w' => e = .returned (.tuple #[.bool (applyH (thenE a b) h), .string (applyV (thenE a b) h v)]) ∧ Below W.heap.size W w') := Lib.hid (fun W => effect_Apply (thenE a b) h v W HS.out.2.2.2.2.1 HS.out.2.2.1)
  clear hap hrf hrt st sv sa sb h1 h2 h3
  generalize applyH (thenE a b) h = rH at *
  generalize applyV (thenE a b) h v = rV at *
  generalize applyH a h = aH at *
  generalize applyV a h v = aV at *
  generalize thenE a b = t at *
  have heq := @eqv_self Eff _ t
  go_enter Try.func9, Try.ntmps9
  go_wp2_with fail
  (with_reducible refine (HA.out _).mono ?_); rintro e w1 ⟨rfl, hb_w1⟩
  obtain ⟨hc_w1, hf_w1⟩ := bcell hb_w1
  have hz_w1 := size_le hb_w1
  repeat (first | simp only [World.size_alloc] at hc_w1 | simp only [World.size_setCell] at hc_w1 | simp only [World.size_drew] at hc_w1)
  repeat (first | simp only [World.size_alloc] at hf_w1 | simp only [World.size_setCell] at hf_w1 | simp only [World.size_drew] at hf_w1)
  repeat (first | simp only [World.size_alloc] at hz_w1 | simp only [World.size_setCell] at hz_w1 | simp only [World.size_drew] at hz_w1)
  have l_w1_s : w.heap.size < w1.heap.size := by omega
  have c_w1_s_0 := hc_w1 (w.heap.size) 0 (by omega)
  (try simp [go_sem] at c_w1_s_0)
  have c_w1_s_1 := hc_w1 (w.heap.size) 1 (by omega)
  (try simp [go_sem] at c_w1_s_1)
  have l_w1_sp1 : w.heap.size + 1 < w1.heap.size := by omega
  have c_w1_sp1_0 := hc_w1 (w.heap.size + 1) 0 (by omega)
  (try simp [go_sem] at c_w1_sp1_0)
  have c_w1_sp1_1 := hc_w1 (w.heap.size + 1) 1 (by omega)
  (try simp [go_sem] at c_w1_sp1_1)
  have hb_w1_ := Lib.hid (below_next (w := w) (by go_grown) hb_w1)
  clear hc_w1 hf_w1 hb_w1
  have hb_w1 := hb_w1_.out
  go_wp2_with fail
  (with_reducible refine (HB.out _).mono ?_); rintro e w2 ⟨rfl, hb_w2⟩
  obtain ⟨hc_w2, hf_w2⟩ := bcell hb_w2
  have hz_w2 := size_le hb_w2
  repeat (first | simp only [World.size_alloc] at hc_w2 | simp only [World.size_setCell] at hc_w2 | simp only [World.size_drew] at hc_w2)
  repeat (first | simp only [World.size_alloc] at hf_w2 | simp only [World.size_setCell] at hf_w2 | simp only [World.size_drew] at hf_w2)
  repeat (first | simp only [World.size_alloc] at hz_w2 | simp only [World.size_setCell] at hz_w2 | simp only [World.size_drew] at hz_w2)
  have l_w2_s : w.heap.size < w2.heap.size := by omega
  have c_w2_s_0 := hc_w2 (w.heap.size) 0 (by omega)
  (try simp [go_sem, l_w1_s, c_w1_s_0, c_w1_s_1, l_w1_sp1, c_w1_sp1_0, c_w1_sp1_1] at c_w2_s_0)
  have c_w2_s_1 := hc_w2 (w.heap.size) 1 (by omega)
  (try simp [go_sem, l_w1_s, c_w1_s_0, c_w1_s_1, l_w1_sp1, c_w1_sp1_0, c_w1_sp1_1] at c_w2_s_1)
  have l_w2_sp1 : w.heap.size + 1 < w2.heap.size := by omega
  have c_w2_sp1_0 := hc_w2 (w.heap.size + 1) 0 (by omega)
  (try simp [go_sem, l_w1_s, c_w1_s_0, c_w1_s_1, l_w1_sp1, c_w1_sp1_0, c_w1_sp1_1] at c_w2_sp1_0)
  have c_w2_sp1_1 := hc_w2 (w.heap.size + 1) 1 (by omega)
  (try simp [go_sem, l_w1_s, c_w1_s_0, c_w1_s_1, l_w1_sp1, c_w1_sp1_0, c_w1_sp1_1] at c_w2_sp1_1)
  have hb_w2_ := Lib.hid (below_next (w := w) (by go_grown) hb_w2)
  clear hc_w2 hf_w2 hb_w2
  clear l_w1_s c_w1_s_0 c_w1_s_1 l_w1_sp1 c_w1_sp1_0 c_w1_sp1_1
  have hb_w2 := hb_w2_.out
  clear hb_w1 hb_w1_
  go_wp2_with fail
  (with_reducible refine (CT.out _).mono ?_); rintro e w3 ⟨rfl, hb_w3⟩
  obtain ⟨hc_w3, hf_w3⟩ := bcell hb_w3
  have hz_w3 := size_le hb_w3
  repeat (first | simp only [World.size_alloc] at hc_w3 | simp only [World.size_setCell] at hc_w3 | simp only [World.size_drew] at hc_w3)
  repeat (first | simp only [World.size_alloc] at hf_w3 | simp only [World.size_setCell] at hf_w3 | simp only [World.size_drew] at hf_w3)
  repeat (first | simp only [World.size_alloc] at hz_w3 | simp only [World.size_setCell] at hz_w3 | simp only [World.size_drew] at hz_w3)
  have l_w3_s : w.heap.size < w3.heap.size := by omega
  have c_w3_s_0 := hc_w3 (w.heap.size) 0 (by omega)
  (try simp [go_sem, l_w2_s, c_w2_s_0, c_w2_s_1, l_w2_sp1, c_w2_sp1_0, c_w2_sp1_1] at c_w3_s_0)
  have c_w3_s_1 := hc_w3 (w.heap.size) 1 (by omega)
  (try simp [go_sem, l_w2_s, c_w2_s_0, c_w2_s_1, l_w2_sp1, c_w2_sp1_0, c_w2_sp1_1] at c_w3_s_1)
  have l_w3_sp1 : w.heap.size + 1 < w3.heap.size := by omega
  have c_w3_sp1_0 := hc_w3 (w.heap.size + 1) 0 (by omega)
  (try simp [go_sem, l_w2_s, c_w2_s_0, c_w2_s_1, l_w2_sp1, c_w2_sp1_0, c_w2_sp1_1] at c_w3_sp1_0)
  have c_w3_sp1_1 := hc_w3 (w.heap.size + 1) 1 (by omega)
  (try simp [go_sem, l_w2_s, c_w2_s_0, c_w2_s_1, l_w2_sp1, c_w2_sp1_0, c_w2_sp1_1] at c_w3_sp1_1)
  have hb_w3_ := Lib.hid (below_next (w := w) (by go_grown) hb_w3)
  clear hc_w3 hf_w3 hb_w3
  clear l_w2_s c_w2_s_0 c_w2_s_1 l_w2_sp1 c_w2_sp1_0 c_w2_sp1_1
  have hb_w3 := hb_w3_.out
  clear hb_w2 hb_w2_
  go_wp2_with fail
  (with_reducible refine (CA.out _).mono ?_); rintro e w4 ⟨rfl, hb_w4⟩
  obtain ⟨hc_w4, hf_w4⟩ := bcell hb_w4
  have hz_w4 := size_le hb_w4
  repeat (first | simp only [World.size_alloc] at hc_w4 | simp only [World.size_setCell] at hc_w4 | simp only [World.size_drew] at hc_w4)
  repeat (first | simp only [World.size_alloc] at hf_w4 | simp only [World.size_setCell] at hf_w4 | simp only [World.size_drew] at hf_w4)
  repeat (first | simp only [World.size_alloc] at hz_w4 | simp only [World.size_setCell] at hz_w4 | simp only [World.size_drew] at hz_w4)
  have l_w4_s : w.heap.size < w4.heap.size := by omega
  have c_w4_s_0 := hc_w4 (w.heap.size) 0 (by omega)
  (try simp [go_sem, l_w3_s, c_w3_s_0, c_w3_s_1, l_w3_sp1, c_w3_sp1_0, c_w3_sp1_1] at c_w4_s_0)
  have c_w4_s_1 := hc_w4 (w.heap.size) 1 (by omega)
  (try simp [go_sem, l_w3_s, c_w3_s_0, c_w3_s_1, l_w3_sp1, c_w3_sp1_0, c_w3_sp1_1] at c_w4_s_1)
  have l_w4_sp1 : w.heap.size + 1 < w4.heap.size := by omega
  have c_w4_sp1_0 := hc_w4 (w.heap.size + 1) 0 (by omega)
  (try simp [go_sem, l_w3_s, c_w3_s_0, c_w3_s_1, l_w3_sp1, c_w3_sp1_0, c_w3_sp1_1] at c_w4_sp1_0)
  have c_w4_sp1_1 := hc_w4 (w.heap.size + 1) 1 (by omega)
  (try simp [go_sem, l_w3_s, c_w3_s_0, c_w3_s_1, l_w3_sp1, c_w3_sp1_0, c_w3_sp1_1] at c_w4_sp1_1)
  have l_w4_w3xheapxsize : w3.heap.size < w4.heap.size := by omega
  have c_w4_w3xheapxsize_0 := hc_w4 (w3.heap.size) 0 (by omega)
  (try simp [go_sem, l_w3_s, c_w3_s_0, c_w3_s_1, l_w3_sp1, c_w3_sp1_0, c_w3_sp1_1] at c_w4_w3xheapxsize_0)
  have c_w4_w3xheapxsize_1 := hc_w4 (w3.heap.size) 1 (by omega)
  (try simp [go_sem, l_w3_s, c_w3_s_0, c_w3_s_1, l_w3_sp1, c_w3_sp1_0, c_w3_sp1_1] at c_w4_w3xheapxsize_1)
  have hb_w4_ := Lib.hid (below_next (w := w) (by go_grown) hb_w4)
  clear hc_w4 hf_w4 hb_w4
  clear l_w3_s c_w3_s_0 c_w3_s_1 l_w3_sp1 c_w3_sp1_0 c_w3_sp1_1
  have hb_w4 := hb_w4_.out
  clear hb_w3 hb_w3_
  go_wp2_with fail
  (with_reducible refine (CB.out _).mono ?_); rintro e w5 ⟨rfl, hb_w5⟩
  obtain ⟨hc_w5, hf_w5⟩ := bcell hb_w5
  have hz_w5 := size_le hb_w5
  repeat (first | simp only [World.size_alloc] at hc_w5 | simp only [World.size_setCell] at hc_w5 | simp only [World.size_drew] at hc_w5)
  repeat (first | simp only [World.size_alloc] at hf_w5 | simp only [World.size_setCell] at hf_w5 | simp only [World.size_drew] at hf_w5)
  repeat (first | simp only [World.size_alloc] at hz_w5 | simp only [World.size_setCell] at hz_w5 | simp only [World.size_drew] at hz_w5)
  have l_w5_s : w.heap.size < w5.heap.size := by omega
  have c_w5_s_0 := hc_w5 (w.heap.size) 0 (by omega)
  (try simp [go_sem, l_w4_s, c_w4_s_0, c_w4_s_1, l_w4_sp1, c_w4_sp1_0, c_w4_sp1_1, l_w4_w3xheapxsize, c_w4_w3xheapxsize_0, c_w4_w3xheapxsize_1] at c_w5_s_0)
  have c_w5_s_1 := hc_w5 (w.heap.size) 1 (by omega)
  (try simp [go_sem, l_w4_s, c_w4_s_0, c_w4_s_1, l_w4_sp1, c_w4_sp1_0, c_w4_sp1_1, l_w4_w3xheapxsize, c_w4_w3xheapxsize_0, c_w4_w3xheapxsize_1] at c_w5_s_1)
  have l_w5_sp1 : w.heap.size + 1 < w5.heap.size := by omega
  have c_w5_sp1_0 := hc_w5 (w.heap.size + 1) 0 (by omega)
  (try simp [go_sem, l_w4_s, c_w4_s_0, c_w4_s_1, l_w4_sp1, c_w4_sp1_0, c_w4_sp1_1, l_w4_w3xheapxsize, c_w4_w3xheapxsize_0, c_w4_w3xheapxsize_1] at c_w5_sp1_0)
  have c_w5_sp1_1 := hc_w5 (w.heap.size + 1) 1 (by omega)
  (try simp [go_sem, l_w4_s, c_w4_s_0, c_w4_s_1, l_w4_sp1, c_w4_sp1_0, c_w4_sp1_1, l_w4_w3xheapxsize, c_w4_w3xheapxsize_0, c_w4_w3xheapxsize_1] at c_w5_sp1_1)
  have l_w5_w3xheapxsize : w3.heap.size < w5.heap.size := by omega
  have c_w5_w3xheapxsize_0 := hc_w5 (w3.heap.size) 0 (by omega)
  (try simp [go_sem, l_w4_s, c_w4_s_0, c_w4_s_1, l_w4_sp1, c_w4_sp1_0, c_w4_sp1_1, l_w4_w3xheapxsize, c_w4_w3xheapxsize_0, c_w4_w3xheapxsize_1] at c_w5_w3xheapxsize_0)
  have c_w5_w3xheapxsize_1 := hc_w5 (w3.heap.size) 1 (by omega)
  (try simp [go_sem, l_w4_s, c_w4_s_0, c_w4_s_1, l_w4_sp1, c_w4_sp1_0, c_w4_sp1_1, l_w4_w3xheapxsize, c_w4_w3xheapxsize_0, c_w4_w3xheapxsize_1] at c_w5_w3xheapxsize_1)
  have hb_w5_ := Lib.hid (below_next (w := w) (by go_grown) hb_w5)
  clear hc_w5 hf_w5 hb_w5
  clear l_w4_s c_w4_s_0 c_w4_s_1 l_w4_sp1 c_w4_sp1_0 c_w4_sp1_1 l_w4_w3xheapxsize c_w4_w3xheapxsize_0 c_w4_w3xheapxsize_1
  have hb_w5 := hb_w5_.out
  clear hb_w4 hb_w4_
  go_wp2_with fail
  (with_reducible refine (CE.out _).mono ?_); rintro e w6 ⟨rfl, hb_w6⟩
  obtain ⟨hc_w6, hf_w6⟩ := bcell hb_w6
  have hz_w6 := size_le hb_w6
  repeat (first | simp only [World.size_alloc] at hc_w6 | simp only [World.size_setCell] at hc_w6 | simp only [World.size_drew] at hc_w6)
  repeat (first | simp only [World.size_alloc] at hf_w6 | simp only [World.size_setCell] at hf_w6 | simp only [World.size_drew] at hf_w6)
  repeat (first | simp only [World.size_alloc] at hz_w6 | simp only [World.size_setCell] at hz_w6 | simp only [World.size_drew] at hz_w6)
  have l_w6_s : w.heap.size < w6.heap.size := by omega
  have c_w6_s_0 := hc_w6 (w.heap.size) 0 (by omega)
  (try simp [go_sem, l_w5_s, c_w5_s_0, c_w5_s_1, l_w5_sp1, c_w5_sp1_0, c_w5_sp1_1, l_w5_w3xheapxsize, c_w5_w3xheapxsize_0, c_w5_w3xheapxsize_1] at c_w6_s_0)
  have c_w6_s_1 := hc_w6 (w.heap.size) 1 (by omega)
  (try simp [go_sem, l_w5_s, c_w5_s_0, c_w5_s_1, l_w5_sp1, c_w5_sp1_0, c_w5_sp1_1, l_w5_w3xheapxsize, c_w5_w3xheapxsize_0, c_w5_w3xheapxsize_1] at c_w6_s_1)
  have l_w6_sp1 : w.heap.size + 1 < w6.heap.size := by omega
  have c_w6_sp1_0 := hc_w6 (w.heap.size + 1) 0 (by omega)
  (try simp [go_sem, l_w5_s, c_w5_s_0, c_w5_s_1, l_w5_sp1, c_w5_sp1_0, c_w5_sp1_1, l_w5_w3xheapxsize, c_w5_w3xheapxsize_0, c_w5_w3xheapxsize_1] at c_w6_sp1_0)
  have c_w6_sp1_1 := hc_w6 (w.heap.size + 1) 1 (by omega)
  (try simp [go_sem, l_w5_s, c_w5_s_0, c_w5_s_1, l_w5_sp1, c_w5_sp1_0, c_w5_sp1_1, l_w5_w3xheapxsize, c_w5_w3xheapxsize_0, c_w5_w3xheapxsize_1] at c_w6_sp1_1)
  have l_w6_w3xheapxsize : w3.heap.size < w6.heap.size := by omega
  have c_w6_w3xheapxsize_0 := hc_w6 (w3.heap.size) 0 (by omega)
  (try simp [go_sem, l_w5_s, c_w5_s_0, c_w5_s_1, l_w5_sp1, c_w5_sp1_0, c_w5_sp1_1, l_w5_w3xheapxsize, c_w5_w3xheapxsize_0, c_w5_w3xheapxsize_1] at c_w6_w3xheapxsize_0)
  have c_w6_w3xheapxsize_1 := hc_w6 (w3.heap.size) 1 (by omega)
  (try simp [go_sem, l_w5_s, c_w5_s_0, c_w5_s_1, l_w5_sp1, c_w5_sp1_0, c_w5_sp1_1, l_w5_w3xheapxsize, c_w5_w3xheapxsize_0, c_w5_w3xheapxsize_1] at c_w6_w3xheapxsize_1)
  have hb_w6_ := Lib.hid (below_next (w := w) (by go_grown) hb_w6)
  clear hc_w6 hf_w6 hb_w6
  clear l_w5_s c_w5_s_0 c_w5_s_1 l_w5_sp1 c_w5_sp1_0 c_w5_sp1_1 l_w5_w3xheapxsize c_w5_w3xheapxsize_0 c_w5_w3xheapxsize_1
  have hb_w6 := hb_w6_.out
  clear hb_w5 hb_w5_
  have g1 : w.heap.size < w6.heap.size := by omega
  have g2 : w.heap.size + 1 < w6.heap.size := by omega
  have g3 : w3.heap.size < w6.heap.size := by omega
  have HB6 := hb_w6_
  clear hb_w6 hb_w6_ hz_w1 hz_w2 hz_w3 hz_w4 hz_w5 hz_w6
  go_wp2
  refine wp_region_below (by kernel_rfl) (by kernel_rfl) ?_
  have hgr := @grow_cell
  repeat (go_big_quiet_step (first | (with_reducible exact qb (CRF.out _)) | (with_reducible exact qb (CRT.out _)) | (go_at_call 39; with_reducible exact qb (effect_awake _))))
  refine wpQuiet_nil ?_
  clear hgr
  intro w7 hb7
  have HB7 := Lib.hid (below_next HB6.out hb7)
  clear hb7
  go_wp2
  go_ret
  exact ⟨rfl, HB7.out⟩
end Go.Proofs.Ytkmlppglmdfbaaa.lawEffectThen
