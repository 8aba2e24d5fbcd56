/- Operations and entries as bytes: plain Lean, no program in sight. -/
import Derived.Test.YtdgcdfngpimmmaaPSc3
namespace Go.Proofs.Ytdgcdfngpimmmaa
open Go Go.RowKit
set_option linter.unusedVariables false
set_option maxRecDepth 20000
set_option linter.unusedSimpArgs false
theorem bl_app (s t : ByteArray) : bl (s ++ t) = bl s ++ bl t := by
  unfold bl
  rw [ByteArray.data_append, Array.toList_append]
theorem bl_ext (s : ByteArray) (a b : Nat) : bl (s.extract a b) = ((bl s).take b).drop a := by
  unfold bl
  rw [ByteArray.data_extract, Array.toList_extract, List.extract_eq_take_drop, List.drop_take]
theorem bl_len (s : ByteArray) : (bl s).length = s.size := by simp [bl]
theorem byt_bl (s : ByteArray) (j : Nat) : byt s j = (((bl s).getD j 0).toNat : Int) := rfl
theorem b8_nat (x : UInt8) : b8 (x.toNat : Int) = x := by
  unfold b8
  have := UInt8.toNat_lt x
  have h : ((x.toNat : Int) % 256).toNat = x.toNat := by omega
  rw [h]; simp
/-- A text with its length ahead. -/
def textR (s : ByteArray) : ByteArray := (⟨#[b8 s.size]⟩ : ByteArray) ++ s
theorem bl_textR (s : ByteArray) : bl (textR s) = b8 s.size :: bl s := by
  unfold textR
  rw [bl_app]; rfl
theorem b1_bl {s : ByteArray} {x : UInt8} {l : List UInt8} (h : bl s = x :: l) : b1 s = (x.toNat : Int) := by
  have hs : s.size ≠ 0 := by rw [← bl_len, h]; simp
  unfold b1
  rw [if_neg hs, byt_bl, h]; rfl
theorem r1_bl {s : ByteArray} {x : UInt8} {l : List UInt8} (h : bl s = x :: l) : bl (r1 s) = l := by
  have hs : s.size ≠ 0 := by rw [← bl_len, h]; simp
  unfold r1
  rw [if_neg hs, bl_ext, List.take_of_length_le (by rw [bl_len]; exact Nat.le_refl _), h]; rfl
theorem cons_bl {s : ByteArray} (h : s.size ≠ 0) : bl s = b8 (b1 s) :: bl (r1 s) := by
  cases hl : bl s with
  | nil => rw [← bl_len, hl] at h; exact absurd rfl h
  | cons x l => rw [b1_bl hl, r1_bl hl, b8_nat]
theorem takeT_bl {s : ByteArray} (h : (takeT s).2.2 = true) : bl s = bl (textR (takeT s).1) ++ bl (takeT s).2.1 := by
  unfold takeT at h ⊢
  cases ho : okT s with
  | false => rw [ho] at h; simp at h
  | true =>
    rw [if_pos rfl]
    unfold okT at ho
    simp only [Bool.and_eq_true, decide_eq_true_eq] at ho
    obtain ⟨h0, h1⟩ := ho
    cases hl : bl s with
    | nil => rw [← bl_len, hl] at h0; exact absurd h0 (by simp)
    | cons x l =>
      have hb : byt s 0 = (x.toNat : Int) := by rw [byt_bl, hl]; rfl
      have hh : hd1 s = 1 + x.toNat := by unfold hd1; rw [hb]; simp
      have hz : s.size = l.length + 1 := by rw [← bl_len, hl]; rfl
      have hx : x.toNat ≤ l.length := by omega
      have e1 : bl (s.extract 1 (hd1 s)) = l.take x.toNat := by
        rw [bl_ext, hl, hh, Nat.add_comm 1, List.take_succ_cons, List.drop_succ_cons, List.drop_zero]
      have e2 : bl (s.extract (hd1 s) s.size) = l.drop x.toNat := by
        rw [bl_ext, hl, hh, List.take_of_length_le (by simp; omega), Nat.add_comm 1, List.drop_succ_cons]
      have e3 : (s.extract 1 (hd1 s)).size = x.toNat := by rw [← bl_len, e1, List.length_take]; omega
      rw [bl_textR]
      dsimp only
      rw [e1, e2, e3, b8_nat, List.cons_append, List.take_append_drop]
/-- An operation's bytes. -/
def bytesO (o : Op) : ByteArray :=
  let s0 := (⟨#[b8 o.kind]⟩ : ByteArray) ++ textR o.key
  let s1 := if o.kind ≤ 2 then s0 ++ textR o.val else s0
  let s2 := if rangedO o = true then (if o.opn = true then s1 ++ ⟨#[1]⟩ else s1 ++ ((⟨#[0]⟩ : ByteArray) ++ textR o.hi)) else s1
  if o.kind = 6 then s2 ++ ⟨#[b8 o.limit]⟩ else s2
theorem fin_ok {o : Op} {r : ByteArray} {k : Bool} (h : (fin o r k).2 = true) : (fin o r k).1 = o ∧ k = true ∧ bl r = [] ∧ rightO o = true := by
  unfold fin at h ⊢
  split at h
  · rename_i hc
    rw [if_pos hc]
    simp only [Bool.and_eq_true, decide_eq_true_eq] at hc
    exact ⟨rfl, hc.1.1, List.length_eq_zero_iff.1 (by rw [bl_len]; exact hc.1.2), hc.2⟩
  · cases h
theorem fin_bad {o : Op} {r : ByteArray} {k : Bool} (h : (fin o r k).2 = false) : (fin o r k).1 = opE := by
  unfold fin at h ⊢
  split at h
  · cases h
  · rename_i hc; rw [if_neg hc]
theorem ofO_bad {s : ByteArray} (h : (ofO s).2 = false) : (ofO s).1 = opE := by
  unfold ofO at h ⊢
  repeat' split at h
  all_goals first | (simp_all; done) | skip
  all_goals (simp_all; try exact fin_bad h)
theorem ofO_right {s : ByteArray} (h : (ofO s).2 = true) : rightO (ofO s).1 = true := by
  unfold ofO at h ⊢
  repeat' split at h
  all_goals first | (cases h; done) | skip
  all_goals (simp_all; try (have := fin_ok h; rw [this.1]; exact this.2.2.2))
theorem bl_one (x : UInt8) : bl ⟨#[x]⟩ = [x] := rfl
theorem bytes_of {s : ByteArray} (h : (ofO s).2 = true) : bytesO (ofO s).1 = s := by
  apply bl_inj
  unfold ofO at h ⊢
  by_cases h12 : (b1 s == 1 || b1 s == 2) = true
  · rw [if_pos h12] at h ⊢
    obtain ⟨e1, e2, e3, e4⟩ := fin_ok h
    rw [e1]
    simp only [Bool.and_eq_true, Bool.true_and, Bool.not_eq_true', decide_eq_false_iff_not] at e2
    obtain ⟨⟨k1, k2⟩, k3⟩ := e2
    have hb : b1 s = 1 ∨ b1 s = 2 := by simpa using h12
    have c1 := cons_bl k1
    have c2 := takeT_bl k2
    have c3 := takeT_bl k3
    rw [e3, List.append_nil] at c3
    have r0 : rangedO ⟨b1 s, (takeT (r1 s)).1, em, false, (takeT (takeT (r1 s)).2.1).1, 0⟩ = false := by rcases hb with h | h <;> simp [rangedO, h]
    unfold bytesO
    simp only [r0]
    have f1 : b1 s ≤ 2 := by omega
    have f6 : ¬ b1 s = 6 := by omega
    rw [if_pos f1, if_neg (show ¬ (false = true) by simp), if_neg f6]
    rw [bl_app, bl_app, bl_one, c1, c2, c3]
    simp
  · rw [if_neg h12] at h ⊢
    have hb : b1 s ≠ 1 ∧ b1 s ≠ 2 := by simpa using h12
    by_cases h4 : b1 s = 4
    · rw [if_pos h4] at h ⊢
      by_cases g0 : b1 (takeT (r1 s)).2.1 = 0
      · rw [if_pos g0] at h ⊢
        obtain ⟨e1, e2, e3, e4⟩ := fin_ok h
        rw [e1]
        simp only [Bool.and_eq_true, Bool.true_and, Bool.not_eq_true', decide_eq_false_iff_not] at e2
        obtain ⟨⟨⟨k1, k2⟩, k3⟩, k4⟩ := e2
        have c1 := cons_bl k1
        have c2 := takeT_bl k2
        have c3 := cons_bl k3
        have c4 := takeT_bl k4
        rw [e3, List.append_nil] at c4
        rw [g0] at c3
        unfold bytesO
        rw [show rangedO ⟨b1 s, (takeT (r1 s)).1, (takeT (r1 (takeT (r1 s)).2.1)).1, false, em, 0⟩ = true by simp [rangedO, h4]]
        dsimp only
        rw [if_neg (show ¬ b1 s ≤ 2 by omega), if_pos (show true = true from rfl), if_neg (show ¬ (false = true) by simp), if_neg (show ¬ b1 s = 6 by omega)]
        rw [bl_app, bl_app, bl_app, bl_one, bl_one, c1, c2, c3, c4]
        simp [b8]
      · rw [if_neg g0] at h ⊢
        by_cases g1 : b1 (takeT (r1 s)).2.1 = 1
        · rw [if_pos g1] at h ⊢
          obtain ⟨e1, e2, e3, e4⟩ := fin_ok h
          rw [e1]
          simp only [Bool.and_eq_true, Bool.true_and, Bool.not_eq_true', decide_eq_false_iff_not] at e2
          obtain ⟨⟨k1, k2⟩, k3⟩ := e2
          have c1 := cons_bl k1
          have c2 := takeT_bl k2
          have c3 := cons_bl k3
          rw [g1, e3] at c3
          unfold bytesO
          rw [show rangedO ⟨b1 s, (takeT (r1 s)).1, em, true, em, 0⟩ = true by simp [rangedO, h4]]
          dsimp only
          rw [if_neg (show ¬ b1 s ≤ 2 by omega), if_pos (show true = true from rfl), if_pos (show true = true from rfl), if_neg (show ¬ b1 s = 6 by omega)]
          rw [bl_app, bl_app, bl_one, bl_one, c1, c2, c3]
          simp [b8]
        · rw [if_neg g1] at h; cases h
    · rw [if_neg h4] at h ⊢
      by_cases h6 : b1 s = 6
      · rw [if_pos h6] at h ⊢
        by_cases g0 : b1 (takeT (r1 s)).2.1 = 0
        · rw [if_pos g0] at h ⊢
          obtain ⟨e1, e2, e3, e4⟩ := fin_ok h
          rw [e1]
          simp only [Bool.and_eq_true, Bool.true_and, Bool.not_eq_true', decide_eq_false_iff_not] at e2
          obtain ⟨⟨⟨⟨k1, k2⟩, k3⟩, k4⟩, k5⟩ := e2
          have c1 := cons_bl k1
          have c2 := takeT_bl k2
          have c3 := cons_bl k3
          have c4 := takeT_bl k4
          have c5 := cons_bl k5
          rw [e3] at c5
          rw [g0] at c3
          unfold bytesO
          rw [show ∀ z, rangedO ⟨b1 s, (takeT (r1 s)).1, (takeT (r1 (takeT (r1 s)).2.1)).1, false, em, z⟩ = true by simp [rangedO, h6]]
          dsimp only
          rw [if_neg (show ¬ b1 s ≤ 2 by omega), if_pos (show true = true from rfl), if_neg (show ¬ (false = true) by simp), if_pos h6]
          rw [bl_app, bl_app, bl_app, bl_app, bl_one, bl_one, bl_one, c1, c2, c3, c4, c5]
          simp [b8]
        · rw [if_neg g0] at h ⊢
          by_cases g1 : b1 (takeT (r1 s)).2.1 = 1
          · rw [if_pos g1] at h ⊢
            obtain ⟨e1, e2, e3, e4⟩ := fin_ok h
            rw [e1]
            simp only [Bool.and_eq_true, Bool.true_and, Bool.not_eq_true', decide_eq_false_iff_not] at e2
            obtain ⟨⟨⟨k1, k2⟩, k3⟩, k4⟩ := e2
            have c1 := cons_bl k1
            have c2 := takeT_bl k2
            have c3 := cons_bl k3
            have c4 := cons_bl k4
            rw [e3] at c4
            rw [g1] at c3
            unfold bytesO
            rw [show ∀ z, rangedO ⟨b1 s, (takeT (r1 s)).1, em, true, em, z⟩ = true by simp [rangedO, h6]]
            dsimp only
            rw [if_neg (show ¬ b1 s ≤ 2 by omega), if_pos (show true = true from rfl), if_pos (show true = true from rfl), if_pos h6]
            rw [bl_app, bl_app, bl_app, bl_one, bl_one, bl_one, c1, c2, c3, c4]
            simp [b8]
          · rw [if_neg g1] at h; cases h
      · rw [if_neg h6] at h ⊢
        obtain ⟨e1, e2, e3, e4⟩ := fin_ok h
        rw [e1]
        simp only [Bool.and_eq_true, Bool.true_and, Bool.not_eq_true', decide_eq_false_iff_not] at e2
        obtain ⟨k1, k2⟩ := e2
        have c1 := cons_bl k1
        have c2 := takeT_bl k2
        rw [e3, List.append_nil] at c2
        have hk : 1 ≤ b1 s := by
          unfold rightO at e4
          simp only [Bool.and_eq_true, decide_eq_true_eq] at e4
          exact e4.1.1.1.1.1.1.1.1
        unfold bytesO
        rw [show rangedO ⟨b1 s, (takeT (r1 s)).1, em, false, em, 0⟩ = false by simp [rangedO, h4, h6]]
        dsimp only
        rw [if_neg (show ¬ b1 s ≤ 2 by omega), if_neg (show ¬ (false = true) by simp), if_neg h6]
        rw [bl_app, bl_one, c1, c2]
        simp
end Go.Proofs.Ytdgcdfngpimmmaa
