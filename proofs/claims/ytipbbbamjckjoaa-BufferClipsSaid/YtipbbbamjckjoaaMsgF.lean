/- What a message does when it is clipped, and what two do as one: plain Lean, no program in sight. -/
import Derived.Test.YtipbbbamjckjoaaMsg
namespace Go.Proofs.Ytipbbbamjckjoaa
open Go.RowKit
set_option linter.unusedVariables false
set_option maxRecDepth 20000
set_option linter.unusedSimpArgs false
theorem clip_on {m : Msg} {s : Span} {x : ByteArray} (h : has s x = true) (ht : touch (spanM m) s = true) : onM (clipM m s).1 x = onM m x := by
  unfold clipM
  rw [if_pos ht]
  by_cases h4 : m.kind = 4
  · simp only [h4, if_true]
    have hs : spanM ⟨m.stamp, 4, (meet (spanM m) s).lo, (meet (spanM m) s).hi, (meet (spanM m) s).opn, m.val⟩ = meet (spanM m) s := by simp [spanM]
    unfold onM
    rw [hs, has_meet, h, Bool.and_true]
    simp [h4]
  · simp [h4]
theorem clip_off {m : Msg} {s : Span} {x : ByteArray} (h : has s x = false) (ht : touch (spanM m) s = true) (h4 : m.kind = 4) : onM (clipM m s).1 x = keepE := by
  unfold clipM
  rw [if_pos ht]
  simp only [h4, if_true]
  have hs : spanM ⟨m.stamp, 4, (meet (spanM m) s).lo, (meet (spanM m) s).hi, (meet (spanM m) s).opn, m.val⟩ = meet (spanM m) s := by simp [spanM]
  unfold onM
  rw [hs, has_meet, h, Bool.and_false]
  simp
theorem clip_size {m : Msg} {s : Span} (ht : touch (spanM m) s = true) : sizeM (clipM m s).1 = sizeM m := by
  unfold clipM
  rw [if_pos ht]
  by_cases h4 : m.kind = 4
  · simp [h4, sizeM]
  · simp [h4]
theorem clip_ok (m : Msg) (s : Span) : (clipM m s).2 = touch (spanM m) s := by
  unfold clipM
  cases touch (spanM m) s <;> simp
/-- What a message that may be does may be. -/
theorem right_on {m : Msg} (h : rightM m = true) (x : ByteArray) : rightE (onM m x) = true := by
  unfold onM
  split
  · split
    · rename_i hk
      unfold rightM at h
      rw [if_neg (by omega)] at h
      simp only [Bool.and_eq_true] at h
      exact h.2.2
    · split
      · rfl
      · exact right_keep
  · exact right_keep
theorem right_kind {m : Msg} (h : rightM m = true) : m.kind = 1 ∨ m.kind = 2 ∨ m.kind = 3 ∨ m.kind = 4 := by
  unfold rightM at h
  by_cases h4 : m.kind = 4
  · omega
  · rw [if_neg h4] at h
    simp only [Bool.and_eq_true, decide_eq_true_eq] at h
    have := rightE_kind h.2.2
    simp only at this
    omega
theorem right_key {m : Msg} (h : rightM m = true) : m.key.size ≤ 16 := by
  unfold rightM at h
  simp only [Bool.and_eq_true, decide_eq_true_eq] at h
  omega
theorem right_sizes {m : Msg} (h : refRightM m = true) : m.key.size ≤ 16 ∧ m.hi.size ≤ 16 ∧ m.val.size ≤ 16 := by
  unfold refRightM at h
  simp only [Bool.and_eq_true, decide_eq_true_eq] at h
  omega
def wholeM (a b : Msg) : Bool := decide (b.kind = 4) && within (spanM a) (spanM b)
theorem join_ok (a b : Msg) : (joinM a b).2 = (wholeM a b || (!decide (a.kind = 4) && (!decide (b.kind = 4) && decide (a.key = b.key)))) := by
  unfold joinM wholeM
  by_cases h1 : b.kind = 4
  · cases h2 : within (spanM a) (spanM b) <;> simp [h1, h2]
  · by_cases h3 : a.kind = 4
    · simp [h1, h3]
    · by_cases h5 : a.key = b.key <;> simp [h1, h3, h5]
theorem join_no {a b : Msg} (h : (joinM a b).2 = false) : (joinM a b).1 = msgE := by
  unfold joinM at *
  split at h
  · cases h
  · rename_i h1
    rw [if_neg h1]
    split at h
    · rename_i h2
      rw [if_pos h2]
    · cases h
theorem within_has {a b : Span} (h : within a b = true) {x : ByteArray} (hx : has a x = true) : has b x = true := by
  unfold within same at h
  have := has_of_norm (by simpa using h) x
  rw [has_meet, hx] at this
  simpa using this
theorem on_wipe {m : Msg} (h : m.kind = 4) (x : ByteArray) : onM m x = if has (spanM m) x = true then ⟨3, em⟩ else keepE := by
  unfold onM
  simp [h]
theorem on_point {m : Msg} (h : m.kind ≠ 4) (x : ByteArray) : onM m x = if x = m.key then (if m.kind = 1 ∨ m.kind = 2 then ⟨m.kind, m.val⟩ else if m.kind = 3 then ⟨3, em⟩ else keepE) else keepE := by
  unfold onM spanM
  rw [if_neg h, has_point]
  by_cases hx : x = m.key
  · simp [hx, h]
  · simp [hx]
theorem then_keep_l {b : Eff} (hb : rightE b = true) : thenE keepE b = b := by
  unfold thenE keepE
  by_cases h0 : b.kind = 0
  · have := rightE_em hb (.inr h0)
    cases b
    simp_all
  · simp [h0]
theorem then_ne {a b : Eff} (ha : rightE a = true) (hb : rightE b = true) (h1 : a.kind ≠ 0) : (thenE a b).kind ≠ 0 ∧ (thenE a b).kind ≠ 4 := by
  have ka := rightE_kind ha
  have kb := rightE_kind hb
  rcases ka with k | k | k | k
  · exact absurd k h1
  all_goals rcases kb with q | q | q | q <;> simp [thenE, k, q]
theorem join_key {a b : Msg} (ha : rightM a = true) (hb : rightM b = true) (ka : a.kind ≠ 4) (kb : b.kind ≠ 4) (hk : a.key = b.key) : (joinM a b).1 = ⟨b.stamp, (thenE (onM a a.key) (onM b b.key)).kind, b.key, b.hi, b.opn, (thenE (onM a a.key) (onM b b.key)).val⟩ := by
  unfold joinM
  rw [if_neg (by omega), if_neg (by simp [ka, kb, hk])]
theorem on_self {a : Msg} (ha : rightM a = true) (ka : a.kind ≠ 4) : (onM a a.key).kind ≠ 0 := by
  have := right_kind ha
  rw [on_point ka, if_pos rfl]
  split
  · show a.kind ≠ 0; omega
  · split
    · show (3 : Int) ≠ 0; omega
    · omega
theorem on_of_eff {j : Msg} {e : Eff} (he : rightE e = true) (h0 : e.kind ≠ 0) (h1 : j.kind = e.kind) (h2 : j.val = e.val) (x : ByteArray) : onM j x = if x = j.key then e else keepE := by
  have hk := rightE_kind he
  rw [on_point (by omega)]
  by_cases hx : x = j.key
  · rw [if_pos hx, if_pos hx]
    split
    · rw [h1, h2]
    · rename_i h3
      rw [if_pos (by omega)]
      have h3' : e.kind = 3 := by omega
      have := rightE_em he (.inl h3')
      cases e
      simp_all
  · rw [if_neg hx, if_neg hx]
theorem join_on {a b : Msg} (ha : rightM a = true) (hb : rightM b = true) (h : (joinM a b).2 = true) (x : ByteArray) : onM (joinM a b).1 x = thenE (onM a x) (onM b x) := by
  by_cases hw : b.kind = 4 ∧ within (spanM a) (spanM b) = true
  · have e : (joinM a b).1 = b := by unfold joinM; rw [if_pos hw]
    rw [e, on_wipe hw.1 x]
    cases hx : has (spanM b) x with
    | true => simp [thenE]
    | false =>
      have : has (spanM a) x = false := by
        cases h2 : has (spanM a) x with
        | false => rfl
        | true => rw [within_has hw.2 h2] at hx; cases hx
      have e2 : onM a x = keepE := by unfold onM; rw [this]; rfl
      rw [e2]
      simp [thenE, keepE]
  · have hn : a.kind ≠ 4 ∧ b.kind ≠ 4 ∧ a.key = b.key := by
      unfold joinM at h
      rw [if_neg hw] at h
      split at h
      · cases h
      · rename_i h2
        exact ⟨fun e => h2 (.inl e), fun e => h2 (.inr (.inl e)), Classical.byContradiction fun e => h2 (.inr (.inr e))⟩
    obtain ⟨ka, kb, hk⟩ := hn
    have hj := join_key ha hb ka kb hk
    have hr := right_then (right_on ha a.key) (right_on hb b.key)
    have hne := then_ne (right_on ha a.key) (right_on hb b.key) (on_self ha ka)
    rw [on_of_eff (j := (joinM a b).1) hr hne.1 (by rw [hj]) (by rw [hj]) x]
    rw [hj]
    simp only
    by_cases hx : x = b.key
    · rw [if_pos hx, hx, ← hk]
    · rw [if_neg hx, on_point ka, on_point kb, if_neg (by rw [hk]; exact hx), if_neg hx]
      simp [thenE, keepE]
theorem join_stamp {a b : Msg} (h : (joinM a b).2 = true) : (joinM a b).1.stamp = b.stamp := by
  unfold joinM at *
  split at h
  · rename_i h1; rw [if_pos h1]
  · rename_i h1
    rw [if_neg h1]
    split at h
    · cases h
    · rename_i h2; rw [if_neg h2]
theorem join_right {a b : Msg} (ha : rightM a = true) (hb : rightM b = true) (h : (joinM a b).2 = true) : rightM (joinM a b).1 = true := by
  by_cases hw : b.kind = 4 ∧ within (spanM a) (spanM b) = true
  · have e : (joinM a b).1 = b := by unfold joinM; rw [if_pos hw]
    rw [e]; exact hb
  · have hn : a.kind ≠ 4 ∧ b.kind ≠ 4 ∧ a.key = b.key := by
      unfold joinM at h
      rw [if_neg hw] at h
      split at h
      · cases h
      · rename_i h2
        exact ⟨fun e => h2 (.inl e), fun e => h2 (.inr (.inl e)), Classical.byContradiction fun e => h2 (.inr (.inr e))⟩
    obtain ⟨ka, kb, hk⟩ := hn
    have hj := join_key ha hb ka kb hk
    have hr := right_then (right_on ha a.key) (right_on hb b.key)
    have hne := then_ne (right_on ha a.key) (right_on hb b.key) (on_self ha ka)
    rw [hj]
    unfold rightM at hb ⊢
    rw [if_neg kb] at hb
    simp only [Bool.and_eq_true, decide_eq_true_eq] at hb
    rw [if_neg (by simpa using hne.2)]
    simp only [Bool.and_eq_true, decide_eq_true_eq]
    exact ⟨⟨hb.1.1, hb.1.2⟩, ⟨⟨by simpa using hne.1, hb.2.1.1.2⟩, hb.2.1.2⟩, hr⟩
theorem join_val_size {a b : Msg} (ha : rightM a = true) (hb : rightM b = true) (h : (joinM a b).2 = true) : (joinM a b).1.key.size ≤ 16 := right_key (join_right ha hb h)
end Go.Proofs.Ytipbbbamjckjoaa
