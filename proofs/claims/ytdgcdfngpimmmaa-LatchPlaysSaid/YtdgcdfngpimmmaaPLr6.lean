/- What is held by a table and by the document's list: plain Lean. -/
import Derived.Test.YtdgcdfngpimmmaaPLr4
import Derived.Test.YtdgcdfngpimmmaaPLr5
namespace Go.Proofs.Ytdgcdfngpimmmaa
open Go Go.RowKit
set_option linter.unusedVariables false
set_option maxRecDepth 20000
set_option linter.unusedSimpArgs false
/-- Table and list hold the same. -/
structure RL (N : Nat) (T : List Slt) (L : List Hld) : Prop where
  ok : ∀ s ∈ T, SOk N s
  emp : ∀ s ∈ T, s.who = [] → s.how = 0
  mem : ∀ h, h ∈ L ↔ ∃ (i : Nat) (s : Slt), T[i]? = some s ∧ h.slot = (i : Int) ∧ h.thread ∈ s.who ∧ h.write = (s.how == 2)
  key : L.Pairwise fun a b => ¬ (a.thread = b.thread ∧ a.slot = b.slot)
theorem find_key {L : List Hld} {th sl : Int} {h : Hld} (hh : h ∈ L) (h1 : h.thread = th) (h2 : h.slot = sl) : ∃ x ∈ L, L.find? (keyH th sl) = some x ∧ x.thread = th ∧ x.slot = sl := by
  cases hf : L.find? (keyH th sl) with
  | none =>
    rw [List.find?_eq_none] at hf
    have := hf h hh
    exfalso
    apply this
    unfold keyH
    rw [h1, h2]; simp
  | some x =>
    have hx := List.find?_some hf
    unfold keyH at hx
    simp only [Bool.and_eq_true, beq_iff_eq] at hx
    exact ⟨x, List.mem_of_find?_eq_some hf, rfl, hx.1, hx.2⟩
theorem RL.has {N : Nat} {T : List Slt} {L : List Hld} (h : RL N T L) {k : Nat} {s : Slt} (hs : T[k]? = some s) (th : Int) : hasL L th (k : Int) = (decide (th ∈ s.who), decide (th ∈ s.who) && (s.how == 2)) := by
  by_cases hm : th ∈ s.who
  · have hx := (h.mem ⟨th, k, s.how == 2⟩).2 ⟨k, s, hs, rfl, hm, rfl⟩
    obtain ⟨x, hx1, hx2, hx3, hx4⟩ := find_key hx rfl rfl
    unfold hasL
    rw [hx2]
    obtain ⟨i, s', h1, h2, h3, h4⟩ := (h.mem x).1 hx1
    have : i = k := by
      have e : (i : Int) = (k : Int) := h2.symm.trans hx4
      omega
    subst this
    rw [hs] at h1
    obtain rfl := Option.some.inj h1
    simp only
    rw [decide_eq_true hm, h4, Bool.true_and]
  · unfold hasL
    cases hf : L.find? (keyH th (k : Int)) with
    | none => simp only; rw [decide_eq_false hm, Bool.false_and]
    | some x =>
      exfalso
      have hx := List.find?_some hf
      unfold keyH at hx
      simp only [Bool.and_eq_true, beq_iff_eq] at hx
      obtain ⟨i, s', h1, h2, h3, h4⟩ := (h.mem x).1 (List.mem_of_find?_eq_some hf)
      have : i = k := by omega
      subst this
      rw [hs] at h1
      obtain rfl := Option.some.inj h1
      rw [hx.1] at h3
      exact hm h3
theorem RL.hasO {N : Nat} {T : List Slt} {L : List Hld} (h : RL N T L) {sl : Int} (hs : sl < 0 ∨ (T.length : Int) ≤ sl) (th : Int) : hasL L th sl = (false, false) := by
  unfold hasL
  cases hf : L.find? (keyH th sl) with
  | none => rfl
  | some x =>
    exfalso
    have hx := List.find?_some hf
    unfold keyH at hx
    simp only [Bool.and_eq_true, beq_iff_eq] at hx
    obtain ⟨i, s', h1, h2, h3, h4⟩ := (h.mem x).1 (List.mem_of_find?_eq_some hf)
    have := (List.getElem?_eq_some_iff.1 h1).1
    omega
theorem RL.clash {N : Nat} {T : List Slt} {L : List Hld} (h : RL N T L) {k : Nat} {s : Slt} (hs : T[k]? = some s) (hw : Int) (hh : hw = 1 ∨ hw = 2) : L.any (clashH (k : Int) (hw == 2)) = decide (s.how = 2 ∨ (hw = 2 ∧ s.how ≠ 0)) := by
  have hsm : s ∈ T := by obtain ⟨h1, rfl⟩ := List.getElem?_eq_some_iff.1 hs; exact List.getElem_mem h1
  obtain ⟨_, _, _, ok4, _⟩ := h.ok s hsm
  have emp := h.emp s hsm
  by_cases hc : s.how = 2 ∨ (hw = 2 ∧ s.how ≠ 0)
  · rw [decide_eq_true hc]
    have hne : s.how ≠ 0 := by omega
    obtain ⟨t, ht⟩ : ∃ t, t ∈ s.who := by
      cases hw' : s.who with
      | nil => exact absurd (emp hw') hne
      | cons a l => exact ⟨a, by simp⟩
    refine List.any_eq_true.2 ⟨⟨t, k, s.how == 2⟩, (h.mem _).2 ⟨k, s, hs, rfl, ht, rfl⟩, ?_⟩
    unfold clashH
    simp only [beq_self_eq_true, Bool.true_and, Bool.or_eq_true, beq_iff_eq]
    omega
  · rw [decide_eq_false hc]
    refine List.any_eq_false.2 fun x hx => ?_
    obtain ⟨i, s', h1, h2, h3, h4⟩ := (h.mem x).1 hx
    unfold clashH
    intro hcl
    simp only [Bool.and_eq_true, beq_iff_eq, Bool.or_eq_true] at hcl
    have : i = k := by omega
    subst this
    rw [hs] at h1
    obtain rfl := Option.some.inj h1
    rw [h4, beq_iff_eq] at hcl
    have : s.how ≠ 0 := fun e => by rw [ok4 e] at h3; cases h3
    apply hc
    rcases hcl.2 with h5 | h5
    · exact .inr ⟨h5, this⟩
    · exact .inl h5
theorem getset {T : List Slt} {k i : Nat} {s x : Slt} (hk : k < T.length) (h : (T.set k s)[i]? = some x) : (i = k ∧ x = s) ∨ (i ≠ k ∧ T[i]? = some x) := by
  by_cases hik : k = i
  · subst hik
    rw [List.getElem?_set_self hk] at h
    exact .inl ⟨rfl, (Option.some.inj h).symm⟩
  · rw [List.getElem?_set_ne hik] at h
    exact .inr ⟨Ne.symm hik, h⟩
theorem RL.take {N : Nat} {T : List Slt} {L : List Hld} (h : RL N T L) {k : Nat} {s : Slt} (hs : T[k]? = some s) (th hw : Int) (hh : hw = 1 ∨ hw = 2) :
    (takeL (T.length : Int) L th (k : Int) (hw == 2)).1 = (tkR th s.who s.how hw).1 ∧ ∀ u', NSh u' (tkR th s.who s.how hw).2.1.length → RL (N + 1) (T.set k ⟨u', (tkR th s.who s.how hw).2.1, (tkR th s.who s.how hw).2.2⟩) (takeL (T.length : Int) L th (k : Int) (hw == 2)).2 := by
  have hk := (List.getElem?_eq_some_iff.1 hs).1
  have hsm : s ∈ T := by obtain ⟨h1, rfl⟩ := List.getElem?_eq_some_iff.1 hs; exact List.getElem_mem h1
  have hhas := h.has hs th
  have hcl := h.clash hs hw hh
  have hok := fun u' hu' => set_all (k := k) (fun x hx => (h.ok x hx).mono (Nat.le_succ N)) (tk_ok (h.ok s hsm) th hw hh u' hu')
  have same : ∀ (u' : Value) (e : Int), tkR th s.who s.how hw = (e, s.who, s.how) → NSh u' s.who.length → RL (N + 1) (T.set k ⟨u', s.who, s.how⟩) L := fun u' e he hu' => by
    have hok' := hok u' (by rw [he]; exact hu')
    rw [he] at hok'
    refine ⟨hok', set_all h.emp (h.emp s hsm), fun x => ?_, h.key⟩
    rw [h.mem x]
    constructor
    · rintro ⟨i, s', h1, h2⟩
      by_cases hik : k = i
      · subst hik
        rw [hs] at h1
        obtain rfl := Option.some.inj h1
        exact ⟨k, _, List.getElem?_set_self hk, h2⟩
      · exact ⟨i, s', by rw [List.getElem?_set_ne hik]; exact h1, h2⟩
    · rintro ⟨i, s', h1, h2⟩
      rcases getset hk h1 with ⟨rfl, rfl⟩ | ⟨hik, h3⟩
      · exact ⟨i, s, hs, h2⟩
      · exact ⟨i, s', h3, h2⟩
  unfold takeL
  rw [hhas]
  by_cases c1 : th < 0 ∨ th ∈ s.who
  · have e1 : tkR th s.who s.how hw = (2, s.who, s.how) := by unfold tkR; rw [if_pos c1]
    have c2 : th < 0 ∨ (k : Int) < 0 ∨ (T.length : Int) ≤ (k : Int) ∨ decide (th ∈ s.who) = true := by
      rcases c1 with c | c
      · exact .inl c
      · exact .inr (.inr (.inr (decide_eq_true c)))
    rw [if_pos c2]
    have sm := fun u' => same u' 2 e1
    rw [e1] at *
    exact ⟨rfl, fun u' hu' => sm u' hu'⟩
  · have c2 : ¬ (th < 0 ∨ (k : Int) < 0 ∨ (T.length : Int) ≤ (k : Int) ∨ decide (th ∈ s.who) = true) := by
      rw [decide_eq_true_eq]
      simp only [not_or] at c1 ⊢
      exact ⟨c1.1, by omega, by omega, c1.2⟩
    rw [if_neg c2, hcl]
    by_cases c3 : s.how = 2 ∨ (hw = 2 ∧ s.how ≠ 0)
    · have e1 : tkR th s.who s.how hw = (7, s.who, s.how) := by unfold tkR; rw [if_neg c1, if_pos c3]
      rw [if_pos (decide_eq_true c3)]
      have sm := fun u' => same u' 7 e1
      rw [e1] at *
      exact ⟨rfl, fun u' hu' => sm u' hu'⟩
    · have e1 : tkR th s.who s.how hw = (0, insI s.who th, hw) := by unfold tkR; rw [if_neg c1, if_neg c3]
      rw [if_neg (by rw [decide_eq_true_eq]; exact c3)]
      rw [e1]
      simp only [not_or] at c1
      refine ⟨rfl, fun u' hu' => ⟨by have h9 := hok u' (by rw [e1]; exact hu'); rw [e1] at h9; exact h9, set_all h.emp (fun e => ?_), fun x => ?_, ?_⟩⟩
      · have : th ∈ insI s.who th := (mem_ins _ _ _).2 (.inl rfl)
        have e : insI s.who th = [] := e
        rw [e] at this
        cases this
      · have hwho : ∀ t, t ∈ s.who → (s.how == 2) = (hw == 2) := fun t ht => by
          have h0 : s.how ≠ 0 := fun e => by rw [(h.ok s hsm).2.2.2.1 e] at ht; cases ht
          have h1 : ¬ s.how = 2 := fun e => c3 (.inl e)
          have h2 : ¬ hw = 2 := fun e => c3 (.inr ⟨e, h0⟩)
          rw [beq_eq_false_iff_ne.2 h1, beq_eq_false_iff_ne.2 h2]
        rw [List.mem_append, List.mem_singleton, h.mem x]
        constructor
        · rintro (⟨i, s', h1, h2, h3, h4⟩ | rfl)
          · by_cases hik : k = i
            · subst hik
              rw [hs] at h1
              obtain rfl := Option.some.inj h1
              exact ⟨k, _, List.getElem?_set_self hk, h2, (mem_ins _ _ _).2 (.inr h3), by rw [h4]; exact hwho _ h3⟩
            · exact ⟨i, s', by rw [List.getElem?_set_ne hik]; exact h1, h2, h3, h4⟩
          · exact ⟨k, _, List.getElem?_set_self hk, rfl, (mem_ins _ _ _).2 (.inl rfl), rfl⟩
        · rintro ⟨i, s', h1, h2, h3, h4⟩
          rcases getset hk h1 with ⟨rfl, rfl⟩ | ⟨hik, h5⟩
          · rcases (mem_ins _ _ _).1 h3 with h6 | h6
            · right
              obtain ⟨xt, xs, xw⟩ := x
              simp only at h2 h4 h6
              rw [h2, h4, h6]
            · exact .inl ⟨i, s, hs, h2, h6, by rw [h4]; exact (hwho _ h6).symm⟩
          · exact .inl ⟨i, s', h5, h2, h3, h4⟩
      · rw [List.pairwise_append]
        refine ⟨h.key, by simp, fun a ha b hb hc => ?_⟩
        rw [List.mem_singleton.1 hb] at hc
        obtain ⟨i, s', h1, h2, h3, h4⟩ := (h.mem a).1 ha
        have : i = k := by have := hc.2; simp only at this; omega
        subst this
        rw [hs] at h1
        obtain rfl := Option.some.inj h1
        have := hc.1
        simp only at this
        rw [this] at h3
        exact c1.2 h3
theorem RL.takeO {N : Nat} {T : List Slt} {L : List Hld} {sl : Int} (hs : sl < 0 ∨ (T.length : Int) ≤ sl) (th : Int) (wr : Bool) : takeL (T.length : Int) L th sl wr = (2, L) := by
  unfold takeL
  rw [if_pos (by omega)]
end Go.Proofs.Ytdgcdfngpimmmaa
