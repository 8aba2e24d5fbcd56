/- What is held, in order; letting go: plain Lean. -/
import Derived.Test.YtdgcdfngpimmmaaPLr6
namespace Go.Proofs.Ytdgcdfngpimmmaa
open Go Go.RowKit
set_option linter.unusedVariables false
set_option maxRecDepth 20000
set_option linter.unusedSimpArgs false
abbrev LtH (a b : Hld) : Prop := a.slot < b.slot ∨ (a.slot = b.slot ∧ a.thread < b.thread)
theorem lessH_iff (a b : Hld) : lessH a b = true ↔ LtH a b := by
  unfold lessH LtH
  simp
theorem sorted_unique : ∀ (l m : List Hld), l.Pairwise LtH → m.Pairwise LtH → (∀ x, x ∈ l ↔ x ∈ m) → l = m
  | [], [], _, _, _ => rfl
  | [], b :: m, _, _, h => by have := (h b).2 (by simp); cases this
  | a :: l, [], _, _, h => by have := (h a).1 (by simp); cases this
  | a :: l, b :: m, hl, hm, h => by
    rw [List.pairwise_cons] at hl hm
    have hab : a = b := by
      rcases List.mem_cons.1 ((h a).1 (by simp)) with h1 | h1
      · exact h1
      · rcases List.mem_cons.1 ((h b).2 (by simp)) with h2 | h2
        · exact h2.symm
        · have h3 := hm.1 a h1
          have h4 := hl.1 b h2
          exfalso
          unfold LtH at h3 h4
          omega
    subst hab
    have ir : ∀ x, LtH x x → False := fun x hx => by unfold LtH at hx; omega
    rw [sorted_unique l m hl.2 hm.2 fun x => ⟨fun hx => by
      rcases List.mem_cons.1 ((h x).1 (by simp [hx])) with h1 | h1
      · subst h1; exact (ir _ (hl.1 _ hx)).elim
      · exact h1, fun hx => by
      rcases List.mem_cons.1 ((h x).2 (by simp [hx])) with h1 | h1
      · subst h1; exact (ir _ (hm.1 _ hx)).elim
      · exact h1⟩]
theorem ins_memH (out : List Hld) (h x : Hld) : x ∈ insH out h ↔ x = h ∨ x ∈ out := by
  unfold insH
  have : x ∈ out ↔ x ∈ out.take (posH out h) ∨ x ∈ out.drop (posH out h) := by rw [← List.mem_append, List.take_append_drop]
  rw [List.mem_append, List.mem_cons, this]
  constructor
  · rintro (h | h | h)
    · exact .inr (.inl h)
    · exact .inl h
    · exact .inr (.inr h)
  · rintro (h | h | h)
    · exact .inr (.inl h)
    · exact .inl h
    · exact .inr (.inr h)
theorem pos_split : ∀ (out : List Hld) (h : Hld), out.Pairwise LtH → (∀ x ∈ out, ¬ (x.thread = h.thread ∧ x.slot = h.slot)) → (∀ x ∈ out.take (posH out h), LtH x h) ∧ ∀ x ∈ out.drop (posH out h), LtH h x
  | [], h, _, _ => ⟨fun x hx => by simp at hx, fun x hx => by simp at hx⟩
  | a :: out, h, hs, hk => by
    rw [List.pairwise_cons] at hs
    obtain ⟨i1, i2⟩ := pos_split out h hs.2 (fun x hx => hk x (by simp [hx]))
    cases ha : lessH a h with
    | true =>
      have e : posH (a :: out) h = posH out h + 1 := by unfold posH; rw [List.takeWhile_cons, ha]; rfl
      rw [e]
      refine ⟨fun x hx => ?_, fun x hx => i2 x (by simpa using hx)⟩
      rw [List.take_succ_cons] at hx
      rcases List.mem_cons.1 hx with rfl | hx
      · exact (lessH_iff _ _).1 ha
      · exact i1 x hx
    | false =>
      have e : posH (a :: out) h = 0 := by unfold posH; rw [List.takeWhile_cons, ha]; rfl
      rw [e]
      have h0 : LtH h a := by
        have h1 : ¬ LtH a h := fun h2 => by rw [(lessH_iff _ _).2 h2] at ha; cases ha
        have h2 := hk a (by simp)
        unfold LtH at h1 ⊢
        omega
      refine ⟨fun x hx => by simp at hx, fun x hx => ?_⟩
      rw [List.drop_zero] at hx
      rcases List.mem_cons.1 hx with rfl | hx
      · exact h0
      · have := hs.1 x hx
        unfold LtH at this h0 ⊢
        omega
theorem ins_sorted {out : List Hld} {h : Hld} (hs : out.Pairwise LtH) (hk : ∀ x ∈ out, ¬ (x.thread = h.thread ∧ x.slot = h.slot)) : (insH out h).Pairwise LtH := by
  obtain ⟨h1, h2⟩ := pos_split out h hs hk
  unfold insH
  rw [List.pairwise_append]
  refine ⟨hs.sublist (List.take_sublist _ _), ?_, fun a ha b hb => ?_⟩
  · rw [List.pairwise_cons]
    exact ⟨h2, hs.sublist (List.drop_sublist _ _)⟩
  · have h3 := h1 a ha
    rcases List.mem_cons.1 hb with rfl | hb
    · exact h3
    · have h4 := h2 b hb
      unfold LtH at h3 h4 ⊢
      omega
abbrev NK (a b : Hld) : Prop := ¬ (a.thread = b.thread ∧ a.slot = b.slot)
theorem fold_mem : ∀ (L out : List Hld) (x : Hld), x ∈ L.foldl insH out ↔ x ∈ out ∨ x ∈ L
  | [], out, x => by simp
  | h :: L, out, x => by
    rw [List.foldl_cons, fold_mem L, ins_memH, List.mem_cons]
    constructor
    · rintro ((h | h) | h)
      · exact .inr (.inl h)
      · exact .inl h
      · exact .inr (.inr h)
    · rintro (h | h | h)
      · exact .inl (.inr h)
      · exact .inl (.inl h)
      · exact .inr h
theorem fold_sorted : ∀ (L out : List Hld), out.Pairwise LtH → L.Pairwise NK → (∀ x ∈ out, ∀ y ∈ L, NK x y) → (L.foldl insH out).Pairwise LtH
  | [], out, h, _, _ => h
  | a :: L, out, h, hk, hc => by
    rw [List.pairwise_cons] at hk
    rw [List.foldl_cons]
    refine fold_sorted L _ (ins_sorted h (fun x hx => hc x hx a (by simp))) hk.2 (fun x hx y hy => ?_)
    rcases (ins_memH _ _ _).1 hx with rfl | hx
    · exact hk.1 y hy
    · exact hc x hx y (by simp [hy])
theorem holdsAt_sorted {N k : Nat} {s : Slt} (h : SOk N s) : (holdsAt k s).Pairwise LtH := by
  obtain ⟨_, h2, _⟩ := h
  unfold holdsAt
  rw [List.pairwise_map]
  rw [asc_iff] at h2
  exact h2.imp fun {a b} hab => .inr ⟨rfl, hab⟩
theorem holds_sorted {N : Nat} {T : List Slt} (h : ∀ s ∈ T, SOk N s) : ∀ k, k ≤ T.length → (holdsTo T k).Pairwise LtH
  | 0, _ => by simp [holdsTo]
  | k + 1, hk => by
    rw [holdsTo_step (by omega), List.pairwise_append]
    refine ⟨holds_sorted h k (by omega), holdsAt_sorted (h _ (List.getElem_mem (by omega))), fun a ha b hb => ?_⟩
    obtain ⟨i, hi, h1⟩ := holds_slot ha
    have h2 := (holdsAt_slot hb).1
    exact .inl (by omega)
theorem RL.held {N : Nat} {T : List Slt} {L : List Hld} (h : RL N T L) (x : Hld) : x ∈ L ↔ x ∈ holdsTo T T.length := by
  rw [h.mem x]
  constructor
  · rintro ⟨i, s, h1, h2, h3, h4⟩
    have := mem_holds h1 h3
    obtain ⟨xt, xs, xw⟩ := x
    simp only at h2 h4
    rw [h2, h4]
    exact this
  · intro hx
    unfold holdsTo at hx
    obtain ⟨i, hi, hx⟩ := List.mem_flatMap.1 hx
    have hi := List.mem_range.1 hi
    rw [List.getElem?_eq_getElem hi] at hx
    exact ⟨i, T[i], List.getElem?_eq_getElem hi, holdsAt_slot hx⟩
/-- The document's list in order is what the table tells. -/
theorem RL.all {N : Nat} {T : List Slt} {L : List Hld} (h : RL N T L) (th : Int) (any : Bool) : pickL (selH th any) T = allL L th any := by
  unfold pickL allL
  refine sorted_unique _ _ ((holds_sorted h.ok T.length (Nat.le_refl _)).sublist List.filter_sublist) (fold_sorted _ _ (by simp) (h.key.sublist List.filter_sublist) (fun x hx => by simp at hx)) (fun x => ?_)
  rw [fold_mem, List.mem_filter, List.mem_filter, h.held x]
  simp
theorem keep_key (th sl : Int) (h : Hld) : keepW th sl false h = !keyH th sl h := by
  unfold keepW keyH
  rw [bne, bne]
  cases (h.thread == th) <;> cases (h.slot == sl) <;> rfl
theorem len_split (L : List Hld) (p : Hld → Bool) : L.length = (L.filter p).length + (L.filter fun x => !p x).length := by
  induction L with
  | nil => rfl
  | cons a L ih =>
    rw [List.filter_cons, List.filter_cons]
    cases p a <;> simp <;> omega
theorem key_count {L : List Hld} (hk : L.Pairwise NK) (th sl : Int) : (L.filter (keyH th sl)).length ≤ 1 := by
  have h1 : (L.filter (keyH th sl)).Pairwise NK := hk.sublist List.filter_sublist
  have h2 : ∀ x ∈ L.filter (keyH th sl), x.thread = th ∧ x.slot = sl := fun x hx => by
    have := (List.mem_filter.1 hx).2
    unfold keyH at this
    simpa using this
  match hm : L.filter (keyH th sl), h1, h2 with
  | [], _, _ => exact Nat.zero_le _
  | [a], _, _ => exact Nat.le_refl _
  | a :: b :: r, h1, h2 =>
    exfalso
    have ha := h2 a (by simp)
    have hb := h2 b (by simp)
    have := (List.pairwise_cons.1 h1).1 b (by simp)
    exact this ⟨ha.1.trans hb.1.symm, ha.2.trans hb.2.symm⟩
theorem RL.count {N : Nat} {T : List Slt} {L : List Hld} (h : RL N T L) (th sl : Int) : ((L.length : Int) - ((L.filter (keepW th sl false)).length : Nat) == 1) = (hasL L th sl).1 := by
  have e : L.filter (keepW th sl false) = L.filter fun x => !keyH th sl x := by
    congr 1
    funext x
    exact keep_key th sl x
  have h1 := len_split L (keyH th sl)
  have h2 := key_count h.key th sl
  rw [e]
  unfold hasL
  cases hf : L.find? (keyH th sl) with
  | none =>
    simp only
    have : L.filter (keyH th sl) = [] := by
      rw [List.filter_eq_nil_iff]
      exact List.find?_eq_none.1 hf
    rw [this] at h1
    simp only [List.length_nil, Nat.zero_add] at h1
    exact beq_eq_false_iff_ne.2 (by omega)
  | some x =>
    simp only
    have hx : x ∈ L.filter (keyH th sl) := List.mem_filter.2 ⟨List.mem_of_find?_eq_some hf, List.find?_some hf⟩
    have := List.length_pos_iff.2 (List.ne_nil_of_mem hx)
    exact beq_iff_eq.2 (by omega)
theorem rl_who (t : Int) (who : List Int) (how : Int) (x : Int) : x ∈ (rlR t who how).2.1 ↔ x ∈ who ∧ x ≠ t := by
  unfold rlR
  split
  · exact kp_mem
  · rename_i h
    exact ⟨fun hx => ⟨hx, fun e => h (e ▸ hx)⟩, fun hx => hx.1⟩
theorem rl_how {N : Nat} {s : Slt} (t x : Int) (hx : x ∈ (rlR t s.who s.how).2.1) : (rlR t s.who s.how).2.2 = s.how := by
  unfold rlR at hx ⊢
  split at hx
  · rename_i h
    rw [if_pos h]
    simp only
    rw [if_neg (fun e => by have := List.length_eq_zero_iff.1 e; rw [this] at hx; cases hx)]
  · rename_i h
    rw [if_neg h]
theorem rl_emp {s : Slt} (t : Int) (he : s.who = [] → s.how = 0) (h : (rlR t s.who s.how).2.1 = []) : (rlR t s.who s.how).2.2 = 0 := by
  unfold rlR at h ⊢
  split at h
  · rename_i hc
    rw [if_pos hc]
    simp only at h ⊢
    rw [if_pos (by rw [h]; rfl)]
  · rename_i hc
    rw [if_neg hc]
    exact he h
theorem RL.release {N : Nat} {T : List Slt} {L : List Hld} (h : RL N T L) {k : Nat} {s : Slt} (hs : T[k]? = some s) (th : Int) (u' : Value) (hu : NSh u' (rlR th s.who s.how).2.1.length) : RL N (T.set k ⟨u', (rlR th s.who s.how).2.1, (rlR th s.who s.how).2.2⟩) (L.filter (keepW th (k : Int) false)) := by
  have hk := (List.getElem?_eq_some_iff.1 hs).1
  have hsm : s ∈ T := by obtain ⟨h1, rfl⟩ := List.getElem?_eq_some_iff.1 hs; exact List.getElem_mem h1
  refine ⟨set_all h.ok (rl_ok (h.ok s hsm) th u' hu), set_all h.emp (fun e => rl_emp th (h.emp s hsm) e), fun x => ?_, h.key.sublist List.filter_sublist⟩
  rw [List.mem_filter, keep_key, h.mem x]
  have hkey : (!keyH th (k : Int) x) = true ↔ ¬ (x.thread = th ∧ x.slot = (k : Int)) := ⟨fun h e => by unfold keyH at h; rw [e.1, e.2] at h; simp at h, fun h => by
    cases hk2 : keyH th (k : Int) x with
    | false => rfl
    | true =>
      unfold keyH at hk2
      simp at hk2
      exact absurd hk2 h⟩
  rw [hkey]
  constructor
  · rintro ⟨⟨i, s', h1, h2, h3, h4⟩, h5⟩
    by_cases hik : k = i
    · subst hik
      rw [hs] at h1
      obtain rfl := Option.some.inj h1
      have hm := (rl_who th s.who s.how x.thread).2 ⟨h3, fun e => h5 ⟨e, h2⟩⟩
      exact ⟨k, _, List.getElem?_set_self hk, h2, hm, by rw [h4]; show _ = ((rlR th s.who s.how).2.2 == 2); rw [rl_how (N := N) th _ hm]⟩
    · exact ⟨i, s', by rw [List.getElem?_set_ne hik]; exact h1, h2, h3, h4⟩
  · rintro ⟨i, s', h1, h2, h3, h4⟩
    rcases getset hk h1 with ⟨rfl, rfl⟩ | ⟨hik, h5⟩
    · have hm := (rl_who th s.who s.how x.thread).1 h3
      refine ⟨⟨i, s, hs, h2, hm.1, ?_⟩, fun e => hm.2 e.1⟩
      rw [h4]
      show ((rlR th s.who s.how).2.2 == 2) = _
      rw [rl_how (N := N) th _ h3]
    · exact ⟨⟨i, s', h5, h2, h3, h4⟩, fun e => by have := h2.symm.trans e.2; omega⟩
theorem RL.drop {N : Nat} {T T' : List Slt} {L : List Hld} (h : RL N T L) (th : Int) (hl : T'.length = T.length) (hok : ∀ s ∈ T', SOk N s) (hr : ∀ (k : Nat) (s s' : Slt), T[k]? = some s → T'[k]? = some s' → (s'.who, s'.how) = (rlR th s.who s.how).2) : RL N T' (L.filter (keepW th 0 true)) ∧ ((pickL (fun h => h.thread == th) T).length : Int) = (L.length : Int) - ((L.filter (keepW th 0 true)).length : Nat) := by
  have hget : ∀ (i : Nat) (s' : Slt), T'[i]? = some s' → ∃ s, T[i]? = some s ∧ s ∈ T ∧ s'.who = (rlR th s.who s.how).2.1 ∧ s'.how = (rlR th s.who s.how).2.2 := fun i s' h1 => by
    have hi := (List.getElem?_eq_some_iff.1 h1).1
    have h2 : T[i]? = some T[i] := List.getElem?_eq_getElem (by omega)
    have h3 := hr i _ _ h2 h1
    exact ⟨_, h2, List.getElem_mem _, congrArg Prod.fst h3, congrArg Prod.snd h3⟩
  have hkw : ∀ x : Hld, keepW th 0 true x = true ↔ x.thread ≠ th := fun x => by unfold keepW; simp
  refine ⟨⟨hok, fun s' hs' => ?_, fun x => ?_, h.key.sublist List.filter_sublist⟩, ?_⟩
  · obtain ⟨i, hi, rfl⟩ := List.getElem_of_mem hs'
    obtain ⟨s, h1, h2, h3, h4⟩ := hget i _ (List.getElem?_eq_getElem hi)
    rw [h3, h4]
    exact rl_emp th (h.emp s h2)
  · rw [List.mem_filter, hkw, h.mem x]
    constructor
    · rintro ⟨⟨i, s, h1, h2, h3, h4⟩, h5⟩
      have hi := (List.getElem?_eq_some_iff.1 h1).1
      have h6 : T'[i]? = some T'[i] := List.getElem?_eq_getElem (by omega)
      obtain ⟨s0, h7, _, h8, h9⟩ := hget i _ h6
      rw [h1] at h7
      obtain rfl := Option.some.inj h7
      have hm := (rl_who th s.who s.how x.thread).2 ⟨h3, h5⟩
      exact ⟨i, _, h6, h2, by rw [h8]; exact hm, by rw [h9, h4, rl_how (N := N) th _ hm]⟩
    · rintro ⟨i, s', h1, h2, h3, h4⟩
      obtain ⟨s, h7, _, h8, h9⟩ := hget i _ h1
      rw [h8] at h3
      have hm := (rl_who th s.who s.how x.thread).1 h3
      exact ⟨⟨i, s, h7, h2, hm.1, by rw [h4, h9, rl_how (N := N) th _ h3]⟩, hm.2⟩
  · have e1 : pickL (fun h => h.thread == th) T = allL L th false := by
      have := h.all th false
      have e : (fun h : Hld => h.thread == th) = selH th false := by funext x; unfold selH; rfl
      rw [e]
      exact this
    have e2 : (allL L th false).length = (L.filter (selH th false)).length := by
      unfold allL
      rw [fold_len]; simp
    have h1 := len_split L (selH th false)
    have e3 : L.filter (keepW th 0 true) = L.filter fun x => !selH th false x := by
      congr 1
      funext x
      unfold keepW selH
      rw [bne]; simp
    rw [e1, e2, e3]
    omega
theorem RL.new (m : Nat) : RL 0 (List.replicate m ⟨.slice none 0 0, [], 0⟩) [] := by
  refine ⟨fun s hs => by rw [List.eq_of_mem_replicate hs]; exact sok_zero, fun s hs _ => by rw [List.eq_of_mem_replicate hs], fun x => ⟨fun hx => (nomatch hx), ?_⟩, List.Pairwise.nil⟩
  rintro ⟨i, s, h1, h2, h3, h4⟩
  obtain ⟨hi, rfl⟩ := List.getElem?_eq_some_iff.1 h1
  rw [List.getElem_replicate] at h3
  cases h3
theorem RL.mono {N N' : Nat} {T : List Slt} {L : List Hld} (h : RL N T L) (hn : N ≤ N') : RL N' T L := ⟨fun s hs => (h.ok s hs).mono hn, h.emp, h.mem, h.key⟩
end Go.Proofs.Ytdgcdfngpimmmaa
