/- The logic's rules: a part of one's own lent while a part of the code runs; calls with named objects among effects in any order. -/
import Derived.Test.YtdgcdfngpimmmaaPLr7
namespace Go.Proofs.Ytdgcdfngpimmmaa
open Go Go.RowKit
attribute [local irreducible] Calls
set_option linter.unusedVariables false
set_option maxRecDepth 20000
set_option linter.unusedSimpArgs false
set_option maxHeartbeats 4000000
section
variable {P : Program} {w : World} {M0 M : Mem} {N : Nat} {hd : Nat → Value} {own : List Ob} {env : Env} {W : World}
theorem lend_wd2 {ρ : List Nat} {own1 : List Ob} (hR : Wd w M0 hd M own W) (hnd : nodupB ρ = true) (hsub : OwnSub own1 ρ own) :
    ∃ M' : Mem, M.le M' ∧ M'.le (Mem.of W) ∧ (∀ i o b, i ∉ ρ → own[i]? = some o → o ≠ Ob.gone → foot (hd i) = some b → M' b = W.heap[b]?) ∧ Wd w M0 (fun i => hd (ρ.getD i 0)) M' own1 W ∧ ∀ hd' own' W', Wd w M0 hd' M' own' W' → Wd w M0 (fun i => if i < own.length then hd i else hd' (i - own.length)) M (goneAt ρ own ++ own') W' := by
  classical
  let Fb : Nat → Prop := fun b => ∃ i o, i ∉ ρ ∧ own[i]? = some o ∧ o ≠ Ob.gone ∧ foot (hd i) = some b
  let M' : Mem := fun b => if Fb b then W.heap[b]? else M b
  have hFM : ∀ b, Fb b → M b = none := fun b ⟨i, o, _, hi, hne, hf⟩ => hR.sep i o b hi hne hf
  have hF0 : ∀ b, Fb b → w.heap.size ≤ b ∧ b < W.heap.size := fun b ⟨i, o, _, hi, hne, hf⟩ => foot_lt (hR.own i o hi) hne hf
  have hle : M.le M' := fun b x hx => by
    show (if Fb b then W.heap[b]? else M b) = some x
    by_cases hb : Fb b
    · rw [hFM b hb] at hx; cases hx
    · rw [if_neg hb]; exact hx
  have hN : ∀ b, M' b = none → ¬ Fb b ∧ M b = none := fun b hb => by
    by_cases hf : Fb b
    · have : M' b = W.heap[b]? := if_pos hf
      rw [this, Array.getElem?_eq_getElem (hF0 b hf).2] at hb
      cases hb
    · have : M' b = M b := if_neg hf
      exact ⟨hf, this ▸ hb⟩
  have hS := (Sub.rel (N := 0) (ρ := ρ) (s := ⟨M, own, []⟩) (s' := ⟨M, own1, []⟩) ⟨rfl, hnd, hsub, trivial⟩ (hd := hd) (a := ⟨#[], []⟩) (W := W) ⟨hR, ⟨fun t sv ht => (nomatch ht), rfl, rfl⟩⟩).1
  have hmem : M'.le (Mem.of W) := fun b x hx => by
    by_cases hb : Fb b
    · have : M' b = W.heap[b]? := if_pos hb
      rw [this] at hx; exact hx
    · have : M' b = M b := if_neg hb
      rw [this] at hx; exact hR.mem b x hx
  refine ⟨M', hle, hmem, fun i o b h1 h2 h3 h4 => if_pos ⟨i, o, h1, h2, h3, h4⟩, ⟨hS.below, hmem, fun b hb h0 => ?_, hR.grew.trans hle, hS.own, fun i o b hi hne hf => ?_, hS.dis⟩, fun hd' own' W' hW' => ?_⟩
  · have hnf : ¬ Fb b := fun hf => by have := (hF0 b hf).1; omega
    have : M' b = M b := if_neg hnf
    rw [this]; exact hR.old b hb h0
  · have hil := hsub.get i o hi
    have hnf : ¬ Fb b := fun ⟨j, oj, hj, hoj, hjn, hjf⟩ => by
      have := hR.dis _ _ _ _ b hil.2 hoj hne hjn hf hjf
      rw [← this] at hj
      exact hj (rho_mem hil.1)
    have : M' b = M b := if_neg hnf
    rw [this]; exact hS.sep i o b hi hne hf
  · have hln : (goneAt ρ own).length = own.length := len_goneAt ρ own
    have old : ∀ i o, i < own.length → (goneAt ρ own ++ own')[i]? = some o → o ≠ Ob.gone → i ∉ ρ ∧ own[i]? = some o := fun i o hil hi hne => by
      rw [List.getElem?_append_left (by omega)] at hi
      exact goneAt_get ρ own i o hi hne
    have new : ∀ i o, ¬ i < own.length → (goneAt ρ own ++ own')[i]? = some o → own'[i - own.length]? = some o := fun i o hil hi => by
      rw [List.getElem?_append_right (by omega), hln] at hi
      exact hi
    have hFo : ∀ i o b, i ∉ ρ → own[i]? = some o → o ≠ Ob.gone → foot (hd i) = some b → W'.heap[b]? = W.heap[b]? ∧ M' b ≠ none := fun i o b h1 h2 h3 h4 => by
      have hf : Fb b := ⟨i, o, h1, h2, h3, h4⟩
      have e : M' b = W.heap[b]? := if_pos hf
      have hlt := (hF0 b hf).2
      rw [Array.getElem?_eq_getElem hlt] at e ⊢
      exact ⟨hW'.mem b _ e, by rw [e]; simp⟩
    refine ⟨hW'.below, hle.trans hW'.mem, hR.old, hR.grew, fun i o hi => ?_, fun i o b hi hne hf => ?_, fun i j oi oj b hi hj hin hjn hbi hbj => ?_⟩
    · by_cases hil : i < own.length
      · simp only [hil, if_true]
        by_cases hg : o = .gone
        · subst hg; trivial
        · obtain ⟨h1, h2⟩ := old i o hil hi hg
          exact (hR.own i o h2).heap (fun b hb => (hFo i o b h1 h2 hg hb).1)
      · simp only [hil, if_false]
        exact hW'.own _ o (new i o hil hi)
    · by_cases hil : i < own.length
      · simp only [hil, if_true] at hf
        obtain ⟨h1, h2⟩ := old i o hil hi hne
        exact hR.sep i o b h2 hne hf
      · simp only [hil, if_false] at hf
        exact (hN b (hW'.sep _ o b (new i o hil hi) hne hf)).2
    · by_cases hil : i < own.length
      · simp only [hil, if_true] at hbi
        obtain ⟨h1, h2⟩ := old i oi hil hi hin
        by_cases hjl : j < own.length
        · simp only [hjl, if_true] at hbj
          obtain ⟨h3, h4⟩ := old j oj hjl hj hjn
          exact hR.dis i j oi oj b h2 h4 hin hjn hbi hbj
        · simp only [hjl, if_false] at hbj
          exact absurd (hW'.sep _ oj b (new j oj hjl hj) hjn hbj) (hFo i oi b h1 h2 hin hbi).2
      · simp only [hil, if_false] at hbi
        by_cases hjl : j < own.length
        · simp only [hjl, if_true] at hbj
          obtain ⟨h3, h4⟩ := old j oj hjl hj hjn
          exact absurd (hW'.sep _ oi b (new i oi hil hi) hin hbi) (hFo j oj b h3 h4 hjn hbj).2
        · simp only [hjl, if_false] at hbj
          have := hW'.dis _ _ oi oj b (new i oi hil hi) (new j oj hjl hj) hin hjn hbi hbj
          omega
/-- Own objects that code does not look at are memory while it runs. -/
theorem VC_lendG {c : Code} {Q : Post} {own1 : List Ob} (ρ : List Nat) (p : Nat) (hnd : nodupB ρ = true) (hsub : OwnSub own1 ρ own) (hold : envB env p = true) (hid : ∀ i, i < p → ρ.getD i 0 = i)
    (h : ∀ M', M.le M' → (∃ hd W, Wd w M0 hd M own W ∧ ∀ i o b, i ∉ ρ → own[i]? = some o → o ≠ Ob.gone → foot (hd i) = some b → M' b = W.heap[b]?) → VC P w M0 N c ⟨M', own1, env⟩ (fun e s => M'.le s.M ∧ ∃ (ρ2 : List Nat) (pre' rest' : List Ob) (env' : Env) (own2 : List Ob) (f : Nat → Nat), Sub ρ2 s ⟨s.M, pre' ++ rest', env'⟩ ∧ envB env' pre'.length = true ∧ (∀ i, i < pre'.length → f i = own.length + i) ∧ (∀ i o, own2[i]? = some o → (goneAt ρ own ++ (pre' ++ rest'))[f i]? = some o) ∧ (∀ i j, i < own2.length → j < own2.length → f i = f j → i = j) ∧ Q e ⟨M, own2, env'⟩)) :
    VC P w M0 N c ⟨M, own, env⟩ Q := .mk fun hd a W hR => by
  obtain ⟨M', h1, _, h2, h3, h4⟩ := lend_wd2 hR.1 hnd hsub
  have hfr : Fr N (fun i => hd (ρ.getD i 0)) env a := hR.2.upd fun t sv ht => den_agree (fun i hi => by rw [hid i hi]) (envB_get hold t sv ht)
  refine wp_mono ((h M' h1 ⟨hd, W, hR.1, h2⟩).go _ a W ⟨h3, hfr⟩) ?_
  rintro e a' W' ⟨hd', s, hR', hle, ρ2, pre', rest', env', own2, f, hS, hold', hf, hfo, hinj, hq⟩
  have hR2 := hS.rel hR'
  have hWf : Wd w M0 (fun i => hd' (ρ2.getD i 0)) M' (pre' ++ rest') W' := hR2.1.forget hle h3.grew h3.old
  have hb := h4 _ _ _ hWf
  refine ⟨_, ⟨M, own2, env'⟩, ⟨hb.re f hfo hinj, hR2.2.upd fun t sv ht => den_agree (fun i hi => ?_) (envB_get hold' t sv ht)⟩, hq⟩
  show (if f i < own.length then hd (f i) else hd' (ρ2.getD (f i - own.length) 0)) = hd' (ρ2.getD i 0)
  rw [hf i hi, if_neg (by omega), Nat.add_sub_cancel_left]
/-- A call that is handed named objects, as one of some effects. -/
theorem EX_callX {ops : Array Oper} {dst : Option Tmp} {ty : TypeId} {pos : String} {aft : Array Edge} {f : FuncId} {xs : Array Operand} {ats : Array TypeId} {vs : List Value} {own1 : List Ob} {Post : Value → List Ob → Prop} (ρ : List Nat) [hf : CalT P f] (hv : env.vals xs.toList = some vs) (hnd : nodupB ρ = true) (hsub : OwnSub own1 ρ own) (hc : ∀ M', M.le M' → CallX P f vs M' own1 Post) :
    EX P w M0 N ops ⟨dst, .call ⟨.value (.func f), xs, ats⟩, ty, pos, aft, none⟩ ⟨M, own, env⟩ {x : Value × List Ob // Post x.1 x.2} (fun _ => M) (fun x => goneAt ρ own ++ x.1.2) (fun x => .v x.1.1) := ⟨fun hd a W hR => by
  rw [if_pos (by simp [Region.wanted])]
  rw [exec_call (s := ⟨M, own, env⟩) hR.2 hf.h hv]
  simp only [EffRun]
  obtain ⟨M', h1, h2, h3⟩ := lend_wd hR.1 hnd hsub
  refine (hc M' h1 w M0 _ W h2).mono fun e W' ⟨v, hd', own', he, hWd, hp⟩ => ⟨v, he, ⟨⟨v, own'⟩, hp⟩, _, fun i hi => ?_, h3 hd' own' W' hWd, rfl⟩
  show (if i < own.length then hd i else hd' (i - own.length)) = hd i
  rw [if_pos hi], fun x => by show own.length ≤ (goneAt ρ own ++ x.1.2).length; rw [List.length_append, len_goneAt]; omega, fun _ => rfl⟩
end
theorem goneAt_at : ∀ (gs : List Nat) (own : List Ob) (i : Nat), i ∈ gs → i < own.length → (goneAt gs own)[i]? = some .gone
  | j :: gs, own, i, h, hl => by
    unfold goneAt
    by_cases hg : i ∈ gs
    · exact goneAt_at gs _ i hg (by rw [List.length_set]; exact hl)
    · obtain rfl : i = j := by
        rcases List.mem_cons.1 h with h | h
        · exact h
        · exact absurd h hg
      rw [goneAt_ne _ _ _ hg, List.getElem?_set_self hl]
theorem gone_take {gs ρ : List Nat} {own ys : List Ob} {n : Nat} (h : ∀ i ∈ ρ, i ∈ gs) (hn : n ≤ own.length) : (goneAt gs (goneAt ρ own ++ ys)).take n = (goneAt gs own).take n := by
  apply List.ext_getElem?
  intro i
  rw [List.getElem?_take, List.getElem?_take]
  by_cases hi : i < n
  · rw [if_pos hi, if_pos hi]
    by_cases hg : i ∈ gs
    · rw [goneAt_at _ _ _ hg (by rw [List.length_append, len_goneAt]; omega), goneAt_at _ _ _ hg (by omega)]
    · rw [goneAt_ne _ _ _ hg, goneAt_ne _ _ _ hg, List.getElem?_append_left (by rw [len_goneAt]; omega), goneAt_ne _ _ _ (fun h2 => hg (h i h2))]
  · rw [if_neg hi, if_neg hi]
theorem mem_cellW {M : Mem} {W : World} {b o : Nat} (h : M b = W.heap[b]?) : M.cell b o = (Mem.of W).cell b o := by
  unfold Mem.cell Mem.of
  rw [h]
theorem slM_of {α : Type} {M : Mem} {W : World} {k : Nat} {cells : α → List Value} {v : Value} {l : List α} (h : SlM (Mem.of W) k cells v l) (hb : ∀ b, foot v = some b → M b = W.heap[b]?) : SlM M k cells v l := by
  obtain ⟨A, c, rfl, h1, h2, h3⟩ := h
  refine ⟨A, c, rfl, h1, h2, ?_⟩
  rcases h3 with h3 | ⟨b, off, rfl, h4, h5⟩
  · exact .inl h3
  · have e := hb b rfl
    exact .inr ⟨b, off, rfl, by rw [e]; exact h4, fun i hi j x hx => by rw [mem_cellW e]; exact h5 i hi j x hx⟩
section
variable {P : Program} {w : World} {M0 M : Mem} {N : Nat} {env : Env}
theorem nodupB_of : ∀ {l : List Nat}, l.Nodup → nodupB l = true
  | [], _ => rfl
  | x :: l, h => by
    rw [List.nodup_cons] at h
    unfold nodupB
    have : l.all (fun y => !Nat.beq x y) = true := List.all_eq_true.2 fun y hy => by
      rw [beq_no (fun e => h.1 (by rw [e]; exact hy))]; rfl
    rw [this]
    exact nodupB_of h.2
theorem ownsub_of : ∀ {own1 : List Ob} {ρ : List Nat} {own : List Ob}, own1.length = ρ.length → (∀ i o, own1[i]? = some o → own[ρ.getD i 0]? = some o) → OwnSub own1 ρ own
  | [], [], _, _, _ => trivial
  | o :: l, j :: ρ, ow, hl, h => ⟨h 0 o rfl, ownsub_of (by simpa using hl) fun i x hx => by have := h (i + 1) x (by simpa using hx); simpa using this⟩
  | [], _ :: _, _, hl, _ => by simp at hl
  | _ :: _, [], _, hl, _ => by simp at hl
/-- All slots but one are memory while code runs. -/
theorem VC_lendSlot {c : Code} {Q : Post} {b g cc : Nat} {T : List Slt} (pre : List Ob) (k : Nat) (hk : k < T.length) (hold : envB env pre.length = true)
    (h : ∀ M', M.le M' → VC P w M0 N c ⟨M', pre ++ slOb b g cc T.length (T.flatMap oneK) T[k].u T[k].who, env⟩ (fun e s => M'.le s.M ∧ ∃ (ρ2 : List Nat) (pre' : List Ob) (env' : Env) (s' : Slt), Sub ρ2 s ⟨s.M, pre' ++ slOb b g cc T.length ((T.set k s').flatMap oneK) s'.u s'.who, env'⟩ ∧ envB env' pre'.length = true ∧ Q e ⟨M, pre' ++ tabOb b g cc (T.set k s'), env'⟩)) :
    VC P w M0 N c ⟨M, pre ++ tabOb b g cc T, env⟩ Q := by
  have hr : ∀ i, i < pre.length → (List.range' 0 pre.length ++ [pre.length, pre.length + 1, pre.length + (k + 2)]).getD i 0 = i := fun i hi => by
    rw [List.getD_eq_getElem?_getD, List.getElem?_append_left (by simpa using hi), List.getElem?_range' hi]; simp
  have hr2 : ∀ j, (List.range' 0 pre.length ++ [pre.length, pre.length + 1, pre.length + (k + 2)]).getD (pre.length + j) 0 = ([pre.length, pre.length + 1, pre.length + (k + 2)] : List Nat).getD j 0 := fun j => by
    rw [List.getD_eq_getElem?_getD, List.getElem?_append_right (by simp), List.length_range', Nat.add_sub_cancel_left, List.getD_eq_getElem?_getD]
  have hgw : ∀ (pre : List Ob) (T : List Slt) j (hj : j < T.length), (pre ++ tabOb b g cc T)[pre.length + (j + 2)]? = some (whoOb T[j]) := fun pre T j hj => by
    rw [pre_get]
    show (T.map whoOb)[j]? = _
    rw [List.getElem?_map, List.getElem?_eq_getElem hj]; rfl
  have hlen : ∀ (pre : List Ob) (T : List Slt), (pre ++ tabOb b g cc T).length = pre.length + (T.length + 2) := fun pre T => by rw [List.length_append, tabOb_len]
  have hmem : ∀ i, i ∈ (List.range' 0 pre.length ++ [pre.length, pre.length + 1, pre.length + (k + 2)]) ↔ (i < pre.length ∨ i = pre.length ∨ i = pre.length + 1 ∨ i = pre.length + (k + 2)) := fun i => by
    rw [List.mem_append, List.mem_range'_1]
    simp
  refine VC_lendG (own1 := pre ++ slOb b g cc T.length (T.flatMap oneK) T[k].u T[k].who) (List.range' 0 pre.length ++ [pre.length, pre.length + 1, pre.length + (k + 2)]) pre.length (nodupB_of ?_) (ownsub_of (by simp [slOb]) fun i o hi => ?_) hold hr (fun M' hle hF => ?_)
  · rw [List.nodup_append]
    refine ⟨List.nodup_range', by simp, fun a ha b hb => ?_⟩
    have := List.mem_range'_1.1 ha
    simp at hb
    omega
  · by_cases c1 : i < pre.length
    · rw [hr i c1, List.getElem?_append_left c1]
      rwa [List.getElem?_append_left c1] at hi
    · obtain ⟨j, rfl⟩ : ∃ j, i = pre.length + j := ⟨i - pre.length, by omega⟩
      rw [hr2 j]
      rw [pre_get] at hi
      match j, hi with
      | 0, hi => rw [← hi]; exact pre_get (pre := pre) (tab := tabOb b g cc T) 0
      | 1, hi => rw [← hi]; exact pre_get (pre := pre) (tab := tabOb b g cc T) 1
      | 2, hi => rw [← hi]; exact hgw pre T k hk
      | j + 3, hi => simp [slOb] at hi
  · refine VC_mono (h M' hle) fun e s ⟨h1, ρ2, pre', env', s', h2, h3, h4⟩ => ⟨h1, ρ2, pre', slOb b g cc T.length ((T.set k s').flatMap oneK) s'.u s'.who, env', pre' ++ tabOb b g cc (T.set k s'), fun i => if i < pre'.length + 2 then (pre ++ tabOb b g cc T).length + i else if i = pre'.length + (k + 2) then (pre ++ tabOb b g cc T).length + (pre'.length + 2) else pre.length + (i - pre'.length), h2, h3, fun i hi => by simp; omega, fun i o hi => ?_, fun i j hi hj he => ?_, h4⟩
    · have hL : (goneAt (List.range' 0 pre.length ++ [pre.length, pre.length + 1, pre.length + (k + 2)]) (pre ++ tabOb b g cc T)).length = (pre ++ tabOb b g cc T).length := len_goneAt _ _
      have hlt := (List.getElem?_eq_some_iff.1 hi).1
      rw [hlen, List.length_set] at hlt
      try dsimp only
      by_cases c1 : i < pre'.length + 2
      · rw [if_pos c1, ← hL, List.getElem?_append_right (by omega), Nat.add_sub_cancel_left]
        by_cases c2 : i < pre'.length
        · rw [List.getElem?_append_left c2] at hi ⊢
          exact hi
        · obtain ⟨j, rfl⟩ : ∃ j, i = pre'.length + j := ⟨i - pre'.length, by omega⟩
          rw [pre_get] at hi ⊢
          match j, hi with
          | 0, hi =>
            rw [← hi]
            show some (Ob.nblk _ _ (tbC g T.length cc)) = some (Ob.nblk _ _ (tbC g (T.set k s').length cc))
            rw [List.length_set]
          | 1, hi =>
            rw [← hi]
            show some (Ob.nrow (.slice _ T.length cc) _ 2 T.length _) = some (Ob.nrow (.slice _ (T.set k s').length cc) _ 2 (T.set k s').length ((T.set k s').flatMap oneK))
            rw [List.length_set]
          | j + 2, hi => omega
      · rw [if_neg c1]
        obtain ⟨j, rfl⟩ : ∃ j, i = pre'.length + (j + 2) := ⟨i - pre'.length - 2, by omega⟩
        have hj : j < T.length := by omega
        rw [hgw pre' _ j (by rw [List.length_set]; exact hj), List.getElem_set] at hi
        by_cases c4 : j = k
        · subst c4
          rw [if_pos rfl, ← hL, List.getElem?_append_right (by omega), Nat.add_sub_cancel_left, pre_get]
          rw [if_pos rfl] at hi
          rw [← hi]; rfl
        · rw [if_neg (by omega), show pre.length + (pre'.length + (j + 2) - pre'.length) = pre.length + (j + 2) by omega]
          rw [if_neg (by omega)] at hi
          rw [List.getElem?_append_left (by rw [hL, hlen]; omega), goneAt_ne _ _ _ (fun hm => by have := (hmem _).1 hm; omega), hgw pre T j hj]
          exact hi
    · rw [hlen, List.length_set] at hi hj
      have hl2 := hlen pre T
      try dsimp only at he
      repeat' split at he
      all_goals omega
/-- All of the table but its block is memory while code runs. -/
theorem VC_lendOut {c : Code} {Q : Post} {b g cc : Nat} {T : List Slt} (pre : List Ob) (hold : envB env pre.length = true)
    (h : ∀ M', M.le M' → VC P w M0 N c ⟨M', pre ++ [.nblk (.pointer (some ⟨b, 0, none⟩)) 154 (tbC g T.length cc)], env⟩ (fun e s => M'.le s.M ∧ ∃ (ρ2 : List Nat) (pre' : List Ob) (env' : Env), Sub ρ2 s ⟨s.M, pre' ++ [.nblk (.pointer (some ⟨b, 0, none⟩)) 154 (tbC g T.length cc)], env'⟩ ∧ envB env' pre'.length = true ∧ Q e ⟨M, pre' ++ tabOb b g cc T, env'⟩)) :
    VC P w M0 N c ⟨M, pre ++ tabOb b g cc T, env⟩ Q := by
  have hr : ∀ i, i < pre.length + 1 → (List.range' 0 (pre.length + 1)).getD i 0 = i := fun i hi => by
    rw [List.getD_eq_getElem?_getD, List.getElem?_range' hi]; simp
  have h0 : ∀ pre : List Ob, (pre ++ tabOb b g cc T)[pre.length]? = some (.nblk (.pointer (some ⟨b, 0, none⟩)) 154 (tbC g T.length cc)) := fun pre => pre_get (pre := pre) (tab := tabOb b g cc T) 0
  refine VC_lendG (own1 := pre ++ [.nblk (.pointer (some ⟨b, 0, none⟩)) 154 (tbC g T.length cc)]) (List.range' 0 (pre.length + 1)) pre.length (nodupB_range _ _) (ownsub_of (by simp) fun i o hi => ?_) hold (fun i hi => hr i (by omega)) (fun M' hle hF => ?_)
  · have hlt := (List.getElem?_eq_some_iff.1 hi).1
    rw [List.length_append] at hlt
    have hlt : i < pre.length + 1 := hlt
    rw [hr i hlt]
    by_cases c1 : i < pre.length
    · rw [List.getElem?_append_left c1]
      rwa [List.getElem?_append_left c1] at hi
    · obtain rfl : i = pre.length := by omega
      rw [h0]
      rw [List.getElem?_append_right (Nat.le_refl _), Nat.sub_self] at hi
      exact hi
  · refine VC_mono (h M' hle) fun e s ⟨h1, ρ2, pre', env', h2, h3, h4⟩ => ⟨h1, ρ2, pre', [.nblk (.pointer (some ⟨b, 0, none⟩)) 154 (tbC g T.length cc)], env', pre' ++ tabOb b g cc T, fun i => if i < pre'.length + 1 then (pre ++ tabOb b g cc T).length + i else pre.length + (i - pre'.length), h2, h3, fun i hi => by simp; omega, fun i o hi => ?_, fun i j hi hj he => ?_, h4⟩
    · have hL : (goneAt (List.range' 0 (pre.length + 1)) (pre ++ tabOb b g cc T)).length = (pre ++ tabOb b g cc T).length := len_goneAt _ _
      have hlt := (List.getElem?_eq_some_iff.1 hi).1
      rw [List.length_append] at hlt
      try dsimp only
      by_cases c1 : i < pre'.length + 1
      · rw [if_pos c1, ← hL, List.getElem?_append_right (by omega), Nat.add_sub_cancel_left]
        by_cases c2 : i < pre'.length
        · rw [List.getElem?_append_left c2] at hi ⊢
          exact hi
        · obtain rfl : i = pre'.length := by omega
          rw [h0] at hi
          rw [List.getElem?_append_right (Nat.le_refl _), Nat.sub_self]
          exact hi
      · rw [if_neg c1]
        obtain ⟨j, rfl⟩ : ∃ j, i = pre'.length + j := ⟨i - pre'.length, by omega⟩
        rw [pre_get] at hi
        rw [Nat.add_sub_cancel_left, List.getElem?_append_left (by rw [hL, List.length_append]; omega), goneAt_ne _ _ _ (fun hm => by have := List.mem_range'_1.1 hm; omega), pre_get]
        exact hi
    · rw [List.length_append] at hi hj
      have hl2 : (pre ++ tabOb b g cc T).length = pre.length + (tabOb b g cc T).length := List.length_append
      try dsimp only at he
      split at he <;> split at he <;> omega
end
end Go.Proofs.Ytdgcdfngpimmmaa
