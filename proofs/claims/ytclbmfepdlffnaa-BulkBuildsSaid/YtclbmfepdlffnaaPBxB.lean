/- A tree made at once, seat by seat: how many each level has so far (plain). -/
import Derived.Test.YtclbmfepdlffnaaPBxA
namespace Go.Proofs.Ytclbmfepdlffnaa
open Go Go.RowKit
set_option linter.unusedVariables false
set_option maxRecDepth 20000
set_option linter.unusedSimpArgs false
theorem VC_suff {P : Program} {w : World} {M0 : Mem} {N : Nat} {c : Code} {s : St} {Q : Post} (R : St → Prop) (h1 : ∀ s', R s' → VC P w M0 N c s' Q) (h2 : (∀ s', R s' → VC P w M0 N c s' Q) → VC P w M0 N c s Q) : VC P w M0 N c s Q := h2 h1
section
variable {l : List Pair} {L : List Nat}
def evenJ (l : List Pair) (L : List Nat) (j : Nat) : List Int := evenL (cntF l L j) (L.getD j 0)
theorem evenJ_len (j : Nat) : (evenJ l L j).length = L.getD j 0 := evenL_len _ _
theorem evenJ_step {j k : Nat} (h : k < L.getD j 0) : (evenJ l L j).take (k + 1) = (evenJ l L j).take k ++ [((parF l L j k : Nat) : Int)] := by
  have h1 : k < (evenJ l L j).length := by rw [evenJ_len]; exact h
  rw [List.take_succ_eq_append_getElem h1]
  congr 2
  exact evenL_get _ _ h1
theorem from_anti {i j : Nat} (h : i < j) (hj : j < L.length) : fromF L j + L.getD j 0 ≤ fromF L i := by
  have : ∀ d i, i + d + 1 < L.length → fromF L (i + d + 1) + L.getD (i + d + 1) 0 ≤ fromF L i := fun d => by
    induction d with
    | zero => intro i hi; rw [from_step hi]; show fromF L (i + 1) + L.getD (i + 1) 0 ≤ _; omega
    | succ d ih =>
      intro i hi
      have h1 := ih (i + 1) (by omega)
      have h2 := from_step (L := L) (i := i) (by omega)
      rw [show i + 1 + d + 1 = i + (d + 1) + 1 by omega] at h1
      omega
  have h1 := this (j - i - 1) i (by omega)
  rwa [show i + (j - i - 1) + 1 = j by omega] at h1
theorem seat_at {s : Nat} (h : s < (rowsF l L).flatten.length) : ∃ i k, i < L.length ∧ k < L.getD i 0 ∧ s = fromF L i + k ∧ (rowsF l L).flatten[s] = seatF l L i k := by
  obtain ⟨i, k, hi, hk, e⟩ := rows_mem (List.getElem_mem h)
  refine ⟨i, k, hi, hk, ?_, e⟩
  have h1 : (buildF l L)[s]? = some (nodeF l L i k) := by rw [← rows_nodes, List.getElem?_map, List.getElem?_eq_getElem h, e]; rfl
  have h2 := up_slotQ L.length (Nat.le_refl _) s _ h1
  have h3 : ((fromF L i + k : Nat) : Int) = (s : Int) := h2
  omega
theorem lvl_next_few' {c : Cfg} (hL : levelsC c (l.length : Int) = L) (hc : okC c = true) {i : Nat} (hi : i < L.length) (h : i + 1 < L.length) : 1 < L.getD i 0 := by
  obtain ⟨f1, f2, l1, l2, _, _⟩ := okC_parts hc
  have he : levelsC c (l.length : Int) = lvlL c.fanout.toNat (fewN l.length c.leaf.toNat) := by
    unfold levelsC at hL ⊢
    split at hL
    · rw [← hL] at hi; exact absurd hi (by simp)
    · rename_i h0; rw [if_neg h0, Int.toNat_natCast]
  rw [hL] at he
  rw [he] at h ⊢
  exact (lvl_next_few (F := c.fanout.toNat) (R := c.leaf.toNat) (by omega) (n := l.length) (i := i) h).1
/-- The counts once s seats are done: of each level, nothing yet, all of it in memory or in hand, or a part in hand. -/
structure PInv (l : List Pair) (L : List Nat) (s : Nat) (pv : List Value) (u : Value) (cs : List Int) (M : Mem) : Prop where
  len : pv.length = L.length
  todo : ∀ j, j < L.length → s ≤ fromF L j → pv[j]? = some (.slice none 0 0)
  done : ∀ j, j < L.length → fromF L j < s → fromF L j + L.getD j 0 ≤ s → ∃ v, pv[j]? = some v ∧ (SlM M 1 intK v (evenJ l L j) ∨ (fromF L j + L.getD j 0 = s ∧ v = u ∧ cs = evenJ l L j))
  now : ∀ j, j < L.length → fromF L j < s → s < fromF L j + L.getD j 0 → pv[j]? = some u ∧ cs = (evenJ l L j).take (s - fromF L j)
  sh : ∃ A c, u = .slice A cs.length c
/-- Ahead of the seat of node k of level i. -/
structure PRdy (l : List Pair) (L : List Nat) (i k : Nat) (pv : List Value) (u : Value) (cs : List Int) (M : Mem) : Prop where
  len : pv.length = L.length
  todo : ∀ j, j < L.length → fromF L i + k < fromF L j → pv[j]? = some (.slice none 0 0)
  done : ∀ j, j < L.length → i < j → ∃ v, pv[j]? = some v ∧ SlM M 1 intK v (evenJ l L j)
  at_ : pv[i]? = some u
  cse : cs = (evenJ l L i).take k
  sh : ∃ A c, u = .slice A cs.length c
theorem PInv.zero (M : Mem) : PInv l L 0 (List.replicate L.length (.slice none 0 0)) (.slice none 0 0) [] M :=
  ⟨by simp, fun j hj _ => by simp [hj], fun j _ h => absurd h (by omega), fun j _ h => absurd h (by omega), ⟨none, 0, rfl⟩⟩
theorem PInv.more (hS : Shape l L) {i k : Nat} (hi : i < L.length) (hk : k < L.getD i 0) (h0 : 0 < k) {pv : List Value} {u : Value} {cs : List Int} {M : Mem} (h : PInv l L (fromF L i + k) pv u cs M) : PRdy l L i k pv u cs M := by
  obtain ⟨h1, h2⟩ := h.now i hi (by omega) (by omega)
  refine ⟨h.len, fun j hj hl => h.todo j hj (by omega), fun j hj hij => ?_, h1, by rw [h2, Nat.add_sub_cancel_left], h.sh⟩
  have h3 := from_anti hij hj
  have h4 := hS.pos j hj
  obtain ⟨v, h5, h6⟩ := h.done j hj (by omega) (by omega)
  rcases h6 with h6 | ⟨h7, _, _⟩
  · exact ⟨v, h5, h6⟩
  · omega
theorem PInv.fresh (hS : Shape l L) {i : Nat} (hi : i < L.length) {pv : List Value} {u : Value} {cs : List Int} {M M' : Mem} (h : PInv l L (fromF L i + 0) pv u cs M) (hM : M.le M') (hu : SlM M' 1 intK u cs) : PRdy l L i 0 pv (.slice none 0 0) [] M' := by
  refine ⟨h.len, fun j hj hl => h.todo j hj (by omega), fun j hj hij => ?_, h.todo i hi (by omega), by rw [List.take_zero], ⟨none, 0, rfl⟩⟩
  have h3 := from_anti hij hj
  have h4 := hS.pos j hj
  obtain ⟨v, h5, h6⟩ := h.done j hj (by omega) (by omega)
  rcases h6 with h6 | ⟨_, h7, h8⟩
  · exact ⟨v, h5, h6.mono hM⟩
  · exact ⟨v, h5, by rw [h7, ← h8]; exact hu⟩
theorem PRdy.next (hS : Shape l L) {i k : Nat} (hi : i < L.length) (hk : k < L.getD i 0) {pv : List Value} {u : Value} {cs : List Int} {M : Mem} (h : PRdy l L i k pv u cs M) {A : Option Addr} {c : Nat} {n : Nat} (hn : n = cs.length + 1) {x : Int} (hx : x = ((parF l L i k : Nat) : Int)) :
    PInv l L (fromF L i + k + 1) (pv.set i (.slice A n c)) (.slice A n c) (cs ++ [x]) M := by
  have hcs : cs ++ [x] = (evenJ l L i).take (k + 1) := by rw [evenJ_step hk, ← h.cse, hx]
  have hil : i < pv.length := by rw [h.len]; exact hi
  refine ⟨by rw [List.length_set]; exact h.len, fun j hj hl => ?_, fun j hj h1 h2 => ?_, fun j hj h1 h2 => ?_, ⟨A, c, by rw [List.length_append, hn]; rfl⟩⟩
  · have hji : i ≠ j := fun e => by subst e; omega
    rw [List.getElem?_set_ne hji]
    exact h.todo j hj (by omega)
  · rcases Nat.lt_trichotomy i j with hij | hij | hij
    · obtain ⟨v, h5, h6⟩ := h.done j hj hij
      exact ⟨v, by rw [List.getElem?_set_ne (by omega)]; exact h5, .inl h6⟩
    · subst hij
      have h3 : k + 1 = L.getD i 0 := by omega
      exact ⟨_, by rw [List.getElem?_set_self hil], .inr ⟨by omega, rfl, by rw [hcs, h3, ← evenJ_len (l := l), List.take_length]⟩⟩
    · have := from_anti hij hi
      omega
  · rcases Nat.lt_trichotomy i j with hij | hij | hij
    · have := from_anti hij hj
      omega
    · subst hij
      exact ⟨by rw [List.getElem?_set_self hil], by rw [hcs, show fromF L i + k + 1 - fromF L i = k + 1 by omega]⟩
    · have := from_anti hij hi
      omega
theorem PInv.end_ (hS : Shape l L) {pv : List Value} {u : Value} {cs : List Int} {M M' : Mem} (h : PInv l L L.sum pv u cs M) (hM : M.le M') (hu : SlM M' 1 intK u cs) : ∀ j, j < L.length → ∃ v, pv[j]? = some v ∧ SlM M' 1 intK v (evenJ l L j) := fun j hj => by
  have h1 := from_sum hj
  have h2 := hS.pos j hj
  obtain ⟨v, h5, h6⟩ := h.done j hj (by omega) h1
  rcases h6 with h6 | ⟨_, h7, h8⟩
  · exact ⟨v, h5, h6.mono hM⟩
  · exact ⟨v, h5, by rw [h7, ← h8]; exact hu⟩
/-- The key of the last row before seat s. -/
def lastK (l : List Pair) (L : List Nat) (s : Nat) : ByteArray := if fromF L 0 < s then pkAt l (offF l L 0 (s - fromF L 0) - 1) else em
theorem lastK_up {i k : Nat} (h0 : 0 < i) (hi : i < L.length) (hk : k < L.getD i 0) : lastK l L (fromF L i + k + 1) = lastK l L (fromF L i + k) := by
  have := from_anti h0 hi
  unfold lastK
  rw [if_neg (by omega), if_neg (by omega)]
theorem lastK_zero : lastK l L (fromF L 0 + 0) = em := if_neg (by omega)
theorem lastK_at {k : Nat} (h : 0 < k) : lastK l L (fromF L 0 + k) = pkAt l (offF l L 0 k - 1) := by
  unfold lastK
  rw [if_pos (by omega), Nat.add_sub_cancel_left]
end
end Go.Proofs.Ytclbmfepdlffnaa
