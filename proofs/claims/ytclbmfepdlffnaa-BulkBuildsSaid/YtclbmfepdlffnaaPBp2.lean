/- A tree made at once: its nodes, their slots, its seats (plain). -/
import Derived.Test.YtclbmfepdlffnaaPBp1
namespace Go.Proofs.Ytclbmfepdlffnaa
open Go Go.RowKit
set_option linter.unusedVariables false
set_option maxRecDepth 20000
set_option linter.unusedSimpArgs false
/-- How many things level i parts: pairs, or the nodes below. -/
def cntF (l : List Pair) (L : List Nat) (i : Nat) : Nat := if i = 0 then l.length else L.getD (i - 1) 0
def offF (l : List Pair) (L : List Nat) (i k : Nat) : Nat := offE (cntF l L i) (L.getD i 0) k
def parF (l : List Pair) (L : List Nat) (i k : Nat) : Nat := partE (cntF l L i) (L.getD i 0) k
def fromF (L : List Nat) (i : Nat) : Nat := (L.drop (i + 1)).sum
def loF (l : List Pair) (L : List Nat) : Nat → Nat → ByteArray
  | 0, k => loL l (offF l L 0 k)
  | i + 1, k => loF l L i (offF l L (i + 1) k)
def psF (l : List Pair) (L : List Nat) (i k : Nat) : List ByteArray := if i = 0 then [] else (List.range (parF l L i k - 1)).map fun j => loF l L (i - 1) (offF l L i k + j + 1)
def ksF (l : List Pair) (L : List Nat) (i k : Nat) : List Int := if i = 0 then [] else (List.range (parF l L i k)).map fun j => ((fromF L (i - 1) + (offF l L i k + j) : Nat) : Int)
def rsF (l : List Pair) (L : List Nat) (i k : Nat) : List Pair := if i = 0 then (l.drop (offF l L 0 k)).take (parF l L 0 k) else []
def nodeF (l : List Pair) (L : List Nat) (i k : Nat) : Nd :=
  ⟨((fromF L i + k : Nat) : Int), (i : Int), nil0, psF l L i k, nil0, ksF l L i k, if k + 1 < L.getD i 0 then loF l L i (k + 1) else em, !decide (k + 1 < L.getD i 0), if k + 1 < L.getD i 0 then ((fromF L i + k + 1 : Nat) : Int) else -1, 0, nil0, [], nil0, rsF l L i k⟩
def levelF (l : List Pair) (L : List Nat) (i : Nat) : List Nd := (List.range (L.getD i 0)).map (nodeF l L i)
def seatF (l : List Pair) (L : List Nat) (i k : Nat) : Sq := ⟨nodeF l L i k, loSpan (loF l L i) (L.getD i 0) k, []⟩
def seatRow (l : List Pair) (L : List Nat) (i : Nat) : List Sq := (List.range (L.getD i 0)).map (seatF l L i)
/-- The d topmost levels, from the root on. -/
def upF (l : List Pair) (L : List Nat) : Nat → List Nd
  | 0 => []
  | d + 1 => upF l L d ++ levelF l L (L.length - 1 - d)
def buildF (l : List Pair) (L : List Nat) : List Nd := upF l L L.length
structure Shape (l : List Pair) (L : List Nat) : Prop where
  h : 0 < L.length
  top : L.getD (L.length - 1) 0 = 1
  pos : ∀ i, i < L.length → 1 ≤ L.getD i 0
  le0 : L.getD 0 0 ≤ l.length ∨ (l.length = 0 ∧ L.getD 0 0 = 1)
  leS : ∀ i, i + 1 < L.length → L.getD (i + 1) 0 ≤ L.getD i 0
section
variable {l : List Pair} {L : List Nat}
theorem getD_at {i : Nat} (h : i < L.length) : L.getD i 0 = L[i] := by rw [List.getD_eq_getElem?_getD, List.getElem?_eq_getElem h]; rfl
theorem off_step (i k : Nat) : offF l L i (k + 1) = offF l L i k + parF l L i k := offE_step _ _ k
theorem off_zero (i : Nat) : offF l L i 0 = 0 := offE_zero _ _
theorem off_all (hS : Shape l L) {i : Nat} (hi : i < L.length) : offF l L i (L.getD i 0) = cntF l L i := offE_all (by have := hS.pos i hi; omega)
theorem off_mono (i : Nat) {a b : Nat} (h : a ≤ b) : offF l L i a ≤ offF l L i b := offE_mono _ _ h
theorem cnt_le (hS : Shape l L) {i : Nat} (hi : i < L.length) (h2 : 1 < L.getD i 0 ∨ 0 < i ∨ 0 < l.length) : L.getD i 0 ≤ cntF l L i := by
  unfold cntF
  by_cases h0 : i = 0
  · subst h0
    rw [if_pos rfl]
    rcases hS.le0 with h | ⟨h, h1⟩ <;> omega
  · rw [if_neg h0]
    have := hS.leS (i - 1) (by omega)
    rwa [show i - 1 + 1 = i by omega] at this
theorem off_lt (hS : Shape l L) {i a b : Nat} (hi : i < L.length) (h : a < b) (hb : b ≤ L.getD i 0) (h2 : 1 < L.getD i 0 ∨ 0 < i ∨ 0 < l.length) : offF l L i a < offF l L i b :=
  offE_lt (by have := hS.pos i hi; omega) (cnt_le hS hi h2) h
theorem off_end (hS : Shape l L) {i k : Nat} (hi : i < L.length) (hk : k < L.getD i 0) : offF l L i k + parF l L i k ≤ cntF l L i := by
  rw [← off_step, ← off_all hS hi]
  exact off_mono i (by omega)
theorem off_last (hS : Shape l L) {i k : Nat} (hi : i < L.length) (hk : k < L.getD i 0) (h2 : 0 < i ∨ 0 < l.length) : (offF l L i k + parF l L i k < cntF l L i) ↔ (k + 1 < L.getD i 0) := by
  rw [← off_step, ← off_all hS hi]
  constructor
  · intro h
    rcases Nat.lt_or_ge (k + 1) (L.getD i 0) with h3 | h3
    · exact h3
    · have := off_mono (l := l) (L := L) i h3
      omega
  · intro h
    exact off_lt hS hi h (Nat.le_refl _) (.inr h2)
theorem par_pos (hS : Shape l L) {i : Nat} (hi : i < L.length) (h2 : 0 < i ∨ 0 < l.length) (k : Nat) : 1 ≤ parF l L i k := partE_pos (by have := hS.pos i hi; omega) (cnt_le hS hi (.inr h2)) k
theorem cnt_succ (i : Nat) : cntF l L (i + 1) = L.getD i 0 := by unfold cntF; rw [if_neg (by omega), Nat.add_sub_cancel]
theorem lo_zero : ∀ i, loF l L i 0 = em
  | 0 => by unfold loF; rw [off_zero]; exact loL_zero l
  | i + 1 => by unfold loF; rw [off_zero]; exact lo_zero i
theorem lo_up (hS : Shape l L) (hk : KeysUp l) : ∀ (i : Nat), i < L.length → ∀ a b, a < b → b < L.getD i 0 → lt (loF l L i a) (loF l L i b) = true
  | 0, hi, a, b, hab, hb => by
    have h2 : 1 < L.getD 0 0 ∨ 0 < 0 ∨ 0 < l.length := .inl (by omega)
    have h3 := off_lt hS hi hb (Nat.le_refl _) h2
    rw [off_all hS hi] at h3
    have h4 : cntF l L 0 = l.length := if_pos rfl
    exact loL_up hk (off_lt hS hi hab (by omega) h2) (by omega)
  | i + 1, hi, a, b, hab, hb => by
    have h2 : 1 < L.getD (i + 1) 0 ∨ 0 < i + 1 ∨ 0 < l.length := .inr (.inl (by omega))
    have h3 := off_lt hS hi hb (Nat.le_refl _) h2
    rw [off_all hS hi, cnt_succ] at h3
    exact lo_up hS hk i (by omega) _ _ (off_lt hS hi hab (by omega) h2) h3
theorem lo_size (hS : Shape l L) (hk : KeysUp l) : ∀ (i : Nat), i < L.length → ∀ k, k < L.getD i 0 → (loF l L i k).size ≤ 16
  | 0, hi, k, h => by
    refine loL_size hk ?_
    rcases Nat.eq_zero_or_pos k with h0 | h0
    · subst h0; exact .inr (off_zero 0)
    · have h2 : 1 < L.getD 0 0 ∨ 0 < 0 ∨ 0 < l.length := .inl (by omega)
      have h3 := off_lt hS hi h (Nat.le_refl _) h2
      rw [off_all hS hi] at h3
      exact .inl h3
  | i + 1, hi, k, h => by
    have h2 : 1 < L.getD (i + 1) 0 ∨ 0 < i + 1 ∨ 0 < l.length := .inr (.inl (by omega))
    have h3 := off_lt hS hi h (Nat.le_refl _) h2
    rw [off_all hS hi, cnt_succ] at h3
    exact lo_size hS hk i (by omega) _ h3
theorem from_step {i : Nat} (h : i + 1 < L.length) : fromF L i = L.getD (i + 1) 0 + fromF L (i + 1) := by
  unfold fromF
  rw [List.drop_eq_getElem_cons h, List.sum_cons, getD_at h]
theorem from_top (h : 0 < L.length) : fromF L (L.length - 1) = 0 := by
  unfold fromF
  rw [show L.length - 1 + 1 = L.length by omega, List.drop_length]; rfl
theorem from_sum {i : Nat} (h : i < L.length) : fromF L i + L.getD i 0 ≤ L.sum := by
  have h1 : L.sum = (L.take i).sum + (L.drop i).sum := by rw [← List.sum_append, List.take_append_drop]
  rw [List.drop_eq_getElem_cons h, List.sum_cons] at h1
  unfold fromF
  rw [getD_at h]; omega
theorem level_len (i : Nat) : (levelF l L i).length = L.getD i 0 := by unfold levelF; simp
theorem up_len : ∀ d, d ≤ L.length → (upF l L d).length = (L.drop (L.length - d)).sum
  | 0, _ => by simp [upF]
  | d + 1, h => by
    unfold upF
    rw [List.length_append, level_len, up_len d (by omega)]
    have h1 : L.length - (d + 1) < L.length := by omega
    rw [List.drop_eq_getElem_cons h1, List.sum_cons, show L.length - 1 - d = L.length - (d + 1) by omega, getD_at h1, show L.length - (d + 1) + 1 = L.length - d by omega]
    omega
theorem up_from {i : Nat} (h : i < L.length) : (upF l L (L.length - 1 - i)).length = fromF L i := by
  rw [up_len _ (by omega)]
  unfold fromF
  rw [show L.length - (L.length - 1 - i) = i + 1 by omega]
theorem build_len : (buildF l L).length = L.sum := by
  unfold buildF
  rw [up_len _ (Nat.le_refl _)]; simp
theorem up_pre : ∀ d e, ∃ t, upF l L (d + e) = upF l L d ++ t
  | d, 0 => ⟨[], by simp⟩
  | d, e + 1 => by
    obtain ⟨t, h⟩ := up_pre d e
    exact ⟨t ++ levelF l L (L.length - 1 - (d + e)), by rw [← Nat.add_assoc]; show upF l L (d + e) ++ _ = _; rw [h, List.append_assoc]⟩
theorem build_get {i k : Nat} (hi : i < L.length) (hk : k < L.getD i 0) : (buildF l L)[fromF L i + k]? = some (nodeF l L i k) := by
  obtain ⟨t, h⟩ := up_pre (l := l) (L := L) (L.length - 1 - i + 1) i
  rw [show L.length - 1 - i + 1 + i = L.length by omega] at h
  unfold buildF
  rw [h]
  have h2 : upF l L (L.length - 1 - i + 1) = upF l L (L.length - 1 - i) ++ levelF l L i := by
    show _ ++ levelF l L (L.length - 1 - (L.length - 1 - i)) = _
    rw [show L.length - 1 - (L.length - 1 - i) = i by omega]
  have h3 := up_from (l := l) hi
  rw [h2, List.append_assoc, List.getElem?_append_right (by omega), h3, Nat.add_sub_cancel_left, List.getElem?_append_left (by rw [level_len]; exact hk)]
  unfold levelF
  rw [List.getElem?_map, List.getElem?_range hk]; rfl
theorem up_slotQ : ∀ d, d ≤ L.length → ∀ (s : Nat) (n : Nd), (upF l L d)[s]? = some n → n.slot = (s : Int)
  | 0, _, s, n, h => by simp [upF] at h
  | d + 1, hd, s, n, h => by
    have hl := up_from (l := l) (L := L) (i := L.length - 1 - d) (by omega)
    rw [show L.length - 1 - (L.length - 1 - d) = d by omega] at hl
    unfold upF at h
    rcases Nat.lt_or_ge s (upF l L d).length with h1 | h1
    · rw [List.getElem?_append_left h1] at h
      exact up_slotQ d (by omega) s n h
    · rw [List.getElem?_append_right h1] at h
      have h2 := (List.getElem?_eq_some_iff.1 h).1
      rw [level_len] at h2
      unfold levelF at h
      rw [List.getElem?_map, List.getElem?_range h2] at h
      have h3 := Option.some.inj h
      subst h3
      show ((fromF L (L.length - 1 - d) + (s - (upF l L d).length) : Nat) : Int) = _
      rw [hl]
      rw [hl] at h1
      omega
theorem build_slot : ∀ s (h : s < (buildF l L).length), ((buildF l L)[s]).slot = (s : Int) := fun s h => up_slotQ L.length (Nat.le_refl _) s _ (List.getElem?_eq_getElem h)
end
theorem find_at {N : List Nd} (hs : ∀ s (h : s < N.length), (N[s]).slot = (s : Int)) {s : Nat} (h : s < N.length) : findN N (s : Int) = (N[s], true) := by
  have h1 : slotN (s : Int) N = [N[s]] := by
    unfold slotN
    conv => lhs; rw [← List.take_append_drop s N, List.drop_eq_getElem_cons h]
    rw [List.filter_append, List.filter_cons, if_pos (by rw [hs s h]; simp)]
    have e1 : (N.take s).filter (fun n => n.slot == (s : Int)) = [] := List.filter_eq_nil_iff.2 fun a ha => by
      obtain ⟨i, hi, rfl⟩ := List.getElem_of_mem ha
      rw [List.length_take] at hi
      rw [List.getElem_take, hs i (by omega)]
      simp; omega
    have e2 : (N.drop (s + 1)).filter (fun n => n.slot == (s : Int)) = [] := List.filter_eq_nil_iff.2 fun a ha => by
      obtain ⟨i, hi, rfl⟩ := List.getElem_of_mem ha
      rw [List.length_drop] at hi
      rw [List.getElem_drop, hs _ (by omega)]
      simp; omega
    rw [e1, e2]; rfl
  unfold findN lastN cntN
  rw [h1]; rfl
section
variable {l : List Pair} {L : List Nat}
theorem build_find {i k : Nat} (hi : i < L.length) (hk : k < L.getD i 0) : findN (buildF l L) ((fromF L i + k : Nat) : Int) = (nodeF l L i k, true) := by
  have h1 := build_get (l := l) hi hk
  obtain ⟨h2, h3⟩ := List.getElem?_eq_some_iff.1 h1
  rw [find_at build_slot h2, h3]
theorem ks_at (i k : Nat) {j : Nat} (h : j < parF l L (i + 1) k) : ksAt (ksF l L (i + 1) k) j = ((fromF L i + (offF l L (i + 1) k + j) : Nat) : Int) := by
  unfold ksAt ksF
  rw [if_neg (by omega)]
  simp [h]
theorem ks_len (i k : Nat) : (ksF l L (i + 1) k).length = parF l L (i + 1) k := by unfold ksF; rw [if_neg (by omega)]; simp
theorem ps_len (i k : Nat) : (psF l L (i + 1) k).length = parF l L (i + 1) k - 1 := by unfold psF; rw [if_neg (by omega)]; simp
theorem kid_seat (hS : Shape l L) (hk : KeysUp l) {i k j : Nat} (hi : i + 1 < L.length) (hkL : k < L.getD (i + 1) 0) (hj : j < parF l L (i + 1) k) :
    kidK (buildF l L) (seatF l L (i + 1) k) j = seatF l L i (offF l L (i + 1) k + j) ∧ okK (buildF l L) (seatF l L (i + 1) k) j = true := by
  have he := off_end hS hi hkL
  rw [cnt_succ] at he
  have hf := build_find (l := l) (show i < L.length by omega) (show offF l L (i + 1) k + j < L.getD i 0 by omega)
  have hks := ks_at (l := l) (L := L) i k hj
  have hsp : kidSpan (seatF l L (i + 1) k) j = loSpan (loF l L i) (L.getD i 0) (offF l L (i + 1) k + j) := by
    rw [← kid_meet (lo := loF l L i) (n := L.getD i 0) (o := offF l L (i + 1) k) (m := parF l L (i + 1) k) hj he (lo_up hS hk i (by omega))]
    unfold kidSpan
    have e1 : (seatF l L (i + 1) k).n.ps = (List.range (parF l L (i + 1) k - 1)).map fun j => loF l L i (offF l L (i + 1) k + j + 1) := by
      show psF l L (i + 1) k = _
      unfold psF
      rw [if_neg (by omega), Nat.add_sub_cancel]
    have hlast := off_last hS hi hkL (.inl (by omega))
    rw [cnt_succ] at hlast
    have e2 : (seatF l L (i + 1) k).s = ⟨loF l L i (offF l L (i + 1) k), if offF l L (i + 1) k + parF l L (i + 1) k < L.getD i 0 then loF l L i (offF l L (i + 1) k + parF l L (i + 1) k) else em, !decide (offF l L (i + 1) k + parF l L (i + 1) k < L.getD i 0)⟩ := by
      show loSpan (loF l L (i + 1)) (L.getD (i + 1) 0) k = _
      unfold loSpan
      rw [decide_eq_decide.2 hlast]
      have e3 : loF l L (i + 1) (k + 1) = loF l L i (offF l L (i + 1) k + parF l L (i + 1) k) := by
        show loF l L i (offF l L (i + 1) (k + 1)) = _
        rw [off_step]
      by_cases h : k + 1 < L.getD (i + 1) 0
      · rw [if_pos h, if_pos (hlast.2 h), e3]; rfl
      · rw [if_neg h, if_neg (fun h2 => h (hlast.1 h2))]; rfl
    rw [e1, e2]
  constructor
  · unfold kidK
    show (⟨(findN (buildF l L) (ksAt (ksF l L (i + 1) k) j)).1, _, _⟩ : Sq) = _
    rw [hks, hf, hsp]
    rfl
  · unfold okK
    show ((findN (buildF l L) (ksAt (ksF l L (i + 1) k) j)).2 && ((findN (buildF l L) (ksAt (ksF l L (i + 1) k) j)).1.level == ((i + 1 : Nat) : Int) - 1)) = true
    rw [hks, hf]
    show (true && ((i : Int) == ((i + 1 : Nat) : Int) - 1)) = true
    simp
theorem ps_ris (hS : Shape l L) (hk : KeysUp l) {i k : Nat} (hi : i + 1 < L.length) (hkL : k < L.getD (i + 1) 0) : risS (psF l L (i + 1) k) = true := by
  have he := off_end hS hi hkL
  rw [cnt_succ] at he
  unfold risS
  refine allTo_iff.2 fun j hj => ?_
  rw [ps_len] at hj
  unfold risP
  rcases Nat.eq_zero_or_pos j with h | h
  · rw [decide_eq_true h]; rfl
  · have e : ∀ q, q < parF l L (i + 1) k - 1 → sAt (psF l L (i + 1) k) q = loF l L i (offF l L (i + 1) k + q + 1) := fun q hq => by
      unfold psF
      rw [if_neg (by omega), Nat.add_sub_cancel]
      exact sAt_map _ hq
    rw [e _ hj, e _ (by omega), lo_up hS hk i (by omega) _ _ (by omega) (by omega)]
    simp
theorem inn_seat (hS : Shape l L) (hk : KeysUp l) {i k : Nat} (hi : i < L.length) (hkL : k < L.getD i 0) : innK (buildF l L) (seatF l L i k) = true := by
  cases i with
  | zero => exact innK_lev (l := buildF l L) (x := seatF l L 0 k) rfl
  | succ i =>
    refine innK_all (l := buildF l L) (x := seatF l L (i + 1) k) ?_ ?_ ?_
    · show decide (((i + 1 : Nat) : Int) < 0) = false
      exact decide_eq_false (by omega)
    · show rightK (psF l L (i + 1) k) (ksF l L (i + 1) k) = true
      unfold rightK
      rw [ps_ris hS hk hi hkL, ps_len, ks_len]
      have := par_pos hS hi (.inl (by omega)) k
      simp; omega
    · show allTo _ (ksF l L (i + 1) k).length = true
      rw [ks_len]
      exact allTo_iff.2 fun j hj => (kid_seat hS hk hi hkL hj).2
theorem kids_seat (hS : Shape l L) (hk : KeysUp l) {i k : Nat} (hi : i + 1 < L.length) (hkL : k < L.getD (i + 1) 0) : kidsL (buildF l L) (seatF l L (i + 1) k) = ((List.range (parF l L (i + 1) k)).map fun j => offF l L (i + 1) k + j).map (seatF l L i) := by
  rw [kids_all (l := buildF l L) (x := seatF l L (i + 1) k) (by show (((i + 1 : Nat) : Int) == 0) = false; exact beq_eq_false_iff_ne.2 (by omega))]
  show (List.range (ksF l L (i + 1) k).length).map _ = _
  rw [ks_len, List.map_map]
  refine List.map_congr_left fun j hj => ?_
  exact (kid_seat hS hk hi hkL (List.mem_range.1 hj)).1
theorem next_seat (hS : Shape l L) (hk : KeysUp l) {i : Nat} (hi : i + 1 < L.length) : (seatRow l L (i + 1)).flatMap (kidsL (buildF l L)) = seatRow l L i := by
  unfold seatRow
  rw [List.flatMap_map]
  have h1 : (List.range (L.getD (i + 1) 0)).flatMap (fun k => kidsL (buildF l L) (seatF l L (i + 1) k)) = (List.range (L.getD (i + 1) 0)).flatMap (fun k => ((List.range (parF l L (i + 1) k)).map fun j => offF l L (i + 1) k + j).map (seatF l L i)) := by
    rw [List.flatMap_def, List.flatMap_def]
    congr 1
    exact List.map_congr_left fun k hk' => kids_seat hS hk hi (List.mem_range.1 hk')
  rw [h1, ← List.map_flatMap]
  have h2 := range_all (n := cntF l L (i + 1)) (p := L.getD (i + 1) 0) (by have := hS.pos (i + 1) hi; omega)
  rw [cnt_succ] at h2
  unfold parF offF
  rw [cnt_succ, h2]
theorem next_leaf : (seatRow l L 0).flatMap (kidsL (buildF l L)) = [] := by
  rw [List.flatMap_eq_nil_iff]
  intro x hx
  obtain ⟨k, _, rfl⟩ := List.mem_map.1 hx
  exact kids_none (l := buildF l L) rfl
theorem row_len (i : Nat) : (seatRow l L i).length = L.getD i 0 := by unfold seatRow; simp
theorem row_inn (hS : Shape l L) (hk : KeysUp l) {i : Nat} (hi : i < L.length) : (seatRow l L i).all (innK (buildF l L)) = true := List.all_eq_true.2 fun x hx => by
  obtain ⟨k, hk', rfl⟩ := List.mem_map.1 hx
  exact inn_seat hS hk hi (List.mem_range.1 hk')
theorem row_ne (hS : Shape l L) {i : Nat} (hi : i < L.length) : seatRow l L i ≠ [] := fun e => by
  have h1 := row_len (l := l) (L := L) i
  rw [e, List.length_nil] at h1
  have := hS.pos i hi
  omega
theorem lvl_go {N : List Nd} {f : Nat} {out : List (List Sq)} {row : List Sq} (hne : row ≠ []) (h1 : row.all (innK N) = true) (h2 : out.flatten.length + row.length + (row.flatMap (kidsL N)).length ≤ N.length) : lvl N (f + 1) out row = lvl N f (out ++ [row]) (row.flatMap (kidsL N)) := by
  rw [lvl, if_neg hne, if_pos ⟨h1, h2⟩]
theorem lvl_build (hS : Shape l L) (hk : KeysUp l) : ∀ (i : Nat), i < L.length → ∀ (f : Nat) (out : List (List Sq)), i + 2 ≤ f → out.flatten.length = fromF L i → lvl (buildF l L) f out (seatRow l L i) = some (out ++ ((List.range (i + 1)).reverse.map (seatRow l L)))
  | 0, hi, f, out, hf, ho => by
    obtain ⟨f, rfl⟩ : ∃ g, f = g + 2 := ⟨f - 2, by omega⟩
    have hs := from_sum (L := L) hi
    rw [lvl_go (row_ne hS hi) (row_inn hS hk hi) (by rw [next_leaf, row_len, build_len, ho]; simp only [List.length_nil]; omega), next_leaf]
    rw [lvl, if_pos rfl]; rfl
  | i + 1, hi, f, out, hf, ho => by
    obtain ⟨f, rfl⟩ : ∃ g, f = g + 1 := ⟨f - 1, by omega⟩
    have hs := from_sum (L := L) (show i < L.length by omega)
    have hst := from_step hi
    rw [lvl_go (row_ne hS hi) (row_inn hS hk hi) (by rw [next_seat hS hk hi, row_len, row_len, build_len, ho]; omega), next_seat hS hk hi, lvl_build hS hk i (by omega) f _ (by omega) (by rw [List.flatten_append, List.length_append, ho]; simp only [List.flatten_cons, List.flatten_nil, List.append_nil, row_len]; omega)]
    rw [List.range_succ (n := i + 1), List.reverse_append, List.map_append, ← List.append_assoc]; rfl
/-- The tree's seats, level by level from the root on. -/
def rowsF (l : List Pair) (L : List Nat) : List (List Sq) := (List.range L.length).reverse.map (seatRow l L)
theorem build_rows (hS : Shape l L) (hk : KeysUp l) : rowsL (buildF l L) = some (rowsF l L) := by
  have hh := hS.h
  have h0 := build_find (l := l) (L := L) (i := L.length - 1) (k := 0) (by omega) (by rw [hS.top]; omega)
  rw [from_top hh] at h0
  have hroot : [rootQ (buildF l L)] = seatRow l L (L.length - 1) := by
    unfold seatRow rootQ
    rw [hS.top]
    have h1 : findN (buildF l L) 0 = _ := h0
    rw [h1]
    show [_] = [seatF l L (L.length - 1) 0]
    unfold seatF
    congr 1
    have : loSpan (loF l L (L.length - 1)) (L.getD (L.length - 1) 0) 0 = all := by
      unfold loSpan
      rw [hS.top, lo_zero, if_neg (by omega)]; rfl
    rw [this]
  have hsum : L.length ≤ L.sum := by
    have : ∀ (L : List Nat), (∀ i, i < L.length → 1 ≤ L.getD i 0) → L.length ≤ L.sum := fun L => by
      induction L with
      | nil => intro _; simp
      | cons a t ih =>
        intro h
        have h1 := h 0 (by simp)
        have h2 := ih (fun i hi => by have := h (i + 1) (by simp; omega); simpa using this)
        simp at h1 ⊢; omega
    exact this L hS.pos
  have h1 : (findN (buildF l L) 0).2 = true := by
    have h2 : findN (buildF l L) 0 = _ := h0
    rw [h2]
  unfold rowsL
  rw [if_pos h1, hroot, lvl_build hS hk (L.length - 1) (by omega) _ [] (by rw [build_len]; omega) (by rw [from_top hh]; rfl)]
  rw [show L.length - 1 + 1 = L.length by omega]; rfl
end
end Go.Proofs.Ytclbmfepdlffnaa
