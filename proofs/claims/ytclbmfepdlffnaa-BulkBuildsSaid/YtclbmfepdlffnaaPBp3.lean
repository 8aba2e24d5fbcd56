/- A tree made at once is sound (plain). -/
import Derived.Test.YtclbmfepdlffnaaPBp2
namespace Go.Proofs.Ytclbmfepdlffnaa
open Go Go.RowKit
set_option linter.unusedVariables false
set_option maxRecDepth 20000
set_option linter.unusedSimpArgs false
structure TreeFit (c : Cfg) (l : List Pair) (L : List Nat) : Prop where
  slots : (L.sum : Int) ≤ c.slots
  bud : 0 ≤ c.budget
  leaf : ∀ k, k < L.getD 0 0 → ((parF l L 0 k : Nat) : Int) ≤ c.leaf
  fan : ∀ i k, i + 1 < L.length → k < L.getD (i + 1) 0 → 2 ≤ parF l L (i + 1) k ∧ ((parF l L (i + 1) k : Nat) : Int) ≤ c.fanout
theorem up_rightP {l : List Pair} (h : KeysUp l) : rightP l = true := by
  unfold rightP
  refine allTo_iff.2 fun i hi => ?_
  have hz := h.sz _ (List.getElem_mem hi)
  have a1 : decide ((l[i].key.size : Int) ≤ 16) = true := decide_eq_true (by omega)
  have a2 : decide ((l[i].val.size : Int) ≤ 16) = true := decide_eq_true (by omega)
  rcases Nat.eq_zero_or_pos i with h0 | h0
  · subst h0
    rw [rowP_zero hi, a1, a2]; rfl
  · rw [rowP_pos hi h0, a1, a2]
    have h1 := h.up (i - 1) i (by omega) hi
    rw [pkAt_eq (show i - 1 < l.length by omega), pkAt_eq hi] at h1
    rw [h1]; rfl
theorem pk_part {l : List Pair} {o m i : Nat} (h : i < m) : pkAt ((l.drop o).take m) i = pkAt l (o + i) := by
  unfold pkAt
  rw [List.getElem?_take, if_pos h, List.getElem?_drop]
theorem part_up {l : List Pair} (h : KeysUp l) (o m : Nat) : KeysUp ((l.drop o).take m) := ⟨fun i j hij hj => by
  rw [List.length_take, List.length_drop] at hj
  rw [pk_part (by omega), pk_part (by omega)]
  exact h.up _ _ (by omega) (by omega), fun p hp => h.sz p (List.mem_of_mem_drop (List.mem_of_mem_take hp))⟩
section
variable {l : List Pair} {L : List Nat}
theorem cnt_zero : cntF l L 0 = l.length := if_pos rfl
theorem rs_mem (hS : Shape l L) {k : Nat} (hkL : k < L.getD 0 0) {p : Pair} (hp : p ∈ rsF l L 0 k) : ∃ q, q < parF l L 0 k ∧ offF l L 0 k + q < l.length ∧ p.key = pkAt l (offF l L 0 k + q) := by
  have he := off_end hS hS.h hkL
  rw [cnt_zero] at he
  unfold rsF at hp
  rw [if_pos rfl] at hp
  obtain ⟨q, hq, rfl⟩ := List.getElem_of_mem hp
  rw [List.length_take, List.length_drop] at hq
  refine ⟨q, by omega, by omega, ?_⟩
  rw [List.getElem_take, List.getElem_drop, pkAt_eq (by omega)]
theorem rs_len (hS : Shape l L) {k : Nat} (hkL : k < L.getD 0 0) : (rsF l L 0 k).length = parF l L 0 k := by
  have he := off_end hS hS.h hkL
  rw [cnt_zero] at he
  unfold rsF
  rw [if_pos rfl, List.length_take, List.length_drop]; omega
theorem lo_next (i k : Nat) : loF l L (i + 1) (k + 1) = loF l L i (offF l L (i + 1) k + parF l L (i + 1) k) := by
  show loF l L i (offF l L (i + 1) (k + 1)) = _
  rw [off_step]
theorem rs_hi (hS : Shape l L) (hk : KeysUp l) {k : Nat} (h1 : k + 1 < L.getD 0 0) {p : Pair} (hp : p ∈ rsF l L 0 k) : lt p.key (loF l L 0 (k + 1)) = true := by
  obtain ⟨q, hq, hn, e⟩ := rs_mem hS (by omega) hp
  have hl := (off_last hS hS.h (show k < L.getD 0 0 by omega) (.inr (by omega))).2 h1
  rw [cnt_zero] at hl
  rw [e]
  show lt _ (loL l (offF l L 0 (k + 1))) = true
  rw [off_step]
  exact loL_gt hk (by omega) hl
theorem rs_lo (hS : Shape l L) (hk : KeysUp l) {k : Nat} (h1 : k < L.getD 0 0) {p : Pair} (hp : p ∈ rsF l L 0 k) : lt p.key (loF l L 0 k) = false := by
  obtain ⟨q, hq, hn, e⟩ := rs_mem hS h1 hp
  rw [e]
  exact loL_le hk (by omega) hn
theorem ps_mem {i k : Nat} {p : ByteArray} (hp : p ∈ psF l L (i + 1) k) : ∃ j, j + 1 < parF l L (i + 1) k ∧ p = loF l L i (offF l L (i + 1) k + j + 1) := by
  unfold psF at hp
  rw [if_neg (by omega), Nat.add_sub_cancel] at hp
  obtain ⟨j, hj, rfl⟩ := List.mem_map.1 hp
  have := List.mem_range.1 hj
  exact ⟨j, by omega, rfl⟩
theorem ps_facts (hS : Shape l L) (hk : KeysUp l) {i k : Nat} (hi : i + 1 < L.length) (hkL : k < L.getD (i + 1) 0) {p : ByteArray} (hp : p ∈ psF l L (i + 1) k) :
    lt (loF l L (i + 1) k) p = true ∧ p.size ≤ 16 ∧ (k + 1 < L.getD (i + 1) 0 → lt p (loF l L (i + 1) (k + 1)) = true) := by
  obtain ⟨j, hj, rfl⟩ := ps_mem hp
  have he := off_end hS hi hkL
  rw [cnt_succ] at he
  refine ⟨lo_up hS hk i (by omega) _ _ (by omega) (by omega), lo_size hS hk i (by omega) _ (by omega), fun h => ?_⟩
  have hl := (off_last hS hi hkL (.inl (by omega))).2 h
  rw [cnt_succ] at hl
  rw [lo_next]
  exact lo_up hS hk i (by omega) _ _ (by omega) hl
theorem node_hasN (i k : Nat) (x : ByteArray) : hasN (nodeF l L i k) x = (!decide (k + 1 < L.getD i 0) || lt x (loF l L i (k + 1))) := by
  unfold hasN
  show (!decide (k + 1 < L.getD i 0) || lt x (if k + 1 < L.getD i 0 then loF l L i (k + 1) else em)) = _
  by_cases h : k + 1 < L.getD i 0
  · rw [if_pos h]
  · rw [decide_eq_false h]; simp
theorem node_end_ok (hS : Shape l L) (hk : KeysUp l) {i k : Nat} (hi : i < L.length) (hkL : k < L.getD i 0) : headOk (nodeF l L i k) = true := by
  unfold headOk
  have a1 : decide ((nodeF l L i k).slot < 0) = false := decide_eq_false (by show ¬ ((fromF L i + k : Nat) : Int) < 0; omega)
  have a2 : decide ((nodeF l L i k).level < 0) = false := decide_eq_false (by show ¬ (i : Int) < 0; omega)
  have a3 : decide ((nodeF l L i k).seen < 0) = false := decide_eq_false (by show ¬ (0 : Int) < 0; omega)
  rw [a1, a2, a3]
  unfold endN
  by_cases h : k + 1 < L.getD i 0
  · have t : (nodeF l L i k).top = false := by show (!decide (k + 1 < L.getD i 0)) = false; rw [decide_eq_true h]; rfl
    have e : (nodeF l L i k).high = loF l L i (k + 1) := if_pos h
    have r : (nodeF l L i k).right = ((fromF L i + k + 1 : Nat) : Int) := if_pos h
    rw [t, if_neg (by simp), e, r]
    have h1 := lo_size hS hk i hi (k + 1) h
    have h2 := lo_up hS hk i hi 0 (k + 1) (by omega) h
    rw [lo_zero] at h2
    have h3 := em_lt h2
    rw [decide_eq_true (by omega), decide_eq_false h3, decide_eq_true (by omega)]; rfl
  · have t : (nodeF l L i k).top = true := by show (!decide (k + 1 < L.getD i 0)) = true; rw [decide_eq_false h]; rfl
    have e : (nodeF l L i k).high = em := if_neg h
    have r : (nodeF l L i k).right = -1 := if_neg h
    rw [t, if_pos rfl, e, r]; rfl
theorem node_right (hS : Shape l L) (hk : KeysUp l) {c : Cfg} (hF : TreeFit c l L) {i k : Nat} (hi : i < L.length) (hkL : k < L.getD i 0) : rightN c (nodeF l L i k) = true := by
  unfold rightN
  rw [node_end_ok hS hk hi hkL, Bool.true_and]
  cases i with
  | zero =>
    rw [if_pos (by rfl)]
    unfold leafN
    have h1 := hF.leaf k hkL
    have h2 := rs_len hS hkL
    have e1 : (nodeF l L 0 k).rs = rsF l L 0 k := rfl
    have e2 : ((((nodeF l L 0 k).ps.length : Int) + ((nodeF l L 0 k).ks.length : Int) + ((nodeF l L 0 k).ms.length : Int)) == 0) = true := rfl
    rw [e1, e2, decide_eq_true (by omega)]
    have h3 : rightP (rsF l L 0 k) = true := by
      unfold rsF
      rw [if_pos rfl]
      exact up_rightP (part_up hk _ _)
    have h4 : (rsF l L 0 k).all (fun p => hasN (nodeF l L 0 k) p.key) = true := List.all_eq_true.2 fun p hp => by
      rw [node_hasN]
      by_cases h : k + 1 < L.getD 0 0
      · rw [rs_hi hS hk h hp]; simp
      · rw [decide_eq_false h]; rfl
    rw [h3, h4]; rfl
  | succ i =>
    rw [if_neg (by show ¬ (((i + 1 : Nat) : Int) == 0) = true; rw [beq_iff_eq]; omega)]
    unfold inrN
    obtain ⟨h1, h2⟩ := hF.fan i k hi hkL
    have e1 : ((nodeF l L (i + 1) k).rs.length : Int) = 0 := by show ((rsF l L (i + 1) k).length : Int) = 0; unfold rsF; rw [if_neg (by omega)]; rfl
    have e2 : (nodeF l L (i + 1) k).ks = ksF l L (i + 1) k := rfl
    have e3 : (nodeF l L (i + 1) k).ps = psF l L (i + 1) k := rfl
    have hrk : rightK (psF l L (i + 1) k) (ksF l L (i + 1) k) = true := by
      unfold rightK
      rw [ps_ris hS hk hi hkL, ps_len, ks_len]
      simp; omega
    rw [e1, e2, e3, ks_len, hrk, decide_eq_true (by omega), decide_eq_true h2]
    unfold innN
    rw [e2, e3]
    have h5 : (ksF l L (i + 1) k).all (fun k => !decide (k < 0)) = true := List.all_eq_true.2 fun x hx => by
      unfold ksF at hx
      rw [if_neg (by omega)] at hx
      obtain ⟨j, _, rfl⟩ := List.mem_map.1 hx
      rw [decide_eq_false (by omega)]; rfl
    have h6 : (psF l L (i + 1) k).all (inP (nodeF l L (i + 1) k)) = true := List.all_eq_true.2 fun p hp => by
      obtain ⟨g1, g2, g3⟩ := ps_facts hS hk hi hkL hp
      unfold inP
      have hne : p ≠ em := fun e => by rw [e, lt_em] at g1; cases g1
      rw [decide_eq_false hne, decide_eq_true (by omega), node_hasN]
      by_cases h : k + 1 < L.getD (i + 1) 0
      · rw [g3 h]; simp
      · rw [decide_eq_false h]; rfl
    have h7 : (nodeF l L (i + 1) k).ms = [] := rfl
    have h8 : rightL [] c.budget = true := by
      unfold rightL
      have : sizeL [] = 0 := rfl
      rw [this, decide_eq_true hF.bud]; rfl
    rw [h5, h6, h7, h8]; rfl
theorem seat_placed (hS : Shape l L) (hk : KeysUp l) {i k : Nat} (hi : i < L.length) (hkL : k < L.getD i 0) : placedQ (seatF l L i k) = true := by
  unfold placedQ
  have e1 : ((seatF l L i k).n.top == (seatF l L i k).s.opn) = true := by
    show ((!decide (k + 1 < L.getD i 0)) == (!decide (k + 1 < L.getD i 0))) = true
    simp
  have e2 : decide ((seatF l L i k).n.high = (seatF l L i k).s.hi) = true := decide_eq_true rfl
  have e3 : (seatF l L i k).n.rs.all (fun p => has (seatF l L i k).s p.key) = true := List.all_eq_true.2 fun p hp => by
    have hp' : p ∈ rsF l L i k := hp
    show has (loSpan (loF l L i) (L.getD i 0) k) p.key = true
    rw [loSpan_has]
    cases i with
    | zero =>
      rw [rs_lo hS hk hkL hp']
      by_cases h : k + 1 < L.getD 0 0
      · rw [rs_hi hS hk h hp']; simp
      · rw [decide_eq_false h]; rfl
    | succ i => unfold rsF at hp'; rw [if_neg (by omega)] at hp'; cases hp'
  have e4 : (seatF l L i k).n.ps.all (fun p => has (seatF l L i k).s p && !decide (p = (seatF l L i k).s.lo)) = true := List.all_eq_true.2 fun p hp => by
    have hp' : p ∈ psF l L i k := hp
    show (has (loSpan (loF l L i) (L.getD i 0) k) p && !decide (p = loF l L i k)) = true
    rw [loSpan_has]
    cases i with
    | zero => cases hp'
    | succ i =>
      obtain ⟨g1, g2, g3⟩ := ps_facts hS hk hi hkL hp'
      have hne : p ≠ loF l L (i + 1) k := fun e => by rw [e, lt_irr] at g1; cases g1
      rw [lt_asy g1, decide_eq_false hne]
      by_cases h : k + 1 < L.getD (i + 1) 0
      · rw [g3 h]; simp
      · rw [decide_eq_false h]; rfl
  have e5 : (seatF l L i k).n.ms = [] := rfl
  rw [e1, e2, e3, e4, e5]; rfl
theorem linkW_range (i : Nat) (hi : i < L.length) : ∀ (m k : Nat), k + m = L.getD i 0 → linkedW ((List.range' k m).map (seatF l L i)) = true
  | 0, k, _ => rfl
  | m + 1, k, h => by
    rw [List.range'_succ, List.map_cons]
    show (((seatF l L i k).n.right == nextR ((List.range' (k + 1) m).map (seatF l L i))) && linkedW ((List.range' (k + 1) m).map (seatF l L i))) = true
    rw [linkW_range i hi m (k + 1) (by omega), Bool.and_true]
    cases m with
    | zero =>
      have r : (seatF l L i k).n.right = -1 := if_neg (by omega)
      rw [r]; rfl
    | succ m =>
      have r : (seatF l L i k).n.right = ((fromF L i + k + 1 : Nat) : Int) := if_pos (by omega)
      rw [r, List.range'_succ, List.map_cons]
      show (((fromF L i + k + 1 : Nat) : Int) == ((fromF L i + (k + 1) : Nat) : Int)) = true
      simp; omega
theorem up_flat : ∀ d, d ≤ L.length → upF l L d = ((List.range d).map fun j => levelF l L (L.length - 1 - j)).flatten
  | 0, _ => rfl
  | d + 1, h => by
    show upF l L d ++ levelF l L (L.length - 1 - d) = _
    rw [up_flat d (by omega), List.range_succ, List.map_append, List.flatten_append]; simp
theorem range_rev (n : Nat) : (List.range n).reverse = (List.range n).map fun j => n - 1 - j := by
  refine List.ext_getElem (by simp) fun i h1 h2 => ?_
  simp
theorem rows_nodes : (rowsF l L).flatten.map Sq.n = buildF l L := by
  unfold rowsF buildF
  rw [up_flat _ (Nat.le_refl _), range_rev, List.map_map, List.map_flatten, List.map_map]
  congr 1
  refine List.map_congr_left fun j _ => ?_
  show (seatRow l L (L.length - 1 - j)).map Sq.n = levelF l L (L.length - 1 - j)
  unfold seatRow levelF
  rw [List.map_map]; rfl
theorem rows_mem {x : Sq} (hx : x ∈ (rowsF l L).flatten) : ∃ i k, i < L.length ∧ k < L.getD i 0 ∧ x = seatF l L i k := by
  obtain ⟨r, hr, hxr⟩ := List.mem_flatten.1 hx
  obtain ⟨i, hi, rfl⟩ := List.mem_map.1 hr
  obtain ⟨k, hk, rfl⟩ := List.mem_map.1 hxr
  exact ⟨i, k, List.mem_range.1 (List.mem_reverse.1 hi), List.mem_range.1 hk, rfl⟩
theorem build_seats (hS : Shape l L) (hk : KeysUp l) : seatsL (buildF l L) = some (rowsF l L).flatten := by
  rw [seats_rows, build_rows hS hk]; rfl
theorem build_sound (hS : Shape l L) (hk : KeysUp l) {c : Cfg} (hF : TreeFit c l L) : soundR c (buildF l L) = true := by
  unfold soundR
  rw [build_seats hS hk]
  dsimp only
  have hn := rows_nodes (l := l) (L := L)
  have hlen : (rowsF l L).flatten.length = (buildF l L).length := by rw [← hn, List.length_map]
  have hsl : slotQ (rowsF l L).flatten = slots (buildF l L) := by
    unfold slotQ slots
    rw [← hn, List.map_map]; rfl
  have h1 : onceR (buildF l L) (rowsF l L).flatten = true := by
    unfold onceR
    rw [hlen]
    have a1 : ((((buildF l L).length : Nat) : Int) != (((buildF l L).length : Nat) : Int)) = false := by simp
    rw [a1]
    refine List.all_eq_true.2 fun n hnm => ?_
    obtain ⟨s, hs, rfl⟩ := List.getElem_of_mem hnm
    have h2 := find_at (build_slot (l := l) (L := L)) hs
    have h3 : ((cntN (s : Int) (buildF l L) : Int) == 1) = true := congrArg Prod.snd h2
    rw [build_slot s hs]
    unfold cntQ
    rw [hsl, ← cnt_slots]
    exact h3
  have h2 : linkedF (rowsF l L).flatten = true := by
    obtain ⟨_, hch⟩ := rows_chain (build_rows hS hk)
    rw [linked_rows hch ((rootQ (buildF l L)).n.level) (fun x hx => by rw [List.mem_singleton.1 hx])]
    refine List.all_eq_true.2 fun r hr => ?_
    obtain ⟨i, hi, rfl⟩ := List.mem_map.1 hr
    have := linkW_range (l := l) i (List.mem_range.1 (List.mem_reverse.1 hi)) (L.getD i 0) 0 (by omega)
    rw [← List.range_eq_range'] at this
    exact this
  have h3 : decide (c.slots < (((buildF l L).length : Nat) : Int)) = false := decide_eq_false (by rw [build_len]; have := hF.slots; omega)
  rw [h1, h2, h3]
  refine List.all_eq_true.2 fun x hx => ?_
  obtain ⟨i, k, hi, hkL, rfl⟩ := rows_mem hx
  unfold seatB younQ
  have hs : decide (c.slots ≤ (seatF l L i k).n.slot) = false := decide_eq_false (by
    show ¬ c.slots ≤ ((fromF L i + k : Nat) : Int)
    have := hF.slots
    have := from_sum hi
    omega)
  have hms : (seatF l L i k).ms = [] := rfl
  have hr : rightN c (seatF l L i k).n = true := node_right hS hk hF hi hkL
  rw [hr, seat_placed hS hk hi hkL, hs, hms]; rfl
/-! The rows of all leaves, one behind the other. -/
theorem parts_join {p : Nat} (hp : 0 < p) : ∀ q, q ≤ p → (List.range q).flatMap (fun k => (l.drop (offE l.length p k)).take (partE l.length p k)) = l.take (offE l.length p q)
  | 0, _ => by rw [offE_zero]; simp
  | q + 1, h => by
    rw [List.range_succ, List.flatMap_append, parts_join hp q (by omega), offE_step, List.take_add]
    simp
theorem leaves_join (hS : Shape l L) : (List.range (L.getD 0 0)).flatMap (rsF l L 0) = l := by
  have hp : 0 < L.getD 0 0 := hS.pos 0 hS.h
  have h1 := parts_join (l := l) hp (L.getD 0 0) (Nat.le_refl _)
  rw [offE_all hp, List.take_length] at h1
  have e : rsF l L 0 = fun k => (l.drop (offE l.length (L.getD 0 0) k)).take (partE l.length (L.getD 0 0) k) := funext fun k => by
    unfold rsF offF parF
    rw [if_pos rfl, cnt_zero]
  rw [e]
  exact h1
end
end Go.Proofs.Ytclbmfepdlffnaa
