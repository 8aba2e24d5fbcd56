/- Which slices a node's parts lie in is nothing to the document's soundness (plain). -/
import Derived.Test.YtclbmfepdlffnaaPSe7
namespace Go.Proofs.Ytclbmfepdlffnaa
open Go Go.RowKit
set_option linter.unusedVariables false
set_option maxRecDepth 20000
set_option linter.unusedSimpArgs false
abbrev nil0 : Value := .slice none 0 0
def strip (n : Nd) : Nd := ⟨n.slot, n.level, nil0, n.ps, nil0, n.ks, n.high, n.top, n.right, n.seen, nil0, n.ms, nil0, n.rs⟩
def stripQ (x : Sq) : Sq := ⟨strip x.n, x.s, x.ms⟩
theorem slotN_strip (s : Int) (l : List Nd) : slotN s (l.map strip) = (slotN s l).map strip := by
  unfold slotN
  rw [List.filter_map]; rfl
theorem findN_strip (l : List Nd) (s : Int) : findN (l.map strip) s = (strip (findN l s).1, (findN l s).2) := by
  unfold findN lastN cntN
  rw [slotN_strip, List.getLast?_map, List.length_map]
  cases (slotN s l).getLast? <;> rfl
theorem kidK_strip (l : List Nd) (x : Sq) (j : Nat) : kidK (l.map strip) (stripQ x) j = stripQ (kidK l x j) := by
  have h := findN_strip l (ksAt x.n.ks j)
  show (⟨(findN (l.map strip) (ksAt x.n.ks j)).1, _, _⟩ : Sq) = _
  rw [h]; rfl
theorem okK_strip (l : List Nd) (x : Sq) (j : Nat) : okK (l.map strip) (stripQ x) j = okK l x j := by
  have h := findN_strip l (ksAt x.n.ks j)
  show ((findN (l.map strip) (ksAt x.n.ks j)).2 && ((findN (l.map strip) (ksAt x.n.ks j)).1.level == x.n.level - 1)) = _
  rw [h]; rfl
theorem innK_strip (l : List Nd) (x : Sq) : innK (l.map strip) (stripQ x) = innK l x := by
  have h : okK (l.map strip) (stripQ x) = okK l x := funext fun j => okK_strip l x j
  unfold innK
  rw [h]; rfl
theorem kidsL_strip (l : List Nd) (x : Sq) : kidsL (l.map strip) (stripQ x) = (kidsL l x).map stripQ := by
  have h : kidK (l.map strip) (stripQ x) = stripQ ∘ kidK l x := funext fun j => kidK_strip l x j
  unfold kidsL
  rw [h]
  show (if (x.n.level == 0) = true then [] else (List.range x.n.ks.length).map (stripQ ∘ kidK l x)) = _
  split
  · rfl
  · rw [List.map_map]
theorem bfs_strip (l : List Nd) : ∀ (f i : Nat) (out : List Sq), bfs (l.map strip) f i (out.map stripQ) = (bfs l f i out).map (List.map stripQ)
  | 0, _, _ => rfl
  | f + 1, i, out => by
    rw [bfs, bfs, List.getElem?_map]
    cases hx : out[i]? with
    | none => rfl
    | some x =>
      dsimp only [Option.map]
      rw [List.length_map, List.length_map, innK_strip, kidsL_strip, ← List.map_append]
      split
      · rfl
      · split
        · exact bfs_strip l f (i + 1) (out ++ kidsL l x)
        · rfl
theorem seatsL_strip (l : List Nd) : seatsL (l.map strip) = (seatsL l).map (List.map stripQ) := by
  have h := findN_strip l 0
  have hr : rootQ (l.map strip) = stripQ (rootQ l) := by unfold rootQ; rw [h]; rfl
  unfold seatsL
  rw [h, hr, List.length_map]
  dsimp only
  split
  · exact bfs_strip l (l.length + 1) 0 [rootQ l]
  · rfl
theorem slotQ_strip (ss : List Sq) : slotQ (ss.map stripQ) = slotQ ss := by
  unfold slotQ
  rw [List.map_map]; rfl
theorem onceR_strip (l : List Nd) (ss : List Sq) : onceR (l.map strip) (ss.map stripQ) = onceR l ss := by
  unfold onceR cntQ
  rw [List.length_map, List.length_map, slotQ_strip, List.all_map]; rfl
theorem linkedF_strip : ∀ ss : List Sq, linkedF (ss.map stripQ) = linkedF ss
  | [] => rfl
  | x :: r => by
    show ((x.n.right == wantR (r.map stripQ) x.n.level) && linkedF (r.map stripQ)) = _
    rw [linkedF_strip r]
    cases r <;> rfl
theorem soundR_strip (c : Cfg) (l : List Nd) : soundR c (l.map strip) = soundR c l := by
  unfold soundR
  rw [seatsL_strip]
  cases seatsL l with
  | none => rfl
  | some ss =>
    dsimp only [Option.map]
    rw [onceR_strip, linkedF_strip, List.length_map, List.all_map]; rfl
theorem big_strip {a b : Nd} (h : strip a = strip b) (hb : b.Big ∧ b.In) : a.Big ∧ a.In := by
  obtain ⟨⟨c1, c2, c3, c4, c5, c6, c7, c8, c9⟩, ⟨d1, d2, d3, d4, d5, d6, d7, d8, d9⟩⟩ := hb
  unfold strip at h
  simp only [Nd.mk.injEq] at h
  obtain ⟨h1, h2, -, h4, -, h6, h7, h8, h9, h10, -, h12, -, h14⟩ := h
  rw [← h1] at d1
  rw [← h2] at d2
  rw [← h9] at d3
  rw [← h10] at d4
  rw [← h7] at d5 c1
  rw [← h4] at d6 c2 c3
  rw [← h6] at d7 c4
  rw [← h12] at d8 c5 c6 c9
  rw [← h14] at d9 c7 c8
  exact ⟨⟨c1, c2, c3, c4, c5, c6, c7, c8, c9⟩, ⟨d1, d2, d3, d4, d5, d6, d7, d8, d9⟩⟩
end Go.Proofs.Ytclbmfepdlffnaa
