/- The nodes that a root leads to, in plain Lean: one behind the other (the document), level by level (the code). -/
import Derived.Test.YtclbmfepdlffnaaPSe1
namespace Go.Proofs.Ytclbmfepdlffnaa
open Go Go.RowKit
attribute [local irreducible] Calls
set_option linter.unusedVariables false
set_option maxRecDepth 20000
set_option linter.unusedSimpArgs false
set_option maxHeartbeats 4000000
/-- A node, the texts that it is for, and the messages that wait for these. -/
structure Sq where
  n : Nd
  s : Span
  ms : List Msg
def ksAt (l : List Int) (j : Nat) : Int := (l[j]?).getD 0
theorem ksAt_eq {l : List Int} {j : Nat} (h : j < l.length) : ksAt l j = l[j] := by simp [ksAt, h]
def kidSpan (x : Sq) (j : Nat) : Span := meet x.s (rangeN x.n.ps j)
def kidK (l : List Nd) (x : Sq) (j : Nat) : Sq := ⟨(findN l (ksAt x.n.ks j)).1, kidSpan x j, mergeL (clipL x.n.ms (kidSpan x j)) (clipL x.ms (kidSpan x j))⟩
def okK (l : List Nd) (x : Sq) (j : Nat) : Bool := (findN l (ksAt x.n.ks j)).2 && ((findN l (ksAt x.n.ks j)).1.level == x.n.level - 1)
def innK (l : List Nd) (x : Sq) : Bool := x.n.level == 0 || (!decide (x.n.level < 0) && rightK x.n.ps x.n.ks && allTo (okK l x) x.n.ks.length)
def kidsL (l : List Nd) (x : Sq) : List Sq := if (x.n.level == 0) = true then [] else (List.range x.n.ks.length).map (kidK l x)
/-- What the document goes through from place i on. -/
def bfs (l : List Nd) : Nat → Nat → List Sq → Option (List Sq)
  | 0, _, _ => none
  | f + 1, i, out => match out[i]? with
    | none => some out
    | some x => if l.length < out.length then none else if innK l x = true then bfs l f (i + 1) (out ++ kidsL l x) else none
def rootQ (l : List Nd) : Sq := ⟨(findN l 0).1, all, []⟩
def seatsL (l : List Nd) : Option (List Sq) := if (findN l 0).2 = true then bfs l (l.length + 1) 0 [rootQ l] else none
/-- What the code goes through, level by level. -/
def lvl (l : List Nd) : Nat → List (List Sq) → List Sq → Option (List (List Sq))
  | 0, _, _ => none
  | f + 1, out, row => if row = [] then some out else
    if row.all (innK l) = true ∧ out.flatten.length + row.length + (row.flatMap (kidsL l)).length ≤ l.length then lvl l f (out ++ [row]) (row.flatMap (kidsL l)) else none
def rowsL (l : List Nd) : Option (List (List Sq)) := if (findN l 0).2 = true then lvl l (l.length + 1) [] [rootQ l] else none
theorem bfs_over (l : List Nd) : ∀ (f i : Nat) (out : List Sq), i < out.length → l.length < out.length → bfs l f i out = none
  | 0, _, _, _, _ => rfl
  | f + 1, i, out, hi, h => by
    unfold bfs
    rw [List.getElem?_eq_getElem hi]
    dsimp only
    rw [if_pos h]
theorem bfs_row (l : List Nd) (f : Nat) : ∀ (row d acc : List Sq), row.all (innK l) = true → d.length + row.length + acc.length + (row.flatMap (kidsL l)).length ≤ l.length →
    bfs l (f + row.length) d.length (d ++ (row ++ acc)) = bfs l f (d.length + row.length) (d ++ (row ++ (acc ++ row.flatMap (kidsL l))))
  | [], d, acc, _, _ => by simp
  | x :: row, d, acc, h, hc => by
    simp only [List.all_cons, Bool.and_eq_true] at h
    simp only [List.flatMap_cons, List.length_cons, List.length_append] at hc
    have e1 : (d ++ (x :: row ++ acc))[d.length]? = some x := by rw [List.getElem?_append_right (Nat.le_refl _)]; simp
    show bfs l (f + row.length + 1) d.length _ = _
    rw [bfs, e1]
    dsimp only
    rw [if_neg (by simp only [List.length_append, List.length_cons]; omega), if_pos h.1]
    have ih := bfs_row l f row (d ++ [x]) (acc ++ kidsL l x) h.2 (by simp only [List.length_append, List.length_cons, List.length_nil]; omega)
    simp only [List.length_append, List.length_cons, List.length_nil, List.append_assoc, List.cons_append, List.nil_append] at ih
    simp only [List.flatMap_cons, List.length_cons, List.append_assoc, List.cons_append]
    rw [ih]
    congr 1
    omega
theorem bfs_bad (l : List Nd) : ∀ (row d acc : List Sq) (f : Nat), row ≠ [] → ¬ (row.all (innK l) = true ∧ d.length + row.length + acc.length + (row.flatMap (kidsL l)).length ≤ l.length) → bfs l f d.length (d ++ (row ++ acc)) = none
  | [], _, _, _, h, _ => absurd rfl h
  | x :: row, d, acc, 0, _, _ => rfl
  | x :: row, d, acc, f + 1, _, hc => by
    have e1 : (d ++ (x :: row ++ acc))[d.length]? = some x := by rw [List.getElem?_append_right (Nat.le_refl _)]; simp
    rw [bfs, e1]
    dsimp only
    split
    · rfl
    · rename_i hlen
      simp only [List.length_append, List.length_cons] at hlen
      split
      · rename_i hx
        by_cases hk : l.length < (d ++ (x :: row ++ acc) ++ kidsL l x).length
        · have hk' := hk
          simp only [List.length_append, List.length_cons] at hk'
          exact bfs_over l f _ _ (by simp only [List.length_append, List.length_cons]; omega) hk
        · simp only [List.length_append, List.length_cons] at hk
          cases row with
          | nil =>
            refine absurd ⟨?_, ?_⟩ hc
            · simp [hx]
            · simp only [List.flatMap_cons, List.flatMap_nil, List.append_nil, List.length_cons, List.length_nil]; simp only [List.length_nil] at hk; omega
          | cons y row =>
            have ih := bfs_bad l (y :: row) (d ++ [x]) (acc ++ kidsL l x) f (by simp) (fun ⟨h1, h2⟩ => hc ⟨by rw [List.all_cons, hx, h1]; rfl, by
              rw [List.flatMap_cons]
              simp only [List.length_append, List.length_cons, List.length_nil] at h2 ⊢
              omega⟩)
            simp only [List.length_append, List.length_cons, List.length_nil, List.append_assoc, List.cons_append, List.nil_append] at ih ⊢
            exact ih
      · rfl
theorem lvl_bfs (l : List Nd) : ∀ (f : Nat) (out : List (List Sq)) (row : List Sq), out.flatten.length + row.length ≤ l.length → l.length + 1 ≤ f + out.flatten.length →
    bfs l (l.length + 1 - out.flatten.length) out.flatten.length (out.flatten ++ row) = (lvl l f out row).map List.flatten
  | 0, out, row, h1, h2 => by omega
  | f + 1, out, row, h1, h2 => by
    rw [lvl]
    by_cases hr : row = []
    · subst hr
      rw [if_pos rfl, List.append_nil, show l.length + 1 - out.flatten.length = (l.length - out.flatten.length) + 1 by simp only [List.length_nil] at h1; omega, bfs, List.getElem?_eq_none (Nat.le_refl _)]
      rfl
    · have hpos : 0 < row.length := List.length_pos_iff.2 hr
      rw [if_neg hr]
      by_cases hc : row.all (innK l) = true ∧ out.flatten.length + row.length + (row.flatMap (kidsL l)).length ≤ l.length
      · rw [if_pos hc]
        have h := bfs_row l (l.length + 1 - (out.flatten.length + row.length)) row out.flatten [] hc.1 (by simpa using hc.2)
        rw [List.append_nil, show l.length + 1 - (out.flatten.length + row.length) + row.length = l.length + 1 - out.flatten.length by omega] at h
        rw [h]
        have ih := lvl_bfs l f (out ++ [row]) (row.flatMap (kidsL l)) (by simpa using hc.2) (by simp only [List.flatten_append, List.flatten_cons, List.flatten_nil, List.append_nil, List.length_append]; omega)
        simp only [List.flatten_append, List.flatten_cons, List.flatten_nil, List.append_nil, List.length_append, List.append_assoc] at ih
        rw [← ih]
        rfl
      · rw [if_neg hc]
        have h := bfs_bad l row out.flatten [] (l.length + 1 - out.flatten.length) hr (by simpa using hc)
        rw [List.append_nil] at h
        rw [h]; rfl
theorem find_pos {l : List Nd} {s : Int} (h : (findN l s).2 = true) : 0 < l.length := by
  have h1 : (cntN s l : Int) = 1 := by simpa [findN] using h
  have := slotN_len s l
  omega
theorem seats_rows (l : List Nd) : seatsL l = (rowsL l).map List.flatten := by
  unfold seatsL rowsL
  by_cases h : (findN l 0).2 = true
  · rw [if_pos h, if_pos h]
    have := find_pos h
    exact lvl_bfs l (l.length + 1) [] [rootQ l] (by simp; omega) (by simp)
  · rw [if_neg h, if_neg h]; rfl
/-- Levels as they follow one another. -/
inductive Chain (l : List Nd) : List Sq → List (List Sq) → Prop
  | nil : Chain l [] []
  | cons (row : List Sq) (tl : List (List Sq)) : row ≠ [] → row.all (innK l) = true → Chain l (row.flatMap (kidsL l)) tl → Chain l row (row :: tl)
theorem lvl_chain (l : List Nd) : ∀ (f : Nat) (out : List (List Sq)) (row : List Sq) (rows : List (List Sq)), lvl l f out row = some rows → ∃ tl, rows = out ++ tl ∧ Chain l row tl
  | 0, _, _, _, h => by cases h
  | f + 1, out, row, rows, h => by
    rw [lvl] at h
    by_cases hr : row = []
    · rw [if_pos hr] at h
      subst hr
      exact ⟨[], by simpa using (Option.some.inj h).symm, .nil⟩
    · rw [if_neg hr] at h
      split at h
      · rename_i hc
        obtain ⟨tl, e, hch⟩ := lvl_chain l f _ _ _ h
        exact ⟨row :: tl, by rw [e]; simp, .cons row tl hr hc.1 hch⟩
      · cases h
theorem rows_chain {l : List Nd} {rows : List (List Sq)} (h : rowsL l = some rows) : (findN l 0).2 = true ∧ Chain l [rootQ l] rows := by
  unfold rowsL at h
  split at h
  · rename_i h0
    obtain ⟨tl, e, hc⟩ := lvl_chain l _ _ _ _ h
    rw [List.nil_append] at e
    subst e
    exact ⟨h0, hc⟩
  · cases h
theorem innK_ok {l : List Nd} {x : Sq} (h : innK l x = true) (h0 : x.n.level ≠ 0) : 0 < x.n.level ∧ rightK x.n.ps x.n.ks = true ∧ ∀ j, j < x.n.ks.length → okK l x j = true := by
  unfold innK at h
  rw [beq_eq_false_iff_ne.2 h0, Bool.false_or, Bool.and_eq_true, Bool.and_eq_true] at h
  obtain ⟨⟨h1, h2⟩, h3⟩ := h
  have h1 : ¬ x.n.level < 0 := by simpa using h1
  exact ⟨by omega, h2, fun j hj => allTo_iff.1 h3 j hj⟩
end Go.Proofs.Ytclbmfepdlffnaa
