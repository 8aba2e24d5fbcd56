/- Which slices a node's parts lie in is nothing to the document's soundness, nor to the image (plain). -/
import Derived.Test.YtlapnbklbpeddaaGreatPIm14
namespace Go.Proofs.YtlapnbklbpeddaaGreat
open Go Go.RowKit
set_option linter.unusedVariables false
set_option maxRecDepth 20000
set_option linter.unusedSimpArgs false
def strip (n : Nd) : Nd := ⟨n.slot, n.level, nil0, n.ps, nil0, n.ks, n.high, n.top, n.right, n.seen, nil0, n.ms, nil0, n.rs⟩
def stripQ (x : Sq) : Sq := ⟨strip x.n, x.s, x.ms⟩
theorem slotN_strip (s : Int) (l : List Nd) : slotN s (l.map strip) = (slotN s l).map strip := by
  unfold slotN
  rw [List.filter_map]; rfl
theorem findN_strip (l : List Nd) (s : Int) : findN (l.map strip) s = (strip (findN l s).1, (findN l s).2) := by
  unfold findN lastN cntN
  rw [slotN_strip, List.getLast?_map, List.length_map]
  cases (slotN s l).getLast? <;> rfl
theorem kidK_strip (l : List Nd) (x : Sq) (j : Nat) : kidK (l.map strip) (stripQ x) j = stripQ (kidK l x j) := by
  have h := findN_strip l (ksAt x.n.ks j)
  show (⟨(findN (l.map strip) (ksAt x.n.ks j)).1, _, _⟩ : Sq) = _
  rw [h]; rfl
theorem okK_strip (l : List Nd) (x : Sq) (j : Nat) : okK (l.map strip) (stripQ x) j = okK l x j := by
  have h := findN_strip l (ksAt x.n.ks j)
  show ((findN (l.map strip) (ksAt x.n.ks j)).2 && ((findN (l.map strip) (ksAt x.n.ks j)).1.level == x.n.level - 1)) = _
  rw [h]; rfl
theorem innK_strip (l : List Nd) (x : Sq) : innK (l.map strip) (stripQ x) = innK l x := by
  have h : okK (l.map strip) (stripQ x) = okK l x := funext fun j => okK_strip l x j
  unfold innK
  rw [h]; rfl
theorem kidsL_strip (l : List Nd) (x : Sq) : kidsL (l.map strip) (stripQ x) = (kidsL l x).map stripQ := by
  have h : kidK (l.map strip) (stripQ x) = stripQ ∘ kidK l x := funext fun j => kidK_strip l x j
  unfold kidsL
  rw [h]
  show (if (x.n.level == 0) = true then [] else (List.range x.n.ks.length).map (stripQ ∘ kidK l x)) = _
  split
  · rfl
  · rw [List.map_map]
theorem bfs_strip (l : List Nd) : ∀ (f i : Nat) (out : List Sq), bfs (l.map strip) f i (out.map stripQ) = (bfs l f i out).map (List.map stripQ)
  | 0, _, _ => rfl
  | f + 1, i, out => by
    rw [bfs, bfs, List.getElem?_map]
    cases hx : out[i]? with
    | none => rfl
    | some x =>
      dsimp only [Option.map]
      rw [List.length_map, List.length_map, innK_strip, kidsL_strip, ← List.map_append]
      split
      · rfl
      · split
        · exact bfs_strip l f (i + 1) (out ++ kidsL l x)
        · rfl
theorem seatsL_strip (l : List Nd) : seatsL (l.map strip) = (seatsL l).map (List.map stripQ) := by
  have h := findN_strip l 0
  have hr : rootQ (l.map strip) = stripQ (rootQ l) := by unfold rootQ; rw [h]; rfl
  unfold seatsL
  rw [h, hr, List.length_map]
  dsimp only
  split
  · exact bfs_strip l (l.length + 1) 0 [rootQ l]
  · rfl
theorem slotQ_strip (ss : List Sq) : slotQ (ss.map stripQ) = slotQ ss := by
  unfold slotQ
  rw [List.map_map]; rfl
theorem onceR_strip (l : List Nd) (ss : List Sq) : onceR (l.map strip) (ss.map stripQ) = onceR l ss := by
  unfold onceR cntQ
  rw [List.length_map, List.length_map, slotQ_strip, List.all_map]; rfl
theorem linkedF_strip : ∀ ss : List Sq, linkedF (ss.map stripQ) = linkedF ss
  | [] => rfl
  | x :: r => by
    show ((x.n.right == wantR (r.map stripQ) x.n.level) && linkedF (r.map stripQ)) = _
    rw [linkedF_strip r]
    cases r <;> rfl
theorem soundR_strip (c : Cfg) (l : List Nd) : soundR c (l.map strip) = soundR c l := by
  unfold soundR
  rw [seatsL_strip]
  cases seatsL l with
  | none => rfl
  | some ss =>
    dsimp only [Option.map]
    rw [onceR_strip, linkedF_strip, List.length_map, List.all_map]; rfl
theorem catB_map {α β : Type} (f : β → ByteArray) (g : α → β) : ∀ l : List α, catB f (l.map g) = catB (fun a => f (g a)) l
  | [] => rfl
  | a :: l => by
    show f (g a) ++ catB f (l.map g) = f (g a) ++ catB (fun a => f (g a)) l
    rw [catB_map f g l]
theorem imgB_strip (c : Cfg) (l : List Nd) : imgB c (l.map strip) = imgB c l := by
  unfold imgB
  rw [List.length_map, catB_map]; rfl
/-- Does each node lie at its slot's place? -/
def placedB (l : List Nd) : Bool := decide (∀ i (h : i < l.length), l[i].slot = (i : Int))
theorem placedB_strip (l : List Nd) : placedB (l.map strip) = placedB l := by
  unfold placedB
  refine decide_eq_decide.2 ⟨fun h i hi => ?_, fun h i hi => ?_⟩
  · have := h i (by rw [List.length_map]; exact hi)
    rw [List.getElem_map] at this
    exact this
  · rw [List.length_map] at hi
    rw [List.getElem_map]
    exact h i hi
theorem sameN_strip {a b : Nd} (h : strip a = strip b) : sameN a b = true := by
  unfold strip at h
  simp only [Nd.mk.injEq] at h
  obtain ⟨h1, h2, -, h4, -, h6, h7, h8, h9, h10, -, h12, -, h14⟩ := h
  unfold sameN headN
  simp [h1, h2, h4, h6, h7, h8, h9, h10, h12, h14]
end Go.Proofs.YtlapnbklbpeddaaGreat
