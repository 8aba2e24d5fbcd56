/- A tree of which one node has another Right, or Seen: plain Lean. -/
import Derived.Test.YtlapnbklbpeddaaPSnA
namespace Go.Proofs.Ytlapnbklbpeddaa
open Go Go.RowKit
attribute [local irreducible] Calls
set_option linter.unusedVariables false
set_option maxRecDepth 20000
set_option linter.unusedSimpArgs false
set_option maxHeartbeats 4000000
/-- A change of nodes that leaves what makes a tree. -/
structure Chg (g : Nd → Nd) : Prop where
  slot : ∀ n, (g n).slot = n.slot
  level : ∀ n, (g n).level = n.level
  ps : ∀ n, (g n).ps = n.ps
  ks : ∀ n, (g n).ks = n.ks
  ms : ∀ n, (g n).ms = n.ms
def chQ (g : Nd → Nd) (x : Sq) : Sq := ⟨g x.n, x.s, x.ms⟩
section
variable {g : Nd → Nd} (hg : Chg g)
include hg
theorem slotN_map (l : List Nd) (s : Int) : slotN s (l.map g) = (slotN s l).map g := by
  unfold slotN
  rw [List.filter_map]
  congr 1
  apply List.filter_congr
  intro n _
  show ((g n).slot == s) = _
  rw [hg.slot]
theorem find_map (l : List Nd) (s : Int) : (findN (l.map g) s).2 = (findN l s).2 ∧ ((findN l s).2 = true → (findN (l.map g) s).1 = g (findN l s).1) := by
  unfold findN cntN lastN
  dsimp only
  rw [slotN_map hg]
  refine ⟨by rw [List.length_map], fun h => ?_⟩
  have h1 : (slotN s l).length = 1 := by have : ((slotN s l).length : Int) = 1 := by simpa using h
                                         omega
  obtain ⟨a, ha⟩ := List.length_eq_one_iff.1 h1
  rw [ha]; rfl
theorem ok_map (l : List Nd) (x : Sq) (j : Nat) : okK (l.map g) (chQ g x) j = okK l x j := by
  unfold okK chQ
  dsimp only
  rw [hg.ks, hg.level]
  obtain ⟨h1, h2⟩ := find_map hg l (ksAt x.n.ks j)
  rw [h1]
  cases h : (findN l (ksAt x.n.ks j)).2 with
  | false => rfl
  | true => rw [h2 h, hg.level]
theorem inn_map (l : List Nd) (x : Sq) : innK (l.map g) (chQ g x) = innK l x := by
  have h : (fun j => okK (l.map g) (chQ g x) j) = okK l x := funext fun j => ok_map hg l x j
  unfold innK
  show ((g x.n).level == 0 || (!decide ((g x.n).level < 0) && rightK (g x.n).ps (g x.n).ks && allTo (fun j => okK (l.map g) (chQ g x) j) (g x.n).ks.length)) = _
  rw [h, hg.level, hg.ps, hg.ks]
theorem kid_map (l : List Nd) (x : Sq) (j : Nat) (h : (findN l (ksAt x.n.ks j)).2 = true) : kidK (l.map g) (chQ g x) j = chQ g (kidK l x j) := by
  unfold kidK kidSpan chQ
  dsimp only
  rw [hg.ks, hg.ps, hg.ms, (find_map hg l _).2 h]
theorem kids_map (l : List Nd) (x : Sq) (hi : innK l x = true) : kidsL (l.map g) (chQ g x) = (kidsL l x).map (chQ g) := by
  unfold kidsL
  rw [show (chQ g x).n.level = x.n.level from hg.level x.n]
  split
  · rfl
  · rename_i h0
    rw [show (chQ g x).n.ks = x.n.ks from hg.ks x.n, List.map_map]
    apply List.map_congr_left
    intro j hj
    have h := (innK_ok hi (by simpa using h0)).2.2 j (List.mem_range.1 hj)
    unfold okK at h
    rw [Bool.and_eq_true] at h
    exact kid_map hg l x j h.1
theorem next_map (l : List Nd) (row : List Sq) (hi : row.all (innK l) = true) : (row.map (chQ g)).flatMap (kidsL (l.map g)) = (row.flatMap (kidsL l)).map (chQ g) := by
  induction row with
  | nil => rfl
  | cons x row ih =>
    simp only [List.all_cons, Bool.and_eq_true] at hi
    rw [List.map_cons, List.flatMap_cons, List.flatMap_cons, List.map_append, ih hi.2, kids_map hg l x hi.1]
theorem all_map (l : List Nd) (row : List Sq) : (row.map (chQ g)).all (innK (l.map g)) = row.all (innK l) := by
  rw [List.all_map]
  congr 1
  funext x
  exact inn_map hg l x
theorem lvl_map (l : List Nd) : ∀ (f : Nat) (out : List (List Sq)) (row : List Sq), lvl (l.map g) f (out.map (List.map (chQ g))) (row.map (chQ g)) = (lvl l f out row).map (List.map (List.map (chQ g)))
  | 0, _, _ => rfl
  | f + 1, out, row => by
    have hfl : (out.map (List.map (chQ g))).flatten.length = out.flatten.length := by rw [← List.map_flatten, List.length_map]
    rw [lvl, lvl]
    by_cases hr : row = []
    · subst hr; rfl
    · rw [if_neg hr, if_neg (by simpa using hr), all_map hg, hfl, List.length_map, List.length_map]
      by_cases hi : row.all (innK l) = true
      · rw [next_map hg l row hi, List.length_map]
        split
        · have := lvl_map l f (out ++ [row]) (row.flatMap (kidsL l))
          rw [List.map_append] at this
          exact this
        · rfl
      · rw [if_neg (fun h => hi h.1), if_neg (fun h => hi h.1)]; rfl
theorem rows_map (l : List Nd) : rowsL (l.map g) = (rowsL l).map (List.map (List.map (chQ g))) := by
  unfold rowsL
  obtain ⟨h1, h2⟩ := find_map hg l 0
  rw [h1]
  split
  · rename_i h
    have e : [rootQ (l.map g)] = [rootQ l].map (chQ g) := by
      show [(⟨_, _, _⟩ : Sq)] = [(⟨_, _, _⟩ : Sq)]
      rw [h2 h]
      rfl
    rw [e, List.length_map]
    exact lvl_map hg l (l.length + 1) [] [rootQ l]
  · rfl
theorem tree_map (l : List Nd) (f : List (List Sq) → Bool) : treeB (l.map g) f = treeB l fun rows => f (rows.map (List.map (chQ g))) := by
  have hs : slots (l.map g) = slots l := by
    unfold slots
    rw [List.map_map]
    apply List.map_congr_left
    intro n _
    exact hg.slot n
  unfold treeB
  rw [rows_map hg, hs]
  cases rowsL l with
  | none => rfl
  | some rows =>
    show (_ && (((rows.map (List.map (chQ g))).flatten.length : Int) == ((l.map g).length : Int)) && _) = _
    rw [← List.map_flatten, List.length_map, List.length_map]
end
/-- Node i with another Right. -/
def gR (i : Int) (r : Int) (n : Nd) : Nd := if (n.slot == i) = true then { n with right := r } else n
def gS (i : Int) (s : Int) (n : Nd) : Nd := if (n.slot == i) = true then { n with seen := s } else n
theorem chgR (i r : Int) : Chg (gR i r) := by
  constructor <;> intro n <;> unfold gR <;> split <;> rfl
theorem chgS (i r : Int) : Chg (gS i r) := by
  constructor <;> intro n <;> unfold gS <;> split <;> rfl
theorem linkedW_iff : ∀ {row : List Sq}, linkedW row = true ↔ ∀ (k : Nat) (x : Sq), row[k]? = some x → x.n.right = nextR (row.drop (k + 1))
  | [] => by simp [linkedW]
  | x :: row => by
    have ih := linkedW_iff (row := row)
    rw [linkedW, Bool.and_eq_true, ih]
    constructor
    · rintro ⟨h1, h2⟩ k y hy
      cases k with
      | zero => simp at hy; subst hy; simpa using h1
      | succ k => exact h2 k y (by simpa using hy)
    · intro h
      exact ⟨by have := h 0 x rfl; simpa using this, fun k y hy => h (k + 1) y (by simpa using hy)⟩
theorem nextR_map {g : Nd → Nd} (hg : Chg g) (r : List Sq) : nextR (r.map (chQ g)) = nextR r := by
  cases r with
  | nil => rfl
  | cons y r => exact hg.slot y.n
theorem link_map {i r0 r : Int} {row : List Sq} (h : linkedW row = true) (hr : ∀ x ∈ row, x.n.slot = i → x.n.right = r0) : linkedW (row.map (chQ (gR i r))) = ((row.all fun x => !(x.n.slot == i)) || (r == r0)) := by
  rw [linkedW_iff] at h
  apply Bool.eq_iff_iff.2
  rw [linkedW_iff, Bool.or_eq_true, List.all_eq_true]
  constructor
  · intro h1
    by_cases he : ∀ x ∈ row, (!(x.n.slot == i)) = true
    · exact .inl he
    · right
      have : ∃ x ∈ row, x.n.slot = i := Classical.byContradiction fun hc => he fun x hx => by
        have : x.n.slot ≠ i := fun e => hc ⟨x, hx, e⟩
        simpa using this
      obtain ⟨x, hx, e⟩ := this
      obtain ⟨k, hk, rfl⟩ := List.getElem_of_mem hx
      have h2 := h1 k (chQ (gR i r) row[k]) (by rw [List.getElem?_map, List.getElem?_eq_getElem hk]; rfl)
      rw [← List.map_drop, nextR_map (chgR i r)] at h2
      have h3 := h k row[k] (List.getElem?_eq_getElem hk)
      have h4 : (chQ (gR i r) row[k]).n.right = r := by unfold chQ gR; dsimp only; rw [if_pos (by simpa using e)]
      rw [h4, ← h3, hr _ hx e] at h2
      simpa using h2
  · intro h1 k y hy
    rw [List.getElem?_map] at hy
    cases hx : row[k]? with
    | none => rw [hx] at hy; cases hy
    | some x =>
      rw [hx] at hy
      have hy : chQ (gR i r) x = y := Option.some.inj hy
      subst hy
      have hm := List.mem_of_getElem? hx
      rw [← List.map_drop, nextR_map (chgR i r), ← h k x hx]
      unfold chQ gR
      dsimp only
      split
      · rename_i e
        rcases h1 with h1 | h1
        · have := h1 x hm
          rw [e] at this; cases this
        · dsimp only
          rw [hr x hm (by simpa using e)]
          simpa using h1
      · rfl
/-- What is known of a sound tree. -/
structure Whole (c : Cfg) (l : List Nd) (rows : List (List Sq)) : Prop where
  got : rowsL l = some rows
  dist : distB (slots l) = true
  len : rows.flatten.length = l.length
  once : onceR l rows.flatten = true
  seat : ∀ r ∈ rows, ∀ x ∈ r, seatB c x = true
  link : rows.all linkedW = true
  ord : ordT rows = true
theorem whole_of {c : Cfg} {l : List Nd} (h : soundR c l = true) : ∃ rows, Whole c l rows := by
  have h2 := h
  rw [← sound_eq] at h
  unfold soundC at h
  unfold soundR at h2
  rw [seats_rows] at h2
  cases hr : rowsL l with
  | none => rw [hr] at h; cases h
  | some rows =>
    rw [hr] at h h2
    dsimp only [Option.map] at h h2
    simp only [Bool.and_eq_true] at h h2
    obtain ⟨⟨⟨⟨⟨⟨h1, h3⟩, h4⟩, h5⟩, h6⟩, h7⟩, h8⟩ := h
    refine ⟨rows, hr, h1, by have := beq_iff_eq.1 h3; omega, h2.1.1.1, fun r hr x hx => List.all_eq_true.1 (List.all_eq_true.1 h6 r hr) x hx, h7, h8⟩
theorem Whole.tree {c : Cfg} {l : List Nd} {rows : List (List Sq)} (h : Whole c l rows) (f : List (List Sq) → Bool) : treeB l f = f rows := by
  unfold treeB
  rw [h.got]
  show (_ && ((rows.flatten.length : Int) == (l.length : Int)) && _) = _
  rw [h.dist, h.len]
  simp
theorem parts_self {c : Cfg} {l : List Nd} (h : soundR c l = true) : linkC l = true ∧ ordC l = true := by
  obtain ⟨rows, hw⟩ := whole_of h
  exact ⟨by unfold linkC; rw [hw.tree]; exact hw.link, by unfold ordC; rw [hw.tree]; exact hw.ord⟩
def Placed (l : List Nd) : Prop := ∀ j (h : j < l.length), l[j].slot = (j : Int)
theorem placed_eq {l : List Nd} (hp : Placed l) {i : Nat} (hi : i < l.length) {n : Nd} (hn : n ∈ l) (h : n.slot = (i : Int)) : n = l[i] := by
  obtain ⟨j, hj, rfl⟩ := List.getElem_of_mem hn
  have := hp j hj
  have : j = i := by omega
  subst this; rfl
theorem set_gR {l : List Nd} (hp : Placed l) {i : Nat} (hi : i < l.length) (r : Int) : l.set i { l[i] with right := r } = l.map (gR i r) := by
  apply List.ext_getElem (by simp)
  intro j h1 h2
  have hj : j < l.length := by simpa using h2
  rw [List.getElem_set, List.getElem_map]
  unfold gR
  rw [hp j hj]
  by_cases e : i = j
  · subst e; simp [hp i hi]
  · rw [if_neg e, if_neg (by simp; omega)]
theorem set_gS {l : List Nd} (hp : Placed l) {i : Nat} (hi : i < l.length) (r : Int) : l.set i { l[i] with seen := r } = l.map (gS i r) := by
  apply List.ext_getElem (by simp)
  intro j h1 h2
  have hj : j < l.length := by simpa using h2
  rw [List.getElem_set, List.getElem_map]
  unfold gS
  rw [hp j hj]
  by_cases e : i = j
  · subst e; simp [hp i hi]
  · rw [if_neg e, if_neg (by simp; omega)]
theorem parts_link {c : Cfg} {l : List Nd} (h : soundR c l = true) (hp : Placed l) {i : Nat} (hi : i < l.length) (r : Int) : linkC (l.map (gR i r)) = (r == l[i].right) := by
  obtain ⟨rows, hw⟩ := whole_of h
  unfold linkC
  rw [tree_map (chgR i r), hw.tree, List.all_map]
  have hF := rows_Fnd hw.got
  have hrow : ∀ row ∈ rows, linkedW (row.map (chQ (gR i r))) = ((row.all fun x => !(x.n.slot == (i : Int))) || (r == l[i].right)) := fun row hr =>
    link_map (List.all_eq_true.1 hw.link row hr) (fun x hx e => by rw [placed_eq hp hi (hF row hr x hx).1 e])
  apply Bool.eq_iff_iff.2
  rw [List.all_eq_true]
  constructor
  · intro ha
    have h1 := hw.once
    unfold onceR at h1
    rw [Bool.and_eq_true, List.all_eq_true] at h1
    have h2 := h1.2 l[i] (List.getElem_mem hi)
    rw [hp i hi] at h2
    have h3 : 0 < cntQ (i : Int) rows.flatten := by have := beq_iff_eq.1 h2; omega
    obtain ⟨x, hx, e⟩ := List.mem_map.1 (List.count_pos_iff.1 h3)
    obtain ⟨row, hr, hx⟩ := List.mem_flatten.1 hx
    have h4 : linkedW (row.map (chQ (gR i r))) = true := ha row hr
    rw [hrow row hr, Bool.or_eq_true] at h4
    rcases h4 with h4 | h4
    · have := List.all_eq_true.1 h4 x hx
      rw [e] at this; simp at this
    · exact h4
  · intro hq row hr
    show linkedW (row.map (chQ (gR i r))) = true
    rw [hrow row hr, hq, Bool.or_true]
def youngL (i s : Int) (ss : List Sq) : Bool := ss.all fun x => !(x.n.slot == i) || x.ms.all fun m => decide (s < m.stamp)
theorem parts_ord {c : Cfg} {l : List Nd} (h : soundR c l = true) (i s : Int) {ss : List Sq} (hss : seatsL l = some ss) : ordC (l.map (gS i s)) = youngL i s ss := by
  obtain ⟨rows, hw⟩ := whole_of h
  have hse : ss = rows.flatten := by
    rw [seats_rows, hw.got] at hss
    exact (Option.some.inj hss).symm
  subst hse
  have hr2 : rowsL (l.map (gS i s)) = some (rows.map (List.map (chQ (gS i s)))) := by rw [rows_map (chgS i s), hw.got]; rfl
  obtain ⟨_, hc⟩ := rows_chain hr2
  have hy := young_ord hc [] (List.pairwise_singleton _ _) (root_hist _) (fun r hr x hx => by
    obtain ⟨r0, hr0, rfl⟩ := List.mem_map.1 hr
    obtain ⟨x0, hx0, rfl⟩ := List.mem_map.1 hx
    intro m hm
    have hm : m ∈ x0.n.ms := by rw [← (chgS i s).ms x0.n]; exact hm
    exact seat_insd (hw.seat r0 hr0 x0 hx0) m hm)
  have hy0 := (ord_young hw.got hw.seat).1 hw.ord
  have e1 : ordC (l.map (gS i s)) = ordT (rows.map (List.map (chQ (gS i s)))) := by unfold ordC; rw [tree_map (chgS i s), hw.tree]
  rw [e1]
  apply Bool.eq_iff_iff.2
  have hu : ordUp [] (rows.map (List.map (chQ (gS i s)))) := fun r hr => by simp at hr
  have e2 : ordT (rows.map (List.map (chQ (gS i s)))) = true ↔ ∀ r ∈ rows, ∀ y ∈ r, younQ (chQ (gS i s) y) = true := by
    constructor
    · intro ho r hr y hy2
      exact hy.2 ⟨ho, hu⟩ _ (List.mem_map.2 ⟨r, hr, rfl⟩) _ (List.mem_map.2 ⟨y, hy2, rfl⟩)
    · intro ha
      refine (hy.1 fun r hr y hy2 => ?_).1
      obtain ⟨r0, hr0, rfl⟩ := List.mem_map.1 hr
      obtain ⟨y0, hy0, rfl⟩ := List.mem_map.1 hy2
      exact ha r0 hr0 y0 hy0
  rw [e2]
  unfold youngL
  rw [List.all_eq_true]
  have e3 : ∀ y : Sq, younQ (chQ (gS i s) y) = if (y.n.slot == i) = true then y.ms.all (fun m => decide (s < m.stamp)) else younQ y := fun y => by
    unfold younQ chQ gS
    dsimp only
    split <;> rfl
  constructor
  · intro ha x hx
    obtain ⟨r, hr, hx⟩ := List.mem_flatten.1 hx
    have := ha r hr x hx
    rw [e3] at this
    cases hq : x.n.slot == i with
    | false => rfl
    | true => rw [hq, if_pos rfl] at this; rw [this]; rfl
  · intro ha r hr y hy2
    rw [e3]
    have := ha y (List.mem_flatten.2 ⟨r, hr, hy2⟩)
    cases hq : y.n.slot == i with
    | false => rw [if_neg (by simp)]; exact hy0 r hr y hy2
    | true => rw [hq] at this; rw [if_pos rfl]; simpa using this
end Go.Proofs.Ytlapnbklbpeddaa
