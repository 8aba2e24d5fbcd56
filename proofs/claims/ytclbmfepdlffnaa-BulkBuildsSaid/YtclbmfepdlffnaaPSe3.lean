/- Whether nodes are a sound tree: the document's answer and the code's are one (plain Lean). -/
import Derived.Test.YtclbmfepdlffnaaPSe2
namespace Go.Proofs.Ytclbmfepdlffnaa
open Go Go.RowKit
attribute [local irreducible] Calls
set_option linter.unusedVariables false
set_option maxRecDepth 20000
set_option linter.unusedSimpArgs false
set_option maxHeartbeats 4000000
/-! ### Every seat's node is found by its slot -/
theorem find_fnd {l : List Nd} {s : Int} (h : (findN l s).2 = true) : (findN l s).1 ∈ l ∧ (findN l s).1.slot = s ∧ cntN s l = 1 := by
  have h1 : cntN s l = 1 := by have : (cntN s l : Int) = 1 := by simpa [findN] using h
                               omega
  unfold cntN at h1
  obtain ⟨a, ha⟩ := List.length_eq_one_iff.1 h1
  have hm : a ∈ slotN s l := by rw [ha]; simp
  have e : (findN l s).1 = a := by show lastN s l = a; unfold lastN; rw [ha]; rfl
  obtain ⟨h2, h3⟩ := List.mem_filter.1 hm
  rw [e]
  exact ⟨h2, by simpa using h3, by unfold cntN; exact h1⟩
def slots (l : List Nd) : List Int := l.map Nd.slot
def slotQ (ss : List Sq) : List Int := ss.map fun x => x.n.slot
theorem cnt_slots (s : Int) (l : List Nd) : cntN s l = (slots l).count s := by
  unfold cntN slotN slots
  rw [List.count_eq_countP, List.countP_map, List.countP_eq_length_filter]
  rfl
def cntQ (s : Int) (ss : List Sq) : Nat := (slotQ ss).count s
def onceR (l : List Nd) (ss : List Sq) : Bool := !((l.length : Int) != (ss.length : Int)) && l.all fun n => (cntQ n.slot ss : Int) == 1
def wantR (rest : List Sq) (lev : Int) : Int := match rest with | [] => -1 | y :: _ => if (y.n.level == lev) = true then y.n.slot else -1
def linkedF : List Sq → Bool
  | [] => true
  | x :: r => (x.n.right == wantR r x.n.level) && linkedF r
def nextR (rest : List Sq) : Int := match rest with | [] => -1 | y :: _ => y.n.slot
def linkedW : List Sq → Bool
  | [] => true
  | x :: r => (x.n.right == nextR r) && linkedW r
theorem linked_app {L : Int} : ∀ (row R : List Sq), (∀ x ∈ row, x.n.level = L) → (∀ y, R[0]? = some y → y.n.level ≠ L) → linkedF (row ++ R) = (linkedW row && linkedF R)
  | [], R, _, _ => by simp [linkedW]
  | [x], R, h, hR => by
    have hx := h x (by simp)
    show ((x.n.right == wantR R x.n.level) && linkedF R) = _
    have : wantR R x.n.level = -1 := by
      unfold wantR
      cases R with
      | nil => rfl
      | cons y R => dsimp only; rw [if_neg]; have := hR y rfl; rw [hx]; simpa using this
    rw [this]
    simp [linkedW, nextR]
  | x :: y :: row, R, h, hR => by
    have hx := h x (by simp)
    have hy := h y (by simp)
    have ih := linked_app (y :: row) R (fun z hz => h z (by simp [hz])) hR
    show ((x.n.right == wantR (y :: row ++ R) x.n.level) && linkedF (y :: row ++ R)) = _
    rw [ih]
    have : wantR (y :: row ++ R) x.n.level = y.n.slot := by show (if (y.n.level == x.n.level) = true then y.n.slot else -1) = _; rw [hx, hy, if_pos (by simp)]
    rw [this]
    show _ = (((x.n.right == nextR (y :: row)) && linkedW (y :: row)) && linkedF R)
    rw [Bool.and_assoc]
    rfl
theorem kid_level {l : List Nd} {x : Sq} {j : Nat} (h : okK l x j = true) : (kidK l x j).n.level = x.n.level - 1 := by
  unfold okK at h
  rw [Bool.and_eq_true] at h
  exact eq_of_beq h.2
theorem Chain.head {l : List Nd} {q : List Sq} {tl : List (List Sq)} (h : Chain l q tl) {y : Sq} (hy : tl.flatten[0]? = some y) : y ∈ q := by
  cases h with
  | nil => simp at hy
  | cons _ tl hne _ _ =>
    cases q with
    | nil => exact absurd rfl hne
    | cons a q => simp at hy; subst hy; simp
theorem row_level {l : List Nd} {row : List Sq} {L : Int} (hr : row.all (innK l) = true) (hL : ∀ x ∈ row, x.n.level = L) : ∀ y ∈ row.flatMap (kidsL l), y.n.level = L - 1 := fun y hy => by
  obtain ⟨x, hx, hy⟩ := List.mem_flatMap.1 hy
  have hi := List.all_eq_true.1 hr x hx
  unfold kidsL at hy
  split at hy
  · simp at hy
  · rename_i h0
    obtain ⟨j, hj, rfl⟩ := List.mem_map.1 hy
    rw [kid_level ((innK_ok hi (by simpa using h0)).2.2 j (List.mem_range.1 hj)), hL x hx]
theorem linked_rows {l : List Nd} {row : List Sq} {tl : List (List Sq)} (h : Chain l row tl) : ∀ L, (∀ x ∈ row, x.n.level = L) → linkedF tl.flatten = tl.all linkedW := by
  induction h with
  | nil => intro L _; rfl
  | cons row tl hne hall hch ih =>
    intro L hL
    have hk := row_level hall hL
    rw [List.flatten_cons, linked_app row tl.flatten hL (fun y hy => ?_), ih (L - 1) hk]
    · rfl
    · have := hch.head hy
      have := hk y this
      omega
/-! ### Messages and what is below them -/
def younQ (x : Sq) : Bool := x.ms.all fun m => decide (x.n.seen < m.stamp)
def Sub' (a b : Span) : Prop := ∀ k, has a k = true → has b k = true
theorem touch_iff {a b : Span} : touch a b = true ↔ ∃ k, has a k = true ∧ has b k = true := by
  constructor
  · intro h
    have h1 : empty (meet a b) = false := by simpa [touch] using h
    have h2 : has (meet a b) (meet a b).lo = true := by rw [empty_iff] at h1; simpa using h1
    rw [has_meet, Bool.and_eq_true] at h2
    exact ⟨_, h2.1, h2.2⟩
  · rintro ⟨k, h1, h2⟩
    exact touch_of h1 h2
theorem clip_4 {m : Msg} {s : Span} (h4 : m.kind = 4) (ht : touch (spanM m) s = true) (k : ByteArray) : has (spanM (clipM m s).1) k = (has (spanM m) k && has s k) := by
  unfold clipM
  rw [if_pos ht, ← has_meet]
  simp [h4, spanM]
theorem clip_n {m : Msg} {s : Span} (h4 : m.kind ≠ 4) (ht : touch (spanM m) s = true) : (clipM m s).1 = m := by
  unfold clipM
  rw [if_pos ht]
  simp [h4]
theorem clip_stamp {m : Msg} {s : Span} (ht : touch (spanM m) s = true) : (clipM m s).1.stamp = m.stamp := by
  unfold clipM
  rw [if_pos ht]
  dsimp only
  split <;> rfl
theorem clip_span {m : Msg} {s t : Span} (hts : Sub' t s) (hm : touch (spanM m) s = true) : touch (spanM (clipM m s).1) t = touch (spanM m) t := by
  by_cases h4 : m.kind = 4
  · apply Bool.eq_iff_iff.2
    rw [touch_iff, touch_iff]
    constructor
    · rintro ⟨k, h1, h2⟩
      rw [clip_4 h4 hm, Bool.and_eq_true] at h1
      exact ⟨k, h1.1, h2⟩
    · rintro ⟨k, h1, h2⟩
      exact ⟨k, by rw [clip_4 h4 hm, h1, hts k h2]; rfl, h2⟩
  · rw [clip_n h4 hm]
theorem clipL_mem {l : List Msg} {s : Span} {m' : Msg} : m' ∈ clipL l s ↔ ∃ m ∈ l, touch (spanM m) s = true ∧ m' = (clipM m s).1 := by
  unfold clipL clip1
  rw [List.mem_flatMap]
  constructor
  · rintro ⟨m, hm, h⟩
    rw [clip_ok] at h
    split at h
    · rename_i ht
      exact ⟨m, hm, ht, List.mem_singleton.1 h⟩
    · simp at h
  · rintro ⟨m, hm, ht, rfl⟩
    exact ⟨m, hm, by rw [clip_ok, if_pos ht]; simp⟩
def Dis (x y : Sq) : Prop := ∀ k, has x.s k = true → has y.s k = true → False
theorem pair_eq {row : List Sq} (h : row.Pairwise Dis) {x y : Sq} (hx : x ∈ row) (hy : y ∈ row) {k : ByteArray} (h1 : has x.s k = true) (h2 : has y.s k = true) : x = y := by
  obtain ⟨i, hi, rfl⟩ := List.getElem_of_mem hx
  obtain ⟨j, hj, rfl⟩ := List.getElem_of_mem hy
  rw [List.pairwise_iff_getElem] at h
  rcases Nat.lt_trichotomy i j with hij | hij | hij
  · exact absurd (h i j hi hj hij k h1 h2) id
  · subst hij; rfl
  · exact absurd (h j i hj hi hij k h2 h1) id
theorem kid_sub (l : List Nd) (x : Sq) (j : Nat) : Sub' (kidK l x j).s x.s := fun k h => by
  have h : has (meet x.s (rangeN x.n.ps j)) k = true := h
  rw [has_meet, Bool.and_eq_true] at h
  exact h.1
theorem rightK_ris {ps : List ByteArray} {ks : List Int} (h : rightK ps ks = true) : risS ps = true ∧ ks.length = ps.length + 1 := by
  unfold rightK at h
  rw [Bool.and_eq_true] at h
  have : (ks.length : Int) = (ps.length : Int) + 1 := by simpa using h.2
  exact ⟨h.1, by omega⟩
theorem kids_sub {l : List Nd} {x y : Sq} (h : y ∈ kidsL l x) : ∃ j, j < x.n.ks.length ∧ x.n.level ≠ 0 ∧ y = kidK l x j := by
  unfold kidsL at h
  split at h
  · simp at h
  · rename_i h0
    obtain ⟨j, hj, rfl⟩ := List.mem_map.1 h
    exact ⟨j, List.mem_range.1 hj, by simpa using h0, rfl⟩
def Insd (x : Sq) : Prop := ∀ m ∈ x.n.ms, within (spanM m) x.s = true
/-- What waits for a seat's texts comes from above: H is what stands above. -/
structure Hist (H : List (List Sq)) (y : Sq) : Prop where
  up : ∀ m' ∈ y.ms, ∃ r ∈ H, ∃ x ∈ r, ∃ m ∈ x.n.ms, m.stamp = m'.stamp ∧ touch (spanM m) y.s = true ∧ ∀ t, Sub' t y.s → touch (spanM m') t = touch (spanM m) t
  dn : ∀ r ∈ H, ∀ x ∈ r, ∀ m ∈ x.n.ms, touch (spanM m) y.s = true → ∃ m' ∈ y.ms, m'.stamp = m.stamp ∧ ∀ t, Sub' t y.s → touch (spanM m') t = touch (spanM m) t
theorem touch_mono {a s t : Span} (h : Sub' t s) (ht : touch a t = true) : touch a s = true := by
  obtain ⟨k, h1, h2⟩ := touch_iff.1 ht
  exact touch_of h1 (h k h2)
theorem Hist.next {l : List Nd} {H : List (List Sq)} {row : List Sq} (hp : row.Pairwise Dis) (hi : ∀ x ∈ row, Insd x) (hh : ∀ x ∈ row, Hist H x) : ∀ y ∈ row.flatMap (kidsL l), Hist (H ++ [row]) y := fun y hy => by
  obtain ⟨x0, hx0, hy⟩ := List.mem_flatMap.1 hy
  obtain ⟨j, _, _, rfl⟩ := kids_sub hy
  have hsub := kid_sub l x0 j
  have hms : ∀ m', m' ∈ (kidK l x0 j).ms ↔ m' ∈ clipL x0.n.ms (kidK l x0 j).s ∨ m' ∈ clipL x0.ms (kidK l x0 j).s := fun m' => mergeL_mem
  generalize kidK l x0 j = y at *
  constructor
  · intro m' hm'
    rcases (hms m').1 hm' with h | h
    · obtain ⟨m, hm, ht, rfl⟩ := clipL_mem.1 h
      exact ⟨row, by simp, x0, hx0, m, hm, (clip_stamp ht).symm, ht, fun t hts => clip_span hts ht⟩
    · obtain ⟨m1, hm1, ht, rfl⟩ := clipL_mem.1 h
      obtain ⟨r, hr, x, hx, m, hm, e1, e2, e3⟩ := (hh x0 hx0).up m1 hm1
      refine ⟨r, by simp [hr], x, hx, m, hm, by rw [e1, clip_stamp ht], by rw [← e3 _ hsub]; exact ht, fun t hts => ?_⟩
      rw [clip_span hts ht, e3 t (fun k hk => hsub k (hts k hk))]
  · intro r hr x hx m hm ht
    rcases List.mem_append.1 hr with hr | hr
    · obtain ⟨m1, hm1, e1, e2⟩ := (hh x0 hx0).dn r hr x hx m hm (touch_mono hsub ht)
      have ht1 : touch (spanM m1) y.s = true := by rw [e2 _ hsub]; exact ht
      exact ⟨_, (hms _).2 (.inr (clipL_mem.2 ⟨m1, hm1, ht1, rfl⟩)), by rw [clip_stamp ht1, e1], fun t hts => by rw [clip_span hts ht1, e2 t (fun k hk => hsub k (hts k hk))]⟩
    · obtain rfl := List.mem_singleton.1 hr
      obtain ⟨k, k1, k2⟩ := touch_iff.1 ht
      have : x = x0 := pair_eq hp hx hx0 (within_has (hi x hx m hm) k1) (hsub k k2)
      subst this
      exact ⟨_, (hms _).2 (.inl (clipL_mem.2 ⟨m, hm, ht, rfl⟩)), clip_stamp ht, fun t hts => clip_span hts ht⟩
def placedQ (x : Sq) : Bool := (x.n.top == x.s.opn) && decide (x.n.high = x.s.hi) && x.n.rs.all (fun p => has x.s p.key) && x.n.ps.all (fun p => has x.s p && !decide (p = x.s.lo)) && x.n.ms.all (fun m => within (spanM m) x.s)
def seatB (c : Cfg) (x : Sq) : Bool := rightN c x.n && placedQ x && !decide (c.slots ≤ x.n.slot)
def soundR (c : Cfg) (l : List Nd) : Bool := match seatsL l with
  | none => false
  | some ss => onceR l ss && linkedF ss && !decide (c.slots < (l.length : Int)) && ss.all fun x => seatB c x && younQ x
end Go.Proofs.Ytclbmfepdlffnaa
