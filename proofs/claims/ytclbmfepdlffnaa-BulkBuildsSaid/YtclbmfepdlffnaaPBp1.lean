/- A tree made at once, its texts: parts of a row, least texts, spans (plain). -/
import Derived.Test.YtclbmfepdlffnaaPBt
import Derived.Test.YtclbmfepdlffnaaPSq
namespace Go.Proofs.Ytclbmfepdlffnaa
open Go Go.RowKit
set_option linter.unusedVariables false
set_option maxRecDepth 20000
set_option linter.unusedSimpArgs false
/-! Parts. -/
theorem partE_le {n p r : Nat} (hp : 0 < p) (h : n ≤ p * r) (k : Nat) (hk : k < p) : partE n p k ≤ r := by
  unfold partE
  have h1 : n / p ≤ r := by
    rw [Nat.mul_comm] at h
    exact Nat.div_le_of_le_mul (by rw [Nat.mul_comm]; exact h)
  have h2 := Nat.div_add_mod n p
  by_cases h3 : n / p = r
  · have h4 : n % p = 0 := by
      rw [h3] at h2
      omega
    rw [h4, if_neg (by omega)]
    omega
  · split <;> omega
theorem partE_ge {n p r : Nat} (hp : 0 < p) (h : p * r ≤ n) (k : Nat) : r ≤ partE n p k := by
  unfold partE
  have h1 : r ≤ n / p := (Nat.le_div_iff_mul_le hp).2 (by rw [Nat.mul_comm]; exact h)
  omega
theorem range_parts {n p : Nat} (hp : 0 < p) : ∀ q, q ≤ p → (List.range q).flatMap (fun k => (List.range (partE n p k)).map (fun j => offE n p k + j)) = List.range (offE n p q)
  | 0, _ => by
    have : offE n p 0 = 0 := by unfold offE; simp
    rw [this]; rfl
  | q + 1, h => by
    rw [List.range_succ, List.flatMap_append, range_parts hp q (by omega), offE_step, List.range_add]
    simp
theorem range_all {n p : Nat} (hp : 0 < p) : (List.range p).flatMap (fun k => (List.range (partE n p k)).map (fun j => offE n p k + j)) = List.range n := by
  rw [range_parts hp p (Nat.le_refl _), offE_all hp]
theorem offE_zero (n p : Nat) : offE n p 0 = 0 := by unfold offE; simp
theorem offE_lt {n p i j : Nat} (hp : 0 < p) (hpn : p ≤ n) (h : i < j) : offE n p i < offE n p j := by
  have h1 := offE_step n p i
  have h2 := partE_pos hp hpn i
  have h3 := offE_mono n p (show i + 1 ≤ j by omega)
  omega
/-! Texts between. -/
theorem comN_lt : ∀ x y : List UInt8, Op.bytesLess x y = true → comN x y < y.length
  | x, [], h => by rw [bls_nil] at h; cases h
  | [], b :: y, h => by simp [comN]
  | a :: x, b :: y, h => by
    rw [bls_cons] at h
    show (if a = b then comN x y + 1 else 0) < y.length + 1
    by_cases he : a = b
    · subst he
      rw [if_pos rfl]
      have h2 : Op.bytesLess x y = true := by simpa using h
      have := comN_lt x y h2
      omega
    · rw [if_neg he]; omega
theorem comN_sz {a b : ByteArray} (h : lt a b = true) : comN (bl a) (bl b) < b.size := by
  have := comN_lt _ _ (by rw [← lt_bl]; exact h)
  rwa [bl_size'] at this
theorem bls_betw : ∀ x y : List UInt8, Op.bytesLess x y = true → Op.bytesLess x (y.take (comN x y + 1)) = true
  | x, [], h => by rw [bls_nil] at h; cases h
  | [], b :: y, _ => by simp [comN, bls_cons_nil]
  | a :: x, b :: y, h => by
    show Op.bytesLess (a :: x) ((b :: y).take ((if a = b then comN x y + 1 else 0) + 1)) = true
    rw [List.take_succ_cons, bls_cons]
    rw [bls_cons] at h
    by_cases he : a = b
    · subst he
      have h2 : Op.bytesLess x y = true := by simpa using h
      rw [if_pos rfl, bls_betw x y h2]
      simp
    · have hn : a.toNat ≠ b.toNat := fun e => he (UInt8.toNat_inj.1 e)
      simp only [decide_eq_false hn, Bool.false_and, Bool.or_false] at h
      rw [h]; rfl
theorem bls_take : ∀ (y : List UInt8) (n : Nat), Op.bytesLess y (y.take n) = false
  | [], n => by rw [List.take_nil]; rfl
  | b :: y, 0 => bls_nil _
  | b :: y, n + 1 => by
    rw [List.take_succ_cons, bls_cons, bls_take y n]
    simp
theorem bl_betw (a b : ByteArray) : bl (betw a b) = (bl b).take (comN (bl a) (bl b) + 1) := by
  unfold betw
  rw [bl_extract]
  simp
theorem lt_betw {a b : ByteArray} (h : lt a b = true) : lt a (betw a b) = true := by
  rw [lt_bl, bl_betw]
  exact bls_betw _ _ (by rw [← lt_bl]; exact h)
theorem betw_le (a b : ByteArray) : lt b (betw a b) = false := by
  rw [lt_bl, bl_betw]
  exact bls_take _ _
theorem betw_size (a b : ByteArray) : (betw a b).size ≤ b.size := by
  unfold betw
  rw [ByteArray.size_extract]; omega
theorem em_lt {x : ByteArray} (h : lt em x = true) : x ≠ em := fun e => by rw [e, lt_irr] at h; cases h
/-- Keys that rise, each of at most 16 bytes. -/
structure KeysUp (l : List Pair) : Prop where
  up : ∀ i j, i < j → j < l.length → lt (pkAt l i) (pkAt l j) = true
  sz : ∀ p ∈ l, p.key.size ≤ 16 ∧ p.val.size ≤ 16
theorem rightP_up {l : List Pair} (h : rightP l = true) : KeysUp l := by
  have st : ∀ i, i + 1 < l.length → lt (pkAt l i) (pkAt l (i + 1)) = true := fun i hi => by
    have h1 := allTo_iff.1 h (i + 1) hi
    rw [rowP_pos hi (by omega)] at h1
    simp only [Bool.and_eq_true] at h1
    rw [pkAt_eq (show i < l.length by omega), pkAt_eq hi]
    exact h1.2
  refine ⟨fun i j hij hj => ?_, fun p hp => ?_⟩
  · have : ∀ d i, i + d + 1 < l.length → lt (pkAt l i) (pkAt l (i + d + 1)) = true := fun d => by
      induction d with
      | zero => exact fun i hi => st i hi
      | succ d ih => exact fun i hi => lt_tr (ih i (by omega)) (st (i + d + 1) (by omega))
    have h2 := this (j - i - 1) i (by omega)
    rwa [show i + (j - i - 1) + 1 = j by omega] at h2
  · obtain ⟨i, hi, rfl⟩ := List.getElem_of_mem hp
    have h1 := allTo_iff.1 h i hi
    unfold rowP at h1
    rw [List.getElem?_eq_getElem hi] at h1
    simp only [Bool.and_eq_true, decide_eq_true_eq] at h1
    omega
/-- The least text of the rows from place o on. -/
def loL (l : List Pair) (o : Nat) : ByteArray := if o = 0 then em else betw (pkAt l (o - 1)) (pkAt l o)
theorem loL_zero (l : List Pair) : loL l 0 = em := if_pos rfl
theorem loL_pos {l : List Pair} {o : Nat} (h : 0 < o) : loL l o = betw (pkAt l (o - 1)) (pkAt l o) := if_neg (by omega)
theorem loL_gt {l : List Pair} (hk : KeysUp l) {i o : Nat} (h : i < o) (ho : o < l.length) : lt (pkAt l i) (loL l o) = true := by
  rw [loL_pos (by omega)]
  have h1 := lt_betw (hk.up (o - 1) o (by omega) ho)
  rcases Nat.lt_or_ge i (o - 1) with h2 | h2
  · exact lt_tr (hk.up i (o - 1) h2 (by omega)) h1
  · rwa [show i = o - 1 by omega]
theorem loL_le {l : List Pair} (hk : KeysUp l) {i o : Nat} (h : o ≤ i) (hi : i < l.length) : lt (pkAt l i) (loL l o) = false := by
  by_cases h0 : o = 0
  · rw [h0, loL_zero]; exact lt_em _
  · rw [loL_pos (by omega)]
    have h1 := betw_le (pkAt l (o - 1)) (pkAt l o)
    rcases Nat.lt_or_ge o i with h2 | h2
    · exact lt_asy (le_lt h1 (hk.up o i h2 hi))
    · rwa [show i = o by omega]
theorem loL_up {l : List Pair} (hk : KeysUp l) {a b : Nat} (h : a < b) (hb : b < l.length) : lt (loL l a) (loL l b) = true :=
  le_lt (loL_le hk (show a ≤ b - 1 by omega) (by omega)) (loL_gt hk (show b - 1 < b by omega) hb)
theorem loL_size {l : List Pair} (hk : KeysUp l) {o : Nat} (ho : o < l.length ∨ o = 0) : (loL l o).size ≤ 16 := by
  by_cases h0 : o = 0
  · rw [h0, loL_zero]; decide
  · rw [loL_pos (by omega)]
    have h1 := betw_size (pkAt l (o - 1)) (pkAt l o)
    have h2 : o < l.length := by omega
    have h3 := (hk.sz _ (List.getElem_mem h2)).1
    rw [pkAt_eq h2] at *
    omega
/-! Spans. -/
def loSpan (lo : Nat → ByteArray) (n k : Nat) : Span := ⟨lo k, if k + 1 < n then lo (k + 1) else em, !decide (k + 1 < n)⟩
theorem loSpan_has (lo : Nat → ByteArray) (n k : Nat) (x : ByteArray) : has (loSpan lo n k) x = (!lt x (lo k) && (!decide (k + 1 < n) || lt x (lo (k + 1)))) := by
  unfold has loSpan
  dsimp only
  by_cases h : k + 1 < n
  · rw [if_pos h, decide_eq_true h]
  · rw [if_neg h, decide_eq_false h]; simp
theorem loSpan_ne {lo : Nat → ByteArray} {n k : Nat} (hr : k + 1 < n → lt (lo k) (lo (k + 1)) = true) : empty (loSpan lo n k) = false := by
  rw [empty_iff]
  show (!has (loSpan lo n k) (lo k)) = false
  rw [loSpan_has, lt_irr]
  by_cases h : k + 1 < n
  · rw [decide_eq_true h, hr h]; rfl
  · rw [decide_eq_false h]; rfl
theorem loSpan_norm {lo : Nat → ByteArray} {n k : Nat} (hr : k + 1 < n → lt (lo k) (lo (k + 1)) = true) : norm (loSpan lo n k) = loSpan lo n k := by
  rw [norm_ne (loSpan_ne hr)]
  unfold loSpan
  dsimp only
  by_cases h : k + 1 < n
  · rw [if_pos h, decide_eq_true h]; rfl
  · rw [if_neg h, decide_eq_false h]; rfl
theorem sAt_map (f : Nat → ByteArray) {m i : Nat} (h : i < m) : sAt ((List.range m).map f) i = f i := by
  unfold sAt
  simp [h]
theorem kid_meet {lo : Nat → ByteArray} {n o m j : Nat} (hj : j < m) (ho : o + m ≤ n) (hr : ∀ a b, a < b → b < n → lt (lo a) (lo b) = true) :
    meet ⟨lo o, if o + m < n then lo (o + m) else em, !decide (o + m < n)⟩ (rangeN ((List.range (m - 1)).map fun i => lo (o + i + 1)) j) = loSpan lo n (o + j) := by
  rw [← loSpan_norm (lo := lo) (n := n) (k := o + j) (fun h => hr _ _ (by omega) h)]
  rw [show ∀ a b : Span, meet a b = norm (meet a b) from fun a b => (norm_norm _).symm]
  refine norm_eq_of fun x _ => ?_
  rw [has_meet, loSpan_has]
  unfold rangeN
  rw [has_norm]
  have hU : has ⟨lo o, if o + m < n then lo (o + m) else em, !decide (o + m < n)⟩ x = (!lt x (lo o) && (!decide (o + m < n) || lt x (lo (o + m)))) := by
    unfold has
    dsimp only
    by_cases h : o + m < n
    · rw [if_pos h, decide_eq_true h]
    · rw [if_neg h, decide_eq_false h]; simp
  rw [hU]
  have hlen : ((List.range (m - 1)).map fun i => lo (o + i + 1)).length = m - 1 := by simp
  rw [hlen]
  have mono : ∀ a b, a < b → b < n → lt x (lo a) = true → lt x (lo b) = true := fun a b h1 h2 h3 => lt_tr h3 (hr a b h1 h2)
  have hlo : lt x (if 0 < j then sAt ((List.range (m - 1)).map fun i => lo (o + i + 1)) (j - 1) else em) = (decide (0 < j) && lt x (lo (o + j))) := by
    by_cases h : 0 < j
    · rw [if_pos h, decide_eq_true h, sAt_map _ (by omega), show o + (j - 1) + 1 = o + j by omega]; rfl
    · rw [if_neg h, decide_eq_false h, lt_em]; rfl
  unfold has
  dsimp only
  rw [hlo]
  have key0 : (!lt x (lo o) && !(decide (0 < j) && lt x (lo (o + j)))) = !lt x (lo (o + j)) := by
    by_cases h : 0 < j
    · rw [decide_eq_true h]
      have h1 := mono o (o + j) (by omega) (by omega)
      cases h2 : lt x (lo o)
      · simp
      · rw [h1 h2]; rfl
    · rw [decide_eq_false h, show j = 0 by omega]; simp
  by_cases hjm : j < m - 1
  · rw [if_pos hjm, decide_eq_true hjm, sAt_map _ hjm, decide_eq_true (show o + j + 1 < n by omega)]
    have key1 : ((!decide (o + m < n) || lt x (lo (o + m))) && lt x (lo (o + j + 1))) = lt x (lo (o + j + 1)) := by
      by_cases h : o + m < n
      · rw [decide_eq_true h]
        have h1 := mono (o + j + 1) (o + m) (by omega) h
        cases h2 : lt x (lo (o + j + 1))
        · simp
        · rw [h1 h2]; rfl
      · rw [decide_eq_false h]; rfl
    rw [← key0, show (!true || lt x (lo (o + j + 1))) = lt x (lo (o + j + 1)) from rfl, ← key1]
    generalize lt x (lo o) = a
    generalize (decide (0 < j) && lt x (lo (o + j))) = b
    generalize (!decide (o + m < n) || lt x (lo (o + m))) = d
    generalize lt x (lo (o + j + 1)) = e
    cases a <;> cases b <;> cases d <;> cases e <;> rfl
  · rw [if_neg hjm, decide_eq_false hjm, show o + j + 1 = o + m by omega, ← key0]
    generalize lt x (lo o) = a
    generalize (decide (0 < j) && lt x (lo (o + j))) = b
    generalize (!decide (o + m < n) || lt x (lo (o + m))) = d
    generalize lt x em = e
    cases a <;> cases b <;> cases d <;> cases e <;> rfl
end Go.Proofs.Ytclbmfepdlffnaa
