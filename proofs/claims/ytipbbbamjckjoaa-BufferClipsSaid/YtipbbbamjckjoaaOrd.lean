/- The order of texts, spans of texts, and what the statements of the span layer say of them: plain Lean, no program in sight. -/
import Derived.Test.YtipbbbamjckjoaaBase
namespace Go.Proofs.Ytipbbbamjckjoaa
open Go.RowKit
set_option linter.unusedVariables false
set_option maxRecDepth 20000
set_option linter.unusedSimpArgs false

theorem bls_cons (a b : UInt8) (x y : List UInt8) : Op.bytesLess (a :: x) (b :: y) = (decide (a.toNat < b.toNat) || (decide (a.toNat = b.toNat) && Op.bytesLess x y)) := by
  rw [Op.bytesLess]
  have h1 : decide (a < b) = decide (a.toNat < b.toNat) := by rw [Bool.eq_iff_iff, decide_eq_true_eq, decide_eq_true_eq]; exact UInt8.lt_iff_toNat_lt
  have h2 : (a == b) = decide (a.toNat = b.toNat) := by
    rw [Bool.eq_iff_iff, beq_iff_eq, decide_eq_true_eq]; exact UInt8.toNat_inj.symm
  rw [h1, h2]
theorem bls_nil (x : List UInt8) : Op.bytesLess x [] = false := by cases x <;> rfl
theorem bls_cons_nil (b : UInt8) (y : List UInt8) : Op.bytesLess [] (b :: y) = true := rfl
theorem bls_irr : ∀ x : List UInt8, Op.bytesLess x x = false
  | [] => rfl
  | a :: x => by rw [bls_cons, bls_irr x]; simp
theorem bls_tr : ∀ x y z : List UInt8, Op.bytesLess x y = true → Op.bytesLess y z = true → Op.bytesLess x z = true
  | _, [], _, h, _ => by rw [bls_nil] at h; cases h
  | _, _ :: _, [], _, h => by rw [bls_nil] at h; cases h
  | [], _ :: _, _ :: _, _, _ => rfl
  | a :: x, b :: y, c :: z, h1, h2 => by
    rw [bls_cons] at h1 h2 ⊢
    simp only [Bool.or_eq_true, Bool.and_eq_true, decide_eq_true_eq] at h1 h2 ⊢
    rcases h1 with h1 | ⟨h1, h1'⟩ <;> rcases h2 with h2 | ⟨h2, h2'⟩
    · exact .inl (by omega)
    · exact .inl (by omega)
    · exact .inl (by omega)
    · exact .inr ⟨by omega, bls_tr x y z h1' h2'⟩
theorem bls_tot : ∀ x y : List UInt8, Op.bytesLess x y = false → Op.bytesLess y x = false → x = y
  | [], [], _, _ => rfl
  | [], _ :: _, h, _ => by rw [bls_cons_nil] at h; cases h
  | _ :: _, [], _, h => by rw [bls_cons_nil] at h; cases h
  | a :: x, b :: y, h1, h2 => by
    rw [bls_cons] at h1 h2
    simp only [Bool.or_eq_false_iff, Bool.and_eq_false_iff, decide_eq_false_iff_not] at h1 h2
    obtain ⟨h1, h1'⟩ := h1
    obtain ⟨h2, h2'⟩ := h2
    have e : a.toNat = b.toNat := by omega
    have e' : a = b := UInt8.toNat_inj.1 e
    rw [bls_tot x y (h1'.resolve_left (by simp [e])) (h2'.resolve_left (by simp [e])), e']
theorem bls_snoc : ∀ x k : List UInt8, Op.bytesLess x (k ++ [0]) = !Op.bytesLess k x
  | [], [] => rfl
  | [], b :: k => rfl
  | a :: x, [] => by
    rw [List.nil_append, bls_cons, bls_nil, bls_cons_nil]
    simp
  | a :: x, b :: k => by
    rw [List.cons_append, bls_cons, bls_cons, bls_snoc x k]
    by_cases h1 : a.toNat < b.toNat
    · have h2 : ¬ b.toNat < a.toNat := by omega
      have h3 : ¬ b.toNat = a.toNat := by omega
      simp [h1, h2, h3]
    · by_cases h2 : a.toNat = b.toNat
      · have h3 : ¬ b.toNat < a.toNat := by omega
        simp [h2]
      · have h3 : b.toNat < a.toNat := by omega
        simp [h1, h2, h3]

/-- One text is less than another. -/
abbrev lt (a b : ByteArray) : Bool := Op.bytesLess a.toList b.toList
theorem lt_bl (a b : ByteArray) : lt a b = Op.bytesLess (bl a) (bl b) := by unfold lt; rw [Lib.toList_data, Lib.toList_data]
theorem lt_irr (a : ByteArray) : lt a a = false := bls_irr _
theorem lt_tr {a b c : ByteArray} (h : lt a b = true) (h' : lt b c = true) : lt a c = true := bls_tr _ _ _ h h'
theorem lt_tot {a b : ByteArray} (h : lt a b = false) (h' : lt b a = false) : a = b := by
  rw [lt_bl] at h h'; exact bl_inj (bls_tot _ _ h h')
theorem lt_asy {a b : ByteArray} (h : lt a b = true) : lt b a = false := by
  cases h' : lt b a with
  | false => rfl
  | true => have := lt_tr h h'; rw [lt_irr] at this; cases this
theorem lt_le {a b c : ByteArray} (h : lt a b = true) (h' : lt c b = false) : lt a c = true := by
  cases h2 : lt a c with
  | true => rfl
  | false =>
    cases h3 : lt c a with
    | true => rw [lt_tr h3 h] at h'; cases h'
    | false => rw [lt_tot h3 h2] at h'; rw [h] at h'; cases h'
theorem le_lt {a b c : ByteArray} (h : lt b a = false) (h' : lt b c = true) : lt a c = true := by
  cases h2 : lt a b with
  | true => exact lt_tr h2 h'
  | false => rw [lt_tot h2 h]; exact h'
theorem le_le {a b c : ByteArray} (h : lt b a = false) (h' : lt c b = false) : lt c a = false := by
  cases h2 : lt c a with
  | false => rfl
  | true => rw [lt_le h2 h] at h'; cases h'
theorem lt_em (a : ByteArray) : lt a em = false := by rw [lt_bl]; exact bls_nil _
/-- The text right behind another one. -/
def nx (k : ByteArray) : ByteArray := k ++ ⟨#[0]⟩
theorem bl_nx (k : ByteArray) : bl (nx k) = bl k ++ [0] := by unfold nx; rw [bl_append]
theorem lt_nx (x k : ByteArray) : lt x (nx k) = !lt k x := by rw [lt_bl, lt_bl, bl_nx]; exact bls_snoc _ _
theorem size_nx (k : ByteArray) : (nx k).size = k.size + 1 := by rw [bl_size, bl_nx, bl_size]; simp

/-! ### Spans -/
structure Span where
  lo : ByteArray
  hi : ByteArray
  opn : Bool
theorem Span.ext_ {a b : Span} (h1 : a.lo = b.lo) (h2 : a.hi = b.hi) (h3 : a.opn = b.opn) : a = b := by
  cases a; cases b; simp only at h1 h2 h3; subst h1 h2 h3; rfl
instance : DecidableEq Span := fun a b =>
  if h : a.lo = b.lo ∧ a.hi = b.hi ∧ a.opn = b.opn then isTrue (Span.ext_ h.1 h.2.1 h.2.2) else isFalse (fun e => h (by rw [e]; exact ⟨rfl, rfl, rfl⟩))

def Span.Ok (n : Nat) (s : Span) : Prop := s.lo.size ≤ n ∧ s.hi.size ≤ n
def has (s : Span) (k : ByteArray) : Bool := !lt k s.lo && (s.opn || lt k s.hi)
def empty (s : Span) : Bool := !s.opn && !lt s.lo s.hi
def spE : Span := ⟨em, em, false⟩
def norm (s : Span) : Span := if empty s = true then spE else if s.opn = true then ⟨s.lo, em, true⟩ else s
def all : Span := ⟨em, em, true⟩
def point (k : ByteArray) : Span := ⟨k, nx k, false⟩
/-- The greater, the lesser of two texts. -/
def mx (a b : ByteArray) : ByteArray := if lt a b = true then b else a
def mn (a b : ByteArray) : ByteArray := if lt b a = true then b else a
def meetLo (a b : Span) : ByteArray := mx a.lo b.lo
def meetHi (a b : Span) : ByteArray := if a.opn = true then b.hi else if b.opn = true then a.hi else mn a.hi b.hi
def rawMeet (a b : Span) : Span := ⟨meetLo a b, meetHi a b, a.opn && b.opn⟩
def meet (a b : Span) : Span := norm (rawMeet a b)
def below (s : Span) (k : ByteArray) : Span := meet s ⟨em, k, false⟩
def from_ (s : Span) (k : ByteArray) : Span := meet s ⟨k, em, true⟩
def same (a b : Span) : Bool := decide (norm a = norm b)
def within (a b : Span) : Bool := same (meet a b) a
def touch (a b : Span) : Bool := !empty (meet a b)

theorem empty_iff (s : Span) : empty s = !has s s.lo := by
  unfold empty has; rw [lt_irr]; cases s.opn <;> simp
theorem has_empty {s : Span} (h : empty s = true) (x : ByteArray) : has s x = false := by
  unfold empty at h
  simp only [Bool.and_eq_true, Bool.not_eq_true'] at h
  obtain ⟨ho, hl⟩ := h
  unfold has
  rw [ho]
  cases hx : lt x s.lo with
  | true => rfl
  | false =>
    simp only [Bool.not_false, Bool.true_and, Bool.false_or]
    cases h2 : lt x s.hi with
    | false => rfl
    | true => rw [le_lt hx h2] at hl; cases hl
theorem has_norm (s : Span) (x : ByteArray) : has (norm s) x = has s x := by
  unfold norm
  split
  · rename_i h
    rw [has_empty h]
    unfold has spE
    rw [lt_em]; simp
  · split
    · rename_i h
      unfold has
      rw [h]; simp
    · rfl
theorem empty_norm (s : Span) : empty (norm s) = empty s := by
  unfold norm
  split
  · rename_i h; rw [h]; unfold empty spE; simp only [lt_irr]; rfl
  · split
    · rename_i h2; unfold empty; simp [h2]
    · rfl
theorem norm_norm (s : Span) : norm (norm s) = norm s := by
  have h0 := empty_norm s
  by_cases h : empty s = true
  · have e : norm s = spE := by unfold norm; rw [if_pos h]
    rw [e] at h0 ⊢
    rw [h] at h0
    unfold norm; rw [if_pos h0]
  · by_cases h2 : s.opn = true
    · have e : norm s = ⟨s.lo, em, true⟩ := by unfold norm; rw [if_neg h, if_pos h2]
      rw [e] at h0 ⊢
      have h3 : ¬ empty ⟨s.lo, em, true⟩ = true := by rw [h0]; exact h
      conv => lhs; unfold norm
      rw [if_neg h3]
      rfl
    · have e : norm s = s := by unfold norm; rw [if_neg h, if_neg h2]
      rw [e, e]
theorem has_point (k x : ByteArray) : has (point k) x = decide (x = k) := by
  unfold has point
  simp only [Bool.false_or, lt_nx]
  by_cases h : x = k
  · subst h; simp [lt_irr]
  · rw [decide_eq_false h]
    cases h1 : lt x k with
    | true => rfl
    | false =>
      cases h2 : lt k x with
      | true => rfl
      | false => exact absurd (lt_tot h1 h2) h
theorem has_all (x : ByteArray) : has all x = true := by unfold has all; rw [lt_em]; rfl
theorem has_rawMeet (a b : Span) (x : ByteArray) : has (rawMeet a b) x = (has a x && has b x) := by
  unfold has rawMeet meetLo meetHi mx mn
  simp only
  have h1 : lt x (if lt a.lo b.lo = true then b.lo else a.lo) = (lt x a.lo || lt x b.lo) := by
    split
    · rename_i h
      cases h2 : lt x a.lo with
      | false => simp
      | true => rw [lt_tr h2 h]; rfl
    · rename_i h
      have h' : lt a.lo b.lo = false := by simpa using h
      cases h2 : lt x b.lo with
      | false => simp
      | true => rw [lt_le h2 h']; rfl
  rw [h1]
  have h2 : (a.opn && b.opn || lt x (if a.opn = true then b.hi else if b.opn = true then a.hi else if lt b.hi a.hi = true then b.hi else a.hi)) = ((a.opn || lt x a.hi) && (b.opn || lt x b.hi)) := by
    cases ha : a.opn <;> cases hb : b.opn <;> simp
    split
    · rename_i h
      cases h3 : lt x b.hi with
      | false => simp
      | true => rw [lt_tr h3 h]; rfl
    · rename_i h
      have h' : lt b.hi a.hi = false := by simpa using h
      cases h3 : lt x a.hi with
      | false => simp
      | true => rw [lt_le h3 h']; rfl
  rw [h2]
  cases lt x a.lo <;> cases lt x b.lo <;> cases a.opn <;> cases lt x a.hi <;> cases b.opn <;> cases lt x b.hi <;> rfl
theorem has_meet (a b : Span) (x : ByteArray) : has (meet a b) x = (has a x && has b x) := by unfold meet; rw [has_norm, has_rawMeet]
theorem has_below (s : Span) (k x : ByteArray) : has (below s k) x = (has s x && lt x k) := by
  unfold below; rw [has_meet]; congr 1; unfold has; rw [lt_em]; simp
theorem has_from (s : Span) (k x : ByteArray) : has (from_ s k) x = (has s x && !lt x k) := by
  unfold from_; rw [has_meet]; congr 1; unfold has; simp

/-- All ends of two spans, and a text, with the texts right behind them. -/
def ends (s t : Span) (k : ByteArray) : List ByteArray := [em, s.lo, nx s.lo, s.hi, nx s.hi, t.lo, nx t.lo, t.hi, nx t.hi, k, nx k]

theorem norm_ne {s : Span} (h : empty s = false) : norm s = ⟨s.lo, if s.opn = true then em else s.hi, s.opn⟩ := by
  unfold norm
  rw [if_neg (by simp [h])]
  split
  · rename_i h2; rw [h2]
  · rename_i h2
    apply Span.ext_ <;> rfl
/-- Two spans that agree at the four ends have one form. -/
theorem norm_eq_of {s t : Span} (h : ∀ x, x = s.lo ∨ x = s.hi ∨ x = t.lo ∨ x = t.hi → has s x = has t x) : norm s = norm t := by
  have e1 := empty_iff s
  have e2 := empty_iff t
  have h1 := h s.lo (by simp)
  have h2 := h t.lo (by simp)
  have h3 := h s.hi (by simp)
  have h4 := h t.hi (by simp)
  cases he : empty s with
  | true =>
    rw [has_empty he] at h2
    rw [← h2] at e2
    unfold norm
    rw [if_pos he, if_pos (by simpa using e2)]
  | false =>
    cases he' : empty t with
    | true =>
      rw [has_empty he'] at h1
      rw [h1, he] at e1; cases e1
    | false =>
      rw [he] at e1
      rw [he'] at e2
      have hs : has s s.lo = true := by simpa using e1.symm
      have ht : has t t.lo = true := by simpa using e2.symm
      rw [hs] at h1
      rw [ht] at h2
      have a1 : lt s.lo t.lo = false := by
        have := h1.symm; unfold has at this; simp only [Bool.and_eq_true, Bool.not_eq_true'] at this; exact this.1
      have a2 : lt t.lo s.lo = false := by
        have := h2; unfold has at this; simp only [Bool.and_eq_true, Bool.not_eq_true'] at this; exact this.1
      have hlo : s.lo = t.lo := lt_tot a1 a2
      have n1 := norm_ne he
      have n2 := norm_ne he'
      have b1 : s.opn = false → lt s.lo s.hi = true := fun ho => by unfold empty at he; simpa [ho] using he
      have b2 : t.opn = false → lt t.lo t.hi = true := fun ho => by unfold empty at he'; simpa [ho] using he'
      cases ho : s.opn with
      | true =>
        cases ho' : t.opn with
        | true => rw [n1, n2, ho, ho', hlo]; rfl
        | false =>
          exfalso
          unfold has at h4
          rw [ho, ho', lt_irr] at h4
          have := lt_asy (b2 ho')
          rw [← hlo] at this
          simp [this] at h4
      | false =>
        cases ho' : t.opn with
        | true =>
          exfalso
          unfold has at h3
          rw [ho, ho', lt_irr] at h3
          have := lt_asy (b1 ho)
          rw [hlo] at this
          simp [this] at h3
        | false =>
          have hhi : s.hi = t.hi := by
            refine lt_tot ?_ ?_
            · cases hc : lt s.hi t.hi with
              | false => rfl
              | true =>
                exfalso
                unfold has at h3
                have := lt_asy (b1 ho)
                rw [ho, ho', lt_irr, hc, ← hlo, this] at h3
                simp at h3
            · cases hc : lt t.hi s.hi with
              | false => rfl
              | true =>
                exfalso
                unfold has at h4
                have := lt_asy (b2 ho')
                rw [ho, ho', lt_irr, hc, hlo, this] at h4
                simp at h4
          rw [n1, n2, ho, ho', hlo, hhi]
theorem has_of_norm {s t : Span} (h : norm s = norm t) (x : ByteArray) : has s x = has t x := by rw [← has_norm s, ← has_norm t, h]
theorem same_ends (s t : Span) (k : ByteArray) : (ends s t k).all (fun x => has s x == has t x) = same s t := by
  unfold same
  rw [Bool.eq_iff_iff, decide_eq_true_eq, List.all_eq_true]
  constructor
  · intro h
    refine norm_eq_of fun x hx => ?_
    have : x ∈ ends s t k := by rcases hx with rfl | rfl | rfl | rfl <;> simp [ends]
    simpa using h x this
  · intro h x _
    simpa using has_of_norm h x
theorem within_ends (s t : Span) (k : ByteArray) : (ends s t k).all (fun x => !has s x || has t x) = within s t := by
  unfold within same
  rw [Bool.eq_iff_iff, decide_eq_true_eq, List.all_eq_true]
  constructor
  · intro h
    have hx : ∀ x, x = s.lo ∨ x = t.hi → has s x = true → has t x = true := fun x hx hs => by
      have : x ∈ ends s t k := by rcases hx with rfl | rfl <;> simp [ends]
      simpa [hs] using h x this
    have key : ∀ x, has s x = true → has t x = true := fun x hs => by
      have hlo : has s s.lo = true := by
        have := empty_iff s
        cases he : empty s with
        | true => rw [has_empty he] at hs; cases hs
        | false => rw [he] at this; simpa using this.symm
      have h1 := hx s.lo (.inl rfl) hlo
      have h2 := hx t.hi (.inr rfl)
      unfold has at h1 h2 hs ⊢
      simp only [Bool.and_eq_true, Bool.not_eq_true', Bool.or_eq_true] at h1 h2 hs ⊢
      refine ⟨le_le h1.1 hs.1, ?_⟩
      by_cases ho : t.opn = true
      · exact .inl ho
      · right
        have ho' : t.opn = false := by simpa using ho
        have h3 : lt s.lo t.hi = true := h1.2.resolve_left ho
        have h4 : ¬ (s.opn = true ∨ lt t.hi s.hi = true) := fun hc => by
          have := (h2 ⟨lt_asy h3, hc⟩).2
          rw [lt_irr] at this
          rcases this with h5 | h5
          · exact ho h5
          · cases h5
        have h5 : s.opn = false := by cases h6 : s.opn with | false => rfl | true => exact absurd (.inl h6) h4
        have h6 : lt t.hi s.hi = false := by cases h7 : lt t.hi s.hi with | false => rfl | true => exact absurd (.inr h7) h4
        have h7 : lt x s.hi = true := hs.2.resolve_left (by simp [h5])
        exact lt_le h7 h6
    refine norm_eq_of fun x _ => ?_
    rw [has_meet]
    cases hs : has s x with
    | false => rfl
    | true => rw [key x hs]; rfl
  · intro h x _
    have := has_of_norm h x
    rw [has_meet] at this
    cases hs : has s x with
    | false => rfl
    | true => rw [hs] at this; simpa using this
theorem touch_ends (s t : Span) (k : ByteArray) : (ends s t k).any (fun x => has s x && has t x) = touch s t := by
  unfold touch
  have e := empty_norm (rawMeet s t)
  have e2 := empty_iff (rawMeet s t)
  rw [has_rawMeet] at e2
  unfold meet
  rw [e]
  cases he : empty (rawMeet s t) with
  | true =>
    rw [Bool.not_true, List.any_eq_false]
    intro x _ hc
    have := has_rawMeet s t x
    rw [has_empty he] at this
    rw [← this] at hc; cases hc
  | false =>
    rw [he] at e2
    rw [Bool.not_false, List.any_eq_true]
    refine ⟨(rawMeet s t).lo, ?_, by simpa using e2.symm⟩
    show meetLo s t ∈ _
    unfold meetLo mx
    split <;> simp [ends]
theorem touch_comm (s t : Span) : touch s t = touch t s := by
  rw [← touch_ends s t em, ← touch_ends t s em]
  rw [Bool.eq_iff_iff, List.any_eq_true, List.any_eq_true]
  constructor
  · rintro ⟨x, hx, h⟩
    refine ⟨x, ?_, by rw [Bool.and_comm]; exact h⟩
    simp only [ends, List.mem_cons] at hx ⊢
    rcases hx with h | h | h | h | h | h | h | h | h | h | h | h <;> simp_all
  · rintro ⟨x, hx, h⟩
    refine ⟨x, ?_, by rw [Bool.and_comm]; exact h⟩
    simp only [ends, List.mem_cons] at hx ⊢
    rcases hx with h | h | h | h | h | h | h | h | h | h | h | h <;> simp_all

/-- The reference's meet, which looks at the ends in another order. -/
def refMeet (a b : Span) : Span :=
  norm ⟨if lt a.lo b.lo = true then b.lo else a.lo, if (!b.opn && (a.opn || lt b.hi a.hi)) = true then b.hi else a.hi, if (!b.opn && (a.opn || lt b.hi a.hi)) = true then false else a.opn⟩
theorem refMeet_eq (a b : Span) : refMeet a b = meet a b := by
  unfold refMeet meet
  refine norm_eq_of fun x _ => ?_
  rw [has_rawMeet]
  have := has_rawMeet a b x
  rw [← this]
  unfold has rawMeet meetLo meetHi mx mn
  simp only
  congr 1
  cases ha : a.opn <;> cases hb : b.opn <;> cases hc : lt b.hi a.hi <;> simp
end Go.Proofs.Ytipbbbamjckjoaa
