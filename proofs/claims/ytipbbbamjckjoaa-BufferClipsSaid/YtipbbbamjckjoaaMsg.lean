/- Messages: which keys they are for, what they do, their size, which may be: plain Lean, no program in sight. -/
import Derived.Test.YtipbbbamjckjoaaEff
namespace Go.Proofs.Ytipbbbamjckjoaa
open Go.RowKit
set_option linter.unusedVariables false
set_option maxRecDepth 20000
set_option linter.unusedSimpArgs false

def spanM (m : Msg) : Span := if m.kind = 4 then ⟨m.key, m.hi, m.opn⟩ else point m.key
def rightM (m : Msg) : Bool :=
  decide (1 ≤ m.stamp) && decide (m.key.size ≤ 16) && (if m.kind = 4 then decide (m.val = em) && decide (m.hi.size ≤ 16) && (!m.opn || decide (m.hi = em)) && !empty (spanM m)
    else decide (m.kind ≠ 0) && decide (m.hi = em) && !m.opn && rightE ⟨m.kind, m.val⟩)
def refRightM (m : Msg) : Bool :=
  decide (1 ≤ m.stamp) && decide (m.key.size ≤ 16) && decide (m.val.size ≤ 16) && decide (m.hi.size ≤ 16) &&
  (if m.kind = 4 then decide (m.val = em) && (!m.opn || decide (m.hi = em)) && !empty (spanM m)
    else decide (m.hi = em) && !m.opn && (decide (m.kind = 1) || (decide (m.kind = 2) || (decide (m.kind = 3) && decide (m.val = em)))))
theorem refRightM_eq (m : Msg) : refRightM m = rightM m := by
  have e := size_em
  unfold refRightM rightM rightE
  by_cases h4 : m.kind = 4
  · simp only [h4, if_true]
    by_cases hv : m.val = em
    · rw [hv]; simp [e]; cases decide (1 ≤ m.stamp) <;> cases decide (m.key.size ≤ 16) <;> cases decide (m.hi.size ≤ 16) <;> simp
    · simp [hv]
  · simp only [h4, if_false]
    by_cases hh : m.hi = em
    · rw [hh]
      rcases (by omega : m.kind = 0 ∨ m.kind = 1 ∨ m.kind = 2 ∨ m.kind = 3 ∨ (m.kind ≠ 0 ∧ m.kind ≠ 1 ∧ m.kind ≠ 2 ∧ m.kind ≠ 3)) with h | h | h | h | ⟨g0, g1, g2, g3⟩
      · simp [h]
      · simp [h, e]; cases decide (1 ≤ m.stamp) <;> cases decide (m.key.size ≤ 16) <;> cases decide (m.val.size ≤ 16) <;> cases m.opn <;> simp
      · simp [h, e]; cases decide (1 ≤ m.stamp) <;> cases decide (m.key.size ≤ 16) <;> cases decide (m.val.size ≤ 16) <;> cases m.opn <;> simp
      · by_cases hv : m.val = em
        · simp [h, e, hv]
        · simp [h, e, hv]
      · simp [g0, g1, g2, g3]
    · simp [hh]
def onM (m : Msg) (k : ByteArray) : Eff :=
  if has (spanM m) k = true then (if m.kind = 1 ∨ m.kind = 2 then ⟨m.kind, m.val⟩ else if m.kind = 3 ∨ m.kind = 4 then ⟨3, em⟩ else keepE) else keepE
def sizeM (m : Msg) : Int := if m.kind = 4 then 36 else 4 + (m.key.size : Int) + (m.val.size : Int)
def msgE : Msg := ⟨0, 0, em, em, false, em⟩
def clipM (m : Msg) (s : Span) : Msg × Bool :=
  if touch (spanM m) s = true then
    (if m.kind = 4 then ⟨m.stamp, m.kind, (meet (spanM m) s).lo, (meet (spanM m) s).hi, (meet (spanM m) s).opn, m.val⟩ else m, true)
  else (msgE, false)
def joinM (a b : Msg) : Msg × Bool :=
  if b.kind = 4 ∧ within (spanM a) (spanM b) = true then (b, true)
  else if a.kind = 4 ∨ b.kind = 4 ∨ a.key ≠ b.key then (msgE, false)
  else (⟨b.stamp, (thenE (onM a a.key) (onM b b.key)).kind, b.key, b.hi, b.opn, (thenE (onM a a.key) (onM b b.key)).val⟩, true)
theorem onM_size (m : Msg) (k : ByteArray) {n : Nat} (h : m.val.size ≤ n) : (onM m k).val.size ≤ n := by
  have e : em.size = 0 := rfl
  unfold onM
  split
  · split
    · exact h
    · split <;> simp [keepE, e]
  · simp [keepE, e]
def longM (m : Msg) (most : Int) : Bool := decide ((m.key.size : Int) ≤ most) && (decide ((m.hi.size : Int) ≤ most) && decide ((m.val.size : Int) ≤ most))
/-- Do the stamps rise from one message on? -/
def risesFrom : Int → List Msg → Bool
  | _, [] => true
  | s, m :: l => decide (s < m.stamp) && risesFrom m.stamp l
def rises : List Msg → Bool
  | [] => true
  | m :: l => risesFrom m.stamp l
end Go.Proofs.Ytipbbbamjckjoaa
