/- Sums over lists: plain Lean. -/
import Derived.Test.YtipbbbamjckjoaaMsg
namespace Go.Proofs.Ytipbbbamjckjoaa
set_option linter.unusedVariables false
set_option maxRecDepth 20000
set_option linter.unusedSimpArgs false
def sumBy {α : Type} (f : α → Int) : List α → Int
  | [] => 0
  | a :: l => f a + sumBy f l
section
variable {α : Type} {f : α → Int}
theorem sumBy_app : ∀ (l m : List α), sumBy f (l ++ m) = sumBy f l + sumBy f m
  | [], m => by simp [sumBy]
  | a :: l, m => by simp only [List.cons_append, sumBy, sumBy_app l m]; omega
theorem sumBy_step {l : List α} {k : Nat} (h : k < l.length) : sumBy f (l.take (k + 1)) = sumBy f (l.take k) + f l[k] := by
  rw [List.take_succ_eq_append_getElem h, sumBy_app]; simp [sumBy]
theorem sumBy_nonneg : ∀ (l : List α), (∀ a ∈ l, 0 ≤ f a) → 0 ≤ sumBy f l
  | [], _ => by simp [sumBy]
  | a :: l, h => by
    have := sumBy_nonneg l (fun x hx => h x (by simp [hx]))
    have := h a (by simp)
    simp only [sumBy]; omega
theorem sumBy_take_le (l : List α) (h : ∀ a ∈ l, 0 ≤ f a) (k : Nat) : sumBy f (l.take k) ≤ sumBy f l := by
  have h1 := sumBy_app (f := f) (l.take k) (l.drop k)
  rw [List.take_append_drop] at h1
  have := sumBy_nonneg (f := f) (l.drop k) (fun a ha => h a (List.mem_of_mem_drop ha))
  omega
theorem sumBy_le (c : Int) : ∀ (l : List α), (∀ a ∈ l, f a ≤ c) → sumBy f l ≤ l.length * c
  | [], _ => by simp [sumBy]
  | a :: l, h => by
    have h1 := sumBy_le c l (fun x hx => h x (by simp [hx]))
    have h2 := h a (by simp)
    simp only [sumBy, List.length_cons]
    have : ((l.length + 1 : Nat) : Int) * c = (l.length : Int) * c + c := by rw [Int.natCast_add, Int.add_mul]; simp
    omega
theorem sumBy_mem (l : List α) (h : ∀ a ∈ l, 0 ≤ f a) {a : α} (ha : a ∈ l) : f a ≤ sumBy f l := by
  induction l with
  | nil => cases ha
  | cons b l ih =>
    have h1 := sumBy_nonneg (f := f) l (fun x hx => h x (by simp [hx]))
    have h2 := h b (by simp)
    simp only [sumBy]
    rcases List.mem_cons.1 ha with rfl | ha
    · omega
    · have := ih (fun x hx => h x (by simp [hx])) ha; omega
theorem sumBy_len (l : List α) (h : ∀ a ∈ l, 1 ≤ f a) : (l.length : Int) ≤ sumBy f l := by
  induction l with
  | nil => simp [sumBy]
  | cons b l ih =>
    have h2 := h b (by simp)
    have := ih (fun x hx => h x (by simp [hx]))
    simp only [sumBy, List.length_cons]; omega
end
def wtM (m : Msg) : Int := 1 + (m.key.size : Int) + (m.hi.size : Int) + (m.val.size : Int)
theorem wtM_pos (m : Msg) : 1 ≤ wtM m := by unfold wtM; omega
/-- Few messages: how many bytes their texts have at most. -/
theorem few_bounds {l : List Msg} {n : Int} (h : sumBy wtM l ≤ n) : (l.length : Int) ≤ n ∧ ∀ m ∈ l, (m.key.size : Int) ≤ n ∧ (m.hi.size : Int) ≤ n ∧ (m.val.size : Int) ≤ n := by
  have h1 := sumBy_len l (fun a _ => wtM_pos a)
  refine ⟨by omega, fun m hm => ?_⟩
  have h2 := sumBy_mem (f := wtM) l (fun a _ => by have := wtM_pos a; omega) hm
  have h3 : wtM m = 1 + (m.key.size : Int) + (m.hi.size : Int) + (m.val.size : Int) := rfl
  omega
def allM (l : List Msg) : Bool := l.all refRightM && (List.range l.length).all fun i => decide (i = 0 ∨ ((l[i - 1]?).map Msg.stamp).getD 0 < ((l[i]?).map Msg.stamp).getD 0)
def lastSt (l : List Msg) : Int := ((l.getLast?).map Msg.stamp).getD 0
def sizeL (l : List Msg) : Int := sumBy sizeM l
theorem sizeM_pos (m : Msg) : 0 ≤ sizeM m := by unfold sizeM; split <;> omega
theorem sizeM_le {m : Msg} {n : Int} (h1 : (m.key.size : Int) ≤ n) (h2 : (m.val.size : Int) ≤ n) (h0 : 0 ≤ n) : sizeM m ≤ 36 + 2 * n := by unfold sizeM; split <;> omega
end Go.Proofs.Ytipbbbamjckjoaa
