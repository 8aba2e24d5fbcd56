/- Effects: what they do, one behind the other, which may be: plain Lean, no program in sight. -/
import Derived.Test.YtipbbbamjckjoaaTypes
namespace Go.Proofs.Ytipbbbamjckjoaa
open Go.RowKit
set_option linter.unusedVariables false
set_option maxRecDepth 20000
set_option linter.unusedSimpArgs false

def applyH (e : Eff) (h : Bool) : Bool := if e.kind = 1 then true else if e.kind = 2 then true else if e.kind = 3 then false else h
def applyV (e : Eff) (h : Bool) (v : ByteArray) : ByteArray :=
  if e.kind = 1 then e.val else if e.kind = 2 then tl ((if h = true then v else em) ++ e.val) else if e.kind = 3 then em else if h = true then v else em
def rightE (e : Eff) : Bool := if e.kind = 1 ∨ e.kind = 2 then decide (e.val.size ≤ 16) else if e.kind = 0 ∨ e.kind = 3 then decide (e.val = em) else false
def rowsE (e : Eff) : Bool := decide (e.kind = 1 ∨ e.kind = 2)
def thenE (a b : Eff) : Eff :=
  if b.kind = 0 then a else if b.kind ≠ 2 then b else if a.kind = 0 then b
  else if a.kind = 2 then ⟨2, tl (a.val ++ b.val)⟩ else if a.kind = 3 then ⟨1, tl (em ++ b.val)⟩ else ⟨1, tl (a.val ++ b.val)⟩
def refThenE (a b : Eff) : Eff :=
  if b.kind = 0 then a else if b.kind ≠ 2 then b else if a.kind = 0 then b
  else if a.kind = 2 then ⟨2, tl (a.val ++ b.val)⟩ else ⟨1, tl (a.val ++ b.val)⟩
theorem rightE_size {e : Eff} (h : rightE e = true) : e.val.size ≤ 16 := by
  unfold rightE at h
  split at h
  · simpa using h
  · split at h
    · have : e.val = em := by simpa using h
      rw [this, size_em]; omega
    · cases h
theorem rightE_em {e : Eff} (h : rightE e = true) (h3 : e.kind = 3 ∨ e.kind = 0) : e.val = em := by
  unfold rightE at h
  rw [if_neg (by omega), if_pos (by omega)] at h
  simpa using h
theorem rightE_kind {e : Eff} (h : rightE e = true) : e.kind = 0 ∨ e.kind = 1 ∨ e.kind = 2 ∨ e.kind = 3 := by
  unfold rightE at h
  split at h
  · omega
  · split at h
    · omega
    · cases h
theorem refThen_eq {a b : Eff} (h : rightE a = true) : refThenE a b = thenE a b := by
  unfold refThenE thenE
  by_cases h3 : a.kind = 3
  · rw [rightE_em h (.inl h3)]
    simp [h3]
  · simp [h3]
theorem em_size16 : em.size ≤ 16 := by rw [size_em]; omega
theorem right_then {a b : Eff} (ha : rightE a = true) (hb : rightE b = true) : rightE (thenE a b) = true := by
  unfold thenE
  have sz : ∀ x y : ByteArray, (tl (x ++ y)).size ≤ 16 := fun x y => by rw [size_tl]; omega
  split
  · exact ha
  · split
    · exact hb
    · split
      · exact hb
      · split
        · unfold rightE; rw [if_pos (by simp)]; simpa using sz _ _
        · split
          · unfold rightE; rw [if_pos (by simp)]; simpa using sz _ _
          · unfold rightE; rw [if_pos (by simp)]; simpa using sz _ _
theorem tl_idem (s : ByteArray) : tl (tl s) = tl s := tl_short _ (by rw [size_tl]; omega)
theorem em_app_tl (b : ByteArray) : tl (em ++ b) = tl b := by rw [em_app]
/-- What both do, one behind the other, is what their one does. -/
theorem apply_then {a b : Eff} (ha : rightE a = true) (hb : rightE b = true) (h : Bool) (v : ByteArray) (hv : v.size ≤ 16) :
    applyH b (applyH a h) = applyH (thenE a b) h ∧ applyV b (applyH a h) (applyV a h v) = applyV (thenE a b) h v := by
  have ka := rightE_kind ha
  have kb := rightE_kind hb
  have sb := rightE_size hb
  have sa := rightE_size ha
  obtain ⟨k, x⟩ := a
  obtain ⟨m, y⟩ := b
  simp only at ka kb sa sb
  have t1 : tl y = y := tl_short y sb
  have t2 : tl x = x := tl_short x sa
  have t3 : tl v = v := tl_short v hv
  rcases ka with rfl | rfl | rfl | rfl <;> rcases kb with rfl | rfl | rfl | rfl <;> cases h <;>
    simp [applyH, applyV, thenE, tl_tl, tl_app_tl, app_assoc, em_app, app_em, tl_idem, t1, t2, t3]
theorem then_assoc {a b c : Eff} (ha : rightE a = true) (hb : rightE b = true) (hc : rightE c = true) : thenE (thenE a b) c = thenE a (thenE b c) := by
  have ka := rightE_kind ha
  have kb := rightE_kind hb
  have kc := rightE_kind hc
  have sa := rightE_size ha
  have sb := rightE_size hb
  have sc := rightE_size hc
  obtain ⟨k, x⟩ := a
  obtain ⟨m, y⟩ := b
  obtain ⟨n, z⟩ := c
  simp only at ka kb kc sa sb sc
  have t1 : tl y = y := tl_short y sb
  have t2 : tl x = x := tl_short x sa
  have t3 : tl z = z := tl_short z sc
  rcases ka with rfl | rfl | rfl | rfl <;> rcases kb with rfl | rfl | rfl | rfl <;> rcases kc with rfl | rfl | rfl | rfl <;>
    simp [thenE, tl_tl, tl_app_tl, app_assoc, em_app, app_em, tl_idem, t1, t2, t3]
def keepE : Eff := ⟨0, em⟩
theorem right_keep : rightE keepE = true := by decide +kernel
theorem then_keep (a : Eff) : thenE a keepE = a := by unfold thenE keepE; simp
def foldE (a : Eff) (l : List Eff) : Eff := l.foldl thenE a
theorem right_fold : ∀ (l : List Eff) (a : Eff), rightE a = true → (∀ e ∈ l, rightE e = true) → rightE (foldE a l) = true
  | [], a, h, _ => h
  | e :: l, a, h, hl => right_fold l (thenE a e) (right_then h (hl e (by simp))) (fun x hx => hl x (by simp [hx]))
theorem fold_then : ∀ (l : List Eff) (a : Eff), rightE a = true → (∀ e ∈ l, rightE e = true) → foldE a l = thenE a (foldE keepE l)
  | [], a, _, _ => (then_keep a).symm
  | e :: l, a, h, hl => by
    have he := hl e (by simp)
    have hl' : ∀ x ∈ l, rightE x = true := fun x hx => hl x (by simp [hx])
    have h1 := fold_then l (thenE a e) (right_then h he) hl'
    have h2 := fold_then l (thenE keepE e) (right_then right_keep he) hl'
    show foldE (thenE a e) l = thenE a (foldE (thenE keepE e) l)
    rw [h1, h2]
    have hr := right_fold l keepE right_keep hl'
    rw [then_assoc h he hr, then_assoc right_keep he hr]
    rw [← then_assoc h right_keep (right_then he hr), then_keep]
theorem fold_split (l : List Eff) (k : Nat) (hl : ∀ e ∈ l, rightE e = true) : thenE (foldE keepE (l.take k)) (foldE keepE (l.drop k)) = foldE keepE l := by
  have h1 : ∀ e ∈ l.take k, rightE e = true := fun e he => hl e (List.mem_of_mem_take he)
  have h2 : ∀ e ∈ l.drop k, rightE e = true := fun e he => hl e (List.mem_of_mem_drop he)
  rw [← fold_then (l.drop k) _ (right_fold _ _ right_keep h1) h2]
  unfold foldE
  rw [← List.foldl_append, List.take_append_drop]
end Go.Proofs.Ytipbbbamjckjoaa
