/- The walk of value.Fold: all texts one behind the other, cut at the end to a value. -/
import Derived.Test.YtkmlppglmdfbaaaLong
import Derived.Test.YtkmlppglmdfbaaaVal
namespace Go.Proofs.Ytkmlppglmdfbaaa
open Go.RowKit
set_option linter.unusedVariables false

def cat (a : ByteArray) (l : List ByteArray) : ByteArray := l.foldl (· ++ ·) a
def foldTl (a : ByteArray) (l : List ByteArray) : ByteArray := l.foldl (fun o v => tl (o ++ v)) a
theorem foldTl_cat : ∀ (l : List ByteArray) (a : ByteArray), foldTl (tl a) l = tl (cat a l)
  | [], a => rfl
  | s :: r, a => by
    have h := foldTl_cat r (a ++ s)
    unfold foldTl cat at h ⊢
    rw [List.foldl_cons, List.foldl_cons, tl_tl, h]
theorem size_cat : ∀ (l : List ByteArray) (a : ByteArray), (cat a l).size = a.size + tot l
  | [], a => by simp [cat, tot]
  | s :: r, a => by
    have h := size_cat r (a ++ s)
    rw [size_app] at h
    unfold cat at h ⊢
    rw [List.foldl_cons, h]
    simp [tot]; omega
theorem cat_step {a : ByteArray} {l : List ByteArray} {k : Nat} (h : k < l.length) : cat a (l.drop k) = cat (a ++ l[k]) (l.drop (k + 1)) := by rw [drop_get h]; rfl
theorem foldTl_step {a : ByteArray} {l : List ByteArray} {k : Nat} (h : k < l.length) : foldTl a (l.drop k) = foldTl (tl (a ++ l[k])) (l.drop (k + 1)) := by rw [drop_get h]; rfl
theorem cat_stop {a : ByteArray} {l : List ByteArray} {k : Nat} (h : l.length ≤ k) : cat a (l.drop k) = a := by rw [List.drop_eq_nil_of_le h]; rfl
theorem foldTl_stop {a : ByteArray} {l : List ByteArray} {k : Nat} (h : l.length ≤ k) : foldTl a (l.drop k) = a := by rw [List.drop_eq_nil_of_le h]; rfl

set_option maxHeartbeats 400000 in
theorem value_Fold (v : Value) (l : List ByteArray) (w : World) (hl : SlS w v l) (hs : ∀ s ∈ l, Sz s) :
    Calls Try.prog 18 #[v] w fun e w' => e = .returned (.string (foldTl em l)) ∧ w = w' := by
  obtain ⟨A, c, rfl, hc1, hc2, _⟩ := id hl
  unfold maxLen at hc2
  go_enter Try.func18, Try.ntmps18
  go_wp2
  go_loop [3, 8] (fun o i => ∃ (k : Nat) (a : ByteArray), k ≤ l.length ∧ i = .int .i64 k ∧ o = .string a ∧ a.size ≤ 16 ∧ Hid (foldTl a (l.drop k) = foldTl em l)) (fun _ i => l.length - (intOf i).toNat)
  case atStart => exact ⟨0, em, Nat.zero_le _, by go_num, rfl, by rw [size_em]; omega, Lib.hid rfl⟩
  case round =>
    obtain ⟨k, a, hk, rfl, rfl, ha, hrest⟩ := hrel
    by_cases hlt : k < l.length
    · obtain ⟨b, off, rfl, hb, hcell⟩ := hl.at_ hlt
      have hz := (hs l[k] (List.getElem_mem hlt)).le
      have HR := Lib.hid (foldTl_step (a := a) hlt)
      have hm : (a ++ l[k]).size ≤ maxLen := by rw [size_app]; unfold maxLen; omega
      have HM := Lib.hid hm
      have HT := Lib.hid (size_tl (a ++ l[k]))
      clear hm
      go_wp2_with fail
      (with_reducible refine (value_Add _ _ _ HM.out).mono ?_); rintro e w' ⟨rfl, rfl⟩
      go_wp2
      go_round
      case rel => exact ⟨k + 1, tl (a ++ l[k]), by omega, by go_num, rfl, by rw [HT.out]; omega, Lib.hid (HR.out.symm.trans hrest.out)⟩
      case measure => simp [intOf]; omega
    · have HR := Lib.hid (foldTl_stop (a := a) (l := l) (k := k) (by omega))
      go_wp2
      go_ret
      exact ⟨retv (strv (HR.out.symm.trans hrest.out)), rfl⟩
end Go.Proofs.Ytkmlppglmdfbaaa
