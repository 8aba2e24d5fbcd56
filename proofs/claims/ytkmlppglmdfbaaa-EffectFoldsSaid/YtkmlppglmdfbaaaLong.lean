/- The walk of the reference's count of bytes (Long), and what it says of the texts. -/
import Derived.Test.YtkmlppglmdfbaaaData
namespace Go.Proofs.Ytkmlppglmdfbaaa
open Go.RowKit
set_option linter.unusedVariables false

/-- How many bytes texts have, up to a bound and a little more. -/
def lngFrom (most : Int) : Int → List ByteArray → Int
  | n, [] => n
  | n, s :: r => if n ≤ most then lngFrom most (n + ((s.size : Int) + 1)) r else n
def tot (l : List ByteArray) : Nat := (l.map (·.size)).sum
theorem lng_more (most : Int) : ∀ (l : List ByteArray) (n : Int), n ≤ lngFrom most n l
  | [], n => Int.le_refl n
  | s :: r, n => by
    unfold lngFrom
    split
    · have := lng_more most r (n + ((s.size : Int) + 1)); omega
    · omega
theorem lng_tot (most : Int) : ∀ (l : List ByteArray) (n : Int), lngFrom most n l ≤ most → n + (tot l : Int) + l.length ≤ most
  | [], n, h => by simpa [lngFrom, tot] using h
  | s :: r, n, h => by
    unfold lngFrom at h
    split at h
    · have := lng_tot most r _ h
      simp only [tot, List.map_cons, List.sum_cons, List.length_cons] at this ⊢
      omega
    · omega
theorem drop_get {α : Type} {l : List α} {k : Nat} (h : k < l.length) : l.drop k = l[k] :: l.drop (k + 1) := List.drop_eq_getElem_cons h
theorem lng_step {most n : Int} {l : List ByteArray} {k : Nat} (h : k < l.length) (hn : n ≤ most) : lngFrom most n (l.drop k) = lngFrom most (n + ((l[k].size : Int) + 1)) (l.drop (k + 1)) := by
  rw [drop_get h]; exact if_pos hn
theorem lng_stop {most n : Int} {l : List ByteArray} {k : Nat} (h : l.length ≤ k ∨ most < n) : lngFrom most n (l.drop k) = n := by
  by_cases hk : k < l.length
  · rw [drop_get hk]; exact if_neg (by omega)
  · rw [List.drop_eq_nil_of_le (by omega)]; rfl
theorem intv {a b : Int} (h : a = b) : Value.int .i64 a = .int .i64 b := by rw [h]

set_option maxHeartbeats 400000 in
theorem ref_Long (v : Value) (l : List ByteArray) (most : Int) (w : World) (hl : SlS w v l) (hs : ∀ s ∈ l, Sz s) (h0 : 0 ≤ most) (h1 : most ≤ 100000) :
    Calls Try.prog 17 #[v, .int .i64 most] w fun e w' => e = .returned (.int .i64 (lngFrom most 0 l)) ∧ w = w' := by
  obtain ⟨A, c, rfl, hc1, hc2, _⟩ := id hl
  unfold maxLen at hc2
  go_enter Try.func17, Try.ntmps17
  go_wp2
  go_loop [5, 6] (fun n i => ∃ (k : Nat) (m : Int), k ≤ l.length ∧ i = .int .i64 k ∧ n = .int .i64 m ∧ 0 ≤ m ∧ m ≤ 140737488500000 ∧ Hid (lngFrom most m (l.drop k) = lngFrom most 0 l)) (fun _ i => l.length - (intOf i).toNat)
  case atStart => exact ⟨0, 0, Nat.zero_le _, by go_num, rfl, by omega, by omega, Lib.hid rfl⟩
  case round =>
    obtain ⟨k, m, hk, rfl, rfl, hm0, hm1, hrest⟩ := hrel
    by_cases hlt : k < l.length
    · obtain ⟨b, off, rfl, hb, hcell⟩ := hl.at_ hlt
      have hz := (hs l[k] (List.getElem_mem hlt)).le
      by_cases hn : m ≤ most
      · have HR := Lib.hid (lng_step hlt hn)
        go_wp2
        go_round
        case rel => exact ⟨k + 1, m + ((l[k].size : Int) + 1), by omega, by go_num, rfl, by omega, by omega, Lib.hid (HR.out.symm.trans hrest.out)⟩
        case measure => simp [intOf]; omega
      · have HR := Lib.hid (lng_stop (l := l) (k := k) (.inr (by omega : most < m)))
        go_wp2
        go_ret
        exact ⟨retv (intv (HR.out.symm.trans hrest.out)), rfl⟩
    · have HR := Lib.hid (lng_stop (most := most) (n := m) (l := l) (k := k) (.inl (by omega)))
      go_wp2
      go_ret
      exact ⟨retv (intv (HR.out.symm.trans hrest.out)), rfl⟩
end Go.Proofs.Ytkmlppglmdfbaaa
