/- The walk of the reference's Less: byte by byte it is the order of texts. -/
import Derived.Test.YtipbbbamjckjoaaData
import Derived.Test.YtipbbbamjckjoaaOrd
import Derived.BigQuiet
namespace Go.Proofs.Ytipbbbamjckjoaa
open Go.RowKit
set_option linter.unusedVariables false
set_option maxRecDepth 20000
set_option linter.unusedSimpArgs false

theorem bl_drop {s : ByteArray} {k : Nat} (h : k < s.size) : (bl s).drop k = s[k] :: (bl s).drop (k + 1) := by
  rw [List.drop_eq_getElem_cons (by rw [← bl_size]; exact h)]; rfl
theorem less_ne {a b : ByteArray} {k : Nat} (ha : k < a.size) (hb : k < b.size) (h : ((a[k].toNat : Int) != (b[k].toNat : Int)) = true) :
    Op.bytesLess ((bl a).drop k) ((bl b).drop k) = decide (a[k].toNat < b[k].toNat) := by
  rw [bl_drop ha, bl_drop hb, bls_cons]
  have h' : ¬ a[k].toNat = b[k].toNat := by
    have := h; simp only [bne_iff_ne, ne_eq] at this; omega
  rw [decide_eq_false h']; simp
theorem less_eq {a b : ByteArray} {k : Nat} (ha : k < a.size) (hb : k < b.size) (h : ((a[k].toNat : Int) != (b[k].toNat : Int)) = false) :
    Op.bytesLess ((bl a).drop k) ((bl b).drop k) = Op.bytesLess ((bl a).drop (k + 1)) ((bl b).drop (k + 1)) := by
  rw [bl_drop ha, bl_drop hb, bls_cons]
  have h' : a[k].toNat = b[k].toNat := by
    have := h; simp only [bne_eq_false_iff_eq] at this; omega
  simp [h']
theorem less_end {a b : ByteArray} {k : Nat} (ha : k ≤ a.size) (hb : k ≤ b.size) (h : ¬ k < a.size ∨ ¬ k < b.size) : Op.bytesLess ((bl a).drop k) ((bl b).drop k) = decide (a.size < b.size) := by
  by_cases hb' : k < b.size
  · have ha' : (bl a).drop k = [] := List.drop_eq_nil_of_le (by rw [← bl_size]; omega)
    rw [ha', bl_drop hb', bls_cons_nil, decide_eq_true (by omega)]
  · have hb'' : (bl b).drop k = [] := List.drop_eq_nil_of_le (by rw [← bl_size]; omega)
    rw [hb'', bls_nil, decide_eq_false (by omega)]

set_option maxHeartbeats 400000 in
theorem ref_Less (a b : ByteArray) (ha : a.size ≤ maxLen) (hb : b.size ≤ maxLen) (w : World) :
    Calls Try.prog 79 #[.string a, .string b] w fun e w' => e = .returned (.bool (Op.bytesLess a.toList b.toList)) ∧ Below w.heap.size w w' := by
  unfold maxLen at ha hb
  go_enter Try.func79, Try.ntmps79
  go_wp2
  go_loopw [5] (fun i w' => ∃ k : Nat, k ≤ a.size ∧ k ≤ b.size ∧ i = .int .i64 k ∧ Below w.heap.size w w' ∧ Hid (Op.bytesLess ((bl a).drop k) ((bl b).drop k) = Op.bytesLess a.toList b.toList)) (fun i w' => a.size - (intOf i).toNat)
  case atStart => exact ⟨0, Nat.zero_le _, Nat.zero_le _, by go_num, Below.refl _ _, Lib.hid (by rw [Lib.toList_data, Lib.toList_data]; rfl)⟩
  case round =>
    obtain ⟨k, hk, hk2, rfl, hbw, hrest⟩ := hrel
    by_cases hlt : k < a.size
    · by_cases hlt2 : k < b.size
      · have L1 := Lib.hid (less_ne hlt hlt2)
        have L2 := Lib.hid (less_eq hlt hlt2)
        go_wp2
        go_quiet (fail)
        go_wp2
        · go_quiet (fail)
          go_wp2
          go_ret
          refine ⟨retv (boolv ?_), below_drewN (below_drewN hbw _) _⟩
          rw [← hrest.out, L1.out (by assumption)]
        · go_roundw
          case rel => exact ⟨k + 1, by omega, by omega, by go_num, below_drewN hbw _, Lib.hid ((L2.out (by assumption)).symm.trans hrest.out)⟩
          case measure => simp [intOf]; omega
      · have L := Lib.hid ((less_end hk hk2 (.inr hlt2)).symm.trans hrest.out)
        go_wp2
        go_ret
        exact ⟨retv (boolv (by rw [← L.out])), hbw⟩
    · have L := Lib.hid ((less_end hk hk2 (.inl hlt)).symm.trans hrest.out)
      go_wp2
      go_ret
      exact ⟨retv (boolv (by rw [← L.out])), hbw⟩
end Go.Proofs.Ytipbbbamjckjoaa
