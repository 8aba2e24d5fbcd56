/- The walks of the value layer: Right, Tail, Add of package value, and Tail of the reference. -/
import Derived.Test.YtipbbbamjckjoaaRows
import Derived.Test.YtipbbbamjckjoaaBase
namespace Go.Proofs.Ytipbbbamjckjoaa
open Go.RowKit
set_option linter.unusedVariables false
set_option maxRecDepth 20000
set_option linter.unusedSimpArgs false


set_option maxHeartbeats 400000 in
theorem value_Right (s : ByteArray) (w : World) (hs : s.size ≤ maxLen) :
    Calls Try.prog 117 #[.string s] w fun e w' => e = .returned (.bool (decide ((s.size : Int) ≤ 16))) ∧ w = w' := by
  unfold maxLen at hs
  go_enter Try.func117, Try.ntmps117
  go_wp2
  go_ret
  exact ⟨rfl, rfl⟩

set_option maxHeartbeats 400000 in
theorem value_Tail (s : ByteArray) (w : World) (hs : s.size ≤ maxLen) :
    Calls Try.prog 128 #[.string s] w fun e w' => e = .returned (.string (tl s)) ∧ w = w' := by
  unfold maxLen at hs
  go_enter Try.func128, Try.ntmps128
  go_wp2
  · go_ret
    exact ⟨retv (strv (by unfold tl; congr 1; omega)), rfl⟩
  · go_ret
    exact ⟨retv (strv (tl_short s (by omega)).symm), rfl⟩

set_option maxHeartbeats 400000 in
theorem value_Add (a b : ByteArray) (w : World) (hs : (a ++ b).size ≤ maxLen) :
    Calls Try.prog 125 #[.string a, .string b] w fun e w' => e = .returned (.string (tl (a ++ b))) ∧ w = w' := by
  have H := Lib.hid hs
  rw [size_app] at hs
  unfold maxLen at hs
  go_enter Try.func125, Try.ntmps125
  go_wp2_with (go_at_call 128; refine (value_Tail _ _ H.out).mono ?_; rintro e w' ⟨rfl, rfl⟩)
  go_ret
  exact ⟨rfl, rfl⟩

theorem tl_step (s : ByteArray) (k : Nat) (h1 : k < s.size) : s.extract (s.size - k - 1) s.size = s.extract (s.size - (k + 1)) s.size := by congr 1
set_option maxHeartbeats 400000 in
theorem ref_Tail (s : ByteArray) (w : World) (hs : s.size ≤ maxLen) :
    Calls Try.prog 83 #[.string s] w fun e w' => e = .returned (.string (tl s)) ∧ w = w' := by
  unfold maxLen at hs
  go_enter Try.func83, Try.ntmps83
  go_wp2
  go_loop [3, 4] (fun o i => ∃ k : Nat, k ≤ s.size ∧ k ≤ 16 ∧ i = .int .i64 ((s.size : Int) - k - 1) ∧ o = .string (s.extract (s.size - k) s.size)) (fun _ i => (intOf i + 1).toNat)
  case atStart => exact ⟨0, Nat.zero_le _, by omega, by go_num, strv (eq_em (by simp)).symm⟩
  case round =>
    obtain ⟨k, hk, hk2, rfl, rfl⟩ := hrel
    go_wp2
    · go_round
      case rel => exact ⟨k + 1, by omega, by omega, by go_num, strv (tl_step s k (by omega))⟩
      case measure => simp [intOf]; omega
    all_goals
      go_ret
      refine ⟨retv (strv ?_), rfl⟩
      unfold tl; congr 1; omega

end Go.Proofs.Ytipbbbamjckjoaa
