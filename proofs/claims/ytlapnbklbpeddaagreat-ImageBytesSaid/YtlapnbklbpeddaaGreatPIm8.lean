import Derived.Test.YtlapnbklbpeddaaGreatPIm6
/- strings.CutPrefix. -/
namespace Go.Proofs.YtlapnbklbpeddaaGreat
open Go Go.RowKit
attribute [local irreducible] Calls
set_option linter.unusedVariables false
set_option maxRecDepth 20000
set_option linter.unusedSimpArgs false
set_option maxHeartbeats 4000000
instance : CalT Tryz.prog 94 := ⟨by kernel_rfl⟩
instance : CalT Tryz.prog 57 := ⟨by kernel_rfl⟩
/-- Does s begin with p? -/
def hasP (s p : ByteArray) : Bool := decide (p.size ≤ s.size) && decide (s.extract 0 p.size = p)
def cutP (s p : ByteArray) : ByteArray × Bool := if hasP s p = true then (s.extract p.size s.size, true) else (s, false)
theorem lite_HasPrefix (s p : ByteArray) (w : World) : Calls Tryz.prog 94 #[.string s, .string p] w fun e w' => e = .returned (.bool (hasP s p)) ∧ Below w.heap.size w w' := by
  unfold hasP
  by_cases h : p.size ≤ s.size
  · have d1 : decide ((p.size : Int) ≤ (s.size : Int)) = true := decide_eq_true (by omega)
    have d2 : decide (p.size ≤ s.size) = true := decide_eq_true h
    rw [d2, Bool.true_and]
    refine V_flat (args := [.string s, .string p]) (M := Mem.no) Tryz.func94 rfl Tryz.ntmps94 (by rfl) (Mem.no_le _) ?_
    repeat' (first | refine VC_seq ?_ | refine VC_region ?_ | refine VL_nil ?_ | refine VC_ret ?_ | ((apply VL_q); (first | exact QS_cutS 0 p.size (by rfl) (by rfl) (by rfl) (by omega) (by omega) | exact qmv (by rfl) | exact qas (by rfl) | exact qls (by rfl) | exact qpt (by rfl) | exact qcp (by rfl)); rfl) | refine kyes ?_)
    show Res _ _ _ _
    refine Res.one (by rfl) (ResV_tmp (by rfl) ?_)
    rfl
  · have d1 : decide ((p.size : Int) ≤ (s.size : Int)) = false := decide_eq_false (by omega)
    have d2 : decide (p.size ≤ s.size) = false := decide_eq_false h
    rw [d2, Bool.false_and]
    refine V_flat (args := [.string s, .string p]) (M := Mem.no) Tryz.func94 rfl Tryz.ntmps94 (by rfl) (Mem.no_le _) ?_
    repeat' (first | refine VC_seq ?_ | refine VC_region ?_ | refine VL_nil ?_ | refine VC_ret ?_ | ((apply VL_q); (first | exact qmv (by rfl) | exact qas (by rfl) | exact qls (by rfl) | exact qpf (by rfl) | exact qcp (by rfl)); rfl) | refine kno ?_)
    show Res _ _ _ _
    refine Res.one (by rfl) (ResV_tmp (by rfl) ?_)
    rfl
theorem lite_CutPrefix (s p : ByteArray) (w : World) : Calls Tryz.prog 57 #[.string s, .string p] w fun e w' => e = .returned (.tuple #[.string (cutP s p).1, .bool (cutP s p).2]) ∧ Below w.heap.size w w' := by
  have cH := fun W => lite_HasPrefix s p W
  unfold cutP
  rcases Bool.eq_false_or_eq_true (hasP s p) with h | h
  · have hz : p.size ≤ s.size := by
      unfold hasP at h
      rw [Bool.and_eq_true, decide_eq_true_iff] at h
      exact h.1
    rw [if_pos h]
    rw [h] at cH
    refine V_flat (args := [.string s, .string p]) (M := Mem.no) Tryz.func57 rfl Tryz.ntmps57 (by rfl) (Mem.no_le _) ?_
    repeat' (first | refine VC_seq ?_ | refine VC_region ?_ | refine VL_nil ?_ | refine VC_ret ?_ | refine VC_skip ?_ | ((apply VL_q); (first | exact QS_call (by rfl) (fun W _ => cH W) | exact QS_cutS p.size s.size (by rfl) (by rfl) (by rfl) (by omega) (by omega) | exact qmv (by rfl) | exact qas (by rfl) | exact qno (by rfl) | exact qls (by rfl)); rfl) | refine cfa ?_)
    show Res _ _ _ _
    refine Res.two (by rfl) (ResV_tmp (by rfl) ?_) (ResV_tmp (by rfl) ?_)
    all_goals rfl
  · rw [if_neg (by rw [h]; simp)]
    rw [h] at cH
    refine V_flat (args := [.string s, .string p]) (M := Mem.no) Tryz.func57 rfl Tryz.ntmps57 (by rfl) (Mem.no_le _) ?_
    repeat' (first | refine VC_seq ?_ | refine VC_region ?_ | refine VL_nil ?_ | refine VC_ret ?_ | ((apply VL_q); (first | exact QS_call (by rfl) (fun W _ => cH W) | exact qmv (by rfl) | exact qas (by rfl) | exact qno (by rfl)); rfl) | refine ctr ?_)
    show Res _ _ _ _
    refine Res.two (by rfl) (ResV_tmp (by rfl) ?_) (ResV_tmp (by rfl) ?_)
    all_goals rfl
theorem strings_CutPrefix (s p : ByteArray) (w : World) : Calls Tryz.prog 28 #[.string s, .string p] w fun e w' => e = .returned (.tuple #[.string (cutP s p).1, .bool (cutP s p).2]) ∧ Below w.heap.size w w' := by
  have cC := fun W => lite_CutPrefix s p W
  refine V_flat (args := [.string s, .string p]) (M := Mem.no) Tryz.func28 rfl Tryz.ntmps28 (by rfl) (Mem.no_le _) ?_
  repeat' (first | refine VC_seq ?_ | refine VC_region ?_ | refine VL_nil ?_ | refine VC_ret ?_ | ((apply VL_q); (first | exact QS_call (by rfl) (fun W _ => cC W) | exact qmv (by rfl) | exact qas (by rfl) | exact qex (by rfl)); rfl))
  show Res _ _ _ _
  refine Res.two (by rfl) (ResV_tmp (by rfl) ?_) (ResV_tmp (by rfl) ?_)
  all_goals rfl
end Go.Proofs.YtlapnbklbpeddaaGreat
/- What an eye reads of a number is that number (plain). -/
namespace Go.Proofs.YtlapnbklbpeddaaGreat
open Go Go.RowKit
set_option linter.unusedVariables false
set_option maxRecDepth 20000
set_option linter.unusedSimpArgs false
theorem orW_eq {n : Int} {c : UInt8} (h0 : 0 ≤ n) (h1 : n * 256 + 256 ≤ 9223372036854775808) : orW n c = n * 256 + (c.toNat : Int) := by
  have hc := UInt8.toNat_lt c
  obtain ⟨m, rfl⟩ := Int.eq_ofNat_of_zero_le h0
  have e1 : shW (m : Int) = ((m * 256 : Nat) : Int) := by
    unfold shW
    rw [wrap64 (by omega) (by omega)]
    omega
  unfold orW
  rw [e1]
  unfold orB
  have e2 : (BitVec.ofInt 64 ((m * 256 : Nat) : Int) ||| BitVec.ofInt 64 ((c.toNat : Nat) : Int)).toNat = m * 256 + c.toNat := by
    rw [BitVec.toNat_or, BitVec.ofInt_natCast, BitVec.ofInt_natCast, BitVec.toNat_ofNat, BitVec.toNat_ofNat]
    rw [Nat.mod_eq_of_lt (by omega), Nat.mod_eq_of_lt (by omega)]
    have := Nat.two_pow_add_eq_or_of_lt (i := 8) (b := c.toNat) (by omega) m
    rw [show m * 256 = 2 ^ 8 * m by omega]
    exact this.symm
  rw [e2, wrap64 (by omega) (by omega)]
  omega
theorem dg_nat (n : Int) (k : Nat) : ((dg n k).toNat : Int) = n / 256 ^ k % 256 := by
  unfold dg b8
  have h0 := Int.emod_nonneg (n / 256 ^ k) (show (256 : Int) ≠ 0 by omega)
  have h1 := Int.emod_lt_of_pos (n / 256 ^ k) (show (0 : Int) < 256 by omega)
  generalize n / 256 ^ k % 256 = m at *
  rw [UInt8.toNat_ofNat']
  omega
theorem num_fold (n : Int) (h0 : 0 ≤ n) (h1 : n ≤ 9223372036854775807) : ∀ k, (((List.range k).map (dg n)).reverse).foldl orW (n / 256 ^ k) = n
  | 0 => by simp
  | k + 1 => by
    rw [List.range_succ, List.map_append, List.reverse_append]
    show List.foldl orW (orW (n / 256 ^ (k + 1)) (dg n k)) _ = n
    have hp : (0 : Int) < 256 ^ k := Int.pow_pos (by omega)
    have hq : n / 256 ^ (k + 1) = n / 256 ^ k / 256 := by rw [Int.pow_succ, Int.ediv_ediv_of_nonneg (by omega)]
    have hk0 : 0 ≤ n / 256 ^ k := Int.ediv_nonneg h0 (by omega)
    have hk1 : n / 256 ^ k ≤ n := Int.ediv_le_self _ h0
    have hs : orW (n / 256 ^ (k + 1)) (dg n k) = n / 256 ^ k := by
      rw [hq, orW_eq (by omega) (by omega), dg_nat]
      omega
    rw [hs]
    exact num_fold n h0 h1 k
theorem num_back (n : Int) (h0 : 0 ≤ n) (h1 : n ≤ 9223372036854775807) : numV (numL n) = n := by
  have h := num_fold n h0 h1 8
  rw [show n / 256 ^ 8 = 0 from Int.ediv_eq_zero_of_lt h0 (by omega)] at h
  exact h
end Go.Proofs.YtlapnbklbpeddaaGreat
