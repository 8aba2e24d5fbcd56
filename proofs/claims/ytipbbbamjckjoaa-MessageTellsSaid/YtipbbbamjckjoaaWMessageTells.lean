/- The walk of MessageTells. -/
import Derived.Test.YtipbbbamjckjoaaMsgL
import Derived.Test.YtipbbbamjckjoaaMsgAwake
namespace Go.Proofs.Ytipbbbamjckjoaa.lawMessageTells
open Go Go.RowKit
set_option linter.unusedVariables false
set_option maxRecDepth 20000
set_option linter.unusedSimpArgs false
set_option maxHeartbeats 8000000 in
theorem walk (m : Msg) (s : Span) (k : ByteArray) (w : World) (hm : m.In) (hs : s.In) (hk : Sz k) :
    Calls Try.prog 4 #[.agg #[.int .i64 m.stamp, .int .i64 m.kind, .string m.key, .string m.hi, .bool m.opn, .string m.val], .agg #[.string s.lo, .string s.hi, .bool s.opn], .string k] w fun e w' => e = .returned (.bool true) ∧ Below w.heap.size w w' := by
  have a1 : ∀ W, Calls Try.prog 14 #[.agg #[.int .i64 m.stamp, .int .i64 m.kind, .string m.key, .string m.hi, .bool m.opn, .string m.val], .int .i64 300] W fun e w' => e = .returned (.bool (longM m 300)) ∧ Below W.heap.size W w' := fun W => ref_Long m 300 W hm
  have a2 : ∀ W, Calls Try.prog 15 #[.agg #[.string s.lo, .string s.hi, .bool s.opn], .agg #[.string s.lo, .string s.hi, .bool s.opn], .string k, .int .i64 300] W fun e w' => e = .returned (.bool (shortB s s k 300)) ∧ Below W.heap.size W w' := fun W => ref_Short s s k 300 W hs.1 hs.2 hs.1 hs.2 hk
  cases hL : longM m 300 with
  | false =>
    rw [hL] at a1
    refine V_flat (args := [.agg #[.int .i64 m.stamp, .int .i64 m.kind, .string m.key, .string m.hi, .bool m.opn, .string m.val], .agg #[.string s.lo, .string s.hi, .bool s.opn], .string k]) (M := Mem.no) Try.func4 rfl Try.ntmps4 (by rfl) (Mem.no_le _) ?_
    repeat' (first
      | refine VC_seq ?_
      | refine VC_region ?_
      | refine VL_nil ?_
      | refine VC_ret ?_
      | refine VC_exit ?_
      | refine VC_block ?_
      | refine VC_skip ?_
      | refine VL_box (by rfl) (by rfl) (by rfl) ?_
      | refine VL_alloc (by rfl) (by rfl) ?_
      | refine VL_store1 (by rfl) (by rfl) (by rfl) (by rfl) (by rfl) (by rfl) ?_
      | refine VL_storeN (by rfl) (by rfl) (by rfl) (by rfl) (by rfl) _ (by rfl) (by rfl) ?_
      | refine VL_q _ (by first | exact QS_call (by rfl) (fun W _ => message_awake W) | exact QS_call (by rfl) (fun W _ => a1 W) | exact QS_call (by rfl) (fun W _ => a2 W) | exact QS_move (by rfl) | exact QS_assign (by rfl) | exact QS_load1 (by rfl) (by rfl) (by rfl) | exact QS_loadA (by rfl) (by rfl) _ (by rfl) | exact QS_fieldAddr (by rfl) | exact QS_mfieldAddr (by rfl) | exact QS_field (by rfl) (by rfl) | exact QS_mload1 (by rfl) (by assumption) | exact QS_build _ (by rfl) (by rfl) (by rfl) | exact QS_not (by rfl) | exact QS_extract (by rfl) (by rfl) | exact QS_len (by rfl) | exact QS_lenStr (by rfl) | exact QS_lenRow (by rfl) (by rfl) | exact QS_pick_t (by rfl) (by first | rfl | assumption) (by rfl) | exact QS_pick_f (by rfl) (by first | rfl | assumption) (by rfl) | exact QS_bin (by rfl) (by rfl) (by first | exact B_lss | exact B_leq | exact B_gtr | exact B_geq | exact B_eql | exact B_neq | exact B_seql | exact B_sneq | exact B_slss | exact B_sgeq | exact B_sleq | exact B_sgtr | exact B_beql | exact B_bneq | exact B_agg (run_eql_Span _ _ _ _ _ _) | exact B_agg (run_neq_Span _ _ _ _ _ _) | exact B_agg (run_eql_Eff _ _ _ _) | exact B_agg (run_neq_Eff _ _ _ _) | exact B_agg (run_eql_Msg _ _ _ _ _ _ _ _ _ _ _ _) | exact B_agg (run_neq_Msg _ _ _ _ _ _ _ _ _ _ _ _) | exact B_agg (run_eql_Pair _ _ _ _) | exact B_agg (run_neq_Pair _ _ _ _)) | exact QS_bin (by rfl) (by rfl) (B_add (by omega) (by omega)) | exact QS_bin (by rfl) (by rfl) (B_sadd (by assumption)) | exact QS_bin (by rfl) (by rfl) (B_sub (by omega) (by omega))) (by rfl) ?_
      | refine VG_q _ (by first | exact QS_call (by rfl) (fun W _ => message_awake W) | exact QS_call (by rfl) (fun W _ => a1 W) | exact QS_call (by rfl) (fun W _ => a2 W) | exact QS_move (by rfl) | exact QS_assign (by rfl) | exact QS_load1 (by rfl) (by rfl) (by rfl) | exact QS_loadA (by rfl) (by rfl) _ (by rfl) | exact QS_fieldAddr (by rfl) | exact QS_mfieldAddr (by rfl) | exact QS_field (by rfl) (by rfl) | exact QS_mload1 (by rfl) (by assumption) | exact QS_build _ (by rfl) (by rfl) (by rfl) | exact QS_not (by rfl) | exact QS_extract (by rfl) (by rfl) | exact QS_len (by rfl) | exact QS_lenStr (by rfl) | exact QS_lenRow (by rfl) (by rfl) | exact QS_pick_t (by rfl) (by first | rfl | assumption) (by rfl) | exact QS_pick_f (by rfl) (by first | rfl | assumption) (by rfl) | exact QS_bin (by rfl) (by rfl) (by first | exact B_lss | exact B_leq | exact B_gtr | exact B_geq | exact B_eql | exact B_neq | exact B_seql | exact B_sneq | exact B_slss | exact B_sgeq | exact B_sleq | exact B_sgtr | exact B_beql | exact B_bneq | exact B_agg (run_eql_Span _ _ _ _ _ _) | exact B_agg (run_neq_Span _ _ _ _ _ _) | exact B_agg (run_eql_Eff _ _ _ _) | exact B_agg (run_neq_Eff _ _ _ _) | exact B_agg (run_eql_Msg _ _ _ _ _ _ _ _ _ _ _ _) | exact B_agg (run_neq_Msg _ _ _ _ _ _ _ _ _ _ _ _) | exact B_agg (run_eql_Pair _ _ _ _) | exact B_agg (run_neq_Pair _ _ _ _)) | exact QS_bin (by rfl) (by rfl) (B_add (by omega) (by omega)) | exact QS_bin (by rfl) (by rfl) (B_sadd (by assumption)) | exact QS_bin (by rfl) (by rfl) (B_sub (by omega) (by omega))) (by rfl) ?_
      | refine VS_st (by rfl) ?_
      | refine VS_q _ (by first | exact QS_call (by rfl) (fun W _ => message_awake W) | exact QS_call (by rfl) (fun W _ => a1 W) | exact QS_call (by rfl) (fun W _ => a2 W) | exact QS_move (by rfl) | exact QS_assign (by rfl) | exact QS_load1 (by rfl) (by rfl) (by rfl) | exact QS_loadA (by rfl) (by rfl) _ (by rfl) | exact QS_fieldAddr (by rfl) | exact QS_mfieldAddr (by rfl) | exact QS_field (by rfl) (by rfl) | exact QS_mload1 (by rfl) (by assumption) | exact QS_build _ (by rfl) (by rfl) (by rfl) | exact QS_not (by rfl) | exact QS_extract (by rfl) (by rfl) | exact QS_len (by rfl) | exact QS_lenStr (by rfl) | exact QS_lenRow (by rfl) (by rfl) | exact QS_pick_t (by rfl) (by first | rfl | assumption) (by rfl) | exact QS_pick_f (by rfl) (by first | rfl | assumption) (by rfl) | exact QS_bin (by rfl) (by rfl) (by first | exact B_lss | exact B_leq | exact B_gtr | exact B_geq | exact B_eql | exact B_neq | exact B_seql | exact B_sneq | exact B_slss | exact B_sgeq | exact B_sleq | exact B_sgtr | exact B_beql | exact B_bneq | exact B_agg (run_eql_Span _ _ _ _ _ _) | exact B_agg (run_neq_Span _ _ _ _ _ _) | exact B_agg (run_eql_Eff _ _ _ _) | exact B_agg (run_neq_Eff _ _ _ _) | exact B_agg (run_eql_Msg _ _ _ _ _ _ _ _ _ _ _ _) | exact B_agg (run_neq_Msg _ _ _ _ _ _ _ _ _ _ _ _) | exact B_agg (run_eql_Pair _ _ _ _) | exact B_agg (run_neq_Pair _ _ _ _)) | exact QS_bin (by rfl) (by rfl) (B_add (by omega) (by omega)) | exact QS_bin (by rfl) (by rfl) (B_sadd (by assumption)) | exact QS_bin (by rfl) (by rfl) (B_sub (by omega) (by omega))) (by rfl) (by rfl) ?_
      | refine VS_nil ?_
      | refine VE_q (by rfl) ?_
      | refine VE_st _ (by rfl) (by first | exact ES_store1 (by rfl) (by rfl) (by rfl) (by rfl) (by rfl) | exact ES_storeN (by rfl) (by rfl) (by rfl) (by rfl) (by rfl) _ (by rfl)) (by rfl) ?_
      | refine VE_nil ?_
      | refine VL_yes _ _ _ (by rfl) (by rfl) (by rfl) (by first | rfl | assumption) ?_
      | refine VL_no _ _ _ (by rfl) (by rfl) (by rfl) (by first | rfl | assumption) (by rfl) ?_
      | refine VG_yes _ _ _ (by rfl) (by rfl) (by rfl) (by first | rfl | assumption) ?_
      | refine VG_no _ _ _ (by rfl) (by rfl) (by rfl) (by first | rfl | assumption) (by rfl) ?_
      | refine VL_noU _ _ (by rfl) (by rfl) (by rfl) (by rfl) ?_
      | refine VG_noU _ _ (by rfl) (by rfl) (by rfl) (by rfl) ?_
      | refine VG_nil ⟨by rfl, ?_⟩
      | refine VG_nil ?_
      | refine VC_drawT (by decide +kernel) ?_
      | refine VC_draw1 (by rfl) (by decide +kernel) (by rfl) (by rfl) ?_
      | refine VC_drawQ (by rfl) (by decide +kernel) ?_
      | refine VC_true (by rfl) (by first | rfl | assumption) ?_
      | refine VC_false (by rfl) (by first | rfl | assumption) ?_
      | refine VL_dec _ _ _ (by rfl) (by rfl) (by rfl) (fun hq => ?_) (fun hq => ?_)
      | refine VG_dec _ _ _ (by rfl) (by rfl) (by rfl) (fun hq => ?_) (fun hq => ?_)
      | refine VC_cond _ (by rfl) (fun hq => ?_) (fun hq => ?_))
    all_goals
      show Res _ _ _ _
      refine Res.one (by rfl) (ResV_tmp (by rfl) ?_)
      rfl
  | true =>
    rw [hL] at a1
    cases hS : shortB s s k 300 with
    | false =>
      rw [hS] at a2
      refine V_flat (args := [.agg #[.int .i64 m.stamp, .int .i64 m.kind, .string m.key, .string m.hi, .bool m.opn, .string m.val], .agg #[.string s.lo, .string s.hi, .bool s.opn], .string k]) (M := Mem.no) Try.func4 rfl Try.ntmps4 (by rfl) (Mem.no_le _) ?_
      repeat' (first
        | refine VC_seq ?_
        | refine VC_region ?_
        | refine VL_nil ?_
        | refine VC_ret ?_
        | refine VC_exit ?_
        | refine VC_block ?_
        | refine VC_skip ?_
        | refine VL_box (by rfl) (by rfl) (by rfl) ?_
        | refine VL_alloc (by rfl) (by rfl) ?_
        | refine VL_store1 (by rfl) (by rfl) (by rfl) (by rfl) (by rfl) (by rfl) ?_
        | refine VL_storeN (by rfl) (by rfl) (by rfl) (by rfl) (by rfl) _ (by rfl) (by rfl) ?_
        | refine VL_q _ (by first | exact QS_call (by rfl) (fun W _ => message_awake W) | exact QS_call (by rfl) (fun W _ => a1 W) | exact QS_call (by rfl) (fun W _ => a2 W) | exact QS_move (by rfl) | exact QS_assign (by rfl) | exact QS_load1 (by rfl) (by rfl) (by rfl) | exact QS_loadA (by rfl) (by rfl) _ (by rfl) | exact QS_fieldAddr (by rfl) | exact QS_mfieldAddr (by rfl) | exact QS_field (by rfl) (by rfl) | exact QS_mload1 (by rfl) (by assumption) | exact QS_build _ (by rfl) (by rfl) (by rfl) | exact QS_not (by rfl) | exact QS_extract (by rfl) (by rfl) | exact QS_len (by rfl) | exact QS_lenStr (by rfl) | exact QS_lenRow (by rfl) (by rfl) | exact QS_pick_t (by rfl) (by first | rfl | assumption) (by rfl) | exact QS_pick_f (by rfl) (by first | rfl | assumption) (by rfl) | exact QS_bin (by rfl) (by rfl) (by first | exact B_lss | exact B_leq | exact B_gtr | exact B_geq | exact B_eql | exact B_neq | exact B_seql | exact B_sneq | exact B_slss | exact B_sgeq | exact B_sleq | exact B_sgtr | exact B_beql | exact B_bneq | exact B_agg (run_eql_Span _ _ _ _ _ _) | exact B_agg (run_neq_Span _ _ _ _ _ _) | exact B_agg (run_eql_Eff _ _ _ _) | exact B_agg (run_neq_Eff _ _ _ _) | exact B_agg (run_eql_Msg _ _ _ _ _ _ _ _ _ _ _ _) | exact B_agg (run_neq_Msg _ _ _ _ _ _ _ _ _ _ _ _) | exact B_agg (run_eql_Pair _ _ _ _) | exact B_agg (run_neq_Pair _ _ _ _)) | exact QS_bin (by rfl) (by rfl) (B_add (by omega) (by omega)) | exact QS_bin (by rfl) (by rfl) (B_sadd (by assumption)) | exact QS_bin (by rfl) (by rfl) (B_sub (by omega) (by omega))) (by rfl) ?_
        | refine VG_q _ (by first | exact QS_call (by rfl) (fun W _ => message_awake W) | exact QS_call (by rfl) (fun W _ => a1 W) | exact QS_call (by rfl) (fun W _ => a2 W) | exact QS_move (by rfl) | exact QS_assign (by rfl) | exact QS_load1 (by rfl) (by rfl) (by rfl) | exact QS_loadA (by rfl) (by rfl) _ (by rfl) | exact QS_fieldAddr (by rfl) | exact QS_mfieldAddr (by rfl) | exact QS_field (by rfl) (by rfl) | exact QS_mload1 (by rfl) (by assumption) | exact QS_build _ (by rfl) (by rfl) (by rfl) | exact QS_not (by rfl) | exact QS_extract (by rfl) (by rfl) | exact QS_len (by rfl) | exact QS_lenStr (by rfl) | exact QS_lenRow (by rfl) (by rfl) | exact QS_pick_t (by rfl) (by first | rfl | assumption) (by rfl) | exact QS_pick_f (by rfl) (by first | rfl | assumption) (by rfl) | exact QS_bin (by rfl) (by rfl) (by first | exact B_lss | exact B_leq | exact B_gtr | exact B_geq | exact B_eql | exact B_neq | exact B_seql | exact B_sneq | exact B_slss | exact B_sgeq | exact B_sleq | exact B_sgtr | exact B_beql | exact B_bneq | exact B_agg (run_eql_Span _ _ _ _ _ _) | exact B_agg (run_neq_Span _ _ _ _ _ _) | exact B_agg (run_eql_Eff _ _ _ _) | exact B_agg (run_neq_Eff _ _ _ _) | exact B_agg (run_eql_Msg _ _ _ _ _ _ _ _ _ _ _ _) | exact B_agg (run_neq_Msg _ _ _ _ _ _ _ _ _ _ _ _) | exact B_agg (run_eql_Pair _ _ _ _) | exact B_agg (run_neq_Pair _ _ _ _)) | exact QS_bin (by rfl) (by rfl) (B_add (by omega) (by omega)) | exact QS_bin (by rfl) (by rfl) (B_sadd (by assumption)) | exact QS_bin (by rfl) (by rfl) (B_sub (by omega) (by omega))) (by rfl) ?_
        | refine VS_st (by rfl) ?_
        | refine VS_q _ (by first | exact QS_call (by rfl) (fun W _ => message_awake W) | exact QS_call (by rfl) (fun W _ => a1 W) | exact QS_call (by rfl) (fun W _ => a2 W) | exact QS_move (by rfl) | exact QS_assign (by rfl) | exact QS_load1 (by rfl) (by rfl) (by rfl) | exact QS_loadA (by rfl) (by rfl) _ (by rfl) | exact QS_fieldAddr (by rfl) | exact QS_mfieldAddr (by rfl) | exact QS_field (by rfl) (by rfl) | exact QS_mload1 (by rfl) (by assumption) | exact QS_build _ (by rfl) (by rfl) (by rfl) | exact QS_not (by rfl) | exact QS_extract (by rfl) (by rfl) | exact QS_len (by rfl) | exact QS_lenStr (by rfl) | exact QS_lenRow (by rfl) (by rfl) | exact QS_pick_t (by rfl) (by first | rfl | assumption) (by rfl) | exact QS_pick_f (by rfl) (by first | rfl | assumption) (by rfl) | exact QS_bin (by rfl) (by rfl) (by first | exact B_lss | exact B_leq | exact B_gtr | exact B_geq | exact B_eql | exact B_neq | exact B_seql | exact B_sneq | exact B_slss | exact B_sgeq | exact B_sleq | exact B_sgtr | exact B_beql | exact B_bneq | exact B_agg (run_eql_Span _ _ _ _ _ _) | exact B_agg (run_neq_Span _ _ _ _ _ _) | exact B_agg (run_eql_Eff _ _ _ _) | exact B_agg (run_neq_Eff _ _ _ _) | exact B_agg (run_eql_Msg _ _ _ _ _ _ _ _ _ _ _ _) | exact B_agg (run_neq_Msg _ _ _ _ _ _ _ _ _ _ _ _) | exact B_agg (run_eql_Pair _ _ _ _) | exact B_agg (run_neq_Pair _ _ _ _)) | exact QS_bin (by rfl) (by rfl) (B_add (by omega) (by omega)) | exact QS_bin (by rfl) (by rfl) (B_sadd (by assumption)) | exact QS_bin (by rfl) (by rfl) (B_sub (by omega) (by omega))) (by rfl) (by rfl) ?_
        | refine VS_nil ?_
        | refine VE_q (by rfl) ?_
        | refine VE_st _ (by rfl) (by first | exact ES_store1 (by rfl) (by rfl) (by rfl) (by rfl) (by rfl) | exact ES_storeN (by rfl) (by rfl) (by rfl) (by rfl) (by rfl) _ (by rfl)) (by rfl) ?_
        | refine VE_nil ?_
        | refine VL_yes _ _ _ (by rfl) (by rfl) (by rfl) (by first | rfl | assumption) ?_
        | refine VL_no _ _ _ (by rfl) (by rfl) (by rfl) (by first | rfl | assumption) (by rfl) ?_
        | refine VG_yes _ _ _ (by rfl) (by rfl) (by rfl) (by first | rfl | assumption) ?_
        | refine VG_no _ _ _ (by rfl) (by rfl) (by rfl) (by first | rfl | assumption) (by rfl) ?_
        | refine VL_noU _ _ (by rfl) (by rfl) (by rfl) (by rfl) ?_
        | refine VG_noU _ _ (by rfl) (by rfl) (by rfl) (by rfl) ?_
        | refine VG_nil ⟨by rfl, ?_⟩
        | refine VG_nil ?_
        | refine VC_drawT (by decide +kernel) ?_
        | refine VC_draw1 (by rfl) (by decide +kernel) (by rfl) (by rfl) ?_
        | refine VC_drawQ (by rfl) (by decide +kernel) ?_
        | refine VC_true (by rfl) (by first | rfl | assumption) ?_
        | refine VC_false (by rfl) (by first | rfl | assumption) ?_
        | refine VL_dec _ _ _ (by rfl) (by rfl) (by rfl) (fun hq => ?_) (fun hq => ?_)
        | refine VG_dec _ _ _ (by rfl) (by rfl) (by rfl) (fun hq => ?_) (fun hq => ?_)
        | refine VC_cond _ (by rfl) (fun hq => ?_) (fun hq => ?_))
      all_goals
        show Res _ _ _ _
        refine Res.one (by rfl) (ResV_tmp (by rfl) ?_)
        rfl
    | true =>
      rw [hS] at a2
      simp only [longM, Bool.and_eq_true, decide_eq_true_eq] at hL
      simp only [shortB, Bool.and_eq_true, decide_eq_true_eq] at hS
      obtain ⟨l1, l2, l3⟩ := hL
      obtain ⟨⟨s1, _⟩, s2⟩ := hS
      have m1 : m.key.size ≤ 1000000 := by omega
      have m2 : m.hi.size ≤ 1000000 := by omega
      have m3 : m.val.size ≤ 1000000 := by omega
      have n1 : k.size ≤ 1000000 := by omega
      have b1 := spanM_size m (n := 1000001) (by omega) (by omega)
      have b2 := meet_size (spanM m) s (n := 1000001) b1.1 b1.2 (by omega) (by omega)
      have x1 : (spanM m).lo.size ≤ maxLen := by unfold maxLen; omega
      have x2 : (spanM m).hi.size ≤ maxLen := by unfold maxLen; omega
      have x3 : s.lo.size ≤ maxLen := by unfold maxLen; omega
      have x4 : s.hi.size ≤ maxLen := by unfold maxLen; omega
      have x5 : (meet (spanM m) s).lo.size ≤ maxLen := by unfold maxLen; omega
      have x6 : (meet (spanM m) s).hi.size ≤ maxLen := by unfold maxLen; omega
      have c3 := fun W => message_Right m W m1 m2 m3
      have c4 := fun W => ref_RightM m W m1 m2 m3
      rw [refRightM_eq] at c4
      have c5 := fun W => message_Span m W m1
      have c6 := fun W => ref_SpanM m W m1
      have c7 := fun W => message_On m k W m1
      have c8 := fun W => ref_OnM m k W m1 m2 n1
      have c9 := fun W => message_Size m W m1 m3
      have d1 := fun W => ref_SizeM m W m1 m3
      have d2 := fun W => message_Touches m s W m1
      have d3 := fun W => ref_Meet (spanM m) s W x1 x2 x3 x4
      have d4 := fun W => ref_Empty (meet (spanM m) s) W x5 x6
      have q1 : (!(rightM m == rightM m)) = false := by simp
      have q2 : (!eqv (spanM m) (spanM m)) = false := by rw [eqv_self]; rfl
      have q3 : (!eqv (onM m k) (onM m k)) = false := by rw [eqv_self]; rfl
      have q4 : (sizeM m != sizeM m) = false := by simp
      have q5 : (touch (spanM m) s == !empty (meet (spanM m) s)) = true := by simp [touch]
      refine V_flat (args := [.agg #[.int .i64 m.stamp, .int .i64 m.kind, .string m.key, .string m.hi, .bool m.opn, .string m.val], .agg #[.string s.lo, .string s.hi, .bool s.opn], .string k]) (M := Mem.no) Try.func4 rfl Try.ntmps4 (by rfl) (Mem.no_le _) ?_
      repeat' (first
        | refine VC_seq ?_
        | refine VC_region ?_
        | refine VL_nil ?_
        | refine VC_ret ?_
        | refine VC_exit ?_
        | refine VC_block ?_
        | refine VC_skip ?_
        | refine VL_box (by rfl) (by rfl) (by rfl) ?_
        | refine VL_alloc (by rfl) (by rfl) ?_
        | refine VL_store1 (by rfl) (by rfl) (by rfl) (by rfl) (by rfl) (by rfl) ?_
        | refine VL_storeN (by rfl) (by rfl) (by rfl) (by rfl) (by rfl) _ (by rfl) (by rfl) ?_
        | refine VL_q _ (by first | exact QS_call (by rfl) (fun W _ => message_awake W) | exact QS_call (by rfl) (fun W _ => a1 W) | exact QS_call (by rfl) (fun W _ => a2 W) | exact QS_call (by rfl) (fun W _ => c3 W) | exact QS_call (by rfl) (fun W _ => c4 W) | exact QS_call (by rfl) (fun W _ => c5 W) | exact QS_call (by rfl) (fun W _ => c6 W) | exact QS_call (by rfl) (fun W _ => c7 W) | exact QS_call (by rfl) (fun W _ => c8 W) | exact QS_call (by rfl) (fun W _ => c9 W) | exact QS_call (by rfl) (fun W _ => d1 W) | exact QS_call (by rfl) (fun W _ => d2 W) | exact QS_call (by rfl) (fun W _ => d3 W) | exact QS_call (by rfl) (fun W _ => d4 W) | exact QS_move (by rfl) | exact QS_assign (by rfl) | exact QS_load1 (by rfl) (by rfl) (by rfl) | exact QS_loadA (by rfl) (by rfl) _ (by rfl) | exact QS_fieldAddr (by rfl) | exact QS_mfieldAddr (by rfl) | exact QS_field (by rfl) (by rfl) | exact QS_mload1 (by rfl) (by assumption) | exact QS_build _ (by rfl) (by rfl) (by rfl) | exact QS_not (by rfl) | exact QS_extract (by rfl) (by rfl) | exact QS_len (by rfl) | exact QS_lenStr (by rfl) | exact QS_lenRow (by rfl) (by rfl) | exact QS_pick_t (by rfl) (by first | rfl | assumption) (by rfl) | exact QS_pick_f (by rfl) (by first | rfl | assumption) (by rfl) | exact QS_bin (by rfl) (by rfl) (by first | exact B_lss | exact B_leq | exact B_gtr | exact B_geq | exact B_eql | exact B_neq | exact B_seql | exact B_sneq | exact B_slss | exact B_sgeq | exact B_sleq | exact B_sgtr | exact B_beql | exact B_bneq | exact B_agg (run_eql_Span _ _ _ _ _ _) | exact B_agg (run_neq_Span _ _ _ _ _ _) | exact B_agg (run_eql_Eff _ _ _ _) | exact B_agg (run_neq_Eff _ _ _ _) | exact B_agg (run_eql_Msg _ _ _ _ _ _ _ _ _ _ _ _) | exact B_agg (run_neq_Msg _ _ _ _ _ _ _ _ _ _ _ _) | exact B_agg (run_eql_Pair _ _ _ _) | exact B_agg (run_neq_Pair _ _ _ _)) | exact QS_bin (by rfl) (by rfl) (B_add (by omega) (by omega)) | exact QS_bin (by rfl) (by rfl) (B_sadd (by assumption)) | exact QS_bin (by rfl) (by rfl) (B_sub (by omega) (by omega))) (by rfl) ?_
        | refine VG_q _ (by first | exact QS_call (by rfl) (fun W _ => message_awake W) | exact QS_call (by rfl) (fun W _ => a1 W) | exact QS_call (by rfl) (fun W _ => a2 W) | exact QS_call (by rfl) (fun W _ => c3 W) | exact QS_call (by rfl) (fun W _ => c4 W) | exact QS_call (by rfl) (fun W _ => c5 W) | exact QS_call (by rfl) (fun W _ => c6 W) | exact QS_call (by rfl) (fun W _ => c7 W) | exact QS_call (by rfl) (fun W _ => c8 W) | exact QS_call (by rfl) (fun W _ => c9 W) | exact QS_call (by rfl) (fun W _ => d1 W) | exact QS_call (by rfl) (fun W _ => d2 W) | exact QS_call (by rfl) (fun W _ => d3 W) | exact QS_call (by rfl) (fun W _ => d4 W) | exact QS_move (by rfl) | exact QS_assign (by rfl) | exact QS_load1 (by rfl) (by rfl) (by rfl) | exact QS_loadA (by rfl) (by rfl) _ (by rfl) | exact QS_fieldAddr (by rfl) | exact QS_mfieldAddr (by rfl) | exact QS_field (by rfl) (by rfl) | exact QS_mload1 (by rfl) (by assumption) | exact QS_build _ (by rfl) (by rfl) (by rfl) | exact QS_not (by rfl) | exact QS_extract (by rfl) (by rfl) | exact QS_len (by rfl) | exact QS_lenStr (by rfl) | exact QS_lenRow (by rfl) (by rfl) | exact QS_pick_t (by rfl) (by first | rfl | assumption) (by rfl) | exact QS_pick_f (by rfl) (by first | rfl | assumption) (by rfl) | exact QS_bin (by rfl) (by rfl) (by first | exact B_lss | exact B_leq | exact B_gtr | exact B_geq | exact B_eql | exact B_neq | exact B_seql | exact B_sneq | exact B_slss | exact B_sgeq | exact B_sleq | exact B_sgtr | exact B_beql | exact B_bneq | exact B_agg (run_eql_Span _ _ _ _ _ _) | exact B_agg (run_neq_Span _ _ _ _ _ _) | exact B_agg (run_eql_Eff _ _ _ _) | exact B_agg (run_neq_Eff _ _ _ _) | exact B_agg (run_eql_Msg _ _ _ _ _ _ _ _ _ _ _ _) | exact B_agg (run_neq_Msg _ _ _ _ _ _ _ _ _ _ _ _) | exact B_agg (run_eql_Pair _ _ _ _) | exact B_agg (run_neq_Pair _ _ _ _)) | exact QS_bin (by rfl) (by rfl) (B_add (by omega) (by omega)) | exact QS_bin (by rfl) (by rfl) (B_sadd (by assumption)) | exact QS_bin (by rfl) (by rfl) (B_sub (by omega) (by omega))) (by rfl) ?_
        | refine VS_st (by rfl) ?_
        | refine VS_q _ (by first | exact QS_call (by rfl) (fun W _ => message_awake W) | exact QS_call (by rfl) (fun W _ => a1 W) | exact QS_call (by rfl) (fun W _ => a2 W) | exact QS_call (by rfl) (fun W _ => c3 W) | exact QS_call (by rfl) (fun W _ => c4 W) | exact QS_call (by rfl) (fun W _ => c5 W) | exact QS_call (by rfl) (fun W _ => c6 W) | exact QS_call (by rfl) (fun W _ => c7 W) | exact QS_call (by rfl) (fun W _ => c8 W) | exact QS_call (by rfl) (fun W _ => c9 W) | exact QS_call (by rfl) (fun W _ => d1 W) | exact QS_call (by rfl) (fun W _ => d2 W) | exact QS_call (by rfl) (fun W _ => d3 W) | exact QS_call (by rfl) (fun W _ => d4 W) | exact QS_move (by rfl) | exact QS_assign (by rfl) | exact QS_load1 (by rfl) (by rfl) (by rfl) | exact QS_loadA (by rfl) (by rfl) _ (by rfl) | exact QS_fieldAddr (by rfl) | exact QS_mfieldAddr (by rfl) | exact QS_field (by rfl) (by rfl) | exact QS_mload1 (by rfl) (by assumption) | exact QS_build _ (by rfl) (by rfl) (by rfl) | exact QS_not (by rfl) | exact QS_extract (by rfl) (by rfl) | exact QS_len (by rfl) | exact QS_lenStr (by rfl) | exact QS_lenRow (by rfl) (by rfl) | exact QS_pick_t (by rfl) (by first | rfl | assumption) (by rfl) | exact QS_pick_f (by rfl) (by first | rfl | assumption) (by rfl) | exact QS_bin (by rfl) (by rfl) (by first | exact B_lss | exact B_leq | exact B_gtr | exact B_geq | exact B_eql | exact B_neq | exact B_seql | exact B_sneq | exact B_slss | exact B_sgeq | exact B_sleq | exact B_sgtr | exact B_beql | exact B_bneq | exact B_agg (run_eql_Span _ _ _ _ _ _) | exact B_agg (run_neq_Span _ _ _ _ _ _) | exact B_agg (run_eql_Eff _ _ _ _) | exact B_agg (run_neq_Eff _ _ _ _) | exact B_agg (run_eql_Msg _ _ _ _ _ _ _ _ _ _ _ _) | exact B_agg (run_neq_Msg _ _ _ _ _ _ _ _ _ _ _ _) | exact B_agg (run_eql_Pair _ _ _ _) | exact B_agg (run_neq_Pair _ _ _ _)) | exact QS_bin (by rfl) (by rfl) (B_add (by omega) (by omega)) | exact QS_bin (by rfl) (by rfl) (B_sadd (by assumption)) | exact QS_bin (by rfl) (by rfl) (B_sub (by omega) (by omega))) (by rfl) (by rfl) ?_
        | refine VS_nil ?_
        | refine VE_q (by rfl) ?_
        | refine VE_st _ (by rfl) (by first | exact ES_store1 (by rfl) (by rfl) (by rfl) (by rfl) (by rfl) | exact ES_storeN (by rfl) (by rfl) (by rfl) (by rfl) (by rfl) _ (by rfl)) (by rfl) ?_
        | refine VE_nil ?_
        | refine VL_yes _ _ _ (by rfl) (by rfl) (by rfl) (by first | rfl | assumption) ?_
        | refine VL_no _ _ _ (by rfl) (by rfl) (by rfl) (by first | rfl | assumption) (by rfl) ?_
        | refine VG_yes _ _ _ (by rfl) (by rfl) (by rfl) (by first | rfl | assumption) ?_
        | refine VG_no _ _ _ (by rfl) (by rfl) (by rfl) (by first | rfl | assumption) (by rfl) ?_
        | refine VL_noU _ _ (by rfl) (by rfl) (by rfl) (by rfl) ?_
        | refine VG_noU _ _ (by rfl) (by rfl) (by rfl) (by rfl) ?_
        | refine VG_nil ⟨by rfl, ?_⟩
        | refine VG_nil ?_
        | refine VC_drawT (by decide +kernel) ?_
        | refine VC_draw1 (by rfl) (by decide +kernel) (by rfl) (by rfl) ?_
        | refine VC_drawQ (by rfl) (by decide +kernel) ?_
        | refine VC_true (by rfl) (by first | rfl | assumption) ?_
        | refine VC_false (by rfl) (by first | rfl | assumption) ?_
        | refine VL_dec _ _ _ (by rfl) (by rfl) (by rfl) (fun hq => ?_) (fun hq => ?_)
        | refine VG_dec _ _ _ (by rfl) (by rfl) (by rfl) (fun hq => ?_) (fun hq => ?_)
        | refine VC_cond _ (by rfl) (fun hq => ?_) (fun hq => ?_))
      all_goals
        show Res _ _ _ _
        refine Res.one (by rfl) (ResV_tmp (by rfl) ?_)
        rfl
end Go.Proofs.Ytipbbbamjckjoaa.lawMessageTells
