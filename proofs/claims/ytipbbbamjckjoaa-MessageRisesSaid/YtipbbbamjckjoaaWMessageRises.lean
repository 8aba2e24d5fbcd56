/- The walk of MessageRises. -/
import Derived.Test.YtipbbbamjckjoaaMsgL
import Derived.Test.YtipbbbamjckjoaaMsgAwake
namespace Go.Proofs.Ytipbbbamjckjoaa.lawMessageRises
open Go Go.RowKit
set_option linter.unusedVariables false
set_option maxRecDepth 20000
set_option linter.unusedSimpArgs false
theorem gt_lt (a b : Int) : decide (b < a) = decide (a > b) := rfl
set_option maxHeartbeats 8000000 in
theorem walk (v : Value) (l : List Msg) (w : World) (hl : SlMsg w v l) :
    Calls Try.prog 3 #[v] w fun e w' => e = .returned (.bool true) ∧ Below w.heap.size w w' := by
  obtain ⟨A, c, rfl, hc1, hc2, _⟩ := id hl
  have hM := hl.toM
  unfold maxLen at hc2
  refine V_flat (args := [.slice A l.length c]) (M := Mem.of w) Try.func3 rfl Try.ntmps3 (by rfl) (Mem.le_refl _) ?_
  repeat' (first
    | refine VC_seq ?_
    | refine VC_region ?_
    | refine VL_nil ?_
    | refine VC_ret ?_
    | refine VC_exit ?_
    | refine VC_block ?_
    | refine VC_skip ?_
    | refine VL_box (by rfl) (by rfl) (by rfl) ?_
    | refine VL_alloc (by rfl) (by rfl) ?_
    | refine VL_store1 (by rfl) (by rfl) (by rfl) (by rfl) (by rfl) (by rfl) ?_
    | refine VL_storeN (by rfl) (by rfl) (by rfl) (by rfl) (by rfl) _ (by rfl) (by rfl) ?_
    | refine VL_q _ (by first | exact QS_call (by rfl) (fun W _ => message_awake W) | exact QS_move (by rfl) | exact QS_assign (by rfl) | exact QS_load1 (by rfl) (by rfl) (by rfl) | exact QS_loadA (by rfl) (by rfl) _ (by rfl) | exact QS_fieldAddr (by rfl) | exact QS_mfieldAddr (by rfl) | exact QS_field (by rfl) (by rfl) | exact QS_mload1 (by rfl) (by assumption) | exact QS_build _ (by rfl) (by rfl) (by rfl) | exact QS_not (by rfl) | exact QS_extract (by rfl) (by rfl) | exact QS_len (by rfl) | exact QS_lenStr (by rfl) | exact QS_lenRow (by rfl) (by rfl) | exact QS_pick_t (by rfl) (by first | rfl | assumption) (by rfl) | exact QS_pick_f (by rfl) (by first | rfl | assumption) (by rfl) | exact QS_bin (by rfl) (by rfl) (by first | exact B_lss | exact B_leq | exact B_gtr | exact B_geq | exact B_eql | exact B_neq | exact B_seql | exact B_sneq | exact B_slss | exact B_sgeq | exact B_sleq | exact B_sgtr | exact B_beql | exact B_bneq | exact B_agg (run_eql_Span _ _ _ _ _ _) | exact B_agg (run_neq_Span _ _ _ _ _ _) | exact B_agg (run_eql_Eff _ _ _ _) | exact B_agg (run_neq_Eff _ _ _ _) | exact B_agg (run_eql_Msg _ _ _ _ _ _ _ _ _ _ _ _) | exact B_agg (run_neq_Msg _ _ _ _ _ _ _ _ _ _ _ _) | exact B_agg (run_eql_Pair _ _ _ _) | exact B_agg (run_neq_Pair _ _ _ _)) | exact QS_bin (by rfl) (by rfl) (B_add (by omega) (by omega)) | exact QS_bin (by rfl) (by rfl) (B_sadd (by assumption)) | exact QS_bin (by rfl) (by rfl) (B_sub (by omega) (by omega))) (by rfl) ?_
    | refine VG_q _ (by first | exact QS_call (by rfl) (fun W _ => message_awake W) | exact QS_move (by rfl) | exact QS_assign (by rfl) | exact QS_load1 (by rfl) (by rfl) (by rfl) | exact QS_loadA (by rfl) (by rfl) _ (by rfl) | exact QS_fieldAddr (by rfl) | exact QS_mfieldAddr (by rfl) | exact QS_field (by rfl) (by rfl) | exact QS_mload1 (by rfl) (by assumption) | exact QS_build _ (by rfl) (by rfl) (by rfl) | exact QS_not (by rfl) | exact QS_extract (by rfl) (by rfl) | exact QS_len (by rfl) | exact QS_lenStr (by rfl) | exact QS_lenRow (by rfl) (by rfl) | exact QS_pick_t (by rfl) (by first | rfl | assumption) (by rfl) | exact QS_pick_f (by rfl) (by first | rfl | assumption) (by rfl) | exact QS_bin (by rfl) (by rfl) (by first | exact B_lss | exact B_leq | exact B_gtr | exact B_geq | exact B_eql | exact B_neq | exact B_seql | exact B_sneq | exact B_slss | exact B_sgeq | exact B_sleq | exact B_sgtr | exact B_beql | exact B_bneq | exact B_agg (run_eql_Span _ _ _ _ _ _) | exact B_agg (run_neq_Span _ _ _ _ _ _) | exact B_agg (run_eql_Eff _ _ _ _) | exact B_agg (run_neq_Eff _ _ _ _) | exact B_agg (run_eql_Msg _ _ _ _ _ _ _ _ _ _ _ _) | exact B_agg (run_neq_Msg _ _ _ _ _ _ _ _ _ _ _ _) | exact B_agg (run_eql_Pair _ _ _ _) | exact B_agg (run_neq_Pair _ _ _ _)) | exact QS_bin (by rfl) (by rfl) (B_add (by omega) (by omega)) | exact QS_bin (by rfl) (by rfl) (B_sadd (by assumption)) | exact QS_bin (by rfl) (by rfl) (B_sub (by omega) (by omega))) (by rfl) ?_
    | refine VS_st (by rfl) ?_
    | refine VS_q _ (by first | exact QS_call (by rfl) (fun W _ => message_awake W) | exact QS_move (by rfl) | exact QS_assign (by rfl) | exact QS_load1 (by rfl) (by rfl) (by rfl) | exact QS_loadA (by rfl) (by rfl) _ (by rfl) | exact QS_fieldAddr (by rfl) | exact QS_mfieldAddr (by rfl) | exact QS_field (by rfl) (by rfl) | exact QS_mload1 (by rfl) (by assumption) | exact QS_build _ (by rfl) (by rfl) (by rfl) | exact QS_not (by rfl) | exact QS_extract (by rfl) (by rfl) | exact QS_len (by rfl) | exact QS_lenStr (by rfl) | exact QS_lenRow (by rfl) (by rfl) | exact QS_pick_t (by rfl) (by first | rfl | assumption) (by rfl) | exact QS_pick_f (by rfl) (by first | rfl | assumption) (by rfl) | exact QS_bin (by rfl) (by rfl) (by first | exact B_lss | exact B_leq | exact B_gtr | exact B_geq | exact B_eql | exact B_neq | exact B_seql | exact B_sneq | exact B_slss | exact B_sgeq | exact B_sleq | exact B_sgtr | exact B_beql | exact B_bneq | exact B_agg (run_eql_Span _ _ _ _ _ _) | exact B_agg (run_neq_Span _ _ _ _ _ _) | exact B_agg (run_eql_Eff _ _ _ _) | exact B_agg (run_neq_Eff _ _ _ _) | exact B_agg (run_eql_Msg _ _ _ _ _ _ _ _ _ _ _ _) | exact B_agg (run_neq_Msg _ _ _ _ _ _ _ _ _ _ _ _) | exact B_agg (run_eql_Pair _ _ _ _) | exact B_agg (run_neq_Pair _ _ _ _)) | exact QS_bin (by rfl) (by rfl) (B_add (by omega) (by omega)) | exact QS_bin (by rfl) (by rfl) (B_sadd (by assumption)) | exact QS_bin (by rfl) (by rfl) (B_sub (by omega) (by omega))) (by rfl) (by rfl) ?_
    | refine VS_nil ?_
    | refine VE_q (by rfl) ?_
    | refine VE_st _ (by rfl) (by first | exact ES_store1 (by rfl) (by rfl) (by rfl) (by rfl) (by rfl) | exact ES_storeN (by rfl) (by rfl) (by rfl) (by rfl) (by rfl) _ (by rfl)) (by rfl) ?_
    | refine VE_nil ?_
    | refine VL_yes _ _ _ (by rfl) (by rfl) (by rfl) (by first | rfl | assumption) ?_
    | refine VL_no _ _ _ (by rfl) (by rfl) (by rfl) (by first | rfl | assumption) (by rfl) ?_
    | refine VG_yes _ _ _ (by rfl) (by rfl) (by rfl) (by first | rfl | assumption) ?_
    | refine VG_no _ _ _ (by rfl) (by rfl) (by rfl) (by first | rfl | assumption) (by rfl) ?_
    | refine VL_noU _ _ (by rfl) (by rfl) (by rfl) (by rfl) ?_
    | refine VG_noU _ _ (by rfl) (by rfl) (by rfl) (by rfl) ?_
    | refine VG_nil ⟨by rfl, ?_⟩
    | refine VG_nil ?_
    | refine VC_drawT (by decide +kernel) ?_
    | refine VC_draw1 (by rfl) (by decide +kernel) (by rfl) (by rfl) ?_
    | refine VC_drawQ (by rfl) (by decide +kernel) ?_
    | refine VC_true (by rfl) (by first | rfl | assumption) ?_
    | refine VC_false (by rfl) (by first | rfl | assumption) ?_
    | refine VL_dec _ _ _ (by rfl) (by rfl) (by rfl) (fun hq => ?_) (fun hq => ?_)
    | refine VG_dec _ _ _ (by rfl) (by rfl) (by rfl) (fun hq => ?_) (fun hq => ?_)
    | refine VC_cond _ (by rfl) (fun hq => ?_) (fun hq => ?_))
  · skip
    show Res _ _ _ _
    refine Res.one (by rfl) (ResV_tmp (by rfl) ?_)
    rfl
  refine VC_for (fun k : Nat => ⟨Mem.of w, [], [(0, .v (.slice A l.length c)), (3, .v (.bool (riseTo l k))), (10, .v (.int .i64 l.length)), (11, .v (.int .i64 k))]⟩) (fun k => k ≤ l.length) (fun k => l.length - k) [] 0 ⟨rfl, rfl, trivial, ⟨rfl, rfl, rfl, rfl, trivial⟩⟩ (by omega) ?_
  intro k hk
  rcases Nat.lt_or_ge k l.length with hlt | hge
  · have hd := dlt hlt
    obtain ⟨b, off, rfl, hcA⟩ := hM.get hlt
    have hr2 := riseTo_succ l k
    cases hr : riseTo l k with
    | false =>
      repeat' (first
        | refine VC_seq ?_
        | refine VC_region ?_
        | refine VL_nil ?_
        | refine VC_ret ?_
        | refine VC_exit ?_
        | refine VC_block ?_
        | refine VC_skip ?_
        | refine VL_box (by rfl) (by rfl) (by rfl) ?_
        | refine VL_alloc (by rfl) (by rfl) ?_
        | refine VL_store1 (by rfl) (by rfl) (by rfl) (by rfl) (by rfl) (by rfl) ?_
        | refine VL_storeN (by rfl) (by rfl) (by rfl) (by rfl) (by rfl) _ (by rfl) (by rfl) ?_
        | refine VL_q _ (by first  | exact QS_move (by rfl) | exact QS_assign (by rfl) | exact QS_load1 (by rfl) (by rfl) (by rfl) | exact QS_loadA (by rfl) (by rfl) _ (by rfl) | exact QS_fieldAddr (by rfl) | exact QS_mfieldAddr (by rfl) | exact QS_field (by rfl) (by rfl) | exact QS_mload1 (by rfl) (by assumption) | exact QS_build _ (by rfl) (by rfl) (by rfl) | exact QS_not (by rfl) | exact QS_extract (by rfl) (by rfl) | exact QS_len (by rfl) | exact QS_lenStr (by rfl) | exact QS_lenRow (by rfl) (by rfl) | exact QS_pick_t (by rfl) (by first | rfl | assumption) (by rfl) | exact QS_pick_f (by rfl) (by first | rfl | assumption) (by rfl) | exact QS_bin (by rfl) (by rfl) (by first | exact B_lss | exact B_leq | exact B_gtr | exact B_geq | exact B_eql | exact B_neq | exact B_seql | exact B_sneq | exact B_slss | exact B_sgeq | exact B_sleq | exact B_sgtr | exact B_beql | exact B_bneq | exact B_agg (run_eql_Span _ _ _ _ _ _) | exact B_agg (run_neq_Span _ _ _ _ _ _) | exact B_agg (run_eql_Eff _ _ _ _) | exact B_agg (run_neq_Eff _ _ _ _) | exact B_agg (run_eql_Msg _ _ _ _ _ _ _ _ _ _ _ _) | exact B_agg (run_neq_Msg _ _ _ _ _ _ _ _ _ _ _ _) | exact B_agg (run_eql_Pair _ _ _ _) | exact B_agg (run_neq_Pair _ _ _ _)) | exact QS_bin (by rfl) (by rfl) (B_add (by omega) (by omega)) | exact QS_bin (by rfl) (by rfl) (B_sadd (by assumption)) | exact QS_bin (by rfl) (by rfl) (B_sub (by omega) (by omega))) (by rfl) ?_
        | refine VG_q _ (by first  | exact QS_move (by rfl) | exact QS_assign (by rfl) | exact QS_load1 (by rfl) (by rfl) (by rfl) | exact QS_loadA (by rfl) (by rfl) _ (by rfl) | exact QS_fieldAddr (by rfl) | exact QS_mfieldAddr (by rfl) | exact QS_field (by rfl) (by rfl) | exact QS_mload1 (by rfl) (by assumption) | exact QS_build _ (by rfl) (by rfl) (by rfl) | exact QS_not (by rfl) | exact QS_extract (by rfl) (by rfl) | exact QS_len (by rfl) | exact QS_lenStr (by rfl) | exact QS_lenRow (by rfl) (by rfl) | exact QS_pick_t (by rfl) (by first | rfl | assumption) (by rfl) | exact QS_pick_f (by rfl) (by first | rfl | assumption) (by rfl) | exact QS_bin (by rfl) (by rfl) (by first | exact B_lss | exact B_leq | exact B_gtr | exact B_geq | exact B_eql | exact B_neq | exact B_seql | exact B_sneq | exact B_slss | exact B_sgeq | exact B_sleq | exact B_sgtr | exact B_beql | exact B_bneq | exact B_agg (run_eql_Span _ _ _ _ _ _) | exact B_agg (run_neq_Span _ _ _ _ _ _) | exact B_agg (run_eql_Eff _ _ _ _) | exact B_agg (run_neq_Eff _ _ _ _) | exact B_agg (run_eql_Msg _ _ _ _ _ _ _ _ _ _ _ _) | exact B_agg (run_neq_Msg _ _ _ _ _ _ _ _ _ _ _ _) | exact B_agg (run_eql_Pair _ _ _ _) | exact B_agg (run_neq_Pair _ _ _ _)) | exact QS_bin (by rfl) (by rfl) (B_add (by omega) (by omega)) | exact QS_bin (by rfl) (by rfl) (B_sadd (by assumption)) | exact QS_bin (by rfl) (by rfl) (B_sub (by omega) (by omega))) (by rfl) ?_
        | refine VS_st (by rfl) ?_
        | refine VS_q _ (by first  | exact QS_move (by rfl) | exact QS_assign (by rfl) | exact QS_load1 (by rfl) (by rfl) (by rfl) | exact QS_loadA (by rfl) (by rfl) _ (by rfl) | exact QS_fieldAddr (by rfl) | exact QS_mfieldAddr (by rfl) | exact QS_field (by rfl) (by rfl) | exact QS_mload1 (by rfl) (by assumption) | exact QS_build _ (by rfl) (by rfl) (by rfl) | exact QS_not (by rfl) | exact QS_extract (by rfl) (by rfl) | exact QS_len (by rfl) | exact QS_lenStr (by rfl) | exact QS_lenRow (by rfl) (by rfl) | exact QS_pick_t (by rfl) (by first | rfl | assumption) (by rfl) | exact QS_pick_f (by rfl) (by first | rfl | assumption) (by rfl) | exact QS_bin (by rfl) (by rfl) (by first | exact B_lss | exact B_leq | exact B_gtr | exact B_geq | exact B_eql | exact B_neq | exact B_seql | exact B_sneq | exact B_slss | exact B_sgeq | exact B_sleq | exact B_sgtr | exact B_beql | exact B_bneq | exact B_agg (run_eql_Span _ _ _ _ _ _) | exact B_agg (run_neq_Span _ _ _ _ _ _) | exact B_agg (run_eql_Eff _ _ _ _) | exact B_agg (run_neq_Eff _ _ _ _) | exact B_agg (run_eql_Msg _ _ _ _ _ _ _ _ _ _ _ _) | exact B_agg (run_neq_Msg _ _ _ _ _ _ _ _ _ _ _ _) | exact B_agg (run_eql_Pair _ _ _ _) | exact B_agg (run_neq_Pair _ _ _ _)) | exact QS_bin (by rfl) (by rfl) (B_add (by omega) (by omega)) | exact QS_bin (by rfl) (by rfl) (B_sadd (by assumption)) | exact QS_bin (by rfl) (by rfl) (B_sub (by omega) (by omega))) (by rfl) (by rfl) ?_
        | refine VS_nil ?_
        | refine VE_q (by rfl) ?_
        | refine VE_st _ (by rfl) (by first | exact ES_store1 (by rfl) (by rfl) (by rfl) (by rfl) (by rfl) | exact ES_storeN (by rfl) (by rfl) (by rfl) (by rfl) (by rfl) _ (by rfl)) (by rfl) ?_
        | refine VE_nil ?_
        | refine VL_yes _ _ _ (by rfl) (by rfl) (by rfl) (by first | rfl | assumption) ?_
        | refine VL_no _ _ _ (by rfl) (by rfl) (by rfl) (by first | rfl | assumption) (by rfl) ?_
        | refine VG_yes _ _ _ (by rfl) (by rfl) (by rfl) (by first | rfl | assumption) ?_
        | refine VG_no _ _ _ (by rfl) (by rfl) (by rfl) (by first | rfl | assumption) (by rfl) ?_
        | refine VL_noU _ _ (by rfl) (by rfl) (by rfl) (by rfl) ?_
        | refine VG_noU _ _ (by rfl) (by rfl) (by rfl) (by rfl) ?_
        | refine VG_nil ⟨by rfl, ?_⟩
        | refine VG_nil ?_
        | refine VC_drawT (by decide +kernel) ?_
        | refine VC_draw1 (by rfl) (by decide +kernel) (by rfl) (by rfl) ?_
        | refine VC_drawQ (by rfl) (by decide +kernel) ?_
        | refine VC_true (by rfl) (by first | rfl | assumption) ?_
        | refine VC_false (by rfl) (by first | rfl | assumption) ?_
        | refine VL_dec _ _ _ (by rfl) (by rfl) (by rfl) (fun hq => ?_) (fun hq => ?_)
        | refine VG_dec _ _ _ (by rfl) (by rfl) (by rfl) (fun hq => ?_) (fun hq => ?_)
        | refine VC_cond _ (by rfl) (fun hq => ?_) (fun hq => ?_))
      refine forQ_next [] (k + 1) ⟨rfl, rfl, trivial, ⟨rfl, ?_, rfl, rfl, trivial⟩⟩ (by omega) (by omega)
      rw [hr2, hr]; rfl
    | true =>
      by_cases h0 : k = 0
      · have hz : ((k : Int) == 0) = true := by simp [h0]
        repeat' (first
          | refine VC_seq ?_
          | refine VC_region ?_
          | refine VL_nil ?_
          | refine VC_ret ?_
          | refine VC_exit ?_
          | refine VC_block ?_
          | refine VC_skip ?_
          | refine VL_box (by rfl) (by rfl) (by rfl) ?_
          | refine VL_alloc (by rfl) (by rfl) ?_
          | refine VL_store1 (by rfl) (by rfl) (by rfl) (by rfl) (by rfl) (by rfl) ?_
          | refine VL_storeN (by rfl) (by rfl) (by rfl) (by rfl) (by rfl) _ (by rfl) (by rfl) ?_
          | refine VL_q _ (by first  | exact QS_move (by rfl) | exact QS_assign (by rfl) | exact QS_load1 (by rfl) (by rfl) (by rfl) | exact QS_loadA (by rfl) (by rfl) _ (by rfl) | exact QS_fieldAddr (by rfl) | exact QS_mfieldAddr (by rfl) | exact QS_field (by rfl) (by rfl) | exact QS_mload1 (by rfl) (by assumption) | exact QS_build _ (by rfl) (by rfl) (by rfl) | exact QS_not (by rfl) | exact QS_extract (by rfl) (by rfl) | exact QS_len (by rfl) | exact QS_lenStr (by rfl) | exact QS_lenRow (by rfl) (by rfl) | exact QS_pick_t (by rfl) (by first | rfl | assumption) (by rfl) | exact QS_pick_f (by rfl) (by first | rfl | assumption) (by rfl) | exact QS_bin (by rfl) (by rfl) (by first | exact B_lss | exact B_leq | exact B_gtr | exact B_geq | exact B_eql | exact B_neq | exact B_seql | exact B_sneq | exact B_slss | exact B_sgeq | exact B_sleq | exact B_sgtr | exact B_beql | exact B_bneq | exact B_agg (run_eql_Span _ _ _ _ _ _) | exact B_agg (run_neq_Span _ _ _ _ _ _) | exact B_agg (run_eql_Eff _ _ _ _) | exact B_agg (run_neq_Eff _ _ _ _) | exact B_agg (run_eql_Msg _ _ _ _ _ _ _ _ _ _ _ _) | exact B_agg (run_neq_Msg _ _ _ _ _ _ _ _ _ _ _ _) | exact B_agg (run_eql_Pair _ _ _ _) | exact B_agg (run_neq_Pair _ _ _ _)) | exact QS_bin (by rfl) (by rfl) (B_add (by omega) (by omega)) | exact QS_bin (by rfl) (by rfl) (B_sadd (by assumption)) | exact QS_bin (by rfl) (by rfl) (B_sub (by omega) (by omega))) (by rfl) ?_
          | refine VG_q _ (by first  | exact QS_move (by rfl) | exact QS_assign (by rfl) | exact QS_load1 (by rfl) (by rfl) (by rfl) | exact QS_loadA (by rfl) (by rfl) _ (by rfl) | exact QS_fieldAddr (by rfl) | exact QS_mfieldAddr (by rfl) | exact QS_field (by rfl) (by rfl) | exact QS_mload1 (by rfl) (by assumption) | exact QS_build _ (by rfl) (by rfl) (by rfl) | exact QS_not (by rfl) | exact QS_extract (by rfl) (by rfl) | exact QS_len (by rfl) | exact QS_lenStr (by rfl) | exact QS_lenRow (by rfl) (by rfl) | exact QS_pick_t (by rfl) (by first | rfl | assumption) (by rfl) | exact QS_pick_f (by rfl) (by first | rfl | assumption) (by rfl) | exact QS_bin (by rfl) (by rfl) (by first | exact B_lss | exact B_leq | exact B_gtr | exact B_geq | exact B_eql | exact B_neq | exact B_seql | exact B_sneq | exact B_slss | exact B_sgeq | exact B_sleq | exact B_sgtr | exact B_beql | exact B_bneq | exact B_agg (run_eql_Span _ _ _ _ _ _) | exact B_agg (run_neq_Span _ _ _ _ _ _) | exact B_agg (run_eql_Eff _ _ _ _) | exact B_agg (run_neq_Eff _ _ _ _) | exact B_agg (run_eql_Msg _ _ _ _ _ _ _ _ _ _ _ _) | exact B_agg (run_neq_Msg _ _ _ _ _ _ _ _ _ _ _ _) | exact B_agg (run_eql_Pair _ _ _ _) | exact B_agg (run_neq_Pair _ _ _ _)) | exact QS_bin (by rfl) (by rfl) (B_add (by omega) (by omega)) | exact QS_bin (by rfl) (by rfl) (B_sadd (by assumption)) | exact QS_bin (by rfl) (by rfl) (B_sub (by omega) (by omega))) (by rfl) ?_
          | refine VS_st (by rfl) ?_
          | refine VS_q _ (by first  | exact QS_move (by rfl) | exact QS_assign (by rfl) | exact QS_load1 (by rfl) (by rfl) (by rfl) | exact QS_loadA (by rfl) (by rfl) _ (by rfl) | exact QS_fieldAddr (by rfl) | exact QS_mfieldAddr (by rfl) | exact QS_field (by rfl) (by rfl) | exact QS_mload1 (by rfl) (by assumption) | exact QS_build _ (by rfl) (by rfl) (by rfl) | exact QS_not (by rfl) | exact QS_extract (by rfl) (by rfl) | exact QS_len (by rfl) | exact QS_lenStr (by rfl) | exact QS_lenRow (by rfl) (by rfl) | exact QS_pick_t (by rfl) (by first | rfl | assumption) (by rfl) | exact QS_pick_f (by rfl) (by first | rfl | assumption) (by rfl) | exact QS_bin (by rfl) (by rfl) (by first | exact B_lss | exact B_leq | exact B_gtr | exact B_geq | exact B_eql | exact B_neq | exact B_seql | exact B_sneq | exact B_slss | exact B_sgeq | exact B_sleq | exact B_sgtr | exact B_beql | exact B_bneq | exact B_agg (run_eql_Span _ _ _ _ _ _) | exact B_agg (run_neq_Span _ _ _ _ _ _) | exact B_agg (run_eql_Eff _ _ _ _) | exact B_agg (run_neq_Eff _ _ _ _) | exact B_agg (run_eql_Msg _ _ _ _ _ _ _ _ _ _ _ _) | exact B_agg (run_neq_Msg _ _ _ _ _ _ _ _ _ _ _ _) | exact B_agg (run_eql_Pair _ _ _ _) | exact B_agg (run_neq_Pair _ _ _ _)) | exact QS_bin (by rfl) (by rfl) (B_add (by omega) (by omega)) | exact QS_bin (by rfl) (by rfl) (B_sadd (by assumption)) | exact QS_bin (by rfl) (by rfl) (B_sub (by omega) (by omega))) (by rfl) (by rfl) ?_
          | refine VS_nil ?_
          | refine VE_q (by rfl) ?_
          | refine VE_st _ (by rfl) (by first | exact ES_store1 (by rfl) (by rfl) (by rfl) (by rfl) (by rfl) | exact ES_storeN (by rfl) (by rfl) (by rfl) (by rfl) (by rfl) _ (by rfl)) (by rfl) ?_
          | refine VE_nil ?_
          | refine VL_yes _ _ _ (by rfl) (by rfl) (by rfl) (by first | rfl | assumption) ?_
          | refine VL_no _ _ _ (by rfl) (by rfl) (by rfl) (by first | rfl | assumption) (by rfl) ?_
          | refine VG_yes _ _ _ (by rfl) (by rfl) (by rfl) (by first | rfl | assumption) ?_
          | refine VG_no _ _ _ (by rfl) (by rfl) (by rfl) (by first | rfl | assumption) (by rfl) ?_
          | refine VL_noU _ _ (by rfl) (by rfl) (by rfl) (by rfl) ?_
          | refine VG_noU _ _ (by rfl) (by rfl) (by rfl) (by rfl) ?_
          | refine VG_nil ⟨by rfl, ?_⟩
          | refine VG_nil ?_
          | refine VC_drawT (by decide +kernel) ?_
          | refine VC_draw1 (by rfl) (by decide +kernel) (by rfl) (by rfl) ?_
          | refine VC_drawQ (by rfl) (by decide +kernel) ?_
          | refine VC_true (by rfl) (by first | rfl | assumption) ?_
          | refine VC_false (by rfl) (by first | rfl | assumption) ?_
          | refine VL_dec _ _ _ (by rfl) (by rfl) (by rfl) (fun hq => ?_) (fun hq => ?_)
          | refine VG_dec _ _ _ (by rfl) (by rfl) (by rfl) (fun hq => ?_) (fun hq => ?_)
          | refine VC_cond _ (by rfl) (fun hq => ?_) (fun hq => ?_))
        refine forQ_next [] (k + 1) ⟨rfl, rfl, trivial, ⟨rfl, ?_, rfl, rfl, trivial⟩⟩ (by omega) (by omega)
        rw [hr2, hr]; simp [h0]; rfl
      · have hz : ((k : Int) == 0) = false := by simp [h0]
        have hlt1 : k - 1 < l.length := by omega
        obtain ⟨b', off', he, hcB⟩ := hM.get hlt1
        injection he with he
        injection he with he1 he2
        subst he1 he2
        repeat' (first
          | refine VC_seq ?_
          | refine VC_region ?_
          | refine VL_nil ?_
          | refine VC_ret ?_
          | refine VC_exit ?_
          | refine VC_block ?_
          | refine VC_skip ?_
          | refine VL_box (by rfl) (by rfl) (by rfl) ?_
          | refine VL_alloc (by rfl) (by rfl) ?_
          | refine VL_store1 (by rfl) (by rfl) (by rfl) (by rfl) (by rfl) (by rfl) ?_
          | refine VL_storeN (by rfl) (by rfl) (by rfl) (by rfl) (by rfl) _ (by rfl) (by rfl) ?_
          | refine VL_q _ (by first | exact QS_indexAddr (k) (by rfl) (by rfl) (by omega) (by omega) | exact QS_indexAddr (k - 1) (by rfl) (by rfl) (by omega) (by omega) | exact QS_mload1 (by rfl) (hcA _ _ (by rfl)) | exact QS_mloadN _ (by rfl) hcA _ (by rfl) | exact QS_mload1 (by rfl) (hcB _ _ (by rfl)) | exact QS_mloadN _ (by rfl) hcB _ (by rfl) | exact QS_move (by rfl) | exact QS_assign (by rfl) | exact QS_load1 (by rfl) (by rfl) (by rfl) | exact QS_loadA (by rfl) (by rfl) _ (by rfl) | exact QS_fieldAddr (by rfl) | exact QS_mfieldAddr (by rfl) | exact QS_field (by rfl) (by rfl) | exact QS_mload1 (by rfl) (by assumption) | exact QS_build _ (by rfl) (by rfl) (by rfl) | exact QS_not (by rfl) | exact QS_extract (by rfl) (by rfl) | exact QS_len (by rfl) | exact QS_lenStr (by rfl) | exact QS_lenRow (by rfl) (by rfl) | exact QS_pick_t (by rfl) (by first | rfl | assumption) (by rfl) | exact QS_pick_f (by rfl) (by first | rfl | assumption) (by rfl) | exact QS_bin (by rfl) (by rfl) (by first | exact B_lss | exact B_leq | exact B_gtr | exact B_geq | exact B_eql | exact B_neq | exact B_seql | exact B_sneq | exact B_slss | exact B_sgeq | exact B_sleq | exact B_sgtr | exact B_beql | exact B_bneq | exact B_agg (run_eql_Span _ _ _ _ _ _) | exact B_agg (run_neq_Span _ _ _ _ _ _) | exact B_agg (run_eql_Eff _ _ _ _) | exact B_agg (run_neq_Eff _ _ _ _) | exact B_agg (run_eql_Msg _ _ _ _ _ _ _ _ _ _ _ _) | exact B_agg (run_neq_Msg _ _ _ _ _ _ _ _ _ _ _ _) | exact B_agg (run_eql_Pair _ _ _ _) | exact B_agg (run_neq_Pair _ _ _ _)) | exact QS_bin (by rfl) (by rfl) (B_add (by omega) (by omega)) | exact QS_bin (by rfl) (by rfl) (B_sadd (by assumption)) | exact QS_bin (by rfl) (by rfl) (B_sub (by omega) (by omega))) (by rfl) ?_
          | refine VG_q _ (by first | exact QS_indexAddr (k) (by rfl) (by rfl) (by omega) (by omega) | exact QS_indexAddr (k - 1) (by rfl) (by rfl) (by omega) (by omega) | exact QS_mload1 (by rfl) (hcA _ _ (by rfl)) | exact QS_mloadN _ (by rfl) hcA _ (by rfl) | exact QS_mload1 (by rfl) (hcB _ _ (by rfl)) | exact QS_mloadN _ (by rfl) hcB _ (by rfl) | exact QS_move (by rfl) | exact QS_assign (by rfl) | exact QS_load1 (by rfl) (by rfl) (by rfl) | exact QS_loadA (by rfl) (by rfl) _ (by rfl) | exact QS_fieldAddr (by rfl) | exact QS_mfieldAddr (by rfl) | exact QS_field (by rfl) (by rfl) | exact QS_mload1 (by rfl) (by assumption) | exact QS_build _ (by rfl) (by rfl) (by rfl) | exact QS_not (by rfl) | exact QS_extract (by rfl) (by rfl) | exact QS_len (by rfl) | exact QS_lenStr (by rfl) | exact QS_lenRow (by rfl) (by rfl) | exact QS_pick_t (by rfl) (by first | rfl | assumption) (by rfl) | exact QS_pick_f (by rfl) (by first | rfl | assumption) (by rfl) | exact QS_bin (by rfl) (by rfl) (by first | exact B_lss | exact B_leq | exact B_gtr | exact B_geq | exact B_eql | exact B_neq | exact B_seql | exact B_sneq | exact B_slss | exact B_sgeq | exact B_sleq | exact B_sgtr | exact B_beql | exact B_bneq | exact B_agg (run_eql_Span _ _ _ _ _ _) | exact B_agg (run_neq_Span _ _ _ _ _ _) | exact B_agg (run_eql_Eff _ _ _ _) | exact B_agg (run_neq_Eff _ _ _ _) | exact B_agg (run_eql_Msg _ _ _ _ _ _ _ _ _ _ _ _) | exact B_agg (run_neq_Msg _ _ _ _ _ _ _ _ _ _ _ _) | exact B_agg (run_eql_Pair _ _ _ _) | exact B_agg (run_neq_Pair _ _ _ _)) | exact QS_bin (by rfl) (by rfl) (B_add (by omega) (by omega)) | exact QS_bin (by rfl) (by rfl) (B_sadd (by assumption)) | exact QS_bin (by rfl) (by rfl) (B_sub (by omega) (by omega))) (by rfl) ?_
          | refine VS_st (by rfl) ?_
          | refine VS_q _ (by first | exact QS_indexAddr (k) (by rfl) (by rfl) (by omega) (by omega) | exact QS_indexAddr (k - 1) (by rfl) (by rfl) (by omega) (by omega) | exact QS_mload1 (by rfl) (hcA _ _ (by rfl)) | exact QS_mloadN _ (by rfl) hcA _ (by rfl) | exact QS_mload1 (by rfl) (hcB _ _ (by rfl)) | exact QS_mloadN _ (by rfl) hcB _ (by rfl) | exact QS_move (by rfl) | exact QS_assign (by rfl) | exact QS_load1 (by rfl) (by rfl) (by rfl) | exact QS_loadA (by rfl) (by rfl) _ (by rfl) | exact QS_fieldAddr (by rfl) | exact QS_mfieldAddr (by rfl) | exact QS_field (by rfl) (by rfl) | exact QS_mload1 (by rfl) (by assumption) | exact QS_build _ (by rfl) (by rfl) (by rfl) | exact QS_not (by rfl) | exact QS_extract (by rfl) (by rfl) | exact QS_len (by rfl) | exact QS_lenStr (by rfl) | exact QS_lenRow (by rfl) (by rfl) | exact QS_pick_t (by rfl) (by first | rfl | assumption) (by rfl) | exact QS_pick_f (by rfl) (by first | rfl | assumption) (by rfl) | exact QS_bin (by rfl) (by rfl) (by first | exact B_lss | exact B_leq | exact B_gtr | exact B_geq | exact B_eql | exact B_neq | exact B_seql | exact B_sneq | exact B_slss | exact B_sgeq | exact B_sleq | exact B_sgtr | exact B_beql | exact B_bneq | exact B_agg (run_eql_Span _ _ _ _ _ _) | exact B_agg (run_neq_Span _ _ _ _ _ _) | exact B_agg (run_eql_Eff _ _ _ _) | exact B_agg (run_neq_Eff _ _ _ _) | exact B_agg (run_eql_Msg _ _ _ _ _ _ _ _ _ _ _ _) | exact B_agg (run_neq_Msg _ _ _ _ _ _ _ _ _ _ _ _) | exact B_agg (run_eql_Pair _ _ _ _) | exact B_agg (run_neq_Pair _ _ _ _)) | exact QS_bin (by rfl) (by rfl) (B_add (by omega) (by omega)) | exact QS_bin (by rfl) (by rfl) (B_sadd (by assumption)) | exact QS_bin (by rfl) (by rfl) (B_sub (by omega) (by omega))) (by rfl) (by rfl) ?_
          | refine VS_nil ?_
          | refine VE_q (by rfl) ?_
          | refine VE_st _ (by rfl) (by first | exact ES_store1 (by rfl) (by rfl) (by rfl) (by rfl) (by rfl) | exact ES_storeN (by rfl) (by rfl) (by rfl) (by rfl) (by rfl) _ (by rfl)) (by rfl) ?_
          | refine VE_nil ?_
          | refine VL_yes _ _ _ (by rfl) (by rfl) (by rfl) (by first | rfl | assumption) ?_
          | refine VL_no _ _ _ (by rfl) (by rfl) (by rfl) (by first | rfl | assumption) (by rfl) ?_
          | refine VG_yes _ _ _ (by rfl) (by rfl) (by rfl) (by first | rfl | assumption) ?_
          | refine VG_no _ _ _ (by rfl) (by rfl) (by rfl) (by first | rfl | assumption) (by rfl) ?_
          | refine VL_noU _ _ (by rfl) (by rfl) (by rfl) (by rfl) ?_
          | refine VG_noU _ _ (by rfl) (by rfl) (by rfl) (by rfl) ?_
          | refine VG_nil ⟨by rfl, ?_⟩
          | refine VG_nil ?_
          | refine VC_drawT (by decide +kernel) ?_
          | refine VC_draw1 (by rfl) (by decide +kernel) (by rfl) (by rfl) ?_
          | refine VC_drawQ (by rfl) (by decide +kernel) ?_
          | refine VC_true (by rfl) (by first | rfl | assumption) ?_
          | refine VC_false (by rfl) (by first | rfl | assumption) ?_
          | refine VL_dec _ _ _ (by rfl) (by rfl) (by rfl) (fun hq => ?_) (fun hq => ?_)
          | refine VG_dec _ _ _ (by rfl) (by rfl) (by rfl) (fun hq => ?_) (fun hq => ?_)
          | refine VC_cond _ (by rfl) (fun hq => ?_) (fun hq => ?_))
        refine forQ_next [] (k + 1) ⟨rfl, rfl, trivial, ⟨rfl, ?_, rfl, rfl, trivial⟩⟩ (by omega) (by omega)
        rw [hr2, hr]; simp [h0, stAt_eq hlt, stAt_eq hlt1]; rfl
  · have hd := dge hge
    have hkl : k = l.length := by omega
    subst hkl
    have hx : (riseB l == riseTo l l.length) = true := by unfold riseB riseTo; simp
    repeat' (first
      | refine VC_seq ?_
      | refine VC_region ?_
      | refine VL_nil ?_
      | refine VC_ret ?_
      | refine VC_exit ?_
      | refine VC_block ?_
      | refine VC_skip ?_
      | refine VL_box (by rfl) (by rfl) (by rfl) ?_
      | refine VL_alloc (by rfl) (by rfl) ?_
      | refine VL_store1 (by rfl) (by rfl) (by rfl) (by rfl) (by rfl) (by rfl) ?_
      | refine VL_storeN (by rfl) (by rfl) (by rfl) (by rfl) (by rfl) _ (by rfl) (by rfl) ?_
      | refine VL_q _ (by first | exact QS_call (by rfl) (fun W _ => message_Rising _ l W (hM.toSl (by assumption))) | exact QS_call (by rfl) (fun W _ => message_awake W) | exact QS_move (by rfl) | exact QS_assign (by rfl) | exact QS_load1 (by rfl) (by rfl) (by rfl) | exact QS_loadA (by rfl) (by rfl) _ (by rfl) | exact QS_fieldAddr (by rfl) | exact QS_mfieldAddr (by rfl) | exact QS_field (by rfl) (by rfl) | exact QS_mload1 (by rfl) (by assumption) | exact QS_build _ (by rfl) (by rfl) (by rfl) | exact QS_not (by rfl) | exact QS_extract (by rfl) (by rfl) | exact QS_len (by rfl) | exact QS_lenStr (by rfl) | exact QS_lenRow (by rfl) (by rfl) | exact QS_pick_t (by rfl) (by first | rfl | assumption) (by rfl) | exact QS_pick_f (by rfl) (by first | rfl | assumption) (by rfl) | exact QS_bin (by rfl) (by rfl) (by first | exact B_lss | exact B_leq | exact B_gtr | exact B_geq | exact B_eql | exact B_neq | exact B_seql | exact B_sneq | exact B_slss | exact B_sgeq | exact B_sleq | exact B_sgtr | exact B_beql | exact B_bneq | exact B_agg (run_eql_Span _ _ _ _ _ _) | exact B_agg (run_neq_Span _ _ _ _ _ _) | exact B_agg (run_eql_Eff _ _ _ _) | exact B_agg (run_neq_Eff _ _ _ _) | exact B_agg (run_eql_Msg _ _ _ _ _ _ _ _ _ _ _ _) | exact B_agg (run_neq_Msg _ _ _ _ _ _ _ _ _ _ _ _) | exact B_agg (run_eql_Pair _ _ _ _) | exact B_agg (run_neq_Pair _ _ _ _)) | exact QS_bin (by rfl) (by rfl) (B_add (by omega) (by omega)) | exact QS_bin (by rfl) (by rfl) (B_sadd (by assumption)) | exact QS_bin (by rfl) (by rfl) (B_sub (by omega) (by omega))) (by rfl) ?_
      | refine VG_q _ (by first | exact QS_call (by rfl) (fun W _ => message_Rising _ l W (hM.toSl (by assumption))) | exact QS_call (by rfl) (fun W _ => message_awake W) | exact QS_move (by rfl) | exact QS_assign (by rfl) | exact QS_load1 (by rfl) (by rfl) (by rfl) | exact QS_loadA (by rfl) (by rfl) _ (by rfl) | exact QS_fieldAddr (by rfl) | exact QS_mfieldAddr (by rfl) | exact QS_field (by rfl) (by rfl) | exact QS_mload1 (by rfl) (by assumption) | exact QS_build _ (by rfl) (by rfl) (by rfl) | exact QS_not (by rfl) | exact QS_extract (by rfl) (by rfl) | exact QS_len (by rfl) | exact QS_lenStr (by rfl) | exact QS_lenRow (by rfl) (by rfl) | exact QS_pick_t (by rfl) (by first | rfl | assumption) (by rfl) | exact QS_pick_f (by rfl) (by first | rfl | assumption) (by rfl) | exact QS_bin (by rfl) (by rfl) (by first | exact B_lss | exact B_leq | exact B_gtr | exact B_geq | exact B_eql | exact B_neq | exact B_seql | exact B_sneq | exact B_slss | exact B_sgeq | exact B_sleq | exact B_sgtr | exact B_beql | exact B_bneq | exact B_agg (run_eql_Span _ _ _ _ _ _) | exact B_agg (run_neq_Span _ _ _ _ _ _) | exact B_agg (run_eql_Eff _ _ _ _) | exact B_agg (run_neq_Eff _ _ _ _) | exact B_agg (run_eql_Msg _ _ _ _ _ _ _ _ _ _ _ _) | exact B_agg (run_neq_Msg _ _ _ _ _ _ _ _ _ _ _ _) | exact B_agg (run_eql_Pair _ _ _ _) | exact B_agg (run_neq_Pair _ _ _ _)) | exact QS_bin (by rfl) (by rfl) (B_add (by omega) (by omega)) | exact QS_bin (by rfl) (by rfl) (B_sadd (by assumption)) | exact QS_bin (by rfl) (by rfl) (B_sub (by omega) (by omega))) (by rfl) ?_
      | refine VS_st (by rfl) ?_
      | refine VS_q _ (by first | exact QS_call (by rfl) (fun W _ => message_Rising _ l W (hM.toSl (by assumption))) | exact QS_call (by rfl) (fun W _ => message_awake W) | exact QS_move (by rfl) | exact QS_assign (by rfl) | exact QS_load1 (by rfl) (by rfl) (by rfl) | exact QS_loadA (by rfl) (by rfl) _ (by rfl) | exact QS_fieldAddr (by rfl) | exact QS_mfieldAddr (by rfl) | exact QS_field (by rfl) (by rfl) | exact QS_mload1 (by rfl) (by assumption) | exact QS_build _ (by rfl) (by rfl) (by rfl) | exact QS_not (by rfl) | exact QS_extract (by rfl) (by rfl) | exact QS_len (by rfl) | exact QS_lenStr (by rfl) | exact QS_lenRow (by rfl) (by rfl) | exact QS_pick_t (by rfl) (by first | rfl | assumption) (by rfl) | exact QS_pick_f (by rfl) (by first | rfl | assumption) (by rfl) | exact QS_bin (by rfl) (by rfl) (by first | exact B_lss | exact B_leq | exact B_gtr | exact B_geq | exact B_eql | exact B_neq | exact B_seql | exact B_sneq | exact B_slss | exact B_sgeq | exact B_sleq | exact B_sgtr | exact B_beql | exact B_bneq | exact B_agg (run_eql_Span _ _ _ _ _ _) | exact B_agg (run_neq_Span _ _ _ _ _ _) | exact B_agg (run_eql_Eff _ _ _ _) | exact B_agg (run_neq_Eff _ _ _ _) | exact B_agg (run_eql_Msg _ _ _ _ _ _ _ _ _ _ _ _) | exact B_agg (run_neq_Msg _ _ _ _ _ _ _ _ _ _ _ _) | exact B_agg (run_eql_Pair _ _ _ _) | exact B_agg (run_neq_Pair _ _ _ _)) | exact QS_bin (by rfl) (by rfl) (B_add (by omega) (by omega)) | exact QS_bin (by rfl) (by rfl) (B_sadd (by assumption)) | exact QS_bin (by rfl) (by rfl) (B_sub (by omega) (by omega))) (by rfl) (by rfl) ?_
      | refine VS_nil ?_
      | refine VE_q (by rfl) ?_
      | refine VE_st _ (by rfl) (by first | exact ES_store1 (by rfl) (by rfl) (by rfl) (by rfl) (by rfl) | exact ES_storeN (by rfl) (by rfl) (by rfl) (by rfl) (by rfl) _ (by rfl)) (by rfl) ?_
      | refine VE_nil ?_
      | refine VL_yes _ _ _ (by rfl) (by rfl) (by rfl) (by first | rfl | assumption) ?_
      | refine VL_no _ _ _ (by rfl) (by rfl) (by rfl) (by first | rfl | assumption) (by rfl) ?_
      | refine VG_yes _ _ _ (by rfl) (by rfl) (by rfl) (by first | rfl | assumption) ?_
      | refine VG_no _ _ _ (by rfl) (by rfl) (by rfl) (by first | rfl | assumption) (by rfl) ?_
      | refine VL_noU _ _ (by rfl) (by rfl) (by rfl) (by rfl) ?_
      | refine VG_noU _ _ (by rfl) (by rfl) (by rfl) (by rfl) ?_
      | refine VG_nil ⟨by rfl, ?_⟩
      | refine VG_nil ?_
      | refine VC_drawT (by decide +kernel) ?_
      | refine VC_draw1 (by rfl) (by decide +kernel) (by rfl) (by rfl) ?_
      | refine VC_drawQ (by rfl) (by decide +kernel) ?_
      | refine VC_true (by rfl) (by first | rfl | assumption) ?_
      | refine VC_false (by rfl) (by first | rfl | assumption) ?_
      | refine VL_dec _ _ _ (by rfl) (by rfl) (by rfl) (fun hq => ?_) (fun hq => ?_)
      | refine VG_dec _ _ _ (by rfl) (by rfl) (by rfl) (fun hq => ?_) (fun hq => ?_)
      | refine VC_cond _ (by rfl) (fun hq => ?_) (fun hq => ?_))
    show Res _ _ _ _
    refine Res.one (by rfl) (ResV_tmp (by rfl) ?_)
    rfl
end Go.Proofs.Ytipbbbamjckjoaa.lawMessageRises
