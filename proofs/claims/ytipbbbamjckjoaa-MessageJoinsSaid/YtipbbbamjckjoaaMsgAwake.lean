/- The chapter's examples of the message layer. -/
import Derived.Test.YtipbbbamjckjoaaMsgV
namespace Go.Proofs.Ytipbbbamjckjoaa
open Go Go.RowKit
set_option linter.unusedVariables false
set_option maxRecDepth 20000
set_option linter.unusedSimpArgs false
theorem message_awake (w : World) : Calls Try.prog 12 #[] w fun e w' => e = .returned (.bool true) ∧ Below w.heap.size w w' := by
  have f1 : clipM ⟨1, 4, ⟨#[97]⟩, ⟨#[100]⟩, false, em⟩ ⟨⟨#[98]⟩, em, true⟩ = (⟨1, 4, ⟨#[98]⟩, ⟨#[100]⟩, false, em⟩, true) := by decide +kernel
  have f2 : rightM ⟨1, 4, ⟨#[98]⟩, ⟨#[100]⟩, false, em⟩ = true := by decide +kernel
  have f3 : rightM ⟨1, 0, em, em, false, em⟩ = false := by decide +kernel
  have f4 : sizeM ⟨0, 1, ⟨#[107]⟩, em, false, ⟨#[118]⟩⟩ = 6 := by decide +kernel
  have c1 : ∀ W, Calls Try.prog 27 #[.agg #[.int .i64 (⟨1, 4, ⟨#[97]⟩, ⟨#[100]⟩, false, em⟩ : Msg).stamp, .int .i64 (⟨1, 4, ⟨#[97]⟩, ⟨#[100]⟩, false, em⟩ : Msg).kind, .string (⟨1, 4, ⟨#[97]⟩, ⟨#[100]⟩, false, em⟩ : Msg).key, .string (⟨1, 4, ⟨#[97]⟩, ⟨#[100]⟩, false, em⟩ : Msg).hi, .bool (⟨1, 4, ⟨#[97]⟩, ⟨#[100]⟩, false, em⟩ : Msg).opn, .string (⟨1, 4, ⟨#[97]⟩, ⟨#[100]⟩, false, em⟩ : Msg).val], .agg #[.string (⟨⟨#[98]⟩, em, true⟩ : Span).lo, .string (⟨⟨#[98]⟩, em, true⟩ : Span).hi, .bool (⟨⟨#[98]⟩, em, true⟩ : Span).opn]] W fun e w' => e = .returned (.tuple #[.agg #[.int .i64 (⟨1, 4, ⟨#[98]⟩, ⟨#[100]⟩, false, em⟩ : Msg).stamp, .int .i64 (⟨1, 4, ⟨#[98]⟩, ⟨#[100]⟩, false, em⟩ : Msg).kind, .string (⟨1, 4, ⟨#[98]⟩, ⟨#[100]⟩, false, em⟩ : Msg).key, .string (⟨1, 4, ⟨#[98]⟩, ⟨#[100]⟩, false, em⟩ : Msg).hi, .bool (⟨1, 4, ⟨#[98]⟩, ⟨#[100]⟩, false, em⟩ : Msg).opn, .string (⟨1, 4, ⟨#[98]⟩, ⟨#[100]⟩, false, em⟩ : Msg).val], .bool true]) ∧ Below W.heap.size W w' := fun W => by
    have := message_Clip ⟨1, 4, ⟨#[97]⟩, ⟨#[100]⟩, false, em⟩ ⟨⟨#[98]⟩, em, true⟩ W (by decide)
    rw [f1] at this; exact this
  have c2 : ∀ W, Calls Try.prog 17 #[.agg #[.int .i64 (⟨1, 4, ⟨#[98]⟩, ⟨#[100]⟩, false, em⟩ : Msg).stamp, .int .i64 (⟨1, 4, ⟨#[98]⟩, ⟨#[100]⟩, false, em⟩ : Msg).kind, .string (⟨1, 4, ⟨#[98]⟩, ⟨#[100]⟩, false, em⟩ : Msg).key, .string (⟨1, 4, ⟨#[98]⟩, ⟨#[100]⟩, false, em⟩ : Msg).hi, .bool (⟨1, 4, ⟨#[98]⟩, ⟨#[100]⟩, false, em⟩ : Msg).opn, .string (⟨1, 4, ⟨#[98]⟩, ⟨#[100]⟩, false, em⟩ : Msg).val]] W fun e w' => e = .returned (.bool true) ∧ Below W.heap.size W w' := fun W => by
    have := message_Right ⟨1, 4, ⟨#[98]⟩, ⟨#[100]⟩, false, em⟩ W (by decide) (by decide) (by decide)
    rw [f2] at this; exact this
  have c3 : ∀ W, Calls Try.prog 17 #[.agg #[.int .i64 (⟨1, 0, em, em, false, em⟩ : Msg).stamp, .int .i64 (⟨1, 0, em, em, false, em⟩ : Msg).kind, .string (⟨1, 0, em, em, false, em⟩ : Msg).key, .string (⟨1, 0, em, em, false, em⟩ : Msg).hi, .bool (⟨1, 0, em, em, false, em⟩ : Msg).opn, .string (⟨1, 0, em, em, false, em⟩ : Msg).val]] W fun e w' => e = .returned (.bool false) ∧ Below W.heap.size W w' := fun W => by
    have := message_Right ⟨1, 0, em, em, false, em⟩ W (by decide) (by decide) (by decide)
    rw [f3] at this; exact this
  have c4 : ∀ W, Calls Try.prog 22 #[.agg #[.int .i64 (⟨0, 1, ⟨#[107]⟩, em, false, ⟨#[118]⟩⟩ : Msg).stamp, .int .i64 (⟨0, 1, ⟨#[107]⟩, em, false, ⟨#[118]⟩⟩ : Msg).kind, .string (⟨0, 1, ⟨#[107]⟩, em, false, ⟨#[118]⟩⟩ : Msg).key, .string (⟨0, 1, ⟨#[107]⟩, em, false, ⟨#[118]⟩⟩ : Msg).hi, .bool (⟨0, 1, ⟨#[107]⟩, em, false, ⟨#[118]⟩⟩ : Msg).opn, .string (⟨0, 1, ⟨#[107]⟩, em, false, ⟨#[118]⟩⟩ : Msg).val]] W fun e w' => e = .returned (.int .i64 6) ∧ Below W.heap.size W w' := fun W => by
    have := message_Size ⟨0, 1, ⟨#[107]⟩, em, false, ⟨#[118]⟩⟩ W (by decide) (by decide)
    rw [f4] at this; exact this
  have g1 : decide ((⟨#[98]⟩ : ByteArray) = ⟨#[98]⟩) = true := by decide
  have g2 : decide ((⟨#[100]⟩ : ByteArray) = ⟨#[100]⟩) = true := by decide
  refine V_flat (args := []) (M := Mem.no) Try.func12 rfl Try.ntmps12 (by rfl) (Mem.no_le _) ?_
  repeat' (first
    | refine VC_seq ?_
    | refine VC_region ?_
    | refine VL_nil ?_
    | refine VC_ret ?_
    | refine VC_exit ?_
    | refine VC_block ?_
    | refine VC_skip ?_
    | refine VL_box (by rfl) (by rfl) (by rfl) ?_
    | refine VL_alloc (by rfl) (by rfl) ?_
    | refine VL_store1 (by rfl) (by rfl) (by rfl) (by rfl) (by rfl) (by rfl) ?_
    | refine VL_storeN (by rfl) (by rfl) (by rfl) (by rfl) (by rfl) _ (by rfl) (by rfl) ?_
    | refine VL_lits (by rfl) (by rfl) (by rfl) (by rfl) (by rfl) (by rfl) (by rfl) ?_
    | refine VL_lit1 (by rfl) (by rfl) (by rfl) (by rfl) (by rfl) ?_
    | refine VL_append (by rfl) (by rfl) (by rfl) (by rfl) (by omega) (by rfl) (by unfold maxLen; omega) (by omega) (by rfl) (by rfl) ?_
    | refine VL_q _ (by first | exact QS_call (by rfl) (fun W _ => c1 W) | exact QS_call (by rfl) (fun W _ => c2 W) | exact QS_call (by rfl) (fun W _ => c3 W) | exact QS_call (by rfl) (fun W _ => c4 W) | exact QS_move (by rfl) | exact QS_assign (by rfl) | exact QS_load1 (by rfl) (by rfl) (by rfl) | exact QS_loadA (by rfl) (by rfl) _ (by rfl) | exact QS_fieldAddr (by rfl) | exact QS_mfieldAddr (by rfl) | exact QS_field (by rfl) (by rfl) | exact QS_mload1 (by rfl) (by assumption) | exact QS_build _ (by rfl) (by rfl) (by rfl) | exact QS_not (by rfl) | exact QS_extract (by rfl) (by rfl) | exact QS_len (by rfl) | exact QS_lenStr (by rfl) | exact QS_lenRow (by rfl) (by rfl) | exact QS_pick_t (by rfl) (by first | rfl | assumption) (by rfl) | exact QS_pick_f (by rfl) (by first | rfl | assumption) (by rfl) | exact QS_bin (by rfl) (by rfl) (by first | exact B_lss | exact B_leq | exact B_gtr | exact B_geq | exact B_eql | exact B_neq | exact B_seql | exact B_sneq | exact B_slss | exact B_sgeq | exact B_sleq | exact B_sgtr | exact B_beql | exact B_bneq | exact Bq_eql_Span | exact Bq_neq_Span | exact Bq_eql_Eff | exact Bq_neq_Eff | exact Bq_eql_Msg | exact Bq_neq_Msg | exact Bq_eql_Pair | exact Bq_neq_Pair) | exact QS_bin (by rfl) (by rfl) (B_add (by omega) (by omega)) | exact QS_bin (by rfl) (by rfl) (B_sadd (by assumption)) | exact QS_bin (by rfl) (by rfl) (B_sub (by omega) (by omega))) (by rfl) ?_
    | refine VG_q _ (by first | exact QS_call (by rfl) (fun W _ => c1 W) | exact QS_call (by rfl) (fun W _ => c2 W) | exact QS_call (by rfl) (fun W _ => c3 W) | exact QS_call (by rfl) (fun W _ => c4 W) | exact QS_move (by rfl) | exact QS_assign (by rfl) | exact QS_load1 (by rfl) (by rfl) (by rfl) | exact QS_loadA (by rfl) (by rfl) _ (by rfl) | exact QS_fieldAddr (by rfl) | exact QS_mfieldAddr (by rfl) | exact QS_field (by rfl) (by rfl) | exact QS_mload1 (by rfl) (by assumption) | exact QS_build _ (by rfl) (by rfl) (by rfl) | exact QS_not (by rfl) | exact QS_extract (by rfl) (by rfl) | exact QS_len (by rfl) | exact QS_lenStr (by rfl) | exact QS_lenRow (by rfl) (by rfl) | exact QS_pick_t (by rfl) (by first | rfl | assumption) (by rfl) | exact QS_pick_f (by rfl) (by first | rfl | assumption) (by rfl) | exact QS_bin (by rfl) (by rfl) (by first | exact B_lss | exact B_leq | exact B_gtr | exact B_geq | exact B_eql | exact B_neq | exact B_seql | exact B_sneq | exact B_slss | exact B_sgeq | exact B_sleq | exact B_sgtr | exact B_beql | exact B_bneq | exact Bq_eql_Span | exact Bq_neq_Span | exact Bq_eql_Eff | exact Bq_neq_Eff | exact Bq_eql_Msg | exact Bq_neq_Msg | exact Bq_eql_Pair | exact Bq_neq_Pair) | exact QS_bin (by rfl) (by rfl) (B_add (by omega) (by omega)) | exact QS_bin (by rfl) (by rfl) (B_sadd (by assumption)) | exact QS_bin (by rfl) (by rfl) (B_sub (by omega) (by omega))) (by rfl) ?_
    | refine VS_st (by rfl) ?_
    | refine VS_q _ (by first | exact QS_call (by rfl) (fun W _ => c1 W) | exact QS_call (by rfl) (fun W _ => c2 W) | exact QS_call (by rfl) (fun W _ => c3 W) | exact QS_call (by rfl) (fun W _ => c4 W) | exact QS_move (by rfl) | exact QS_assign (by rfl) | exact QS_load1 (by rfl) (by rfl) (by rfl) | exact QS_loadA (by rfl) (by rfl) _ (by rfl) | exact QS_fieldAddr (by rfl) | exact QS_mfieldAddr (by rfl) | exact QS_field (by rfl) (by rfl) | exact QS_mload1 (by rfl) (by assumption) | exact QS_build _ (by rfl) (by rfl) (by rfl) | exact QS_not (by rfl) | exact QS_extract (by rfl) (by rfl) | exact QS_len (by rfl) | exact QS_lenStr (by rfl) | exact QS_lenRow (by rfl) (by rfl) | exact QS_pick_t (by rfl) (by first | rfl | assumption) (by rfl) | exact QS_pick_f (by rfl) (by first | rfl | assumption) (by rfl) | exact QS_bin (by rfl) (by rfl) (by first | exact B_lss | exact B_leq | exact B_gtr | exact B_geq | exact B_eql | exact B_neq | exact B_seql | exact B_sneq | exact B_slss | exact B_sgeq | exact B_sleq | exact B_sgtr | exact B_beql | exact B_bneq | exact Bq_eql_Span | exact Bq_neq_Span | exact Bq_eql_Eff | exact Bq_neq_Eff | exact Bq_eql_Msg | exact Bq_neq_Msg | exact Bq_eql_Pair | exact Bq_neq_Pair) | exact QS_bin (by rfl) (by rfl) (B_add (by omega) (by omega)) | exact QS_bin (by rfl) (by rfl) (B_sadd (by assumption)) | exact QS_bin (by rfl) (by rfl) (B_sub (by omega) (by omega))) (by rfl) (by rfl) ?_
    | refine VS_nil ?_
    | refine VE_q (by rfl) ?_
    | refine VE_st _ (by rfl) (by first | exact ES_store1 (by rfl) (by rfl) (by rfl) (by rfl) (by rfl) | exact ES_storeN (by rfl) (by rfl) (by rfl) (by rfl) (by rfl) _ (by rfl)) (by rfl) ?_
    | refine VE_nil ?_
    | refine VL_yes _ _ _ (by rfl) (by rfl) (by rfl) (by first | rfl | assumption) ?_
    | refine VL_no _ _ _ (by rfl) (by rfl) (by rfl) (by first | rfl | assumption) (by rfl) ?_
    | refine VG_yes _ _ _ (by rfl) (by rfl) (by rfl) (by first | rfl | assumption) ?_
    | refine VG_no _ _ _ (by rfl) (by rfl) (by rfl) (by first | rfl | assumption) (by rfl) ?_
    | refine VL_noU _ _ (by rfl) (by rfl) (by rfl) (by rfl) ?_
    | refine VG_noU _ _ (by rfl) (by rfl) (by rfl) (by rfl) ?_
    | refine VG_nil ⟨by rfl, ?_⟩
    | refine VG_nil ?_
    | refine VC_drawT (by decide +kernel) ?_
    | refine VC_draw1 (by rfl) (by decide +kernel) (by rfl) (by rfl) ?_
    | refine VC_drawQ (by rfl) (by decide +kernel) ?_
    | refine VC_true (by rfl) (by first | rfl | assumption) ?_
    | refine VC_false (by rfl) (by first | rfl | assumption) ?_
    | refine VL_dec _ _ _ (by rfl) (by rfl) (by rfl) (fun hq => ?_) (fun hq => ?_)
    | refine VG_dec _ _ _ (by rfl) (by rfl) (by rfl) (fun hq => ?_) (fun hq => ?_)
    | refine VC_cond _ (by rfl) (fun hq => ?_) (fun hq => ?_))
  all_goals
    show Res _ _ _ _
    refine Res.one (by rfl) (ResV_tmp (by rfl) ?_)
    rfl
end Go.Proofs.Ytipbbbamjckjoaa
