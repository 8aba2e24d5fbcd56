/- The walks of the buffer layer's loops. -/
import Derived.Test.YtipbbbamjckjoaaMsgS
import Derived.Test.YtipbbbamjckjoaaSum
namespace Go.Proofs.Ytipbbbamjckjoaa
open Go Go.RowKit
set_option linter.unusedVariables false
set_option maxRecDepth 20000
set_option linter.unusedSimpArgs false
theorem In.sizes {m : Msg} (h : m.In) : m.key.size ≤ 140737488351232 ∧ m.hi.size ≤ 140737488351232 ∧ m.val.size ≤ 140737488351232 := ⟨h.2.2.1.le, h.2.2.2.1.le, h.2.2.2.2.le⟩
theorem ref_Few (v : Value) (l : List Msg) (most : Int) (w : World) (hl : SlMsg w v l) (hin : ∀ m ∈ l, m.In) (h0 : 0 ≤ most) (h1 : most ≤ 1000000) :
    Calls Try.prog 34 #[v, .int .i64 most] w fun e w' => e = .returned (.bool (decide (sumBy wtM l ≤ most))) ∧ Below w.heap.size w w' := by
  obtain ⟨A, c, rfl, hc1, hc2, _⟩ := id hl
  have hM := hl.toM
  unfold maxLen at hc2
  refine V_flat (args := [.slice A l.length c, .int .i64 most]) (M := Mem.of w) Try.func34 rfl Try.ntmps34 (by rfl) (Mem.le_refl _) ?_
  repeat' (first
    | refine VC_seq ?_
    | refine VC_region ?_
    | refine VL_nil ?_
    | refine VC_ret ?_
    | refine VC_exit ?_
    | refine VC_block ?_
    | refine VC_skip ?_
    | refine VL_box (by rfl) (by rfl) (by rfl) ?_
    | refine VL_alloc (by rfl) (by rfl) ?_
    | refine VL_store1 (by rfl) (by rfl) (by rfl) (by rfl) (by rfl) (by rfl) ?_
    | refine VL_storeN (by rfl) (by rfl) (by rfl) (by rfl) (by rfl) _ (by rfl) (by rfl) ?_
    | refine VL_lits (by rfl) (by rfl) (by rfl) (by rfl) (by rfl) (by rfl) (by rfl) ?_
    | refine VL_lit1 (by rfl) (by rfl) (by rfl) (by rfl) (by rfl) ?_
    | refine VL_litsK (by rfl) (by rfl) (by rfl) (by rfl) (by rfl) (by rfl) (by rfl) ?_
    | refine VL_append (by rfl) (by rfl) (by rfl) (by rfl) (by omega) (by rfl) (by unfold maxLen; omega) (by omega) (by rfl) (by rfl) ?_
    | refine VL_q _ (by first  | exact QS_move (by rfl) | exact QS_assign (by rfl) | exact QS_load1 (by rfl) (by rfl) (by rfl) | exact QS_loadA (by rfl) (by rfl) _ (by rfl) | exact QS_fieldAddr (by rfl) | exact QS_mfieldAddr (by rfl) | exact QS_field (by rfl) (by rfl) | exact QS_mload1 (by rfl) (by assumption) | exact QS_build _ (by rfl) (by rfl) (by rfl) | exact QS_not (by rfl) | exact QS_extract (by rfl) (by rfl) | exact QS_len (by rfl) | exact QS_lenStr (by rfl) | exact QS_lenRow (by rfl) (by rfl) | exact QS_pick_t (by rfl) (by first | rfl | assumption) (by rfl) | exact QS_pick_f (by rfl) (by first | rfl | assumption) (by rfl) | exact QS_bin (by rfl) (by rfl) (by first | exact B_lss | exact B_leq | exact B_gtr | exact B_geq | exact B_eql | exact B_neq | exact B_seql | exact B_sneq | exact B_slss | exact B_sgeq | exact B_sleq | exact B_sgtr | exact B_beql | exact B_bneq | exact B_slnil | exact Bq_eql_Span | exact Bq_neq_Span | exact Bq_eql_Eff | exact Bq_neq_Eff | exact Bq_eql_Msg | exact Bq_neq_Msg | exact Bq_eql_Pair | exact Bq_neq_Pair) | exact QS_bin (by rfl) (by rfl) (B_add (by omega) (by omega)) | exact QS_bin (by rfl) (by rfl) (B_sadd (by assumption)) | exact QS_bin (by rfl) (by rfl) (B_sub (by omega) (by omega))) (by rfl) ?_
    | refine VG_q _ (by first  | exact QS_move (by rfl) | exact QS_assign (by rfl) | exact QS_load1 (by rfl) (by rfl) (by rfl) | exact QS_loadA (by rfl) (by rfl) _ (by rfl) | exact QS_fieldAddr (by rfl) | exact QS_mfieldAddr (by rfl) | exact QS_field (by rfl) (by rfl) | exact QS_mload1 (by rfl) (by assumption) | exact QS_build _ (by rfl) (by rfl) (by rfl) | exact QS_not (by rfl) | exact QS_extract (by rfl) (by rfl) | exact QS_len (by rfl) | exact QS_lenStr (by rfl) | exact QS_lenRow (by rfl) (by rfl) | exact QS_pick_t (by rfl) (by first | rfl | assumption) (by rfl) | exact QS_pick_f (by rfl) (by first | rfl | assumption) (by rfl) | exact QS_bin (by rfl) (by rfl) (by first | exact B_lss | exact B_leq | exact B_gtr | exact B_geq | exact B_eql | exact B_neq | exact B_seql | exact B_sneq | exact B_slss | exact B_sgeq | exact B_sleq | exact B_sgtr | exact B_beql | exact B_bneq | exact B_slnil | exact Bq_eql_Span | exact Bq_neq_Span | exact Bq_eql_Eff | exact Bq_neq_Eff | exact Bq_eql_Msg | exact Bq_neq_Msg | exact Bq_eql_Pair | exact Bq_neq_Pair) | exact QS_bin (by rfl) (by rfl) (B_add (by omega) (by omega)) | exact QS_bin (by rfl) (by rfl) (B_sadd (by assumption)) | exact QS_bin (by rfl) (by rfl) (B_sub (by omega) (by omega))) (by rfl) ?_
    | refine VS_st (by rfl) ?_
    | refine VS_q _ (by first  | exact QS_move (by rfl) | exact QS_assign (by rfl) | exact QS_load1 (by rfl) (by rfl) (by rfl) | exact QS_loadA (by rfl) (by rfl) _ (by rfl) | exact QS_fieldAddr (by rfl) | exact QS_mfieldAddr (by rfl) | exact QS_field (by rfl) (by rfl) | exact QS_mload1 (by rfl) (by assumption) | exact QS_build _ (by rfl) (by rfl) (by rfl) | exact QS_not (by rfl) | exact QS_extract (by rfl) (by rfl) | exact QS_len (by rfl) | exact QS_lenStr (by rfl) | exact QS_lenRow (by rfl) (by rfl) | exact QS_pick_t (by rfl) (by first | rfl | assumption) (by rfl) | exact QS_pick_f (by rfl) (by first | rfl | assumption) (by rfl) | exact QS_bin (by rfl) (by rfl) (by first | exact B_lss | exact B_leq | exact B_gtr | exact B_geq | exact B_eql | exact B_neq | exact B_seql | exact B_sneq | exact B_slss | exact B_sgeq | exact B_sleq | exact B_sgtr | exact B_beql | exact B_bneq | exact B_slnil | exact Bq_eql_Span | exact Bq_neq_Span | exact Bq_eql_Eff | exact Bq_neq_Eff | exact Bq_eql_Msg | exact Bq_neq_Msg | exact Bq_eql_Pair | exact Bq_neq_Pair) | exact QS_bin (by rfl) (by rfl) (B_add (by omega) (by omega)) | exact QS_bin (by rfl) (by rfl) (B_sadd (by assumption)) | exact QS_bin (by rfl) (by rfl) (B_sub (by omega) (by omega))) (by rfl) (by rfl) ?_
    | refine VS_nil ?_
    | refine VE_q (by rfl) ?_
    | refine VE_st _ (by rfl) (by first | exact ES_store1 (by rfl) (by rfl) (by rfl) (by rfl) (by rfl) | exact ES_storeN (by rfl) (by rfl) (by rfl) (by rfl) (by rfl) _ (by rfl)) (by rfl) ?_
    | refine VE_nil ?_
    | refine VL_yes _ _ _ (by rfl) (by rfl) (by rfl) (by first | rfl | assumption) ?_
    | refine VL_no _ _ _ (by rfl) (by rfl) (by rfl) (by first | rfl | assumption) (by rfl) ?_
    | refine VG_yes _ _ _ (by rfl) (by rfl) (by rfl) (by first | rfl | assumption) ?_
    | refine VG_no _ _ _ (by rfl) (by rfl) (by rfl) (by first | rfl | assumption) (by rfl) ?_
    | refine VL_noU _ _ (by rfl) (by rfl) (by rfl) (by rfl) ?_
    | refine VG_noU _ _ (by rfl) (by rfl) (by rfl) (by rfl) ?_
    | refine VG_nil ⟨by rfl, ?_⟩
    | refine VG_nil ?_
    | refine VC_drawT (by decide +kernel) ?_
    | refine VC_draw1 (by rfl) (by decide +kernel) (by rfl) (by rfl) ?_
    | refine VC_drawQ (by rfl) (by decide +kernel) ?_
    | refine VC_true (by rfl) (by first | rfl | assumption) ?_
    | refine VC_false (by rfl) (by first | rfl | assumption) ?_
    | refine VL_dec _ _ _ (by rfl) (by rfl) (by rfl) (fun hq => ?_) (fun hq => ?_)
    | refine VG_dec _ _ _ (by rfl) (by rfl) (by rfl) (fun hq => ?_) (fun hq => ?_)
    | refine VC_cond _ (by rfl) (fun hq => ?_) (fun hq => ?_))
  refine VC_for (fun k : Nat => ⟨Mem.of w, [], [(0, .v (.slice A l.length c)), (1, .v (.int .i64 most)), (5, .v (.int .i64 (sumBy wtM (l.take k)))), (6, .v (.int .i64 k))]⟩) (fun k => k ≤ l.length ∧ sumBy wtM (l.take k) ≤ 1000000000000000) (fun k => l.length - k) [] 0 ⟨rfl, rfl, trivial, ⟨rfl, rfl, rfl, rfl, trivial⟩⟩ ⟨by omega, by simp [sumBy]⟩ ?_
  rintro k ⟨hk, hs⟩
  have hp := sumBy_nonneg (f := wtM) (l.take k) (fun a _ => by have := wtM_pos a; omega)
  have hle := sumBy_take_le (f := wtM) l (fun a _ => by have := wtM_pos a; omega) k
  rcases Nat.lt_or_ge k l.length with hlt | hge
  · have hd := dlt hlt
    obtain ⟨b, off, rfl, hcA⟩ := hM.get hlt
    obtain ⟨z1, z2, z3⟩ := In.sizes (hin l[k] (List.getElem_mem hlt))
    cases d2 : decide (sumBy wtM (l.take k) ≤ most) with
    | false =>
      repeat' (first
        | refine VC_seq ?_
        | refine VC_region ?_
        | refine VL_nil ?_
        | refine VC_ret ?_
        | refine VC_exit ?_
        | refine VC_block ?_
        | refine VC_skip ?_
        | refine VL_box (by rfl) (by rfl) (by rfl) ?_
        | refine VL_alloc (by rfl) (by rfl) ?_
        | refine VL_store1 (by rfl) (by rfl) (by rfl) (by rfl) (by rfl) (by rfl) ?_
        | refine VL_storeN (by rfl) (by rfl) (by rfl) (by rfl) (by rfl) _ (by rfl) (by rfl) ?_
        | refine VL_lits (by rfl) (by rfl) (by rfl) (by rfl) (by rfl) (by rfl) (by rfl) ?_
        | refine VL_lit1 (by rfl) (by rfl) (by rfl) (by rfl) (by rfl) ?_
        | refine VL_litsK (by rfl) (by rfl) (by rfl) (by rfl) (by rfl) (by rfl) (by rfl) ?_
        | refine VL_append (by rfl) (by rfl) (by rfl) (by rfl) (by omega) (by rfl) (by unfold maxLen; omega) (by omega) (by rfl) (by rfl) ?_
        | refine VL_q _ (by first | exact QS_indexAddr (k) (by rfl) (by rfl) (by omega) (by omega) | exact QS_mload1 (by rfl) (hcA 0 _ (by rfl)) | exact QS_mload1 (by rfl) (hcA _ _ (by rfl)) | exact QS_mloadN _ (by rfl) hcA _ (by rfl) | exact QS_move (by rfl) | exact QS_assign (by rfl) | exact QS_load1 (by rfl) (by rfl) (by rfl) | exact QS_loadA (by rfl) (by rfl) _ (by rfl) | exact QS_fieldAddr (by rfl) | exact QS_mfieldAddr (by rfl) | exact QS_field (by rfl) (by rfl) | exact QS_mload1 (by rfl) (by assumption) | exact QS_build _ (by rfl) (by rfl) (by rfl) | exact QS_not (by rfl) | exact QS_extract (by rfl) (by rfl) | exact QS_len (by rfl) | exact QS_lenStr (by rfl) | exact QS_lenRow (by rfl) (by rfl) | exact QS_pick_t (by rfl) (by first | rfl | assumption) (by rfl) | exact QS_pick_f (by rfl) (by first | rfl | assumption) (by rfl) | exact QS_bin (by rfl) (by rfl) (by first | exact B_lss | exact B_leq | exact B_gtr | exact B_geq | exact B_eql | exact B_neq | exact B_seql | exact B_sneq | exact B_slss | exact B_sgeq | exact B_sleq | exact B_sgtr | exact B_beql | exact B_bneq | exact B_slnil | exact Bq_eql_Span | exact Bq_neq_Span | exact Bq_eql_Eff | exact Bq_neq_Eff | exact Bq_eql_Msg | exact Bq_neq_Msg | exact Bq_eql_Pair | exact Bq_neq_Pair) | exact QS_bin (by rfl) (by rfl) (B_add (by omega) (by omega)) | exact QS_bin (by rfl) (by rfl) (B_sadd (by assumption)) | exact QS_bin (by rfl) (by rfl) (B_sub (by omega) (by omega))) (by rfl) ?_
        | refine VG_q _ (by first | exact QS_indexAddr (k) (by rfl) (by rfl) (by omega) (by omega) | exact QS_mload1 (by rfl) (hcA 0 _ (by rfl)) | exact QS_mload1 (by rfl) (hcA _ _ (by rfl)) | exact QS_mloadN _ (by rfl) hcA _ (by rfl) | exact QS_move (by rfl) | exact QS_assign (by rfl) | exact QS_load1 (by rfl) (by rfl) (by rfl) | exact QS_loadA (by rfl) (by rfl) _ (by rfl) | exact QS_fieldAddr (by rfl) | exact QS_mfieldAddr (by rfl) | exact QS_field (by rfl) (by rfl) | exact QS_mload1 (by rfl) (by assumption) | exact QS_build _ (by rfl) (by rfl) (by rfl) | exact QS_not (by rfl) | exact QS_extract (by rfl) (by rfl) | exact QS_len (by rfl) | exact QS_lenStr (by rfl) | exact QS_lenRow (by rfl) (by rfl) | exact QS_pick_t (by rfl) (by first | rfl | assumption) (by rfl) | exact QS_pick_f (by rfl) (by first | rfl | assumption) (by rfl) | exact QS_bin (by rfl) (by rfl) (by first | exact B_lss | exact B_leq | exact B_gtr | exact B_geq | exact B_eql | exact B_neq | exact B_seql | exact B_sneq | exact B_slss | exact B_sgeq | exact B_sleq | exact B_sgtr | exact B_beql | exact B_bneq | exact B_slnil | exact Bq_eql_Span | exact Bq_neq_Span | exact Bq_eql_Eff | exact Bq_neq_Eff | exact Bq_eql_Msg | exact Bq_neq_Msg | exact Bq_eql_Pair | exact Bq_neq_Pair) | exact QS_bin (by rfl) (by rfl) (B_add (by omega) (by omega)) | exact QS_bin (by rfl) (by rfl) (B_sadd (by assumption)) | exact QS_bin (by rfl) (by rfl) (B_sub (by omega) (by omega))) (by rfl) ?_
        | refine VS_st (by rfl) ?_
        | refine VS_q _ (by first | exact QS_indexAddr (k) (by rfl) (by rfl) (by omega) (by omega) | exact QS_mload1 (by rfl) (hcA 0 _ (by rfl)) | exact QS_mload1 (by rfl) (hcA _ _ (by rfl)) | exact QS_mloadN _ (by rfl) hcA _ (by rfl) | exact QS_move (by rfl) | exact QS_assign (by rfl) | exact QS_load1 (by rfl) (by rfl) (by rfl) | exact QS_loadA (by rfl) (by rfl) _ (by rfl) | exact QS_fieldAddr (by rfl) | exact QS_mfieldAddr (by rfl) | exact QS_field (by rfl) (by rfl) | exact QS_mload1 (by rfl) (by assumption) | exact QS_build _ (by rfl) (by rfl) (by rfl) | exact QS_not (by rfl) | exact QS_extract (by rfl) (by rfl) | exact QS_len (by rfl) | exact QS_lenStr (by rfl) | exact QS_lenRow (by rfl) (by rfl) | exact QS_pick_t (by rfl) (by first | rfl | assumption) (by rfl) | exact QS_pick_f (by rfl) (by first | rfl | assumption) (by rfl) | exact QS_bin (by rfl) (by rfl) (by first | exact B_lss | exact B_leq | exact B_gtr | exact B_geq | exact B_eql | exact B_neq | exact B_seql | exact B_sneq | exact B_slss | exact B_sgeq | exact B_sleq | exact B_sgtr | exact B_beql | exact B_bneq | exact B_slnil | exact Bq_eql_Span | exact Bq_neq_Span | exact Bq_eql_Eff | exact Bq_neq_Eff | exact Bq_eql_Msg | exact Bq_neq_Msg | exact Bq_eql_Pair | exact Bq_neq_Pair) | exact QS_bin (by rfl) (by rfl) (B_add (by omega) (by omega)) | exact QS_bin (by rfl) (by rfl) (B_sadd (by assumption)) | exact QS_bin (by rfl) (by rfl) (B_sub (by omega) (by omega))) (by rfl) (by rfl) ?_
        | refine VS_nil ?_
        | refine VE_q (by rfl) ?_
        | refine VE_st _ (by rfl) (by first | exact ES_store1 (by rfl) (by rfl) (by rfl) (by rfl) (by rfl) | exact ES_storeN (by rfl) (by rfl) (by rfl) (by rfl) (by rfl) _ (by rfl)) (by rfl) ?_
        | refine VE_nil ?_
        | refine VL_yes _ _ _ (by rfl) (by rfl) (by rfl) (by first | rfl | assumption) ?_
        | refine VL_no _ _ _ (by rfl) (by rfl) (by rfl) (by first | rfl | assumption) (by rfl) ?_
        | refine VG_yes _ _ _ (by rfl) (by rfl) (by rfl) (by first | rfl | assumption) ?_
        | refine VG_no _ _ _ (by rfl) (by rfl) (by rfl) (by first | rfl | assumption) (by rfl) ?_
        | refine VL_noU _ _ (by rfl) (by rfl) (by rfl) (by rfl) ?_
        | refine VG_noU _ _ (by rfl) (by rfl) (by rfl) (by rfl) ?_
        | refine VG_nil ⟨by rfl, ?_⟩
        | refine VG_nil ?_
        | refine VC_drawT (by decide +kernel) ?_
        | refine VC_draw1 (by rfl) (by decide +kernel) (by rfl) (by rfl) ?_
        | refine VC_drawQ (by rfl) (by decide +kernel) ?_
        | refine VC_true (by rfl) (by first | rfl | assumption) ?_
        | refine VC_false (by rfl) (by first | rfl | assumption) ?_
        | refine VL_dec _ _ _ (by rfl) (by rfl) (by rfl) (fun hq => ?_) (fun hq => ?_)
        | refine VG_dec _ _ _ (by rfl) (by rfl) (by rfl) (fun hq => ?_) (fun hq => ?_)
        | refine VC_cond _ (by rfl) (fun hq => ?_) (fun hq => ?_))
      show Res _ _ _ _
      refine Res.one (by rfl) (ResV_tmp (by rfl) ?_)
      refine congrArg Value.bool ?_
      rw [d2]
      simp only [decide_eq_false_iff_not] at d2
      exact (decide_eq_false (by omega)).symm
    | true =>
      simp only [decide_eq_true_eq] at d2
      have d3 := decide_eq_true d2
      repeat' (first
        | refine VC_seq ?_
        | refine VC_region ?_
        | refine VL_nil ?_
        | refine VC_ret ?_
        | refine VC_exit ?_
        | refine VC_block ?_
        | refine VC_skip ?_
        | refine VL_box (by rfl) (by rfl) (by rfl) ?_
        | refine VL_alloc (by rfl) (by rfl) ?_
        | refine VL_store1 (by rfl) (by rfl) (by rfl) (by rfl) (by rfl) (by rfl) ?_
        | refine VL_storeN (by rfl) (by rfl) (by rfl) (by rfl) (by rfl) _ (by rfl) (by rfl) ?_
        | refine VL_lits (by rfl) (by rfl) (by rfl) (by rfl) (by rfl) (by rfl) (by rfl) ?_
        | refine VL_lit1 (by rfl) (by rfl) (by rfl) (by rfl) (by rfl) ?_
        | refine VL_litsK (by rfl) (by rfl) (by rfl) (by rfl) (by rfl) (by rfl) (by rfl) ?_
        | refine VL_append (by rfl) (by rfl) (by rfl) (by rfl) (by omega) (by rfl) (by unfold maxLen; omega) (by omega) (by rfl) (by rfl) ?_
        | refine VL_q _ (by first | exact QS_indexAddr (k) (by rfl) (by rfl) (by omega) (by omega) | exact QS_mload1 (by rfl) (hcA 0 _ (by rfl)) | exact QS_mload1 (by rfl) (hcA _ _ (by rfl)) | exact QS_mloadN _ (by rfl) hcA _ (by rfl) | exact QS_move (by rfl) | exact QS_assign (by rfl) | exact QS_load1 (by rfl) (by rfl) (by rfl) | exact QS_loadA (by rfl) (by rfl) _ (by rfl) | exact QS_fieldAddr (by rfl) | exact QS_mfieldAddr (by rfl) | exact QS_field (by rfl) (by rfl) | exact QS_mload1 (by rfl) (by assumption) | exact QS_build _ (by rfl) (by rfl) (by rfl) | exact QS_not (by rfl) | exact QS_extract (by rfl) (by rfl) | exact QS_len (by rfl) | exact QS_lenStr (by rfl) | exact QS_lenRow (by rfl) (by rfl) | exact QS_pick_t (by rfl) (by first | rfl | assumption) (by rfl) | exact QS_pick_f (by rfl) (by first | rfl | assumption) (by rfl) | exact QS_bin (by rfl) (by rfl) (by first | exact B_lss | exact B_leq | exact B_gtr | exact B_geq | exact B_eql | exact B_neq | exact B_seql | exact B_sneq | exact B_slss | exact B_sgeq | exact B_sleq | exact B_sgtr | exact B_beql | exact B_bneq | exact B_slnil | exact Bq_eql_Span | exact Bq_neq_Span | exact Bq_eql_Eff | exact Bq_neq_Eff | exact Bq_eql_Msg | exact Bq_neq_Msg | exact Bq_eql_Pair | exact Bq_neq_Pair) | exact QS_bin (by rfl) (by rfl) (B_add (by omega) (by omega)) | exact QS_bin (by rfl) (by rfl) (B_sadd (by assumption)) | exact QS_bin (by rfl) (by rfl) (B_sub (by omega) (by omega))) (by rfl) ?_
        | refine VG_q _ (by first | exact QS_indexAddr (k) (by rfl) (by rfl) (by omega) (by omega) | exact QS_mload1 (by rfl) (hcA 0 _ (by rfl)) | exact QS_mload1 (by rfl) (hcA _ _ (by rfl)) | exact QS_mloadN _ (by rfl) hcA _ (by rfl) | exact QS_move (by rfl) | exact QS_assign (by rfl) | exact QS_load1 (by rfl) (by rfl) (by rfl) | exact QS_loadA (by rfl) (by rfl) _ (by rfl) | exact QS_fieldAddr (by rfl) | exact QS_mfieldAddr (by rfl) | exact QS_field (by rfl) (by rfl) | exact QS_mload1 (by rfl) (by assumption) | exact QS_build _ (by rfl) (by rfl) (by rfl) | exact QS_not (by rfl) | exact QS_extract (by rfl) (by rfl) | exact QS_len (by rfl) | exact QS_lenStr (by rfl) | exact QS_lenRow (by rfl) (by rfl) | exact QS_pick_t (by rfl) (by first | rfl | assumption) (by rfl) | exact QS_pick_f (by rfl) (by first | rfl | assumption) (by rfl) | exact QS_bin (by rfl) (by rfl) (by first | exact B_lss | exact B_leq | exact B_gtr | exact B_geq | exact B_eql | exact B_neq | exact B_seql | exact B_sneq | exact B_slss | exact B_sgeq | exact B_sleq | exact B_sgtr | exact B_beql | exact B_bneq | exact B_slnil | exact Bq_eql_Span | exact Bq_neq_Span | exact Bq_eql_Eff | exact Bq_neq_Eff | exact Bq_eql_Msg | exact Bq_neq_Msg | exact Bq_eql_Pair | exact Bq_neq_Pair) | exact QS_bin (by rfl) (by rfl) (B_add (by omega) (by omega)) | exact QS_bin (by rfl) (by rfl) (B_sadd (by assumption)) | exact QS_bin (by rfl) (by rfl) (B_sub (by omega) (by omega))) (by rfl) ?_
        | refine VS_st (by rfl) ?_
        | refine VS_q _ (by first | exact QS_indexAddr (k) (by rfl) (by rfl) (by omega) (by omega) | exact QS_mload1 (by rfl) (hcA 0 _ (by rfl)) | exact QS_mload1 (by rfl) (hcA _ _ (by rfl)) | exact QS_mloadN _ (by rfl) hcA _ (by rfl) | exact QS_move (by rfl) | exact QS_assign (by rfl) | exact QS_load1 (by rfl) (by rfl) (by rfl) | exact QS_loadA (by rfl) (by rfl) _ (by rfl) | exact QS_fieldAddr (by rfl) | exact QS_mfieldAddr (by rfl) | exact QS_field (by rfl) (by rfl) | exact QS_mload1 (by rfl) (by assumption) | exact QS_build _ (by rfl) (by rfl) (by rfl) | exact QS_not (by rfl) | exact QS_extract (by rfl) (by rfl) | exact QS_len (by rfl) | exact QS_lenStr (by rfl) | exact QS_lenRow (by rfl) (by rfl) | exact QS_pick_t (by rfl) (by first | rfl | assumption) (by rfl) | exact QS_pick_f (by rfl) (by first | rfl | assumption) (by rfl) | exact QS_bin (by rfl) (by rfl) (by first | exact B_lss | exact B_leq | exact B_gtr | exact B_geq | exact B_eql | exact B_neq | exact B_seql | exact B_sneq | exact B_slss | exact B_sgeq | exact B_sleq | exact B_sgtr | exact B_beql | exact B_bneq | exact B_slnil | exact Bq_eql_Span | exact Bq_neq_Span | exact Bq_eql_Eff | exact Bq_neq_Eff | exact Bq_eql_Msg | exact Bq_neq_Msg | exact Bq_eql_Pair | exact Bq_neq_Pair) | exact QS_bin (by rfl) (by rfl) (B_add (by omega) (by omega)) | exact QS_bin (by rfl) (by rfl) (B_sadd (by assumption)) | exact QS_bin (by rfl) (by rfl) (B_sub (by omega) (by omega))) (by rfl) (by rfl) ?_
        | refine VS_nil ?_
        | refine VE_q (by rfl) ?_
        | refine VE_st _ (by rfl) (by first | exact ES_store1 (by rfl) (by rfl) (by rfl) (by rfl) (by rfl) | exact ES_storeN (by rfl) (by rfl) (by rfl) (by rfl) (by rfl) _ (by rfl)) (by rfl) ?_
        | refine VE_nil ?_
        | refine VL_yes _ _ _ (by rfl) (by rfl) (by rfl) (by first | rfl | assumption) ?_
        | refine VL_no _ _ _ (by rfl) (by rfl) (by rfl) (by first | rfl | assumption) (by rfl) ?_
        | refine VG_yes _ _ _ (by rfl) (by rfl) (by rfl) (by first | rfl | assumption) ?_
        | refine VG_no _ _ _ (by rfl) (by rfl) (by rfl) (by first | rfl | assumption) (by rfl) ?_
        | refine VL_noU _ _ (by rfl) (by rfl) (by rfl) (by rfl) ?_
        | refine VG_noU _ _ (by rfl) (by rfl) (by rfl) (by rfl) ?_
        | refine VG_nil ⟨by rfl, ?_⟩
        | refine VG_nil ?_
        | refine VC_drawT (by decide +kernel) ?_
        | refine VC_draw1 (by rfl) (by decide +kernel) (by rfl) (by rfl) ?_
        | refine VC_drawQ (by rfl) (by decide +kernel) ?_
        | refine VC_true (by rfl) (by first | rfl | assumption) ?_
        | refine VC_false (by rfl) (by first | rfl | assumption) ?_
        | refine VL_dec _ _ _ (by rfl) (by rfl) (by rfl) (fun hq => ?_) (fun hq => ?_)
        | refine VG_dec _ _ _ (by rfl) (by rfl) (by rfl) (fun hq => ?_) (fun hq => ?_)
        | refine VC_cond _ (by rfl) (fun hq => ?_) (fun hq => ?_))
      refine forQ_next [] (k + 1) ⟨rfl, rfl, trivial, ⟨rfl, rfl, ?_, rfl, trivial⟩⟩ ⟨by omega, ?_⟩ (by omega)
      · rw [sumBy_step hlt]; rfl
      · rw [sumBy_step hlt]
        have h3 : wtM l[k] = 1 + (l[k].key.size : Int) + (l[k].hi.size : Int) + (l[k].val.size : Int) := rfl
        omega
  · have hd := dge hge
    obtain rfl : k = l.length := by omega
    repeat' (first
      | refine VC_seq ?_
      | refine VC_region ?_
      | refine VL_nil ?_
      | refine VC_ret ?_
      | refine VC_exit ?_
      | refine VC_block ?_
      | refine VC_skip ?_
      | refine VL_box (by rfl) (by rfl) (by rfl) ?_
      | refine VL_alloc (by rfl) (by rfl) ?_
      | refine VL_store1 (by rfl) (by rfl) (by rfl) (by rfl) (by rfl) (by rfl) ?_
      | refine VL_storeN (by rfl) (by rfl) (by rfl) (by rfl) (by rfl) _ (by rfl) (by rfl) ?_
      | refine VL_lits (by rfl) (by rfl) (by rfl) (by rfl) (by rfl) (by rfl) (by rfl) ?_
      | refine VL_lit1 (by rfl) (by rfl) (by rfl) (by rfl) (by rfl) ?_
      | refine VL_litsK (by rfl) (by rfl) (by rfl) (by rfl) (by rfl) (by rfl) (by rfl) ?_
      | refine VL_append (by rfl) (by rfl) (by rfl) (by rfl) (by omega) (by rfl) (by unfold maxLen; omega) (by omega) (by rfl) (by rfl) ?_
      | refine VL_q _ (by first  | exact QS_move (by rfl) | exact QS_assign (by rfl) | exact QS_load1 (by rfl) (by rfl) (by rfl) | exact QS_loadA (by rfl) (by rfl) _ (by rfl) | exact QS_fieldAddr (by rfl) | exact QS_mfieldAddr (by rfl) | exact QS_field (by rfl) (by rfl) | exact QS_mload1 (by rfl) (by assumption) | exact QS_build _ (by rfl) (by rfl) (by rfl) | exact QS_not (by rfl) | exact QS_extract (by rfl) (by rfl) | exact QS_len (by rfl) | exact QS_lenStr (by rfl) | exact QS_lenRow (by rfl) (by rfl) | exact QS_pick_t (by rfl) (by first | rfl | assumption) (by rfl) | exact QS_pick_f (by rfl) (by first | rfl | assumption) (by rfl) | exact QS_bin (by rfl) (by rfl) (by first | exact B_lss | exact B_leq | exact B_gtr | exact B_geq | exact B_eql | exact B_neq | exact B_seql | exact B_sneq | exact B_slss | exact B_sgeq | exact B_sleq | exact B_sgtr | exact B_beql | exact B_bneq | exact B_slnil | exact Bq_eql_Span | exact Bq_neq_Span | exact Bq_eql_Eff | exact Bq_neq_Eff | exact Bq_eql_Msg | exact Bq_neq_Msg | exact Bq_eql_Pair | exact Bq_neq_Pair) | exact QS_bin (by rfl) (by rfl) (B_add (by omega) (by omega)) | exact QS_bin (by rfl) (by rfl) (B_sadd (by assumption)) | exact QS_bin (by rfl) (by rfl) (B_sub (by omega) (by omega))) (by rfl) ?_
      | refine VG_q _ (by first  | exact QS_move (by rfl) | exact QS_assign (by rfl) | exact QS_load1 (by rfl) (by rfl) (by rfl) | exact QS_loadA (by rfl) (by rfl) _ (by rfl) | exact QS_fieldAddr (by rfl) | exact QS_mfieldAddr (by rfl) | exact QS_field (by rfl) (by rfl) | exact QS_mload1 (by rfl) (by assumption) | exact QS_build _ (by rfl) (by rfl) (by rfl) | exact QS_not (by rfl) | exact QS_extract (by rfl) (by rfl) | exact QS_len (by rfl) | exact QS_lenStr (by rfl) | exact QS_lenRow (by rfl) (by rfl) | exact QS_pick_t (by rfl) (by first | rfl | assumption) (by rfl) | exact QS_pick_f (by rfl) (by first | rfl | assumption) (by rfl) | exact QS_bin (by rfl) (by rfl) (by first | exact B_lss | exact B_leq | exact B_gtr | exact B_geq | exact B_eql | exact B_neq | exact B_seql | exact B_sneq | exact B_slss | exact B_sgeq | exact B_sleq | exact B_sgtr | exact B_beql | exact B_bneq | exact B_slnil | exact Bq_eql_Span | exact Bq_neq_Span | exact Bq_eql_Eff | exact Bq_neq_Eff | exact Bq_eql_Msg | exact Bq_neq_Msg | exact Bq_eql_Pair | exact Bq_neq_Pair) | exact QS_bin (by rfl) (by rfl) (B_add (by omega) (by omega)) | exact QS_bin (by rfl) (by rfl) (B_sadd (by assumption)) | exact QS_bin (by rfl) (by rfl) (B_sub (by omega) (by omega))) (by rfl) ?_
      | refine VS_st (by rfl) ?_
      | refine VS_q _ (by first  | exact QS_move (by rfl) | exact QS_assign (by rfl) | exact QS_load1 (by rfl) (by rfl) (by rfl) | exact QS_loadA (by rfl) (by rfl) _ (by rfl) | exact QS_fieldAddr (by rfl) | exact QS_mfieldAddr (by rfl) | exact QS_field (by rfl) (by rfl) | exact QS_mload1 (by rfl) (by assumption) | exact QS_build _ (by rfl) (by rfl) (by rfl) | exact QS_not (by rfl) | exact QS_extract (by rfl) (by rfl) | exact QS_len (by rfl) | exact QS_lenStr (by rfl) | exact QS_lenRow (by rfl) (by rfl) | exact QS_pick_t (by rfl) (by first | rfl | assumption) (by rfl) | exact QS_pick_f (by rfl) (by first | rfl | assumption) (by rfl) | exact QS_bin (by rfl) (by rfl) (by first | exact B_lss | exact B_leq | exact B_gtr | exact B_geq | exact B_eql | exact B_neq | exact B_seql | exact B_sneq | exact B_slss | exact B_sgeq | exact B_sleq | exact B_sgtr | exact B_beql | exact B_bneq | exact B_slnil | exact Bq_eql_Span | exact Bq_neq_Span | exact Bq_eql_Eff | exact Bq_neq_Eff | exact Bq_eql_Msg | exact Bq_neq_Msg | exact Bq_eql_Pair | exact Bq_neq_Pair) | exact QS_bin (by rfl) (by rfl) (B_add (by omega) (by omega)) | exact QS_bin (by rfl) (by rfl) (B_sadd (by assumption)) | exact QS_bin (by rfl) (by rfl) (B_sub (by omega) (by omega))) (by rfl) (by rfl) ?_
      | refine VS_nil ?_
      | refine VE_q (by rfl) ?_
      | refine VE_st _ (by rfl) (by first | exact ES_store1 (by rfl) (by rfl) (by rfl) (by rfl) (by rfl) | exact ES_storeN (by rfl) (by rfl) (by rfl) (by rfl) (by rfl) _ (by rfl)) (by rfl) ?_
      | refine VE_nil ?_
      | refine VL_yes _ _ _ (by rfl) (by rfl) (by rfl) (by first | rfl | assumption) ?_
      | refine VL_no _ _ _ (by rfl) (by rfl) (by rfl) (by first | rfl | assumption) (by rfl) ?_
      | refine VG_yes _ _ _ (by rfl) (by rfl) (by rfl) (by first | rfl | assumption) ?_
      | refine VG_no _ _ _ (by rfl) (by rfl) (by rfl) (by first | rfl | assumption) (by rfl) ?_
      | refine VL_noU _ _ (by rfl) (by rfl) (by rfl) (by rfl) ?_
      | refine VG_noU _ _ (by rfl) (by rfl) (by rfl) (by rfl) ?_
      | refine VG_nil ⟨by rfl, ?_⟩
      | refine VG_nil ?_
      | refine VC_drawT (by decide +kernel) ?_
      | refine VC_draw1 (by rfl) (by decide +kernel) (by rfl) (by rfl) ?_
      | refine VC_drawQ (by rfl) (by decide +kernel) ?_
      | refine VC_true (by rfl) (by first | rfl | assumption) ?_
      | refine VC_false (by rfl) (by first | rfl | assumption) ?_
      | refine VL_dec _ _ _ (by rfl) (by rfl) (by rfl) (fun hq => ?_) (fun hq => ?_)
      | refine VG_dec _ _ _ (by rfl) (by rfl) (by rfl) (fun hq => ?_) (fun hq => ?_)
      | refine VC_cond _ (by rfl) (fun hq => ?_) (fun hq => ?_))
    show Res _ _ _ _
    refine Res.one (by rfl) (ResV_tmp (by rfl) ?_)
    rw [List.take_length]
theorem ref_SizeL (v : Value) (l : List Msg) (w : World) (hl : SlMsg w v l) (hz : ∀ m ∈ l, m.key.size ≤ 1000000 ∧ m.hi.size ≤ 1000000 ∧ m.val.size ≤ 1000000) (hn : l.length ≤ 1000000) :
    Calls Try.prog 36 #[v] w fun e w' => e = .returned (.int .i64 (sizeL l)) ∧ Below w.heap.size w w' := by
  obtain ⟨A, c, rfl, hc1, hc2, _⟩ := id hl
  have hM := hl.toM
  unfold maxLen at hc2
  refine V_flat (args := [.slice A l.length c]) (M := Mem.of w) Try.func36 rfl Try.ntmps36 (by rfl) (Mem.le_refl _) ?_
  repeat' (first
    | refine VC_seq ?_
    | refine VC_region ?_
    | refine VL_nil ?_
    | refine VC_ret ?_
    | refine VC_exit ?_
    | refine VC_block ?_
    | refine VC_skip ?_
    | refine VL_box (by rfl) (by rfl) (by rfl) ?_
    | refine VL_alloc (by rfl) (by rfl) ?_
    | refine VL_store1 (by rfl) (by rfl) (by rfl) (by rfl) (by rfl) (by rfl) ?_
    | refine VL_storeN (by rfl) (by rfl) (by rfl) (by rfl) (by rfl) _ (by rfl) (by rfl) ?_
    | refine VL_lits (by rfl) (by rfl) (by rfl) (by rfl) (by rfl) (by rfl) (by rfl) ?_
    | refine VL_lit1 (by rfl) (by rfl) (by rfl) (by rfl) (by rfl) ?_
    | refine VL_litsK (by rfl) (by rfl) (by rfl) (by rfl) (by rfl) (by rfl) (by rfl) ?_
    | refine VL_append (by rfl) (by rfl) (by rfl) (by rfl) (by omega) (by rfl) (by unfold maxLen; omega) (by omega) (by rfl) (by rfl) ?_
    | refine VL_q _ (by first  | exact QS_move (by rfl) | exact QS_assign (by rfl) | exact QS_load1 (by rfl) (by rfl) (by rfl) | exact QS_loadA (by rfl) (by rfl) _ (by rfl) | exact QS_fieldAddr (by rfl) | exact QS_mfieldAddr (by rfl) | exact QS_field (by rfl) (by rfl) | exact QS_mload1 (by rfl) (by assumption) | exact QS_build _ (by rfl) (by rfl) (by rfl) | exact QS_not (by rfl) | exact QS_extract (by rfl) (by rfl) | exact QS_len (by rfl) | exact QS_lenStr (by rfl) | exact QS_lenRow (by rfl) (by rfl) | exact QS_pick_t (by rfl) (by first | rfl | assumption) (by rfl) | exact QS_pick_f (by rfl) (by first | rfl | assumption) (by rfl) | exact QS_bin (by rfl) (by rfl) (by first | exact B_lss | exact B_leq | exact B_gtr | exact B_geq | exact B_eql | exact B_neq | exact B_seql | exact B_sneq | exact B_slss | exact B_sgeq | exact B_sleq | exact B_sgtr | exact B_beql | exact B_bneq | exact B_slnil | exact Bq_eql_Span | exact Bq_neq_Span | exact Bq_eql_Eff | exact Bq_neq_Eff | exact Bq_eql_Msg | exact Bq_neq_Msg | exact Bq_eql_Pair | exact Bq_neq_Pair) | exact QS_bin (by rfl) (by rfl) (B_add (by omega) (by omega)) | exact QS_bin (by rfl) (by rfl) (B_sadd (by assumption)) | exact QS_bin (by rfl) (by rfl) (B_sub (by omega) (by omega))) (by rfl) ?_
    | refine VG_q _ (by first  | exact QS_move (by rfl) | exact QS_assign (by rfl) | exact QS_load1 (by rfl) (by rfl) (by rfl) | exact QS_loadA (by rfl) (by rfl) _ (by rfl) | exact QS_fieldAddr (by rfl) | exact QS_mfieldAddr (by rfl) | exact QS_field (by rfl) (by rfl) | exact QS_mload1 (by rfl) (by assumption) | exact QS_build _ (by rfl) (by rfl) (by rfl) | exact QS_not (by rfl) | exact QS_extract (by rfl) (by rfl) | exact QS_len (by rfl) | exact QS_lenStr (by rfl) | exact QS_lenRow (by rfl) (by rfl) | exact QS_pick_t (by rfl) (by first | rfl | assumption) (by rfl) | exact QS_pick_f (by rfl) (by first | rfl | assumption) (by rfl) | exact QS_bin (by rfl) (by rfl) (by first | exact B_lss | exact B_leq | exact B_gtr | exact B_geq | exact B_eql | exact B_neq | exact B_seql | exact B_sneq | exact B_slss | exact B_sgeq | exact B_sleq | exact B_sgtr | exact B_beql | exact B_bneq | exact B_slnil | exact Bq_eql_Span | exact Bq_neq_Span | exact Bq_eql_Eff | exact Bq_neq_Eff | exact Bq_eql_Msg | exact Bq_neq_Msg | exact Bq_eql_Pair | exact Bq_neq_Pair) | exact QS_bin (by rfl) (by rfl) (B_add (by omega) (by omega)) | exact QS_bin (by rfl) (by rfl) (B_sadd (by assumption)) | exact QS_bin (by rfl) (by rfl) (B_sub (by omega) (by omega))) (by rfl) ?_
    | refine VS_st (by rfl) ?_
    | refine VS_q _ (by first  | exact QS_move (by rfl) | exact QS_assign (by rfl) | exact QS_load1 (by rfl) (by rfl) (by rfl) | exact QS_loadA (by rfl) (by rfl) _ (by rfl) | exact QS_fieldAddr (by rfl) | exact QS_mfieldAddr (by rfl) | exact QS_field (by rfl) (by rfl) | exact QS_mload1 (by rfl) (by assumption) | exact QS_build _ (by rfl) (by rfl) (by rfl) | exact QS_not (by rfl) | exact QS_extract (by rfl) (by rfl) | exact QS_len (by rfl) | exact QS_lenStr (by rfl) | exact QS_lenRow (by rfl) (by rfl) | exact QS_pick_t (by rfl) (by first | rfl | assumption) (by rfl) | exact QS_pick_f (by rfl) (by first | rfl | assumption) (by rfl) | exact QS_bin (by rfl) (by rfl) (by first | exact B_lss | exact B_leq | exact B_gtr | exact B_geq | exact B_eql | exact B_neq | exact B_seql | exact B_sneq | exact B_slss | exact B_sgeq | exact B_sleq | exact B_sgtr | exact B_beql | exact B_bneq | exact B_slnil | exact Bq_eql_Span | exact Bq_neq_Span | exact Bq_eql_Eff | exact Bq_neq_Eff | exact Bq_eql_Msg | exact Bq_neq_Msg | exact Bq_eql_Pair | exact Bq_neq_Pair) | exact QS_bin (by rfl) (by rfl) (B_add (by omega) (by omega)) | exact QS_bin (by rfl) (by rfl) (B_sadd (by assumption)) | exact QS_bin (by rfl) (by rfl) (B_sub (by omega) (by omega))) (by rfl) (by rfl) ?_
    | refine VS_nil ?_
    | refine VE_q (by rfl) ?_
    | refine VE_st _ (by rfl) (by first | exact ES_store1 (by rfl) (by rfl) (by rfl) (by rfl) (by rfl) | exact ES_storeN (by rfl) (by rfl) (by rfl) (by rfl) (by rfl) _ (by rfl)) (by rfl) ?_
    | refine VE_nil ?_
    | refine VL_yes _ _ _ (by rfl) (by rfl) (by rfl) (by first | rfl | assumption) ?_
    | refine VL_no _ _ _ (by rfl) (by rfl) (by rfl) (by first | rfl | assumption) (by rfl) ?_
    | refine VG_yes _ _ _ (by rfl) (by rfl) (by rfl) (by first | rfl | assumption) ?_
    | refine VG_no _ _ _ (by rfl) (by rfl) (by rfl) (by first | rfl | assumption) (by rfl) ?_
    | refine VL_noU _ _ (by rfl) (by rfl) (by rfl) (by rfl) ?_
    | refine VG_noU _ _ (by rfl) (by rfl) (by rfl) (by rfl) ?_
    | refine VG_nil ⟨by rfl, ?_⟩
    | refine VG_nil ?_
    | refine VC_drawT (by decide +kernel) ?_
    | refine VC_draw1 (by rfl) (by decide +kernel) (by rfl) (by rfl) ?_
    | refine VC_drawQ (by rfl) (by decide +kernel) ?_
    | refine VC_true (by rfl) (by first | rfl | assumption) ?_
    | refine VC_false (by rfl) (by first | rfl | assumption) ?_
    | refine VL_dec _ _ _ (by rfl) (by rfl) (by rfl) (fun hq => ?_) (fun hq => ?_)
    | refine VG_dec _ _ _ (by rfl) (by rfl) (by rfl) (fun hq => ?_) (fun hq => ?_)
    | refine VC_cond _ (by rfl) (fun hq => ?_) (fun hq => ?_))
  refine VC_for (fun k : Nat => ⟨Mem.of w, [], [(0, .v (.slice A l.length c)), (3, .v (.int .i64 (sumBy sizeM (l.take k)))), (4, .v (.int .i64 k))]⟩) (fun k => k ≤ l.length) (fun k => l.length - k) [] 0 ⟨rfl, rfl, trivial, ⟨rfl, rfl, rfl, trivial⟩⟩ (by omega) ?_
  intro k hk
  have hp := sumBy_nonneg (f := sizeM) (l.take k) (fun a _ => sizeM_pos a)
  have hs := sumBy_le (f := sizeM) 3000000 (l.take k) (fun a ha => by
    have := hz a (List.mem_of_mem_take ha)
    have := sizeM_le (m := a) (n := 1000000) (by omega) (by omega) (by omega)
    omega)
  have htl : ((l.take k).length : Int) ≤ 1000000 := by rw [List.length_take]; omega
  rcases Nat.lt_or_ge k l.length with hlt | hge
  · have hd := dlt hlt
    obtain ⟨b, off, rfl, hcA⟩ := hM.get hlt
    obtain ⟨z1, z2, z3⟩ := hz l[k] (List.getElem_mem hlt)
    have hq := sizeM_le (m := l[k]) (n := 1000000) (by omega) (by omega) (by omega)
    have hq0 := sizeM_pos l[k]
    have c1 := fun W => ref_SizeM l[k] W z1 z3
    repeat' (first
      | refine VC_seq ?_
      | refine VC_region ?_
      | refine VL_nil ?_
      | refine VC_ret ?_
      | refine VC_exit ?_
      | refine VC_block ?_
      | refine VC_skip ?_
      | refine VL_box (by rfl) (by rfl) (by rfl) ?_
      | refine VL_alloc (by rfl) (by rfl) ?_
      | refine VL_store1 (by rfl) (by rfl) (by rfl) (by rfl) (by rfl) (by rfl) ?_
      | refine VL_storeN (by rfl) (by rfl) (by rfl) (by rfl) (by rfl) _ (by rfl) (by rfl) ?_
      | refine VL_lits (by rfl) (by rfl) (by rfl) (by rfl) (by rfl) (by rfl) (by rfl) ?_
      | refine VL_lit1 (by rfl) (by rfl) (by rfl) (by rfl) (by rfl) ?_
      | refine VL_litsK (by rfl) (by rfl) (by rfl) (by rfl) (by rfl) (by rfl) (by rfl) ?_
      | refine VL_append (by rfl) (by rfl) (by rfl) (by rfl) (by omega) (by rfl) (by unfold maxLen; omega) (by omega) (by rfl) (by rfl) ?_
      | refine VL_q _ (by first | exact QS_indexAddr (k) (by rfl) (by rfl) (by omega) (by omega) | exact QS_mload1 (by rfl) (hcA 0 _ (by rfl)) | exact QS_mload1 (by rfl) (hcA _ _ (by rfl)) | exact QS_mloadN _ (by rfl) hcA _ (by rfl) | exact QS_call (by rfl) (fun W _ => c1 W) | exact QS_move (by rfl) | exact QS_assign (by rfl) | exact QS_load1 (by rfl) (by rfl) (by rfl) | exact QS_loadA (by rfl) (by rfl) _ (by rfl) | exact QS_fieldAddr (by rfl) | exact QS_mfieldAddr (by rfl) | exact QS_field (by rfl) (by rfl) | exact QS_mload1 (by rfl) (by assumption) | exact QS_build _ (by rfl) (by rfl) (by rfl) | exact QS_not (by rfl) | exact QS_extract (by rfl) (by rfl) | exact QS_len (by rfl) | exact QS_lenStr (by rfl) | exact QS_lenRow (by rfl) (by rfl) | exact QS_pick_t (by rfl) (by first | rfl | assumption) (by rfl) | exact QS_pick_f (by rfl) (by first | rfl | assumption) (by rfl) | exact QS_bin (by rfl) (by rfl) (by first | exact B_lss | exact B_leq | exact B_gtr | exact B_geq | exact B_eql | exact B_neq | exact B_seql | exact B_sneq | exact B_slss | exact B_sgeq | exact B_sleq | exact B_sgtr | exact B_beql | exact B_bneq | exact B_slnil | exact Bq_eql_Span | exact Bq_neq_Span | exact Bq_eql_Eff | exact Bq_neq_Eff | exact Bq_eql_Msg | exact Bq_neq_Msg | exact Bq_eql_Pair | exact Bq_neq_Pair) | exact QS_bin (by rfl) (by rfl) (B_add (by omega) (by omega)) | exact QS_bin (by rfl) (by rfl) (B_sadd (by assumption)) | exact QS_bin (by rfl) (by rfl) (B_sub (by omega) (by omega))) (by rfl) ?_
      | refine VG_q _ (by first | exact QS_indexAddr (k) (by rfl) (by rfl) (by omega) (by omega) | exact QS_mload1 (by rfl) (hcA 0 _ (by rfl)) | exact QS_mload1 (by rfl) (hcA _ _ (by rfl)) | exact QS_mloadN _ (by rfl) hcA _ (by rfl) | exact QS_call (by rfl) (fun W _ => c1 W) | exact QS_move (by rfl) | exact QS_assign (by rfl) | exact QS_load1 (by rfl) (by rfl) (by rfl) | exact QS_loadA (by rfl) (by rfl) _ (by rfl) | exact QS_fieldAddr (by rfl) | exact QS_mfieldAddr (by rfl) | exact QS_field (by rfl) (by rfl) | exact QS_mload1 (by rfl) (by assumption) | exact QS_build _ (by rfl) (by rfl) (by rfl) | exact QS_not (by rfl) | exact QS_extract (by rfl) (by rfl) | exact QS_len (by rfl) | exact QS_lenStr (by rfl) | exact QS_lenRow (by rfl) (by rfl) | exact QS_pick_t (by rfl) (by first | rfl | assumption) (by rfl) | exact QS_pick_f (by rfl) (by first | rfl | assumption) (by rfl) | exact QS_bin (by rfl) (by rfl) (by first | exact B_lss | exact B_leq | exact B_gtr | exact B_geq | exact B_eql | exact B_neq | exact B_seql | exact B_sneq | exact B_slss | exact B_sgeq | exact B_sleq | exact B_sgtr | exact B_beql | exact B_bneq | exact B_slnil | exact Bq_eql_Span | exact Bq_neq_Span | exact Bq_eql_Eff | exact Bq_neq_Eff | exact Bq_eql_Msg | exact Bq_neq_Msg | exact Bq_eql_Pair | exact Bq_neq_Pair) | exact QS_bin (by rfl) (by rfl) (B_add (by omega) (by omega)) | exact QS_bin (by rfl) (by rfl) (B_sadd (by assumption)) | exact QS_bin (by rfl) (by rfl) (B_sub (by omega) (by omega))) (by rfl) ?_
      | refine VS_st (by rfl) ?_
      | refine VS_q _ (by first | exact QS_indexAddr (k) (by rfl) (by rfl) (by omega) (by omega) | exact QS_mload1 (by rfl) (hcA 0 _ (by rfl)) | exact QS_mload1 (by rfl) (hcA _ _ (by rfl)) | exact QS_mloadN _ (by rfl) hcA _ (by rfl) | exact QS_call (by rfl) (fun W _ => c1 W) | exact QS_move (by rfl) | exact QS_assign (by rfl) | exact QS_load1 (by rfl) (by rfl) (by rfl) | exact QS_loadA (by rfl) (by rfl) _ (by rfl) | exact QS_fieldAddr (by rfl) | exact QS_mfieldAddr (by rfl) | exact QS_field (by rfl) (by rfl) | exact QS_mload1 (by rfl) (by assumption) | exact QS_build _ (by rfl) (by rfl) (by rfl) | exact QS_not (by rfl) | exact QS_extract (by rfl) (by rfl) | exact QS_len (by rfl) | exact QS_lenStr (by rfl) | exact QS_lenRow (by rfl) (by rfl) | exact QS_pick_t (by rfl) (by first | rfl | assumption) (by rfl) | exact QS_pick_f (by rfl) (by first | rfl | assumption) (by rfl) | exact QS_bin (by rfl) (by rfl) (by first | exact B_lss | exact B_leq | exact B_gtr | exact B_geq | exact B_eql | exact B_neq | exact B_seql | exact B_sneq | exact B_slss | exact B_sgeq | exact B_sleq | exact B_sgtr | exact B_beql | exact B_bneq | exact B_slnil | exact Bq_eql_Span | exact Bq_neq_Span | exact Bq_eql_Eff | exact Bq_neq_Eff | exact Bq_eql_Msg | exact Bq_neq_Msg | exact Bq_eql_Pair | exact Bq_neq_Pair) | exact QS_bin (by rfl) (by rfl) (B_add (by omega) (by omega)) | exact QS_bin (by rfl) (by rfl) (B_sadd (by assumption)) | exact QS_bin (by rfl) (by rfl) (B_sub (by omega) (by omega))) (by rfl) (by rfl) ?_
      | refine VS_nil ?_
      | refine VE_q (by rfl) ?_
      | refine VE_st _ (by rfl) (by first | exact ES_store1 (by rfl) (by rfl) (by rfl) (by rfl) (by rfl) | exact ES_storeN (by rfl) (by rfl) (by rfl) (by rfl) (by rfl) _ (by rfl)) (by rfl) ?_
      | refine VE_nil ?_
      | refine VL_yes _ _ _ (by rfl) (by rfl) (by rfl) (by first | rfl | assumption) ?_
      | refine VL_no _ _ _ (by rfl) (by rfl) (by rfl) (by first | rfl | assumption) (by rfl) ?_
      | refine VG_yes _ _ _ (by rfl) (by rfl) (by rfl) (by first | rfl | assumption) ?_
      | refine VG_no _ _ _ (by rfl) (by rfl) (by rfl) (by first | rfl | assumption) (by rfl) ?_
      | refine VL_noU _ _ (by rfl) (by rfl) (by rfl) (by rfl) ?_
      | refine VG_noU _ _ (by rfl) (by rfl) (by rfl) (by rfl) ?_
      | refine VG_nil ⟨by rfl, ?_⟩
      | refine VG_nil ?_
      | refine VC_drawT (by decide +kernel) ?_
      | refine VC_draw1 (by rfl) (by decide +kernel) (by rfl) (by rfl) ?_
      | refine VC_drawQ (by rfl) (by decide +kernel) ?_
      | refine VC_true (by rfl) (by first | rfl | assumption) ?_
      | refine VC_false (by rfl) (by first | rfl | assumption) ?_
      | refine VL_dec _ _ _ (by rfl) (by rfl) (by rfl) (fun hq => ?_) (fun hq => ?_)
      | refine VG_dec _ _ _ (by rfl) (by rfl) (by rfl) (fun hq => ?_) (fun hq => ?_)
      | refine VC_cond _ (by rfl) (fun hq => ?_) (fun hq => ?_))
    refine forQ_next [] (k + 1) ⟨rfl, rfl, trivial, ⟨rfl, ?_, rfl, trivial⟩⟩ (by omega) (by omega)
    rw [sumBy_step hlt]; rfl
  · have hd := dge hge
    obtain rfl : k = l.length := by omega
    repeat' (first
      | refine VC_seq ?_
      | refine VC_region ?_
      | refine VL_nil ?_
      | refine VC_ret ?_
      | refine VC_exit ?_
      | refine VC_block ?_
      | refine VC_skip ?_
      | refine VL_box (by rfl) (by rfl) (by rfl) ?_
      | refine VL_alloc (by rfl) (by rfl) ?_
      | refine VL_store1 (by rfl) (by rfl) (by rfl) (by rfl) (by rfl) (by rfl) ?_
      | refine VL_storeN (by rfl) (by rfl) (by rfl) (by rfl) (by rfl) _ (by rfl) (by rfl) ?_
      | refine VL_lits (by rfl) (by rfl) (by rfl) (by rfl) (by rfl) (by rfl) (by rfl) ?_
      | refine VL_lit1 (by rfl) (by rfl) (by rfl) (by rfl) (by rfl) ?_
      | refine VL_litsK (by rfl) (by rfl) (by rfl) (by rfl) (by rfl) (by rfl) (by rfl) ?_
      | refine VL_append (by rfl) (by rfl) (by rfl) (by rfl) (by omega) (by rfl) (by unfold maxLen; omega) (by omega) (by rfl) (by rfl) ?_
      | refine VL_q _ (by first  | exact QS_move (by rfl) | exact QS_assign (by rfl) | exact QS_load1 (by rfl) (by rfl) (by rfl) | exact QS_loadA (by rfl) (by rfl) _ (by rfl) | exact QS_fieldAddr (by rfl) | exact QS_mfieldAddr (by rfl) | exact QS_field (by rfl) (by rfl) | exact QS_mload1 (by rfl) (by assumption) | exact QS_build _ (by rfl) (by rfl) (by rfl) | exact QS_not (by rfl) | exact QS_extract (by rfl) (by rfl) | exact QS_len (by rfl) | exact QS_lenStr (by rfl) | exact QS_lenRow (by rfl) (by rfl) | exact QS_pick_t (by rfl) (by first | rfl | assumption) (by rfl) | exact QS_pick_f (by rfl) (by first | rfl | assumption) (by rfl) | exact QS_bin (by rfl) (by rfl) (by first | exact B_lss | exact B_leq | exact B_gtr | exact B_geq | exact B_eql | exact B_neq | exact B_seql | exact B_sneq | exact B_slss | exact B_sgeq | exact B_sleq | exact B_sgtr | exact B_beql | exact B_bneq | exact B_slnil | exact Bq_eql_Span | exact Bq_neq_Span | exact Bq_eql_Eff | exact Bq_neq_Eff | exact Bq_eql_Msg | exact Bq_neq_Msg | exact Bq_eql_Pair | exact Bq_neq_Pair) | exact QS_bin (by rfl) (by rfl) (B_add (by omega) (by omega)) | exact QS_bin (by rfl) (by rfl) (B_sadd (by assumption)) | exact QS_bin (by rfl) (by rfl) (B_sub (by omega) (by omega))) (by rfl) ?_
      | refine VG_q _ (by first  | exact QS_move (by rfl) | exact QS_assign (by rfl) | exact QS_load1 (by rfl) (by rfl) (by rfl) | exact QS_loadA (by rfl) (by rfl) _ (by rfl) | exact QS_fieldAddr (by rfl) | exact QS_mfieldAddr (by rfl) | exact QS_field (by rfl) (by rfl) | exact QS_mload1 (by rfl) (by assumption) | exact QS_build _ (by rfl) (by rfl) (by rfl) | exact QS_not (by rfl) | exact QS_extract (by rfl) (by rfl) | exact QS_len (by rfl) | exact QS_lenStr (by rfl) | exact QS_lenRow (by rfl) (by rfl) | exact QS_pick_t (by rfl) (by first | rfl | assumption) (by rfl) | exact QS_pick_f (by rfl) (by first | rfl | assumption) (by rfl) | exact QS_bin (by rfl) (by rfl) (by first | exact B_lss | exact B_leq | exact B_gtr | exact B_geq | exact B_eql | exact B_neq | exact B_seql | exact B_sneq | exact B_slss | exact B_sgeq | exact B_sleq | exact B_sgtr | exact B_beql | exact B_bneq | exact B_slnil | exact Bq_eql_Span | exact Bq_neq_Span | exact Bq_eql_Eff | exact Bq_neq_Eff | exact Bq_eql_Msg | exact Bq_neq_Msg | exact Bq_eql_Pair | exact Bq_neq_Pair) | exact QS_bin (by rfl) (by rfl) (B_add (by omega) (by omega)) | exact QS_bin (by rfl) (by rfl) (B_sadd (by assumption)) | exact QS_bin (by rfl) (by rfl) (B_sub (by omega) (by omega))) (by rfl) ?_
      | refine VS_st (by rfl) ?_
      | refine VS_q _ (by first  | exact QS_move (by rfl) | exact QS_assign (by rfl) | exact QS_load1 (by rfl) (by rfl) (by rfl) | exact QS_loadA (by rfl) (by rfl) _ (by rfl) | exact QS_fieldAddr (by rfl) | exact QS_mfieldAddr (by rfl) | exact QS_field (by rfl) (by rfl) | exact QS_mload1 (by rfl) (by assumption) | exact QS_build _ (by rfl) (by rfl) (by rfl) | exact QS_not (by rfl) | exact QS_extract (by rfl) (by rfl) | exact QS_len (by rfl) | exact QS_lenStr (by rfl) | exact QS_lenRow (by rfl) (by rfl) | exact QS_pick_t (by rfl) (by first | rfl | assumption) (by rfl) | exact QS_pick_f (by rfl) (by first | rfl | assumption) (by rfl) | exact QS_bin (by rfl) (by rfl) (by first | exact B_lss | exact B_leq | exact B_gtr | exact B_geq | exact B_eql | exact B_neq | exact B_seql | exact B_sneq | exact B_slss | exact B_sgeq | exact B_sleq | exact B_sgtr | exact B_beql | exact B_bneq | exact B_slnil | exact Bq_eql_Span | exact Bq_neq_Span | exact Bq_eql_Eff | exact Bq_neq_Eff | exact Bq_eql_Msg | exact Bq_neq_Msg | exact Bq_eql_Pair | exact Bq_neq_Pair) | exact QS_bin (by rfl) (by rfl) (B_add (by omega) (by omega)) | exact QS_bin (by rfl) (by rfl) (B_sadd (by assumption)) | exact QS_bin (by rfl) (by rfl) (B_sub (by omega) (by omega))) (by rfl) (by rfl) ?_
      | refine VS_nil ?_
      | refine VE_q (by rfl) ?_
      | refine VE_st _ (by rfl) (by first | exact ES_store1 (by rfl) (by rfl) (by rfl) (by rfl) (by rfl) | exact ES_storeN (by rfl) (by rfl) (by rfl) (by rfl) (by rfl) _ (by rfl)) (by rfl) ?_
      | refine VE_nil ?_
      | refine VL_yes _ _ _ (by rfl) (by rfl) (by rfl) (by first | rfl | assumption) ?_
      | refine VL_no _ _ _ (by rfl) (by rfl) (by rfl) (by first | rfl | assumption) (by rfl) ?_
      | refine VG_yes _ _ _ (by rfl) (by rfl) (by rfl) (by first | rfl | assumption) ?_
      | refine VG_no _ _ _ (by rfl) (by rfl) (by rfl) (by first | rfl | assumption) (by rfl) ?_
      | refine VL_noU _ _ (by rfl) (by rfl) (by rfl) (by rfl) ?_
      | refine VG_noU _ _ (by rfl) (by rfl) (by rfl) (by rfl) ?_
      | refine VG_nil ⟨by rfl, ?_⟩
      | refine VG_nil ?_
      | refine VC_drawT (by decide +kernel) ?_
      | refine VC_draw1 (by rfl) (by decide +kernel) (by rfl) (by rfl) ?_
      | refine VC_drawQ (by rfl) (by decide +kernel) ?_
      | refine VC_true (by rfl) (by first | rfl | assumption) ?_
      | refine VC_false (by rfl) (by first | rfl | assumption) ?_
      | refine VL_dec _ _ _ (by rfl) (by rfl) (by rfl) (fun hq => ?_) (fun hq => ?_)
      | refine VG_dec _ _ _ (by rfl) (by rfl) (by rfl) (fun hq => ?_) (fun hq => ?_)
      | refine VC_cond _ (by rfl) (fun hq => ?_) (fun hq => ?_))
    show Res _ _ _ _
    refine Res.one (by rfl) (ResV_tmp (by rfl) ?_)
    rw [List.take_length]; rfl
end Go.Proofs.Ytipbbbamjckjoaa
