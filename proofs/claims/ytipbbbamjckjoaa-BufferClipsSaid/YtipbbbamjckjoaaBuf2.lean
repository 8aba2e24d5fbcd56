/- The walks of the buffer layer's loops: All, Same, Size, the library's IndexFunc and ContainsFunc. -/
import Derived.Test.YtipbbbamjckjoaaBuf
namespace Go.Proofs.Ytipbbbamjckjoaa
open Go Go.RowKit
set_option linter.unusedVariables false
set_option maxRecDepth 20000
set_option linter.unusedSimpArgs false
set_option maxHeartbeats 8000000
/-- May all be, and do their stamps rise? -/
def allB (l : List Msg) : Bool := l.all refRightM && riseB l
theorem take_all_step {l : List Msg} {k : Nat} (h : k < l.length) (p : Msg → Bool) : (l.take (k + 1)).all p = ((l.take k).all p && p l[k]) := by
  rw [List.take_succ_eq_append_getElem h, List.all_append]; simp
theorem all_false_of {l : List Msg} {k : Nat} (h : k < l.length) {p : Msg → Bool} (hp : p l[k] = false) : l.all p = false := by
  cases h2 : l.all p with
  | false => rfl
  | true => rw [List.all_eq_true.1 h2 l[k] (List.getElem_mem h)] at hp; cases hp
theorem ref_All (v : Value) (l : List Msg) (w : World) (hl : SlMsg w v l) (hin : ∀ m ∈ l, m.In) (hn : l.length ≤ 1000000000) :
    Calls Try.prog 37 #[v] w fun e w' => e = .returned (.bool (allB l)) ∧ Below w.heap.size w w' := by
  obtain ⟨A, c, rfl, hc1, hc2, _⟩ := id hl
  have hM := hl.toM
  unfold maxLen at hc2
  refine V_flat (args := [.slice A l.length c]) (M := Mem.of w) Try.func37 rfl Try.ntmps37 (by rfl) (Mem.le_refl _) ?_
  repeat' (first
    | refine VC_seq ?_
    | refine VC_region ?_
    | refine VL_nil ?_
    | refine VC_ret ?_
    | refine VC_exit ?_
    | refine VC_block ?_
    | refine VC_skip ?_
    | refine VL_box (by rfl) (by rfl) (by rfl) ?_
    | refine VL_alloc (by rfl) (by rfl) ?_
    | refine VL_store1 (by rfl) (by rfl) (by rfl) (by rfl) (by rfl) (by rfl) ?_
    | refine VL_storeN (by rfl) (by rfl) (by rfl) (by rfl) (by rfl) _ (by rfl) (by rfl) ?_
    | refine VL_lits (by rfl) (by rfl) (by rfl) (by rfl) (by rfl) (by rfl) (by rfl) ?_
    | refine VL_lit1 (by rfl) (by rfl) (by rfl) (by rfl) (by rfl) ?_
    | refine VL_litsK (by rfl) (by rfl) (by rfl) (by rfl) (by rfl) (by rfl) (by rfl) ?_
    | refine VL_append (by rfl) (by rfl) (by rfl) (by rfl) (by omega) (by rfl) (by unfold maxLen; omega) (by omega) (by rfl) (by rfl) ?_
    | refine VL_q _ (by first  | exact QS_move (by rfl) | exact QS_assign (by rfl) | exact QS_load1 (by rfl) (by rfl) (by rfl) | exact QS_loadA (by rfl) (by rfl) _ (by rfl) | exact QS_fieldAddr (by rfl) | exact QS_mfieldAddr (by rfl) | exact QS_field (by rfl) (by rfl) | exact QS_mload1 (by rfl) (by assumption) | exact QS_build _ (by rfl) (by rfl) (by rfl) | exact QS_not (by rfl) | exact QS_extract (by rfl) (by rfl) | exact QS_len (by rfl) | exact QS_lenStr (by rfl) | exact QS_lenRow (by rfl) (by rfl) | exact QS_pick_t (by rfl) (by first | rfl | assumption) (by rfl) | exact QS_pick_f (by rfl) (by first | rfl | assumption) (by rfl) | exact QS_bin (by rfl) (by rfl) (by first | exact B_lss | exact B_leq | exact B_gtr | exact B_geq | exact B_eql | exact B_neq | exact B_seql | exact B_sneq | exact B_slss | exact B_sgeq | exact B_sleq | exact B_sgtr | exact B_beql | exact B_bneq | exact B_slnil | exact Bq_eql_Span | exact Bq_neq_Span | exact Bq_eql_Eff | exact Bq_neq_Eff | exact Bq_eql_Msg | exact Bq_neq_Msg | exact Bq_eql_Pair | exact Bq_neq_Pair) | exact QS_bin (by rfl) (by rfl) (B_add (by omega) (by omega)) | exact QS_bin (by rfl) (by rfl) (B_sadd (by assumption)) | exact QS_bin (by rfl) (by rfl) (B_sub (by omega) (by omega))) (by rfl) ?_
    | refine VG_q _ (by first  | exact QS_move (by rfl) | exact QS_assign (by rfl) | exact QS_load1 (by rfl) (by rfl) (by rfl) | exact QS_loadA (by rfl) (by rfl) _ (by rfl) | exact QS_fieldAddr (by rfl) | exact QS_mfieldAddr (by rfl) | exact QS_field (by rfl) (by rfl) | exact QS_mload1 (by rfl) (by assumption) | exact QS_build _ (by rfl) (by rfl) (by rfl) | exact QS_not (by rfl) | exact QS_extract (by rfl) (by rfl) | exact QS_len (by rfl) | exact QS_lenStr (by rfl) | exact QS_lenRow (by rfl) (by rfl) | exact QS_pick_t (by rfl) (by first | rfl | assumption) (by rfl) | exact QS_pick_f (by rfl) (by first | rfl | assumption) (by rfl) | exact QS_bin (by rfl) (by rfl) (by first | exact B_lss | exact B_leq | exact B_gtr | exact B_geq | exact B_eql | exact B_neq | exact B_seql | exact B_sneq | exact B_slss | exact B_sgeq | exact B_sleq | exact B_sgtr | exact B_beql | exact B_bneq | exact B_slnil | exact Bq_eql_Span | exact Bq_neq_Span | exact Bq_eql_Eff | exact Bq_neq_Eff | exact Bq_eql_Msg | exact Bq_neq_Msg | exact Bq_eql_Pair | exact Bq_neq_Pair) | exact QS_bin (by rfl) (by rfl) (B_add (by omega) (by omega)) | exact QS_bin (by rfl) (by rfl) (B_sadd (by assumption)) | exact QS_bin (by rfl) (by rfl) (B_sub (by omega) (by omega))) (by rfl) ?_
    | refine VS_st (by rfl) ?_
    | refine VS_q _ (by first  | exact QS_move (by rfl) | exact QS_assign (by rfl) | exact QS_load1 (by rfl) (by rfl) (by rfl) | exact QS_loadA (by rfl) (by rfl) _ (by rfl) | exact QS_fieldAddr (by rfl) | exact QS_mfieldAddr (by rfl) | exact QS_field (by rfl) (by rfl) | exact QS_mload1 (by rfl) (by assumption) | exact QS_build _ (by rfl) (by rfl) (by rfl) | exact QS_not (by rfl) | exact QS_extract (by rfl) (by rfl) | exact QS_len (by rfl) | exact QS_lenStr (by rfl) | exact QS_lenRow (by rfl) (by rfl) | exact QS_pick_t (by rfl) (by first | rfl | assumption) (by rfl) | exact QS_pick_f (by rfl) (by first | rfl | assumption) (by rfl) | exact QS_bin (by rfl) (by rfl) (by first | exact B_lss | exact B_leq | exact B_gtr | exact B_geq | exact B_eql | exact B_neq | exact B_seql | exact B_sneq | exact B_slss | exact B_sgeq | exact B_sleq | exact B_sgtr | exact B_beql | exact B_bneq | exact B_slnil | exact Bq_eql_Span | exact Bq_neq_Span | exact Bq_eql_Eff | exact Bq_neq_Eff | exact Bq_eql_Msg | exact Bq_neq_Msg | exact Bq_eql_Pair | exact Bq_neq_Pair) | exact QS_bin (by rfl) (by rfl) (B_add (by omega) (by omega)) | exact QS_bin (by rfl) (by rfl) (B_sadd (by assumption)) | exact QS_bin (by rfl) (by rfl) (B_sub (by omega) (by omega))) (by rfl) (by rfl) ?_
    | refine VS_nil ?_
    | refine VE_q (by rfl) ?_
    | refine VE_st _ (by rfl) (by first | exact ES_store1 (by rfl) (by rfl) (by rfl) (by rfl) (by rfl) | exact ES_storeN (by rfl) (by rfl) (by rfl) (by rfl) (by rfl) _ (by rfl)) (by rfl) ?_
    | refine VE_nil ?_
    | refine VL_yes _ _ _ (by rfl) (by rfl) (by rfl) (by first | rfl | assumption) ?_
    | refine VL_no _ _ _ (by rfl) (by rfl) (by rfl) (by first | rfl | assumption) (by rfl) ?_
    | refine VG_yes _ _ _ (by rfl) (by rfl) (by rfl) (by first | rfl | assumption) ?_
    | refine VG_no _ _ _ (by rfl) (by rfl) (by rfl) (by first | rfl | assumption) (by rfl) ?_
    | refine VL_noU _ _ (by rfl) (by rfl) (by rfl) (by rfl) ?_
    | refine VG_noU _ _ (by rfl) (by rfl) (by rfl) (by rfl) ?_
    | refine VG_nil ⟨by rfl, ?_⟩
    | refine VG_nil ?_
    | refine VC_drawT (by decide +kernel) ?_
    | refine VC_draw1 (by rfl) (by decide +kernel) (by rfl) (by rfl) ?_
    | refine VC_drawQ (by rfl) (by decide +kernel) ?_
    | refine VC_true (by rfl) (by first | rfl | assumption) ?_
    | refine VC_false (by rfl) (by first | rfl | assumption) ?_
    | refine VL_dec _ _ _ (by rfl) (by rfl) (by rfl) (fun hq => ?_) (fun hq => ?_)
    | refine VG_dec _ _ _ (by rfl) (by rfl) (by rfl) (fun hq => ?_) (fun hq => ?_)
    | refine VC_cond _ (by rfl) (fun hq => ?_) (fun hq => ?_))
  refine VC_for (fun k : Nat => ⟨Mem.of w, [], [(0, .v (.slice A l.length c)), (3, .v (.int .i64 k))]⟩) (fun k => k ≤ l.length ∧ (l.take k).all refRightM = true ∧ riseTo l k = true) (fun k => l.length - k) [] 0 ⟨rfl, rfl, trivial, ⟨rfl, rfl, trivial⟩⟩ ⟨by omega, rfl, rfl⟩ ?_
  rintro k ⟨hk, hr, hri⟩
  rcases Nat.lt_or_ge k l.length with hlt | hge
  · have hd := dlt hlt
    obtain ⟨b, off, rfl, hcA⟩ := hM.get hlt
    have c1 := fun W => ref_RightM' l[k] W (hin l[k] (List.getElem_mem hlt))
    cases hR : refRightM l[k] with
    | false =>
      rw [hR] at c1
      repeat' (first
        | refine VC_seq ?_
        | refine VC_region ?_
        | refine VL_nil ?_
        | refine VC_ret ?_
        | refine VC_exit ?_
        | refine VC_block ?_
        | refine VC_skip ?_
        | refine VL_box (by rfl) (by rfl) (by rfl) ?_
        | refine VL_alloc (by rfl) (by rfl) ?_
        | refine VL_store1 (by rfl) (by rfl) (by rfl) (by rfl) (by rfl) (by rfl) ?_
        | refine VL_storeN (by rfl) (by rfl) (by rfl) (by rfl) (by rfl) _ (by rfl) (by rfl) ?_
        | refine VL_lits (by rfl) (by rfl) (by rfl) (by rfl) (by rfl) (by rfl) (by rfl) ?_
        | refine VL_lit1 (by rfl) (by rfl) (by rfl) (by rfl) (by rfl) ?_
        | refine VL_litsK (by rfl) (by rfl) (by rfl) (by rfl) (by rfl) (by rfl) (by rfl) ?_
        | refine VL_append (by rfl) (by rfl) (by rfl) (by rfl) (by omega) (by rfl) (by unfold maxLen; omega) (by omega) (by rfl) (by rfl) ?_
        | refine VL_q _ (by first | exact QS_indexAddr (k) (by rfl) (by rfl) (by omega) (by omega) | exact QS_mload1 (by rfl) (hcA 0 _ (by rfl)) | exact QS_mload1 (by rfl) (hcA _ _ (by rfl)) | exact QS_mloadN _ (by rfl) hcA _ (by rfl) | exact QS_call (by rfl) (fun W _ => c1 W) | exact QS_move (by rfl) | exact QS_assign (by rfl) | exact QS_load1 (by rfl) (by rfl) (by rfl) | exact QS_loadA (by rfl) (by rfl) _ (by rfl) | exact QS_fieldAddr (by rfl) | exact QS_mfieldAddr (by rfl) | exact QS_field (by rfl) (by rfl) | exact QS_mload1 (by rfl) (by assumption) | exact QS_build _ (by rfl) (by rfl) (by rfl) | exact QS_not (by rfl) | exact QS_extract (by rfl) (by rfl) | exact QS_len (by rfl) | exact QS_lenStr (by rfl) | exact QS_lenRow (by rfl) (by rfl) | exact QS_pick_t (by rfl) (by first | rfl | assumption) (by rfl) | exact QS_pick_f (by rfl) (by first | rfl | assumption) (by rfl) | exact QS_bin (by rfl) (by rfl) (by first | exact B_lss | exact B_leq | exact B_gtr | exact B_geq | exact B_eql | exact B_neq | exact B_seql | exact B_sneq | exact B_slss | exact B_sgeq | exact B_sleq | exact B_sgtr | exact B_beql | exact B_bneq | exact B_slnil | exact Bq_eql_Span | exact Bq_neq_Span | exact Bq_eql_Eff | exact Bq_neq_Eff | exact Bq_eql_Msg | exact Bq_neq_Msg | exact Bq_eql_Pair | exact Bq_neq_Pair) | exact QS_bin (by rfl) (by rfl) (B_add (by omega) (by omega)) | exact QS_bin (by rfl) (by rfl) (B_sadd (by assumption)) | exact QS_bin (by rfl) (by rfl) (B_sub (by omega) (by omega))) (by rfl) ?_
        | refine VG_q _ (by first | exact QS_indexAddr (k) (by rfl) (by rfl) (by omega) (by omega) | exact QS_mload1 (by rfl) (hcA 0 _ (by rfl)) | exact QS_mload1 (by rfl) (hcA _ _ (by rfl)) | exact QS_mloadN _ (by rfl) hcA _ (by rfl) | exact QS_call (by rfl) (fun W _ => c1 W) | exact QS_move (by rfl) | exact QS_assign (by rfl) | exact QS_load1 (by rfl) (by rfl) (by rfl) | exact QS_loadA (by rfl) (by rfl) _ (by rfl) | exact QS_fieldAddr (by rfl) | exact QS_mfieldAddr (by rfl) | exact QS_field (by rfl) (by rfl) | exact QS_mload1 (by rfl) (by assumption) | exact QS_build _ (by rfl) (by rfl) (by rfl) | exact QS_not (by rfl) | exact QS_extract (by rfl) (by rfl) | exact QS_len (by rfl) | exact QS_lenStr (by rfl) | exact QS_lenRow (by rfl) (by rfl) | exact QS_pick_t (by rfl) (by first | rfl | assumption) (by rfl) | exact QS_pick_f (by rfl) (by first | rfl | assumption) (by rfl) | exact QS_bin (by rfl) (by rfl) (by first | exact B_lss | exact B_leq | exact B_gtr | exact B_geq | exact B_eql | exact B_neq | exact B_seql | exact B_sneq | exact B_slss | exact B_sgeq | exact B_sleq | exact B_sgtr | exact B_beql | exact B_bneq | exact B_slnil | exact Bq_eql_Span | exact Bq_neq_Span | exact Bq_eql_Eff | exact Bq_neq_Eff | exact Bq_eql_Msg | exact Bq_neq_Msg | exact Bq_eql_Pair | exact Bq_neq_Pair) | exact QS_bin (by rfl) (by rfl) (B_add (by omega) (by omega)) | exact QS_bin (by rfl) (by rfl) (B_sadd (by assumption)) | exact QS_bin (by rfl) (by rfl) (B_sub (by omega) (by omega))) (by rfl) ?_
        | refine VS_st (by rfl) ?_
        | refine VS_q _ (by first | exact QS_indexAddr (k) (by rfl) (by rfl) (by omega) (by omega) | exact QS_mload1 (by rfl) (hcA 0 _ (by rfl)) | exact QS_mload1 (by rfl) (hcA _ _ (by rfl)) | exact QS_mloadN _ (by rfl) hcA _ (by rfl) | exact QS_call (by rfl) (fun W _ => c1 W) | exact QS_move (by rfl) | exact QS_assign (by rfl) | exact QS_load1 (by rfl) (by rfl) (by rfl) | exact QS_loadA (by rfl) (by rfl) _ (by rfl) | exact QS_fieldAddr (by rfl) | exact QS_mfieldAddr (by rfl) | exact QS_field (by rfl) (by rfl) | exact QS_mload1 (by rfl) (by assumption) | exact QS_build _ (by rfl) (by rfl) (by rfl) | exact QS_not (by rfl) | exact QS_extract (by rfl) (by rfl) | exact QS_len (by rfl) | exact QS_lenStr (by rfl) | exact QS_lenRow (by rfl) (by rfl) | exact QS_pick_t (by rfl) (by first | rfl | assumption) (by rfl) | exact QS_pick_f (by rfl) (by first | rfl | assumption) (by rfl) | exact QS_bin (by rfl) (by rfl) (by first | exact B_lss | exact B_leq | exact B_gtr | exact B_geq | exact B_eql | exact B_neq | exact B_seql | exact B_sneq | exact B_slss | exact B_sgeq | exact B_sleq | exact B_sgtr | exact B_beql | exact B_bneq | exact B_slnil | exact Bq_eql_Span | exact Bq_neq_Span | exact Bq_eql_Eff | exact Bq_neq_Eff | exact Bq_eql_Msg | exact Bq_neq_Msg | exact Bq_eql_Pair | exact Bq_neq_Pair) | exact QS_bin (by rfl) (by rfl) (B_add (by omega) (by omega)) | exact QS_bin (by rfl) (by rfl) (B_sadd (by assumption)) | exact QS_bin (by rfl) (by rfl) (B_sub (by omega) (by omega))) (by rfl) (by rfl) ?_
        | refine VS_nil ?_
        | refine VE_q (by rfl) ?_
        | refine VE_st _ (by rfl) (by first | exact ES_store1 (by rfl) (by rfl) (by rfl) (by rfl) (by rfl) | exact ES_storeN (by rfl) (by rfl) (by rfl) (by rfl) (by rfl) _ (by rfl)) (by rfl) ?_
        | refine VE_nil ?_
        | refine VL_yes _ _ _ (by rfl) (by rfl) (by rfl) (by first | rfl | assumption) ?_
        | refine VL_no _ _ _ (by rfl) (by rfl) (by rfl) (by first | rfl | assumption) (by rfl) ?_
        | refine VG_yes _ _ _ (by rfl) (by rfl) (by rfl) (by first | rfl | assumption) ?_
        | refine VG_no _ _ _ (by rfl) (by rfl) (by rfl) (by first | rfl | assumption) (by rfl) ?_
        | refine VL_noU _ _ (by rfl) (by rfl) (by rfl) (by rfl) ?_
        | refine VG_noU _ _ (by rfl) (by rfl) (by rfl) (by rfl) ?_
        | refine VG_nil ⟨by rfl, ?_⟩
        | refine VG_nil ?_
        | refine VC_drawT (by decide +kernel) ?_
        | refine VC_draw1 (by rfl) (by decide +kernel) (by rfl) (by rfl) ?_
        | refine VC_drawQ (by rfl) (by decide +kernel) ?_
        | refine VC_true (by rfl) (by first | rfl | assumption) ?_
        | refine VC_false (by rfl) (by first | rfl | assumption) ?_
        | refine VL_dec _ _ _ (by rfl) (by rfl) (by rfl) (fun hq => ?_) (fun hq => ?_)
        | refine VG_dec _ _ _ (by rfl) (by rfl) (by rfl) (fun hq => ?_) (fun hq => ?_)
        | refine VC_cond _ (by rfl) (fun hq => ?_) (fun hq => ?_))
      show Res _ _ _ _
      refine Res.one (by rfl) (ResV_tmp (by rfl) ?_)
      refine congrArg Value.bool ?_
      unfold allB
      rw [all_false_of hlt hR]; rfl
    | true =>
      rw [hR] at c1
      by_cases hk0 : k = 0
      · subst hk0
        repeat' (first
          | refine VC_seq ?_
          | refine VC_region ?_
          | refine VL_nil ?_
          | refine VC_ret ?_
          | refine VC_exit ?_
          | refine VC_block ?_
          | refine VC_skip ?_
          | refine VL_box (by rfl) (by rfl) (by rfl) ?_
          | refine VL_alloc (by rfl) (by rfl) ?_
          | refine VL_store1 (by rfl) (by rfl) (by rfl) (by rfl) (by rfl) (by rfl) ?_
          | refine VL_storeN (by rfl) (by rfl) (by rfl) (by rfl) (by rfl) _ (by rfl) (by rfl) ?_
          | refine VL_lits (by rfl) (by rfl) (by rfl) (by rfl) (by rfl) (by rfl) (by rfl) ?_
          | refine VL_lit1 (by rfl) (by rfl) (by rfl) (by rfl) (by rfl) ?_
          | refine VL_litsK (by rfl) (by rfl) (by rfl) (by rfl) (by rfl) (by rfl) (by rfl) ?_
          | refine VL_append (by rfl) (by rfl) (by rfl) (by rfl) (by omega) (by rfl) (by unfold maxLen; omega) (by omega) (by rfl) (by rfl) ?_
          | refine VL_q _ (by first | exact QS_indexAddr (0) (by rfl) (by rfl) (by omega) (by omega) | exact QS_mload1 (by rfl) (hcA 0 _ (by rfl)) | exact QS_mload1 (by rfl) (hcA _ _ (by rfl)) | exact QS_mloadN _ (by rfl) hcA _ (by rfl) | exact QS_call (by rfl) (fun W _ => c1 W) | exact QS_move (by rfl) | exact QS_assign (by rfl) | exact QS_load1 (by rfl) (by rfl) (by rfl) | exact QS_loadA (by rfl) (by rfl) _ (by rfl) | exact QS_fieldAddr (by rfl) | exact QS_mfieldAddr (by rfl) | exact QS_field (by rfl) (by rfl) | exact QS_mload1 (by rfl) (by assumption) | exact QS_build _ (by rfl) (by rfl) (by rfl) | exact QS_not (by rfl) | exact QS_extract (by rfl) (by rfl) | exact QS_len (by rfl) | exact QS_lenStr (by rfl) | exact QS_lenRow (by rfl) (by rfl) | exact QS_pick_t (by rfl) (by first | rfl | assumption) (by rfl) | exact QS_pick_f (by rfl) (by first | rfl | assumption) (by rfl) | exact QS_bin (by rfl) (by rfl) (by first | exact B_lss | exact B_leq | exact B_gtr | exact B_geq | exact B_eql | exact B_neq | exact B_seql | exact B_sneq | exact B_slss | exact B_sgeq | exact B_sleq | exact B_sgtr | exact B_beql | exact B_bneq | exact B_slnil | exact Bq_eql_Span | exact Bq_neq_Span | exact Bq_eql_Eff | exact Bq_neq_Eff | exact Bq_eql_Msg | exact Bq_neq_Msg | exact Bq_eql_Pair | exact Bq_neq_Pair) | exact QS_bin (by rfl) (by rfl) (B_add (by omega) (by omega)) | exact QS_bin (by rfl) (by rfl) (B_sadd (by assumption)) | exact QS_bin (by rfl) (by rfl) (B_sub (by omega) (by omega))) (by rfl) ?_
          | refine VG_q _ (by first | exact QS_indexAddr (0) (by rfl) (by rfl) (by omega) (by omega) | exact QS_mload1 (by rfl) (hcA 0 _ (by rfl)) | exact QS_mload1 (by rfl) (hcA _ _ (by rfl)) | exact QS_mloadN _ (by rfl) hcA _ (by rfl) | exact QS_call (by rfl) (fun W _ => c1 W) | exact QS_move (by rfl) | exact QS_assign (by rfl) | exact QS_load1 (by rfl) (by rfl) (by rfl) | exact QS_loadA (by rfl) (by rfl) _ (by rfl) | exact QS_fieldAddr (by rfl) | exact QS_mfieldAddr (by rfl) | exact QS_field (by rfl) (by rfl) | exact QS_mload1 (by rfl) (by assumption) | exact QS_build _ (by rfl) (by rfl) (by rfl) | exact QS_not (by rfl) | exact QS_extract (by rfl) (by rfl) | exact QS_len (by rfl) | exact QS_lenStr (by rfl) | exact QS_lenRow (by rfl) (by rfl) | exact QS_pick_t (by rfl) (by first | rfl | assumption) (by rfl) | exact QS_pick_f (by rfl) (by first | rfl | assumption) (by rfl) | exact QS_bin (by rfl) (by rfl) (by first | exact B_lss | exact B_leq | exact B_gtr | exact B_geq | exact B_eql | exact B_neq | exact B_seql | exact B_sneq | exact B_slss | exact B_sgeq | exact B_sleq | exact B_sgtr | exact B_beql | exact B_bneq | exact B_slnil | exact Bq_eql_Span | exact Bq_neq_Span | exact Bq_eql_Eff | exact Bq_neq_Eff | exact Bq_eql_Msg | exact Bq_neq_Msg | exact Bq_eql_Pair | exact Bq_neq_Pair) | exact QS_bin (by rfl) (by rfl) (B_add (by omega) (by omega)) | exact QS_bin (by rfl) (by rfl) (B_sadd (by assumption)) | exact QS_bin (by rfl) (by rfl) (B_sub (by omega) (by omega))) (by rfl) ?_
          | refine VS_st (by rfl) ?_
          | refine VS_q _ (by first | exact QS_indexAddr (0) (by rfl) (by rfl) (by omega) (by omega) | exact QS_mload1 (by rfl) (hcA 0 _ (by rfl)) | exact QS_mload1 (by rfl) (hcA _ _ (by rfl)) | exact QS_mloadN _ (by rfl) hcA _ (by rfl) | exact QS_call (by rfl) (fun W _ => c1 W) | exact QS_move (by rfl) | exact QS_assign (by rfl) | exact QS_load1 (by rfl) (by rfl) (by rfl) | exact QS_loadA (by rfl) (by rfl) _ (by rfl) | exact QS_fieldAddr (by rfl) | exact QS_mfieldAddr (by rfl) | exact QS_field (by rfl) (by rfl) | exact QS_mload1 (by rfl) (by assumption) | exact QS_build _ (by rfl) (by rfl) (by rfl) | exact QS_not (by rfl) | exact QS_extract (by rfl) (by rfl) | exact QS_len (by rfl) | exact QS_lenStr (by rfl) | exact QS_lenRow (by rfl) (by rfl) | exact QS_pick_t (by rfl) (by first | rfl | assumption) (by rfl) | exact QS_pick_f (by rfl) (by first | rfl | assumption) (by rfl) | exact QS_bin (by rfl) (by rfl) (by first | exact B_lss | exact B_leq | exact B_gtr | exact B_geq | exact B_eql | exact B_neq | exact B_seql | exact B_sneq | exact B_slss | exact B_sgeq | exact B_sleq | exact B_sgtr | exact B_beql | exact B_bneq | exact B_slnil | exact Bq_eql_Span | exact Bq_neq_Span | exact Bq_eql_Eff | exact Bq_neq_Eff | exact Bq_eql_Msg | exact Bq_neq_Msg | exact Bq_eql_Pair | exact Bq_neq_Pair) | exact QS_bin (by rfl) (by rfl) (B_add (by omega) (by omega)) | exact QS_bin (by rfl) (by rfl) (B_sadd (by assumption)) | exact QS_bin (by rfl) (by rfl) (B_sub (by omega) (by omega))) (by rfl) (by rfl) ?_
          | refine VS_nil ?_
          | refine VE_q (by rfl) ?_
          | refine VE_st _ (by rfl) (by first | exact ES_store1 (by rfl) (by rfl) (by rfl) (by rfl) (by rfl) | exact ES_storeN (by rfl) (by rfl) (by rfl) (by rfl) (by rfl) _ (by rfl)) (by rfl) ?_
          | refine VE_nil ?_
          | refine VL_yes _ _ _ (by rfl) (by rfl) (by rfl) (by first | rfl | assumption) ?_
          | refine VL_no _ _ _ (by rfl) (by rfl) (by rfl) (by first | rfl | assumption) (by rfl) ?_
          | refine VG_yes _ _ _ (by rfl) (by rfl) (by rfl) (by first | rfl | assumption) ?_
          | refine VG_no _ _ _ (by rfl) (by rfl) (by rfl) (by first | rfl | assumption) (by rfl) ?_
          | refine VL_noU _ _ (by rfl) (by rfl) (by rfl) (by rfl) ?_
          | refine VG_noU _ _ (by rfl) (by rfl) (by rfl) (by rfl) ?_
          | refine VG_nil ⟨by rfl, ?_⟩
          | refine VG_nil ?_
          | refine VC_drawT (by decide +kernel) ?_
          | refine VC_draw1 (by rfl) (by decide +kernel) (by rfl) (by rfl) ?_
          | refine VC_drawQ (by rfl) (by decide +kernel) ?_
          | refine VC_true (by rfl) (by first | rfl | assumption) ?_
          | refine VC_false (by rfl) (by first | rfl | assumption) ?_
          | refine VL_dec _ _ _ (by rfl) (by rfl) (by rfl) (fun hq => ?_) (fun hq => ?_)
          | refine VG_dec _ _ _ (by rfl) (by rfl) (by rfl) (fun hq => ?_) (fun hq => ?_)
          | refine VC_cond _ (by rfl) (fun hq => ?_) (fun hq => ?_))
        refine forQ_next [] 1 ⟨rfl, rfl, trivial, ⟨rfl, rfl, trivial⟩⟩ ⟨by omega, ?_, ?_⟩ (by omega)
        · rw [take_all_step hlt, hr, hR]; rfl
        · rfl
      · have hlt1 : k - 1 < l.length := by omega
        obtain ⟨b', off', he, hcB⟩ := hM.get hlt1
        injection he with he
        injection he with he1 he2
        subst he1 he2
        have hd0 : decide ((0 : Int) < (k : Int)) = true := decide_eq_true (by omega)
        cases hs : decide (l[k].stamp ≤ l[k - 1].stamp) with
        | true =>
          repeat' (first
            | refine VC_seq ?_
            | refine VC_region ?_
            | refine VL_nil ?_
            | refine VC_ret ?_
            | refine VC_exit ?_
            | refine VC_block ?_
            | refine VC_skip ?_
            | refine VL_box (by rfl) (by rfl) (by rfl) ?_
            | refine VL_alloc (by rfl) (by rfl) ?_
            | refine VL_store1 (by rfl) (by rfl) (by rfl) (by rfl) (by rfl) (by rfl) ?_
            | refine VL_storeN (by rfl) (by rfl) (by rfl) (by rfl) (by rfl) _ (by rfl) (by rfl) ?_
            | refine VL_lits (by rfl) (by rfl) (by rfl) (by rfl) (by rfl) (by rfl) (by rfl) ?_
            | refine VL_lit1 (by rfl) (by rfl) (by rfl) (by rfl) (by rfl) ?_
            | refine VL_litsK (by rfl) (by rfl) (by rfl) (by rfl) (by rfl) (by rfl) (by rfl) ?_
            | refine VL_append (by rfl) (by rfl) (by rfl) (by rfl) (by omega) (by rfl) (by unfold maxLen; omega) (by omega) (by rfl) (by rfl) ?_
            | refine VL_q _ (by first | exact QS_indexAddr (k) (by rfl) (by rfl) (by omega) (by omega) | exact QS_indexAddr (k - 1) (by rfl) (by rfl) (by omega) (by omega) | exact QS_mload1 (by rfl) (hcA 0 _ (by rfl)) | exact QS_mload1 (by rfl) (hcA _ _ (by rfl)) | exact QS_mloadN _ (by rfl) hcA _ (by rfl) | exact QS_mload1 (by rfl) (hcB 0 _ (by rfl)) | exact QS_mload1 (by rfl) (hcB _ _ (by rfl)) | exact QS_mloadN _ (by rfl) hcB _ (by rfl) | exact QS_call (by rfl) (fun W _ => c1 W) | exact QS_move (by rfl) | exact QS_assign (by rfl) | exact QS_load1 (by rfl) (by rfl) (by rfl) | exact QS_loadA (by rfl) (by rfl) _ (by rfl) | exact QS_fieldAddr (by rfl) | exact QS_mfieldAddr (by rfl) | exact QS_field (by rfl) (by rfl) | exact QS_mload1 (by rfl) (by assumption) | exact QS_build _ (by rfl) (by rfl) (by rfl) | exact QS_not (by rfl) | exact QS_extract (by rfl) (by rfl) | exact QS_len (by rfl) | exact QS_lenStr (by rfl) | exact QS_lenRow (by rfl) (by rfl) | exact QS_pick_t (by rfl) (by first | rfl | assumption) (by rfl) | exact QS_pick_f (by rfl) (by first | rfl | assumption) (by rfl) | exact QS_bin (by rfl) (by rfl) (by first | exact B_lss | exact B_leq | exact B_gtr | exact B_geq | exact B_eql | exact B_neq | exact B_seql | exact B_sneq | exact B_slss | exact B_sgeq | exact B_sleq | exact B_sgtr | exact B_beql | exact B_bneq | exact B_slnil | exact Bq_eql_Span | exact Bq_neq_Span | exact Bq_eql_Eff | exact Bq_neq_Eff | exact Bq_eql_Msg | exact Bq_neq_Msg | exact Bq_eql_Pair | exact Bq_neq_Pair) | exact QS_bin (by rfl) (by rfl) (B_add (by omega) (by omega)) | exact QS_bin (by rfl) (by rfl) (B_sadd (by assumption)) | exact QS_bin (by rfl) (by rfl) (B_sub (by omega) (by omega))) (by rfl) ?_
            | refine VG_q _ (by first | exact QS_indexAddr (k) (by rfl) (by rfl) (by omega) (by omega) | exact QS_indexAddr (k - 1) (by rfl) (by rfl) (by omega) (by omega) | exact QS_mload1 (by rfl) (hcA 0 _ (by rfl)) | exact QS_mload1 (by rfl) (hcA _ _ (by rfl)) | exact QS_mloadN _ (by rfl) hcA _ (by rfl) | exact QS_mload1 (by rfl) (hcB 0 _ (by rfl)) | exact QS_mload1 (by rfl) (hcB _ _ (by rfl)) | exact QS_mloadN _ (by rfl) hcB _ (by rfl) | exact QS_call (by rfl) (fun W _ => c1 W) | exact QS_move (by rfl) | exact QS_assign (by rfl) | exact QS_load1 (by rfl) (by rfl) (by rfl) | exact QS_loadA (by rfl) (by rfl) _ (by rfl) | exact QS_fieldAddr (by rfl) | exact QS_mfieldAddr (by rfl) | exact QS_field (by rfl) (by rfl) | exact QS_mload1 (by rfl) (by assumption) | exact QS_build _ (by rfl) (by rfl) (by rfl) | exact QS_not (by rfl) | exact QS_extract (by rfl) (by rfl) | exact QS_len (by rfl) | exact QS_lenStr (by rfl) | exact QS_lenRow (by rfl) (by rfl) | exact QS_pick_t (by rfl) (by first | rfl | assumption) (by rfl) | exact QS_pick_f (by rfl) (by first | rfl | assumption) (by rfl) | exact QS_bin (by rfl) (by rfl) (by first | exact B_lss | exact B_leq | exact B_gtr | exact B_geq | exact B_eql | exact B_neq | exact B_seql | exact B_sneq | exact B_slss | exact B_sgeq | exact B_sleq | exact B_sgtr | exact B_beql | exact B_bneq | exact B_slnil | exact Bq_eql_Span | exact Bq_neq_Span | exact Bq_eql_Eff | exact Bq_neq_Eff | exact Bq_eql_Msg | exact Bq_neq_Msg | exact Bq_eql_Pair | exact Bq_neq_Pair) | exact QS_bin (by rfl) (by rfl) (B_add (by omega) (by omega)) | exact QS_bin (by rfl) (by rfl) (B_sadd (by assumption)) | exact QS_bin (by rfl) (by rfl) (B_sub (by omega) (by omega))) (by rfl) ?_
            | refine VS_st (by rfl) ?_
            | refine VS_q _ (by first | exact QS_indexAddr (k) (by rfl) (by rfl) (by omega) (by omega) | exact QS_indexAddr (k - 1) (by rfl) (by rfl) (by omega) (by omega) | exact QS_mload1 (by rfl) (hcA 0 _ (by rfl)) | exact QS_mload1 (by rfl) (hcA _ _ (by rfl)) | exact QS_mloadN _ (by rfl) hcA _ (by rfl) | exact QS_mload1 (by rfl) (hcB 0 _ (by rfl)) | exact QS_mload1 (by rfl) (hcB _ _ (by rfl)) | exact QS_mloadN _ (by rfl) hcB _ (by rfl) | exact QS_call (by rfl) (fun W _ => c1 W) | exact QS_move (by rfl) | exact QS_assign (by rfl) | exact QS_load1 (by rfl) (by rfl) (by rfl) | exact QS_loadA (by rfl) (by rfl) _ (by rfl) | exact QS_fieldAddr (by rfl) | exact QS_mfieldAddr (by rfl) | exact QS_field (by rfl) (by rfl) | exact QS_mload1 (by rfl) (by assumption) | exact QS_build _ (by rfl) (by rfl) (by rfl) | exact QS_not (by rfl) | exact QS_extract (by rfl) (by rfl) | exact QS_len (by rfl) | exact QS_lenStr (by rfl) | exact QS_lenRow (by rfl) (by rfl) | exact QS_pick_t (by rfl) (by first | rfl | assumption) (by rfl) | exact QS_pick_f (by rfl) (by first | rfl | assumption) (by rfl) | exact QS_bin (by rfl) (by rfl) (by first | exact B_lss | exact B_leq | exact B_gtr | exact B_geq | exact B_eql | exact B_neq | exact B_seql | exact B_sneq | exact B_slss | exact B_sgeq | exact B_sleq | exact B_sgtr | exact B_beql | exact B_bneq | exact B_slnil | exact Bq_eql_Span | exact Bq_neq_Span | exact Bq_eql_Eff | exact Bq_neq_Eff | exact Bq_eql_Msg | exact Bq_neq_Msg | exact Bq_eql_Pair | exact Bq_neq_Pair) | exact QS_bin (by rfl) (by rfl) (B_add (by omega) (by omega)) | exact QS_bin (by rfl) (by rfl) (B_sadd (by assumption)) | exact QS_bin (by rfl) (by rfl) (B_sub (by omega) (by omega))) (by rfl) (by rfl) ?_
            | refine VS_nil ?_
            | refine VE_q (by rfl) ?_
            | refine VE_st _ (by rfl) (by first | exact ES_store1 (by rfl) (by rfl) (by rfl) (by rfl) (by rfl) | exact ES_storeN (by rfl) (by rfl) (by rfl) (by rfl) (by rfl) _ (by rfl)) (by rfl) ?_
            | refine VE_nil ?_
            | refine VL_yes _ _ _ (by rfl) (by rfl) (by rfl) (by first | rfl | assumption) ?_
            | refine VL_no _ _ _ (by rfl) (by rfl) (by rfl) (by first | rfl | assumption) (by rfl) ?_
            | refine VG_yes _ _ _ (by rfl) (by rfl) (by rfl) (by first | rfl | assumption) ?_
            | refine VG_no _ _ _ (by rfl) (by rfl) (by rfl) (by first | rfl | assumption) (by rfl) ?_
            | refine VL_noU _ _ (by rfl) (by rfl) (by rfl) (by rfl) ?_
            | refine VG_noU _ _ (by rfl) (by rfl) (by rfl) (by rfl) ?_
            | refine VG_nil ⟨by rfl, ?_⟩
            | refine VG_nil ?_
            | refine VC_drawT (by decide +kernel) ?_
            | refine VC_draw1 (by rfl) (by decide +kernel) (by rfl) (by rfl) ?_
            | refine VC_drawQ (by rfl) (by decide +kernel) ?_
            | refine VC_true (by rfl) (by first | rfl | assumption) ?_
            | refine VC_false (by rfl) (by first | rfl | assumption) ?_
            | refine VL_dec _ _ _ (by rfl) (by rfl) (by rfl) (fun hq => ?_) (fun hq => ?_)
            | refine VG_dec _ _ _ (by rfl) (by rfl) (by rfl) (fun hq => ?_) (fun hq => ?_)
            | refine VC_cond _ (by rfl) (fun hq => ?_) (fun hq => ?_))
          show Res _ _ _ _
          refine Res.one (by rfl) (ResV_tmp (by rfl) ?_)
          refine congrArg Value.bool ?_
          have := riseTo_false (l := l) (k := k + 1) (by
            rw [riseTo_succ, hri, stAt_eq hlt, stAt_eq hlt1]
            simp only [decide_eq_true_eq] at *
            simp only [Bool.true_and, decide_eq_false_iff_not]; omega) l.length (by omega)
          unfold allB
          have h2 : riseB l = false := this
          rw [h2, Bool.and_false]
        | false =>
          repeat' (first
            | refine VC_seq ?_
            | refine VC_region ?_
            | refine VL_nil ?_
            | refine VC_ret ?_
            | refine VC_exit ?_
            | refine VC_block ?_
            | refine VC_skip ?_
            | refine VL_box (by rfl) (by rfl) (by rfl) ?_
            | refine VL_alloc (by rfl) (by rfl) ?_
            | refine VL_store1 (by rfl) (by rfl) (by rfl) (by rfl) (by rfl) (by rfl) ?_
            | refine VL_storeN (by rfl) (by rfl) (by rfl) (by rfl) (by rfl) _ (by rfl) (by rfl) ?_
            | refine VL_lits (by rfl) (by rfl) (by rfl) (by rfl) (by rfl) (by rfl) (by rfl) ?_
            | refine VL_lit1 (by rfl) (by rfl) (by rfl) (by rfl) (by rfl) ?_
            | refine VL_litsK (by rfl) (by rfl) (by rfl) (by rfl) (by rfl) (by rfl) (by rfl) ?_
            | refine VL_append (by rfl) (by rfl) (by rfl) (by rfl) (by omega) (by rfl) (by unfold maxLen; omega) (by omega) (by rfl) (by rfl) ?_
            | refine VL_q _ (by first | exact QS_indexAddr (k) (by rfl) (by rfl) (by omega) (by omega) | exact QS_indexAddr (k - 1) (by rfl) (by rfl) (by omega) (by omega) | exact QS_mload1 (by rfl) (hcA 0 _ (by rfl)) | exact QS_mload1 (by rfl) (hcA _ _ (by rfl)) | exact QS_mloadN _ (by rfl) hcA _ (by rfl) | exact QS_mload1 (by rfl) (hcB 0 _ (by rfl)) | exact QS_mload1 (by rfl) (hcB _ _ (by rfl)) | exact QS_mloadN _ (by rfl) hcB _ (by rfl) | exact QS_call (by rfl) (fun W _ => c1 W) | exact QS_move (by rfl) | exact QS_assign (by rfl) | exact QS_load1 (by rfl) (by rfl) (by rfl) | exact QS_loadA (by rfl) (by rfl) _ (by rfl) | exact QS_fieldAddr (by rfl) | exact QS_mfieldAddr (by rfl) | exact QS_field (by rfl) (by rfl) | exact QS_mload1 (by rfl) (by assumption) | exact QS_build _ (by rfl) (by rfl) (by rfl) | exact QS_not (by rfl) | exact QS_extract (by rfl) (by rfl) | exact QS_len (by rfl) | exact QS_lenStr (by rfl) | exact QS_lenRow (by rfl) (by rfl) | exact QS_pick_t (by rfl) (by first | rfl | assumption) (by rfl) | exact QS_pick_f (by rfl) (by first | rfl | assumption) (by rfl) | exact QS_bin (by rfl) (by rfl) (by first | exact B_lss | exact B_leq | exact B_gtr | exact B_geq | exact B_eql | exact B_neq | exact B_seql | exact B_sneq | exact B_slss | exact B_sgeq | exact B_sleq | exact B_sgtr | exact B_beql | exact B_bneq | exact B_slnil | exact Bq_eql_Span | exact Bq_neq_Span | exact Bq_eql_Eff | exact Bq_neq_Eff | exact Bq_eql_Msg | exact Bq_neq_Msg | exact Bq_eql_Pair | exact Bq_neq_Pair) | exact QS_bin (by rfl) (by rfl) (B_add (by omega) (by omega)) | exact QS_bin (by rfl) (by rfl) (B_sadd (by assumption)) | exact QS_bin (by rfl) (by rfl) (B_sub (by omega) (by omega))) (by rfl) ?_
            | refine VG_q _ (by first | exact QS_indexAddr (k) (by rfl) (by rfl) (by omega) (by omega) | exact QS_indexAddr (k - 1) (by rfl) (by rfl) (by omega) (by omega) | exact QS_mload1 (by rfl) (hcA 0 _ (by rfl)) | exact QS_mload1 (by rfl) (hcA _ _ (by rfl)) | exact QS_mloadN _ (by rfl) hcA _ (by rfl) | exact QS_mload1 (by rfl) (hcB 0 _ (by rfl)) | exact QS_mload1 (by rfl) (hcB _ _ (by rfl)) | exact QS_mloadN _ (by rfl) hcB _ (by rfl) | exact QS_call (by rfl) (fun W _ => c1 W) | exact QS_move (by rfl) | exact QS_assign (by rfl) | exact QS_load1 (by rfl) (by rfl) (by rfl) | exact QS_loadA (by rfl) (by rfl) _ (by rfl) | exact QS_fieldAddr (by rfl) | exact QS_mfieldAddr (by rfl) | exact QS_field (by rfl) (by rfl) | exact QS_mload1 (by rfl) (by assumption) | exact QS_build _ (by rfl) (by rfl) (by rfl) | exact QS_not (by rfl) | exact QS_extract (by rfl) (by rfl) | exact QS_len (by rfl) | exact QS_lenStr (by rfl) | exact QS_lenRow (by rfl) (by rfl) | exact QS_pick_t (by rfl) (by first | rfl | assumption) (by rfl) | exact QS_pick_f (by rfl) (by first | rfl | assumption) (by rfl) | exact QS_bin (by rfl) (by rfl) (by first | exact B_lss | exact B_leq | exact B_gtr | exact B_geq | exact B_eql | exact B_neq | exact B_seql | exact B_sneq | exact B_slss | exact B_sgeq | exact B_sleq | exact B_sgtr | exact B_beql | exact B_bneq | exact B_slnil | exact Bq_eql_Span | exact Bq_neq_Span | exact Bq_eql_Eff | exact Bq_neq_Eff | exact Bq_eql_Msg | exact Bq_neq_Msg | exact Bq_eql_Pair | exact Bq_neq_Pair) | exact QS_bin (by rfl) (by rfl) (B_add (by omega) (by omega)) | exact QS_bin (by rfl) (by rfl) (B_sadd (by assumption)) | exact QS_bin (by rfl) (by rfl) (B_sub (by omega) (by omega))) (by rfl) ?_
            | refine VS_st (by rfl) ?_
            | refine VS_q _ (by first | exact QS_indexAddr (k) (by rfl) (by rfl) (by omega) (by omega) | exact QS_indexAddr (k - 1) (by rfl) (by rfl) (by omega) (by omega) | exact QS_mload1 (by rfl) (hcA 0 _ (by rfl)) | exact QS_mload1 (by rfl) (hcA _ _ (by rfl)) | exact QS_mloadN _ (by rfl) hcA _ (by rfl) | exact QS_mload1 (by rfl) (hcB 0 _ (by rfl)) | exact QS_mload1 (by rfl) (hcB _ _ (by rfl)) | exact QS_mloadN _ (by rfl) hcB _ (by rfl) | exact QS_call (by rfl) (fun W _ => c1 W) | exact QS_move (by rfl) | exact QS_assign (by rfl) | exact QS_load1 (by rfl) (by rfl) (by rfl) | exact QS_loadA (by rfl) (by rfl) _ (by rfl) | exact QS_fieldAddr (by rfl) | exact QS_mfieldAddr (by rfl) | exact QS_field (by rfl) (by rfl) | exact QS_mload1 (by rfl) (by assumption) | exact QS_build _ (by rfl) (by rfl) (by rfl) | exact QS_not (by rfl) | exact QS_extract (by rfl) (by rfl) | exact QS_len (by rfl) | exact QS_lenStr (by rfl) | exact QS_lenRow (by rfl) (by rfl) | exact QS_pick_t (by rfl) (by first | rfl | assumption) (by rfl) | exact QS_pick_f (by rfl) (by first | rfl | assumption) (by rfl) | exact QS_bin (by rfl) (by rfl) (by first | exact B_lss | exact B_leq | exact B_gtr | exact B_geq | exact B_eql | exact B_neq | exact B_seql | exact B_sneq | exact B_slss | exact B_sgeq | exact B_sleq | exact B_sgtr | exact B_beql | exact B_bneq | exact B_slnil | exact Bq_eql_Span | exact Bq_neq_Span | exact Bq_eql_Eff | exact Bq_neq_Eff | exact Bq_eql_Msg | exact Bq_neq_Msg | exact Bq_eql_Pair | exact Bq_neq_Pair) | exact QS_bin (by rfl) (by rfl) (B_add (by omega) (by omega)) | exact QS_bin (by rfl) (by rfl) (B_sadd (by assumption)) | exact QS_bin (by rfl) (by rfl) (B_sub (by omega) (by omega))) (by rfl) (by rfl) ?_
            | refine VS_nil ?_
            | refine VE_q (by rfl) ?_
            | refine VE_st _ (by rfl) (by first | exact ES_store1 (by rfl) (by rfl) (by rfl) (by rfl) (by rfl) | exact ES_storeN (by rfl) (by rfl) (by rfl) (by rfl) (by rfl) _ (by rfl)) (by rfl) ?_
            | refine VE_nil ?_
            | refine VL_yes _ _ _ (by rfl) (by rfl) (by rfl) (by first | rfl | assumption) ?_
            | refine VL_no _ _ _ (by rfl) (by rfl) (by rfl) (by first | rfl | assumption) (by rfl) ?_
            | refine VG_yes _ _ _ (by rfl) (by rfl) (by rfl) (by first | rfl | assumption) ?_
            | refine VG_no _ _ _ (by rfl) (by rfl) (by rfl) (by first | rfl | assumption) (by rfl) ?_
            | refine VL_noU _ _ (by rfl) (by rfl) (by rfl) (by rfl) ?_
            | refine VG_noU _ _ (by rfl) (by rfl) (by rfl) (by rfl) ?_
            | refine VG_nil ⟨by rfl, ?_⟩
            | refine VG_nil ?_
            | refine VC_drawT (by decide +kernel) ?_
            | refine VC_draw1 (by rfl) (by decide +kernel) (by rfl) (by rfl) ?_
            | refine VC_drawQ (by rfl) (by decide +kernel) ?_
            | refine VC_true (by rfl) (by first | rfl | assumption) ?_
            | refine VC_false (by rfl) (by first | rfl | assumption) ?_
            | refine VL_dec _ _ _ (by rfl) (by rfl) (by rfl) (fun hq => ?_) (fun hq => ?_)
            | refine VG_dec _ _ _ (by rfl) (by rfl) (by rfl) (fun hq => ?_) (fun hq => ?_)
            | refine VC_cond _ (by rfl) (fun hq => ?_) (fun hq => ?_))
          refine forQ_next [] (k + 1) ⟨rfl, rfl, trivial, ⟨rfl, rfl, trivial⟩⟩ ⟨by omega, ?_, ?_⟩ (by omega)
          · rw [take_all_step hlt, hr, hR]; rfl
          · rw [riseTo_succ, hri, stAt_eq hlt, stAt_eq hlt1]
            simp only [decide_eq_false_iff_not] at *
            simp only [Bool.true_and, decide_eq_true_eq]; omega
  · have hd := dge hge
    obtain rfl : k = l.length := by omega
    repeat' (first
      | refine VC_seq ?_
      | refine VC_region ?_
      | refine VL_nil ?_
      | refine VC_ret ?_
      | refine VC_exit ?_
      | refine VC_block ?_
      | refine VC_skip ?_
      | refine VL_box (by rfl) (by rfl) (by rfl) ?_
      | refine VL_alloc (by rfl) (by rfl) ?_
      | refine VL_store1 (by rfl) (by rfl) (by rfl) (by rfl) (by rfl) (by rfl) ?_
      | refine VL_storeN (by rfl) (by rfl) (by rfl) (by rfl) (by rfl) _ (by rfl) (by rfl) ?_
      | refine VL_lits (by rfl) (by rfl) (by rfl) (by rfl) (by rfl) (by rfl) (by rfl) ?_
      | refine VL_lit1 (by rfl) (by rfl) (by rfl) (by rfl) (by rfl) ?_
      | refine VL_litsK (by rfl) (by rfl) (by rfl) (by rfl) (by rfl) (by rfl) (by rfl) ?_
      | refine VL_append (by rfl) (by rfl) (by rfl) (by rfl) (by omega) (by rfl) (by unfold maxLen; omega) (by omega) (by rfl) (by rfl) ?_
      | refine VL_q _ (by first  | exact QS_move (by rfl) | exact QS_assign (by rfl) | exact QS_load1 (by rfl) (by rfl) (by rfl) | exact QS_loadA (by rfl) (by rfl) _ (by rfl) | exact QS_fieldAddr (by rfl) | exact QS_mfieldAddr (by rfl) | exact QS_field (by rfl) (by rfl) | exact QS_mload1 (by rfl) (by assumption) | exact QS_build _ (by rfl) (by rfl) (by rfl) | exact QS_not (by rfl) | exact QS_extract (by rfl) (by rfl) | exact QS_len (by rfl) | exact QS_lenStr (by rfl) | exact QS_lenRow (by rfl) (by rfl) | exact QS_pick_t (by rfl) (by first | rfl | assumption) (by rfl) | exact QS_pick_f (by rfl) (by first | rfl | assumption) (by rfl) | exact QS_bin (by rfl) (by rfl) (by first | exact B_lss | exact B_leq | exact B_gtr | exact B_geq | exact B_eql | exact B_neq | exact B_seql | exact B_sneq | exact B_slss | exact B_sgeq | exact B_sleq | exact B_sgtr | exact B_beql | exact B_bneq | exact B_slnil | exact Bq_eql_Span | exact Bq_neq_Span | exact Bq_eql_Eff | exact Bq_neq_Eff | exact Bq_eql_Msg | exact Bq_neq_Msg | exact Bq_eql_Pair | exact Bq_neq_Pair) | exact QS_bin (by rfl) (by rfl) (B_add (by omega) (by omega)) | exact QS_bin (by rfl) (by rfl) (B_sadd (by assumption)) | exact QS_bin (by rfl) (by rfl) (B_sub (by omega) (by omega))) (by rfl) ?_
      | refine VG_q _ (by first  | exact QS_move (by rfl) | exact QS_assign (by rfl) | exact QS_load1 (by rfl) (by rfl) (by rfl) | exact QS_loadA (by rfl) (by rfl) _ (by rfl) | exact QS_fieldAddr (by rfl) | exact QS_mfieldAddr (by rfl) | exact QS_field (by rfl) (by rfl) | exact QS_mload1 (by rfl) (by assumption) | exact QS_build _ (by rfl) (by rfl) (by rfl) | exact QS_not (by rfl) | exact QS_extract (by rfl) (by rfl) | exact QS_len (by rfl) | exact QS_lenStr (by rfl) | exact QS_lenRow (by rfl) (by rfl) | exact QS_pick_t (by rfl) (by first | rfl | assumption) (by rfl) | exact QS_pick_f (by rfl) (by first | rfl | assumption) (by rfl) | exact QS_bin (by rfl) (by rfl) (by first | exact B_lss | exact B_leq | exact B_gtr | exact B_geq | exact B_eql | exact B_neq | exact B_seql | exact B_sneq | exact B_slss | exact B_sgeq | exact B_sleq | exact B_sgtr | exact B_beql | exact B_bneq | exact B_slnil | exact Bq_eql_Span | exact Bq_neq_Span | exact Bq_eql_Eff | exact Bq_neq_Eff | exact Bq_eql_Msg | exact Bq_neq_Msg | exact Bq_eql_Pair | exact Bq_neq_Pair) | exact QS_bin (by rfl) (by rfl) (B_add (by omega) (by omega)) | exact QS_bin (by rfl) (by rfl) (B_sadd (by assumption)) | exact QS_bin (by rfl) (by rfl) (B_sub (by omega) (by omega))) (by rfl) ?_
      | refine VS_st (by rfl) ?_
      | refine VS_q _ (by first  | exact QS_move (by rfl) | exact QS_assign (by rfl) | exact QS_load1 (by rfl) (by rfl) (by rfl) | exact QS_loadA (by rfl) (by rfl) _ (by rfl) | exact QS_fieldAddr (by rfl) | exact QS_mfieldAddr (by rfl) | exact QS_field (by rfl) (by rfl) | exact QS_mload1 (by rfl) (by assumption) | exact QS_build _ (by rfl) (by rfl) (by rfl) | exact QS_not (by rfl) | exact QS_extract (by rfl) (by rfl) | exact QS_len (by rfl) | exact QS_lenStr (by rfl) | exact QS_lenRow (by rfl) (by rfl) | exact QS_pick_t (by rfl) (by first | rfl | assumption) (by rfl) | exact QS_pick_f (by rfl) (by first | rfl | assumption) (by rfl) | exact QS_bin (by rfl) (by rfl) (by first | exact B_lss | exact B_leq | exact B_gtr | exact B_geq | exact B_eql | exact B_neq | exact B_seql | exact B_sneq | exact B_slss | exact B_sgeq | exact B_sleq | exact B_sgtr | exact B_beql | exact B_bneq | exact B_slnil | exact Bq_eql_Span | exact Bq_neq_Span | exact Bq_eql_Eff | exact Bq_neq_Eff | exact Bq_eql_Msg | exact Bq_neq_Msg | exact Bq_eql_Pair | exact Bq_neq_Pair) | exact QS_bin (by rfl) (by rfl) (B_add (by omega) (by omega)) | exact QS_bin (by rfl) (by rfl) (B_sadd (by assumption)) | exact QS_bin (by rfl) (by rfl) (B_sub (by omega) (by omega))) (by rfl) (by rfl) ?_
      | refine VS_nil ?_
      | refine VE_q (by rfl) ?_
      | refine VE_st _ (by rfl) (by first | exact ES_store1 (by rfl) (by rfl) (by rfl) (by rfl) (by rfl) | exact ES_storeN (by rfl) (by rfl) (by rfl) (by rfl) (by rfl) _ (by rfl)) (by rfl) ?_
      | refine VE_nil ?_
      | refine VL_yes _ _ _ (by rfl) (by rfl) (by rfl) (by first | rfl | assumption) ?_
      | refine VL_no _ _ _ (by rfl) (by rfl) (by rfl) (by first | rfl | assumption) (by rfl) ?_
      | refine VG_yes _ _ _ (by rfl) (by rfl) (by rfl) (by first | rfl | assumption) ?_
      | refine VG_no _ _ _ (by rfl) (by rfl) (by rfl) (by first | rfl | assumption) (by rfl) ?_
      | refine VL_noU _ _ (by rfl) (by rfl) (by rfl) (by rfl) ?_
      | refine VG_noU _ _ (by rfl) (by rfl) (by rfl) (by rfl) ?_
      | refine VG_nil ⟨by rfl, ?_⟩
      | refine VG_nil ?_
      | refine VC_drawT (by decide +kernel) ?_
      | refine VC_draw1 (by rfl) (by decide +kernel) (by rfl) (by rfl) ?_
      | refine VC_drawQ (by rfl) (by decide +kernel) ?_
      | refine VC_true (by rfl) (by first | rfl | assumption) ?_
      | refine VC_false (by rfl) (by first | rfl | assumption) ?_
      | refine VL_dec _ _ _ (by rfl) (by rfl) (by rfl) (fun hq => ?_) (fun hq => ?_)
      | refine VG_dec _ _ _ (by rfl) (by rfl) (by rfl) (fun hq => ?_) (fun hq => ?_)
      | refine VC_cond _ (by rfl) (fun hq => ?_) (fun hq => ?_))
    show Res _ _ _ _
    refine Res.one (by rfl) (ResV_tmp (by rfl) ?_)
    refine congrArg Value.bool ?_
    rw [List.take_length] at hr
    have h2 : riseB l = true := hri
    unfold allB
    rw [hr, h2]; rfl
theorem ref_SameM (v u : Value) (l m : List Msg) (w : World) (hl : SlMsg w v l) (hm : SlMsg w u m) :
    Calls Try.prog 42 #[v, u] w fun e w' => e = .returned (.bool (decide (l = m))) ∧ Below w.heap.size w w' := by
  obtain ⟨A, c, rfl, hc1, hc2, _⟩ := id hl
  obtain ⟨B, c', rfl, hd1, hd2, _⟩ := id hm
  have hM := hl.toM
  have hN := hm.toM
  unfold maxLen at hc2 hd2
  by_cases hlen : l.length = m.length
  · have hne : ((l.length : Int) != (m.length : Int)) = false := by rw [hlen]; simp
    refine V_flat (args := [.slice A l.length c, .slice B m.length c']) (M := Mem.of w) Try.func42 rfl Try.ntmps42 (by rfl) (Mem.le_refl _) ?_
    repeat' (first
      | refine VC_seq ?_
      | refine VC_region ?_
      | refine VL_nil ?_
      | refine VC_ret ?_
      | refine VC_exit ?_
      | refine VC_block ?_
      | refine VC_skip ?_
      | refine VL_box (by rfl) (by rfl) (by rfl) ?_
      | refine VL_alloc (by rfl) (by rfl) ?_
      | refine VL_store1 (by rfl) (by rfl) (by rfl) (by rfl) (by rfl) (by rfl) ?_
      | refine VL_storeN (by rfl) (by rfl) (by rfl) (by rfl) (by rfl) _ (by rfl) (by rfl) ?_
      | refine VL_lits (by rfl) (by rfl) (by rfl) (by rfl) (by rfl) (by rfl) (by rfl) ?_
      | refine VL_lit1 (by rfl) (by rfl) (by rfl) (by rfl) (by rfl) ?_
      | refine VL_litsK (by rfl) (by rfl) (by rfl) (by rfl) (by rfl) (by rfl) (by rfl) ?_
      | refine VL_append (by rfl) (by rfl) (by rfl) (by rfl) (by omega) (by rfl) (by unfold maxLen; omega) (by omega) (by rfl) (by rfl) ?_
      | refine VL_q _ (by first  | exact QS_move (by rfl) | exact QS_assign (by rfl) | exact QS_load1 (by rfl) (by rfl) (by rfl) | exact QS_loadA (by rfl) (by rfl) _ (by rfl) | exact QS_fieldAddr (by rfl) | exact QS_mfieldAddr (by rfl) | exact QS_field (by rfl) (by rfl) | exact QS_mload1 (by rfl) (by assumption) | exact QS_build _ (by rfl) (by rfl) (by rfl) | exact QS_not (by rfl) | exact QS_extract (by rfl) (by rfl) | exact QS_len (by rfl) | exact QS_lenStr (by rfl) | exact QS_lenRow (by rfl) (by rfl) | exact QS_pick_t (by rfl) (by first | rfl | assumption) (by rfl) | exact QS_pick_f (by rfl) (by first | rfl | assumption) (by rfl) | exact QS_bin (by rfl) (by rfl) (by first | exact B_lss | exact B_leq | exact B_gtr | exact B_geq | exact B_eql | exact B_neq | exact B_seql | exact B_sneq | exact B_slss | exact B_sgeq | exact B_sleq | exact B_sgtr | exact B_beql | exact B_bneq | exact B_slnil | exact Bq_eql_Span | exact Bq_neq_Span | exact Bq_eql_Eff | exact Bq_neq_Eff | exact Bq_eql_Msg | exact Bq_neq_Msg | exact Bq_eql_Pair | exact Bq_neq_Pair) | exact QS_bin (by rfl) (by rfl) (B_add (by omega) (by omega)) | exact QS_bin (by rfl) (by rfl) (B_sadd (by assumption)) | exact QS_bin (by rfl) (by rfl) (B_sub (by omega) (by omega))) (by rfl) ?_
      | refine VG_q _ (by first  | exact QS_move (by rfl) | exact QS_assign (by rfl) | exact QS_load1 (by rfl) (by rfl) (by rfl) | exact QS_loadA (by rfl) (by rfl) _ (by rfl) | exact QS_fieldAddr (by rfl) | exact QS_mfieldAddr (by rfl) | exact QS_field (by rfl) (by rfl) | exact QS_mload1 (by rfl) (by assumption) | exact QS_build _ (by rfl) (by rfl) (by rfl) | exact QS_not (by rfl) | exact QS_extract (by rfl) (by rfl) | exact QS_len (by rfl) | exact QS_lenStr (by rfl) | exact QS_lenRow (by rfl) (by rfl) | exact QS_pick_t (by rfl) (by first | rfl | assumption) (by rfl) | exact QS_pick_f (by rfl) (by first | rfl | assumption) (by rfl) | exact QS_bin (by rfl) (by rfl) (by first | exact B_lss | exact B_leq | exact B_gtr | exact B_geq | exact B_eql | exact B_neq | exact B_seql | exact B_sneq | exact B_slss | exact B_sgeq | exact B_sleq | exact B_sgtr | exact B_beql | exact B_bneq | exact B_slnil | exact Bq_eql_Span | exact Bq_neq_Span | exact Bq_eql_Eff | exact Bq_neq_Eff | exact Bq_eql_Msg | exact Bq_neq_Msg | exact Bq_eql_Pair | exact Bq_neq_Pair) | exact QS_bin (by rfl) (by rfl) (B_add (by omega) (by omega)) | exact QS_bin (by rfl) (by rfl) (B_sadd (by assumption)) | exact QS_bin (by rfl) (by rfl) (B_sub (by omega) (by omega))) (by rfl) ?_
      | refine VS_st (by rfl) ?_
      | refine VS_q _ (by first  | exact QS_move (by rfl) | exact QS_assign (by rfl) | exact QS_load1 (by rfl) (by rfl) (by rfl) | exact QS_loadA (by rfl) (by rfl) _ (by rfl) | exact QS_fieldAddr (by rfl) | exact QS_mfieldAddr (by rfl) | exact QS_field (by rfl) (by rfl) | exact QS_mload1 (by rfl) (by assumption) | exact QS_build _ (by rfl) (by rfl) (by rfl) | exact QS_not (by rfl) | exact QS_extract (by rfl) (by rfl) | exact QS_len (by rfl) | exact QS_lenStr (by rfl) | exact QS_lenRow (by rfl) (by rfl) | exact QS_pick_t (by rfl) (by first | rfl | assumption) (by rfl) | exact QS_pick_f (by rfl) (by first | rfl | assumption) (by rfl) | exact QS_bin (by rfl) (by rfl) (by first | exact B_lss | exact B_leq | exact B_gtr | exact B_geq | exact B_eql | exact B_neq | exact B_seql | exact B_sneq | exact B_slss | exact B_sgeq | exact B_sleq | exact B_sgtr | exact B_beql | exact B_bneq | exact B_slnil | exact Bq_eql_Span | exact Bq_neq_Span | exact Bq_eql_Eff | exact Bq_neq_Eff | exact Bq_eql_Msg | exact Bq_neq_Msg | exact Bq_eql_Pair | exact Bq_neq_Pair) | exact QS_bin (by rfl) (by rfl) (B_add (by omega) (by omega)) | exact QS_bin (by rfl) (by rfl) (B_sadd (by assumption)) | exact QS_bin (by rfl) (by rfl) (B_sub (by omega) (by omega))) (by rfl) (by rfl) ?_
      | refine VS_nil ?_
      | refine VE_q (by rfl) ?_
      | refine VE_st _ (by rfl) (by first | exact ES_store1 (by rfl) (by rfl) (by rfl) (by rfl) (by rfl) | exact ES_storeN (by rfl) (by rfl) (by rfl) (by rfl) (by rfl) _ (by rfl)) (by rfl) ?_
      | refine VE_nil ?_
      | refine VL_yes _ _ _ (by rfl) (by rfl) (by rfl) (by first | rfl | assumption) ?_
      | refine VL_no _ _ _ (by rfl) (by rfl) (by rfl) (by first | rfl | assumption) (by rfl) ?_
      | refine VG_yes _ _ _ (by rfl) (by rfl) (by rfl) (by first | rfl | assumption) ?_
      | refine VG_no _ _ _ (by rfl) (by rfl) (by rfl) (by first | rfl | assumption) (by rfl) ?_
      | refine VL_noU _ _ (by rfl) (by rfl) (by rfl) (by rfl) ?_
      | refine VG_noU _ _ (by rfl) (by rfl) (by rfl) (by rfl) ?_
      | refine VG_nil ⟨by rfl, ?_⟩
      | refine VG_nil ?_
      | refine VC_drawT (by decide +kernel) ?_
      | refine VC_draw1 (by rfl) (by decide +kernel) (by rfl) (by rfl) ?_
      | refine VC_drawQ (by rfl) (by decide +kernel) ?_
      | refine VC_true (by rfl) (by first | rfl | assumption) ?_
      | refine VC_false (by rfl) (by first | rfl | assumption) ?_
      | refine VL_dec _ _ _ (by rfl) (by rfl) (by rfl) (fun hq => ?_) (fun hq => ?_)
      | refine VG_dec _ _ _ (by rfl) (by rfl) (by rfl) (fun hq => ?_) (fun hq => ?_)
      | refine VC_cond _ (by rfl) (fun hq => ?_) (fun hq => ?_))
    refine VC_for (fun k : Nat => ⟨Mem.of w, [], [(0, .v (.slice A l.length c)), (1, .v (.slice B m.length c')), (5, .v (.int .i64 k))]⟩) (fun k => k ≤ l.length ∧ l.take k = m.take k) (fun k => l.length - k) [] 0 ⟨rfl, rfl, trivial, ⟨rfl, rfl, rfl, trivial⟩⟩ ⟨by omega, rfl⟩ ?_
    rintro k ⟨hk, he⟩
    rcases Nat.lt_or_ge k l.length with hlt | hge
    · have hd := dlt hlt
      have hlt' : k < m.length := by omega
      obtain ⟨b, off, rfl, hcA⟩ := hM.get hlt
      obtain ⟨b', off', rfl, hcB⟩ := hN.get hlt'
      cases hq : eqv l[k] m[k] with
      | false =>
        have hq' : (!eqv l[k] m[k]) = true := by rw [hq]; rfl
        repeat' (first
          | refine VC_seq ?_
          | refine VC_region ?_
          | refine VL_nil ?_
          | refine VC_ret ?_
          | refine VC_exit ?_
          | refine VC_block ?_
          | refine VC_skip ?_
          | refine VL_box (by rfl) (by rfl) (by rfl) ?_
          | refine VL_alloc (by rfl) (by rfl) ?_
          | refine VL_store1 (by rfl) (by rfl) (by rfl) (by rfl) (by rfl) (by rfl) ?_
          | refine VL_storeN (by rfl) (by rfl) (by rfl) (by rfl) (by rfl) _ (by rfl) (by rfl) ?_
          | refine VL_lits (by rfl) (by rfl) (by rfl) (by rfl) (by rfl) (by rfl) (by rfl) ?_
          | refine VL_lit1 (by rfl) (by rfl) (by rfl) (by rfl) (by rfl) ?_
          | refine VL_litsK (by rfl) (by rfl) (by rfl) (by rfl) (by rfl) (by rfl) (by rfl) ?_
          | refine VL_append (by rfl) (by rfl) (by rfl) (by rfl) (by omega) (by rfl) (by unfold maxLen; omega) (by omega) (by rfl) (by rfl) ?_
          | refine VL_q _ (by first | exact QS_indexAddr (k) (by rfl) (by rfl) (by omega) (by omega) | exact QS_mload1 (by rfl) (hcA 0 _ (by rfl)) | exact QS_mload1 (by rfl) (hcA _ _ (by rfl)) | exact QS_mloadN _ (by rfl) hcA _ (by rfl) | exact QS_mload1 (by rfl) (hcB 0 _ (by rfl)) | exact QS_mload1 (by rfl) (hcB _ _ (by rfl)) | exact QS_mloadN _ (by rfl) hcB _ (by rfl) | exact QS_move (by rfl) | exact QS_assign (by rfl) | exact QS_load1 (by rfl) (by rfl) (by rfl) | exact QS_loadA (by rfl) (by rfl) _ (by rfl) | exact QS_fieldAddr (by rfl) | exact QS_mfieldAddr (by rfl) | exact QS_field (by rfl) (by rfl) | exact QS_mload1 (by rfl) (by assumption) | exact QS_build _ (by rfl) (by rfl) (by rfl) | exact QS_not (by rfl) | exact QS_extract (by rfl) (by rfl) | exact QS_len (by rfl) | exact QS_lenStr (by rfl) | exact QS_lenRow (by rfl) (by rfl) | exact QS_pick_t (by rfl) (by first | rfl | assumption) (by rfl) | exact QS_pick_f (by rfl) (by first | rfl | assumption) (by rfl) | exact QS_bin (by rfl) (by rfl) (by first | exact B_lss | exact B_leq | exact B_gtr | exact B_geq | exact B_eql | exact B_neq | exact B_seql | exact B_sneq | exact B_slss | exact B_sgeq | exact B_sleq | exact B_sgtr | exact B_beql | exact B_bneq | exact B_slnil | exact Bq_eql_Span | exact Bq_neq_Span | exact Bq_eql_Eff | exact Bq_neq_Eff | exact Bq_eql_Msg | exact Bq_neq_Msg | exact Bq_eql_Pair | exact Bq_neq_Pair) | exact QS_bin (by rfl) (by rfl) (B_add (by omega) (by omega)) | exact QS_bin (by rfl) (by rfl) (B_sadd (by assumption)) | exact QS_bin (by rfl) (by rfl) (B_sub (by omega) (by omega))) (by rfl) ?_
          | refine VG_q _ (by first | exact QS_indexAddr (k) (by rfl) (by rfl) (by omega) (by omega) | exact QS_mload1 (by rfl) (hcA 0 _ (by rfl)) | exact QS_mload1 (by rfl) (hcA _ _ (by rfl)) | exact QS_mloadN _ (by rfl) hcA _ (by rfl) | exact QS_mload1 (by rfl) (hcB 0 _ (by rfl)) | exact QS_mload1 (by rfl) (hcB _ _ (by rfl)) | exact QS_mloadN _ (by rfl) hcB _ (by rfl) | exact QS_move (by rfl) | exact QS_assign (by rfl) | exact QS_load1 (by rfl) (by rfl) (by rfl) | exact QS_loadA (by rfl) (by rfl) _ (by rfl) | exact QS_fieldAddr (by rfl) | exact QS_mfieldAddr (by rfl) | exact QS_field (by rfl) (by rfl) | exact QS_mload1 (by rfl) (by assumption) | exact QS_build _ (by rfl) (by rfl) (by rfl) | exact QS_not (by rfl) | exact QS_extract (by rfl) (by rfl) | exact QS_len (by rfl) | exact QS_lenStr (by rfl) | exact QS_lenRow (by rfl) (by rfl) | exact QS_pick_t (by rfl) (by first | rfl | assumption) (by rfl) | exact QS_pick_f (by rfl) (by first | rfl | assumption) (by rfl) | exact QS_bin (by rfl) (by rfl) (by first | exact B_lss | exact B_leq | exact B_gtr | exact B_geq | exact B_eql | exact B_neq | exact B_seql | exact B_sneq | exact B_slss | exact B_sgeq | exact B_sleq | exact B_sgtr | exact B_beql | exact B_bneq | exact B_slnil | exact Bq_eql_Span | exact Bq_neq_Span | exact Bq_eql_Eff | exact Bq_neq_Eff | exact Bq_eql_Msg | exact Bq_neq_Msg | exact Bq_eql_Pair | exact Bq_neq_Pair) | exact QS_bin (by rfl) (by rfl) (B_add (by omega) (by omega)) | exact QS_bin (by rfl) (by rfl) (B_sadd (by assumption)) | exact QS_bin (by rfl) (by rfl) (B_sub (by omega) (by omega))) (by rfl) ?_
          | refine VS_st (by rfl) ?_
          | refine VS_q _ (by first | exact QS_indexAddr (k) (by rfl) (by rfl) (by omega) (by omega) | exact QS_mload1 (by rfl) (hcA 0 _ (by rfl)) | exact QS_mload1 (by rfl) (hcA _ _ (by rfl)) | exact QS_mloadN _ (by rfl) hcA _ (by rfl) | exact QS_mload1 (by rfl) (hcB 0 _ (by rfl)) | exact QS_mload1 (by rfl) (hcB _ _ (by rfl)) | exact QS_mloadN _ (by rfl) hcB _ (by rfl) | exact QS_move (by rfl) | exact QS_assign (by rfl) | exact QS_load1 (by rfl) (by rfl) (by rfl) | exact QS_loadA (by rfl) (by rfl) _ (by rfl) | exact QS_fieldAddr (by rfl) | exact QS_mfieldAddr (by rfl) | exact QS_field (by rfl) (by rfl) | exact QS_mload1 (by rfl) (by assumption) | exact QS_build _ (by rfl) (by rfl) (by rfl) | exact QS_not (by rfl) | exact QS_extract (by rfl) (by rfl) | exact QS_len (by rfl) | exact QS_lenStr (by rfl) | exact QS_lenRow (by rfl) (by rfl) | exact QS_pick_t (by rfl) (by first | rfl | assumption) (by rfl) | exact QS_pick_f (by rfl) (by first | rfl | assumption) (by rfl) | exact QS_bin (by rfl) (by rfl) (by first | exact B_lss | exact B_leq | exact B_gtr | exact B_geq | exact B_eql | exact B_neq | exact B_seql | exact B_sneq | exact B_slss | exact B_sgeq | exact B_sleq | exact B_sgtr | exact B_beql | exact B_bneq | exact B_slnil | exact Bq_eql_Span | exact Bq_neq_Span | exact Bq_eql_Eff | exact Bq_neq_Eff | exact Bq_eql_Msg | exact Bq_neq_Msg | exact Bq_eql_Pair | exact Bq_neq_Pair) | exact QS_bin (by rfl) (by rfl) (B_add (by omega) (by omega)) | exact QS_bin (by rfl) (by rfl) (B_sadd (by assumption)) | exact QS_bin (by rfl) (by rfl) (B_sub (by omega) (by omega))) (by rfl) (by rfl) ?_
          | refine VS_nil ?_
          | refine VE_q (by rfl) ?_
          | refine VE_st _ (by rfl) (by first | exact ES_store1 (by rfl) (by rfl) (by rfl) (by rfl) (by rfl) | exact ES_storeN (by rfl) (by rfl) (by rfl) (by rfl) (by rfl) _ (by rfl)) (by rfl) ?_
          | refine VE_nil ?_
          | refine VL_yes _ _ _ (by rfl) (by rfl) (by rfl) (by first | rfl | assumption) ?_
          | refine VL_no _ _ _ (by rfl) (by rfl) (by rfl) (by first | rfl | assumption) (by rfl) ?_
          | refine VG_yes _ _ _ (by rfl) (by rfl) (by rfl) (by first | rfl | assumption) ?_
          | refine VG_no _ _ _ (by rfl) (by rfl) (by rfl) (by first | rfl | assumption) (by rfl) ?_
          | refine VL_noU _ _ (by rfl) (by rfl) (by rfl) (by rfl) ?_
          | refine VG_noU _ _ (by rfl) (by rfl) (by rfl) (by rfl) ?_
          | refine VG_nil ⟨by rfl, ?_⟩
          | refine VG_nil ?_
          | refine VC_drawT (by decide +kernel) ?_
          | refine VC_draw1 (by rfl) (by decide +kernel) (by rfl) (by rfl) ?_
          | refine VC_drawQ (by rfl) (by decide +kernel) ?_
          | refine VC_true (by rfl) (by first | rfl | assumption) ?_
          | refine VC_false (by rfl) (by first | rfl | assumption) ?_
          | refine VL_dec _ _ _ (by rfl) (by rfl) (by rfl) (fun hq => ?_) (fun hq => ?_)
          | refine VG_dec _ _ _ (by rfl) (by rfl) (by rfl) (fun hq => ?_) (fun hq => ?_)
          | refine VC_cond _ (by rfl) (fun hq => ?_) (fun hq => ?_))
        show Res _ _ _ _
        refine Res.one (by rfl) (ResV_tmp (by rfl) ?_)
        refine congrArg Value.bool ?_
        refine (decide_eq_false fun e => ?_).symm
        subst e
        rw [eqv_self] at hq; cases hq
      | true =>
        have hq' : (!eqv l[k] m[k]) = false := by rw [hq]; rfl
        repeat' (first
          | refine VC_seq ?_
          | refine VC_region ?_
          | refine VL_nil ?_
          | refine VC_ret ?_
          | refine VC_exit ?_
          | refine VC_block ?_
          | refine VC_skip ?_
          | refine VL_box (by rfl) (by rfl) (by rfl) ?_
          | refine VL_alloc (by rfl) (by rfl) ?_
          | refine VL_store1 (by rfl) (by rfl) (by rfl) (by rfl) (by rfl) (by rfl) ?_
          | refine VL_storeN (by rfl) (by rfl) (by rfl) (by rfl) (by rfl) _ (by rfl) (by rfl) ?_
          | refine VL_lits (by rfl) (by rfl) (by rfl) (by rfl) (by rfl) (by rfl) (by rfl) ?_
          | refine VL_lit1 (by rfl) (by rfl) (by rfl) (by rfl) (by rfl) ?_
          | refine VL_litsK (by rfl) (by rfl) (by rfl) (by rfl) (by rfl) (by rfl) (by rfl) ?_
          | refine VL_append (by rfl) (by rfl) (by rfl) (by rfl) (by omega) (by rfl) (by unfold maxLen; omega) (by omega) (by rfl) (by rfl) ?_
          | refine VL_q _ (by first | exact QS_indexAddr (k) (by rfl) (by rfl) (by omega) (by omega) | exact QS_mload1 (by rfl) (hcA 0 _ (by rfl)) | exact QS_mload1 (by rfl) (hcA _ _ (by rfl)) | exact QS_mloadN _ (by rfl) hcA _ (by rfl) | exact QS_mload1 (by rfl) (hcB 0 _ (by rfl)) | exact QS_mload1 (by rfl) (hcB _ _ (by rfl)) | exact QS_mloadN _ (by rfl) hcB _ (by rfl) | exact QS_move (by rfl) | exact QS_assign (by rfl) | exact QS_load1 (by rfl) (by rfl) (by rfl) | exact QS_loadA (by rfl) (by rfl) _ (by rfl) | exact QS_fieldAddr (by rfl) | exact QS_mfieldAddr (by rfl) | exact QS_field (by rfl) (by rfl) | exact QS_mload1 (by rfl) (by assumption) | exact QS_build _ (by rfl) (by rfl) (by rfl) | exact QS_not (by rfl) | exact QS_extract (by rfl) (by rfl) | exact QS_len (by rfl) | exact QS_lenStr (by rfl) | exact QS_lenRow (by rfl) (by rfl) | exact QS_pick_t (by rfl) (by first | rfl | assumption) (by rfl) | exact QS_pick_f (by rfl) (by first | rfl | assumption) (by rfl) | exact QS_bin (by rfl) (by rfl) (by first | exact B_lss | exact B_leq | exact B_gtr | exact B_geq | exact B_eql | exact B_neq | exact B_seql | exact B_sneq | exact B_slss | exact B_sgeq | exact B_sleq | exact B_sgtr | exact B_beql | exact B_bneq | exact B_slnil | exact Bq_eql_Span | exact Bq_neq_Span | exact Bq_eql_Eff | exact Bq_neq_Eff | exact Bq_eql_Msg | exact Bq_neq_Msg | exact Bq_eql_Pair | exact Bq_neq_Pair) | exact QS_bin (by rfl) (by rfl) (B_add (by omega) (by omega)) | exact QS_bin (by rfl) (by rfl) (B_sadd (by assumption)) | exact QS_bin (by rfl) (by rfl) (B_sub (by omega) (by omega))) (by rfl) ?_
          | refine VG_q _ (by first | exact QS_indexAddr (k) (by rfl) (by rfl) (by omega) (by omega) | exact QS_mload1 (by rfl) (hcA 0 _ (by rfl)) | exact QS_mload1 (by rfl) (hcA _ _ (by rfl)) | exact QS_mloadN _ (by rfl) hcA _ (by rfl) | exact QS_mload1 (by rfl) (hcB 0 _ (by rfl)) | exact QS_mload1 (by rfl) (hcB _ _ (by rfl)) | exact QS_mloadN _ (by rfl) hcB _ (by rfl) | exact QS_move (by rfl) | exact QS_assign (by rfl) | exact QS_load1 (by rfl) (by rfl) (by rfl) | exact QS_loadA (by rfl) (by rfl) _ (by rfl) | exact QS_fieldAddr (by rfl) | exact QS_mfieldAddr (by rfl) | exact QS_field (by rfl) (by rfl) | exact QS_mload1 (by rfl) (by assumption) | exact QS_build _ (by rfl) (by rfl) (by rfl) | exact QS_not (by rfl) | exact QS_extract (by rfl) (by rfl) | exact QS_len (by rfl) | exact QS_lenStr (by rfl) | exact QS_lenRow (by rfl) (by rfl) | exact QS_pick_t (by rfl) (by first | rfl | assumption) (by rfl) | exact QS_pick_f (by rfl) (by first | rfl | assumption) (by rfl) | exact QS_bin (by rfl) (by rfl) (by first | exact B_lss | exact B_leq | exact B_gtr | exact B_geq | exact B_eql | exact B_neq | exact B_seql | exact B_sneq | exact B_slss | exact B_sgeq | exact B_sleq | exact B_sgtr | exact B_beql | exact B_bneq | exact B_slnil | exact Bq_eql_Span | exact Bq_neq_Span | exact Bq_eql_Eff | exact Bq_neq_Eff | exact Bq_eql_Msg | exact Bq_neq_Msg | exact Bq_eql_Pair | exact Bq_neq_Pair) | exact QS_bin (by rfl) (by rfl) (B_add (by omega) (by omega)) | exact QS_bin (by rfl) (by rfl) (B_sadd (by assumption)) | exact QS_bin (by rfl) (by rfl) (B_sub (by omega) (by omega))) (by rfl) ?_
          | refine VS_st (by rfl) ?_
          | refine VS_q _ (by first | exact QS_indexAddr (k) (by rfl) (by rfl) (by omega) (by omega) | exact QS_mload1 (by rfl) (hcA 0 _ (by rfl)) | exact QS_mload1 (by rfl) (hcA _ _ (by rfl)) | exact QS_mloadN _ (by rfl) hcA _ (by rfl) | exact QS_mload1 (by rfl) (hcB 0 _ (by rfl)) | exact QS_mload1 (by rfl) (hcB _ _ (by rfl)) | exact QS_mloadN _ (by rfl) hcB _ (by rfl) | exact QS_move (by rfl) | exact QS_assign (by rfl) | exact QS_load1 (by rfl) (by rfl) (by rfl) | exact QS_loadA (by rfl) (by rfl) _ (by rfl) | exact QS_fieldAddr (by rfl) | exact QS_mfieldAddr (by rfl) | exact QS_field (by rfl) (by rfl) | exact QS_mload1 (by rfl) (by assumption) | exact QS_build _ (by rfl) (by rfl) (by rfl) | exact QS_not (by rfl) | exact QS_extract (by rfl) (by rfl) | exact QS_len (by rfl) | exact QS_lenStr (by rfl) | exact QS_lenRow (by rfl) (by rfl) | exact QS_pick_t (by rfl) (by first | rfl | assumption) (by rfl) | exact QS_pick_f (by rfl) (by first | rfl | assumption) (by rfl) | exact QS_bin (by rfl) (by rfl) (by first | exact B_lss | exact B_leq | exact B_gtr | exact B_geq | exact B_eql | exact B_neq | exact B_seql | exact B_sneq | exact B_slss | exact B_sgeq | exact B_sleq | exact B_sgtr | exact B_beql | exact B_bneq | exact B_slnil | exact Bq_eql_Span | exact Bq_neq_Span | exact Bq_eql_Eff | exact Bq_neq_Eff | exact Bq_eql_Msg | exact Bq_neq_Msg | exact Bq_eql_Pair | exact Bq_neq_Pair) | exact QS_bin (by rfl) (by rfl) (B_add (by omega) (by omega)) | exact QS_bin (by rfl) (by rfl) (B_sadd (by assumption)) | exact QS_bin (by rfl) (by rfl) (B_sub (by omega) (by omega))) (by rfl) (by rfl) ?_
          | refine VS_nil ?_
          | refine VE_q (by rfl) ?_
          | refine VE_st _ (by rfl) (by first | exact ES_store1 (by rfl) (by rfl) (by rfl) (by rfl) (by rfl) | exact ES_storeN (by rfl) (by rfl) (by rfl) (by rfl) (by rfl) _ (by rfl)) (by rfl) ?_
          | refine VE_nil ?_
          | refine VL_yes _ _ _ (by rfl) (by rfl) (by rfl) (by first | rfl | assumption) ?_
          | refine VL_no _ _ _ (by rfl) (by rfl) (by rfl) (by first | rfl | assumption) (by rfl) ?_
          | refine VG_yes _ _ _ (by rfl) (by rfl) (by rfl) (by first | rfl | assumption) ?_
          | refine VG_no _ _ _ (by rfl) (by rfl) (by rfl) (by first | rfl | assumption) (by rfl) ?_
          | refine VL_noU _ _ (by rfl) (by rfl) (by rfl) (by rfl) ?_
          | refine VG_noU _ _ (by rfl) (by rfl) (by rfl) (by rfl) ?_
          | refine VG_nil ⟨by rfl, ?_⟩
          | refine VG_nil ?_
          | refine VC_drawT (by decide +kernel) ?_
          | refine VC_draw1 (by rfl) (by decide +kernel) (by rfl) (by rfl) ?_
          | refine VC_drawQ (by rfl) (by decide +kernel) ?_
          | refine VC_true (by rfl) (by first | rfl | assumption) ?_
          | refine VC_false (by rfl) (by first | rfl | assumption) ?_
          | refine VL_dec _ _ _ (by rfl) (by rfl) (by rfl) (fun hq => ?_) (fun hq => ?_)
          | refine VG_dec _ _ _ (by rfl) (by rfl) (by rfl) (fun hq => ?_) (fun hq => ?_)
          | refine VC_cond _ (by rfl) (fun hq => ?_) (fun hq => ?_))
        refine forQ_next [] (k + 1) ⟨rfl, rfl, trivial, ⟨rfl, rfl, rfl, trivial⟩⟩ ⟨by omega, ?_⟩ (by omega)
        rw [List.take_succ_eq_append_getElem hlt, List.take_succ_eq_append_getElem hlt', he]
        have : l[k] = m[k] := by simpa [eqv] using hq
        rw [this]
    · have hd := dge hge
      have h1 : k = l.length := by omega
      repeat' (first
        | refine VC_seq ?_
        | refine VC_region ?_
        | refine VL_nil ?_
        | refine VC_ret ?_
        | refine VC_exit ?_
        | refine VC_block ?_
        | refine VC_skip ?_
        | refine VL_box (by rfl) (by rfl) (by rfl) ?_
        | refine VL_alloc (by rfl) (by rfl) ?_
        | refine VL_store1 (by rfl) (by rfl) (by rfl) (by rfl) (by rfl) (by rfl) ?_
        | refine VL_storeN (by rfl) (by rfl) (by rfl) (by rfl) (by rfl) _ (by rfl) (by rfl) ?_
        | refine VL_lits (by rfl) (by rfl) (by rfl) (by rfl) (by rfl) (by rfl) (by rfl) ?_
        | refine VL_lit1 (by rfl) (by rfl) (by rfl) (by rfl) (by rfl) ?_
        | refine VL_litsK (by rfl) (by rfl) (by rfl) (by rfl) (by rfl) (by rfl) (by rfl) ?_
        | refine VL_append (by rfl) (by rfl) (by rfl) (by rfl) (by omega) (by rfl) (by unfold maxLen; omega) (by omega) (by rfl) (by rfl) ?_
        | refine VL_q _ (by first  | exact QS_move (by rfl) | exact QS_assign (by rfl) | exact QS_load1 (by rfl) (by rfl) (by rfl) | exact QS_loadA (by rfl) (by rfl) _ (by rfl) | exact QS_fieldAddr (by rfl) | exact QS_mfieldAddr (by rfl) | exact QS_field (by rfl) (by rfl) | exact QS_mload1 (by rfl) (by assumption) | exact QS_build _ (by rfl) (by rfl) (by rfl) | exact QS_not (by rfl) | exact QS_extract (by rfl) (by rfl) | exact QS_len (by rfl) | exact QS_lenStr (by rfl) | exact QS_lenRow (by rfl) (by rfl) | exact QS_pick_t (by rfl) (by first | rfl | assumption) (by rfl) | exact QS_pick_f (by rfl) (by first | rfl | assumption) (by rfl) | exact QS_bin (by rfl) (by rfl) (by first | exact B_lss | exact B_leq | exact B_gtr | exact B_geq | exact B_eql | exact B_neq | exact B_seql | exact B_sneq | exact B_slss | exact B_sgeq | exact B_sleq | exact B_sgtr | exact B_beql | exact B_bneq | exact B_slnil | exact Bq_eql_Span | exact Bq_neq_Span | exact Bq_eql_Eff | exact Bq_neq_Eff | exact Bq_eql_Msg | exact Bq_neq_Msg | exact Bq_eql_Pair | exact Bq_neq_Pair) | exact QS_bin (by rfl) (by rfl) (B_add (by omega) (by omega)) | exact QS_bin (by rfl) (by rfl) (B_sadd (by assumption)) | exact QS_bin (by rfl) (by rfl) (B_sub (by omega) (by omega))) (by rfl) ?_
        | refine VG_q _ (by first  | exact QS_move (by rfl) | exact QS_assign (by rfl) | exact QS_load1 (by rfl) (by rfl) (by rfl) | exact QS_loadA (by rfl) (by rfl) _ (by rfl) | exact QS_fieldAddr (by rfl) | exact QS_mfieldAddr (by rfl) | exact QS_field (by rfl) (by rfl) | exact QS_mload1 (by rfl) (by assumption) | exact QS_build _ (by rfl) (by rfl) (by rfl) | exact QS_not (by rfl) | exact QS_extract (by rfl) (by rfl) | exact QS_len (by rfl) | exact QS_lenStr (by rfl) | exact QS_lenRow (by rfl) (by rfl) | exact QS_pick_t (by rfl) (by first | rfl | assumption) (by rfl) | exact QS_pick_f (by rfl) (by first | rfl | assumption) (by rfl) | exact QS_bin (by rfl) (by rfl) (by first | exact B_lss | exact B_leq | exact B_gtr | exact B_geq | exact B_eql | exact B_neq | exact B_seql | exact B_sneq | exact B_slss | exact B_sgeq | exact B_sleq | exact B_sgtr | exact B_beql | exact B_bneq | exact B_slnil | exact Bq_eql_Span | exact Bq_neq_Span | exact Bq_eql_Eff | exact Bq_neq_Eff | exact Bq_eql_Msg | exact Bq_neq_Msg | exact Bq_eql_Pair | exact Bq_neq_Pair) | exact QS_bin (by rfl) (by rfl) (B_add (by omega) (by omega)) | exact QS_bin (by rfl) (by rfl) (B_sadd (by assumption)) | exact QS_bin (by rfl) (by rfl) (B_sub (by omega) (by omega))) (by rfl) ?_
        | refine VS_st (by rfl) ?_
        | refine VS_q _ (by first  | exact QS_move (by rfl) | exact QS_assign (by rfl) | exact QS_load1 (by rfl) (by rfl) (by rfl) | exact QS_loadA (by rfl) (by rfl) _ (by rfl) | exact QS_fieldAddr (by rfl) | exact QS_mfieldAddr (by rfl) | exact QS_field (by rfl) (by rfl) | exact QS_mload1 (by rfl) (by assumption) | exact QS_build _ (by rfl) (by rfl) (by rfl) | exact QS_not (by rfl) | exact QS_extract (by rfl) (by rfl) | exact QS_len (by rfl) | exact QS_lenStr (by rfl) | exact QS_lenRow (by rfl) (by rfl) | exact QS_pick_t (by rfl) (by first | rfl | assumption) (by rfl) | exact QS_pick_f (by rfl) (by first | rfl | assumption) (by rfl) | exact QS_bin (by rfl) (by rfl) (by first | exact B_lss | exact B_leq | exact B_gtr | exact B_geq | exact B_eql | exact B_neq | exact B_seql | exact B_sneq | exact B_slss | exact B_sgeq | exact B_sleq | exact B_sgtr | exact B_beql | exact B_bneq | exact B_slnil | exact Bq_eql_Span | exact Bq_neq_Span | exact Bq_eql_Eff | exact Bq_neq_Eff | exact Bq_eql_Msg | exact Bq_neq_Msg | exact Bq_eql_Pair | exact Bq_neq_Pair) | exact QS_bin (by rfl) (by rfl) (B_add (by omega) (by omega)) | exact QS_bin (by rfl) (by rfl) (B_sadd (by assumption)) | exact QS_bin (by rfl) (by rfl) (B_sub (by omega) (by omega))) (by rfl) (by rfl) ?_
        | refine VS_nil ?_
        | refine VE_q (by rfl) ?_
        | refine VE_st _ (by rfl) (by first | exact ES_store1 (by rfl) (by rfl) (by rfl) (by rfl) (by rfl) | exact ES_storeN (by rfl) (by rfl) (by rfl) (by rfl) (by rfl) _ (by rfl)) (by rfl) ?_
        | refine VE_nil ?_
        | refine VL_yes _ _ _ (by rfl) (by rfl) (by rfl) (by first | rfl | assumption) ?_
        | refine VL_no _ _ _ (by rfl) (by rfl) (by rfl) (by first | rfl | assumption) (by rfl) ?_
        | refine VG_yes _ _ _ (by rfl) (by rfl) (by rfl) (by first | rfl | assumption) ?_
        | refine VG_no _ _ _ (by rfl) (by rfl) (by rfl) (by first | rfl | assumption) (by rfl) ?_
        | refine VL_noU _ _ (by rfl) (by rfl) (by rfl) (by rfl) ?_
        | refine VG_noU _ _ (by rfl) (by rfl) (by rfl) (by rfl) ?_
        | refine VG_nil ⟨by rfl, ?_⟩
        | refine VG_nil ?_
        | refine VC_drawT (by decide +kernel) ?_
        | refine VC_draw1 (by rfl) (by decide +kernel) (by rfl) (by rfl) ?_
        | refine VC_drawQ (by rfl) (by decide +kernel) ?_
        | refine VC_true (by rfl) (by first | rfl | assumption) ?_
        | refine VC_false (by rfl) (by first | rfl | assumption) ?_
        | refine VL_dec _ _ _ (by rfl) (by rfl) (by rfl) (fun hq => ?_) (fun hq => ?_)
        | refine VG_dec _ _ _ (by rfl) (by rfl) (by rfl) (fun hq => ?_) (fun hq => ?_)
        | refine VC_cond _ (by rfl) (fun hq => ?_) (fun hq => ?_))
      show Res _ _ _ _
      refine Res.one (by rfl) (ResV_tmp (by rfl) ?_)
      refine congrArg Value.bool ?_
      refine (decide_eq_true ?_).symm
      rw [h1, List.take_length, hlen, List.take_length] at he
      exact he
  · have hne : ((l.length : Int) != (m.length : Int)) = true := by
      have : (l.length : Int) ≠ m.length := by omega
      simpa using this
    refine V_flat (args := [.slice A l.length c, .slice B m.length c']) (M := Mem.of w) Try.func42 rfl Try.ntmps42 (by rfl) (Mem.le_refl _) ?_
    repeat' (first
      | refine VC_seq ?_
      | refine VC_region ?_
      | refine VL_nil ?_
      | refine VC_ret ?_
      | refine VC_exit ?_
      | refine VC_block ?_
      | refine VC_skip ?_
      | refine VL_box (by rfl) (by rfl) (by rfl) ?_
      | refine VL_alloc (by rfl) (by rfl) ?_
      | refine VL_store1 (by rfl) (by rfl) (by rfl) (by rfl) (by rfl) (by rfl) ?_
      | refine VL_storeN (by rfl) (by rfl) (by rfl) (by rfl) (by rfl) _ (by rfl) (by rfl) ?_
      | refine VL_lits (by rfl) (by rfl) (by rfl) (by rfl) (by rfl) (by rfl) (by rfl) ?_
      | refine VL_lit1 (by rfl) (by rfl) (by rfl) (by rfl) (by rfl) ?_
      | refine VL_litsK (by rfl) (by rfl) (by rfl) (by rfl) (by rfl) (by rfl) (by rfl) ?_
      | refine VL_append (by rfl) (by rfl) (by rfl) (by rfl) (by omega) (by rfl) (by unfold maxLen; omega) (by omega) (by rfl) (by rfl) ?_
      | refine VL_q _ (by first  | exact QS_move (by rfl) | exact QS_assign (by rfl) | exact QS_load1 (by rfl) (by rfl) (by rfl) | exact QS_loadA (by rfl) (by rfl) _ (by rfl) | exact QS_fieldAddr (by rfl) | exact QS_mfieldAddr (by rfl) | exact QS_field (by rfl) (by rfl) | exact QS_mload1 (by rfl) (by assumption) | exact QS_build _ (by rfl) (by rfl) (by rfl) | exact QS_not (by rfl) | exact QS_extract (by rfl) (by rfl) | exact QS_len (by rfl) | exact QS_lenStr (by rfl) | exact QS_lenRow (by rfl) (by rfl) | exact QS_pick_t (by rfl) (by first | rfl | assumption) (by rfl) | exact QS_pick_f (by rfl) (by first | rfl | assumption) (by rfl) | exact QS_bin (by rfl) (by rfl) (by first | exact B_lss | exact B_leq | exact B_gtr | exact B_geq | exact B_eql | exact B_neq | exact B_seql | exact B_sneq | exact B_slss | exact B_sgeq | exact B_sleq | exact B_sgtr | exact B_beql | exact B_bneq | exact B_slnil | exact Bq_eql_Span | exact Bq_neq_Span | exact Bq_eql_Eff | exact Bq_neq_Eff | exact Bq_eql_Msg | exact Bq_neq_Msg | exact Bq_eql_Pair | exact Bq_neq_Pair) | exact QS_bin (by rfl) (by rfl) (B_add (by omega) (by omega)) | exact QS_bin (by rfl) (by rfl) (B_sadd (by assumption)) | exact QS_bin (by rfl) (by rfl) (B_sub (by omega) (by omega))) (by rfl) ?_
      | refine VG_q _ (by first  | exact QS_move (by rfl) | exact QS_assign (by rfl) | exact QS_load1 (by rfl) (by rfl) (by rfl) | exact QS_loadA (by rfl) (by rfl) _ (by rfl) | exact QS_fieldAddr (by rfl) | exact QS_mfieldAddr (by rfl) | exact QS_field (by rfl) (by rfl) | exact QS_mload1 (by rfl) (by assumption) | exact QS_build _ (by rfl) (by rfl) (by rfl) | exact QS_not (by rfl) | exact QS_extract (by rfl) (by rfl) | exact QS_len (by rfl) | exact QS_lenStr (by rfl) | exact QS_lenRow (by rfl) (by rfl) | exact QS_pick_t (by rfl) (by first | rfl | assumption) (by rfl) | exact QS_pick_f (by rfl) (by first | rfl | assumption) (by rfl) | exact QS_bin (by rfl) (by rfl) (by first | exact B_lss | exact B_leq | exact B_gtr | exact B_geq | exact B_eql | exact B_neq | exact B_seql | exact B_sneq | exact B_slss | exact B_sgeq | exact B_sleq | exact B_sgtr | exact B_beql | exact B_bneq | exact B_slnil | exact Bq_eql_Span | exact Bq_neq_Span | exact Bq_eql_Eff | exact Bq_neq_Eff | exact Bq_eql_Msg | exact Bq_neq_Msg | exact Bq_eql_Pair | exact Bq_neq_Pair) | exact QS_bin (by rfl) (by rfl) (B_add (by omega) (by omega)) | exact QS_bin (by rfl) (by rfl) (B_sadd (by assumption)) | exact QS_bin (by rfl) (by rfl) (B_sub (by omega) (by omega))) (by rfl) ?_
      | refine VS_st (by rfl) ?_
      | refine VS_q _ (by first  | exact QS_move (by rfl) | exact QS_assign (by rfl) | exact QS_load1 (by rfl) (by rfl) (by rfl) | exact QS_loadA (by rfl) (by rfl) _ (by rfl) | exact QS_fieldAddr (by rfl) | exact QS_mfieldAddr (by rfl) | exact QS_field (by rfl) (by rfl) | exact QS_mload1 (by rfl) (by assumption) | exact QS_build _ (by rfl) (by rfl) (by rfl) | exact QS_not (by rfl) | exact QS_extract (by rfl) (by rfl) | exact QS_len (by rfl) | exact QS_lenStr (by rfl) | exact QS_lenRow (by rfl) (by rfl) | exact QS_pick_t (by rfl) (by first | rfl | assumption) (by rfl) | exact QS_pick_f (by rfl) (by first | rfl | assumption) (by rfl) | exact QS_bin (by rfl) (by rfl) (by first | exact B_lss | exact B_leq | exact B_gtr | exact B_geq | exact B_eql | exact B_neq | exact B_seql | exact B_sneq | exact B_slss | exact B_sgeq | exact B_sleq | exact B_sgtr | exact B_beql | exact B_bneq | exact B_slnil | exact Bq_eql_Span | exact Bq_neq_Span | exact Bq_eql_Eff | exact Bq_neq_Eff | exact Bq_eql_Msg | exact Bq_neq_Msg | exact Bq_eql_Pair | exact Bq_neq_Pair) | exact QS_bin (by rfl) (by rfl) (B_add (by omega) (by omega)) | exact QS_bin (by rfl) (by rfl) (B_sadd (by assumption)) | exact QS_bin (by rfl) (by rfl) (B_sub (by omega) (by omega))) (by rfl) (by rfl) ?_
      | refine VS_nil ?_
      | refine VE_q (by rfl) ?_
      | refine VE_st _ (by rfl) (by first | exact ES_store1 (by rfl) (by rfl) (by rfl) (by rfl) (by rfl) | exact ES_storeN (by rfl) (by rfl) (by rfl) (by rfl) (by rfl) _ (by rfl)) (by rfl) ?_
      | refine VE_nil ?_
      | refine VL_yes _ _ _ (by rfl) (by rfl) (by rfl) (by first | rfl | assumption) ?_
      | refine VL_no _ _ _ (by rfl) (by rfl) (by rfl) (by first | rfl | assumption) (by rfl) ?_
      | refine VG_yes _ _ _ (by rfl) (by rfl) (by rfl) (by first | rfl | assumption) ?_
      | refine VG_no _ _ _ (by rfl) (by rfl) (by rfl) (by first | rfl | assumption) (by rfl) ?_
      | refine VL_noU _ _ (by rfl) (by rfl) (by rfl) (by rfl) ?_
      | refine VG_noU _ _ (by rfl) (by rfl) (by rfl) (by rfl) ?_
      | refine VG_nil ⟨by rfl, ?_⟩
      | refine VG_nil ?_
      | refine VC_drawT (by decide +kernel) ?_
      | refine VC_draw1 (by rfl) (by decide +kernel) (by rfl) (by rfl) ?_
      | refine VC_drawQ (by rfl) (by decide +kernel) ?_
      | refine VC_true (by rfl) (by first | rfl | assumption) ?_
      | refine VC_false (by rfl) (by first | rfl | assumption) ?_
      | refine VL_dec _ _ _ (by rfl) (by rfl) (by rfl) (fun hq => ?_) (fun hq => ?_)
      | refine VG_dec _ _ _ (by rfl) (by rfl) (by rfl) (fun hq => ?_) (fun hq => ?_)
      | refine VC_cond _ (by rfl) (fun hq => ?_) (fun hq => ?_))
    show Res _ _ _ _
    refine Res.one (by rfl) (ResV_tmp (by rfl) ?_)
    refine congrArg Value.bool ?_
    exact (decide_eq_false fun e => hlen (by rw [e])).symm
end Go.Proofs.Ytipbbbamjckjoaa
