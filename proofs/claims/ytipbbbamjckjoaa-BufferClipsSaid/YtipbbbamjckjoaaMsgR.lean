/- The walks of the reference's messages, by the logic of own blocks. -/
import Derived.Test.YtipbbbamjckjoaaMsgV
import Derived.Test.YtipbbbamjckjoaaEnds
namespace Go.Proofs.Ytipbbbamjckjoaa
open Go Go.RowKit
set_option linter.unusedVariables false
set_option maxRecDepth 20000
set_option linter.unusedSimpArgs false
theorem spanM_size (m : Msg) {n : Nat} (h1 : m.key.size < n) (h2 : m.hi.size ≤ n) : (spanM m).lo.size ≤ n ∧ (spanM m).hi.size ≤ n := by
  unfold spanM
  split
  · exact ⟨by simp only []; omega, h2⟩
  · refine ⟨by simp only [point]; omega, ?_⟩
    show (nx m.key).size ≤ n
    rw [size_nx]; omega
theorem meet_size (a b : Span) {n : Nat} (h1 : a.lo.size ≤ n) (h2 : a.hi.size ≤ n) (h3 : b.lo.size ≤ n) (h4 : b.hi.size ≤ n) : (meet a b).lo.size ≤ n ∧ (meet a b).hi.size ≤ n := by
  have e : em.size = 0 := rfl
  have k1 : (rawMeet a b).lo.size ≤ n := by simp only [rawMeet, meetLo, mx]; split <;> assumption
  have k2 : (rawMeet a b).hi.size ≤ n := by
    simp only [rawMeet, meetHi, mn]
    split
    · assumption
    · split
      · assumption
      · split <;> assumption
  unfold meet norm
  split
  · exact ⟨by simp [spE, e], by simp [spE, e]⟩
  · split
    · exact ⟨k1, by simp [e]⟩
    · exact ⟨k1, k2⟩
theorem ref_Long (m : Msg) (most : Int) (w : World) (h : m.In) :
    Calls Try.prog 14 #[.agg #[.int .i64 m.stamp, .int .i64 m.kind, .string m.key, .string m.hi, .bool m.opn, .string m.val], .int .i64 most] w fun e w' => e = .returned (.bool (longM m most)) ∧ Below w.heap.size w w' := by
  refine V_flat (args := [.agg #[.int .i64 m.stamp, .int .i64 m.kind, .string m.key, .string m.hi, .bool m.opn, .string m.val], .int .i64 most]) (M := Mem.no) Try.func14 rfl Try.ntmps14 (by rfl) (Mem.no_le _) ?_
  repeat' (first
    | refine VC_seq ?_
    | refine VC_region ?_
    | refine VL_nil ?_
    | refine VC_ret ?_
    | refine VC_exit ?_
    | refine VC_block ?_
    | refine VC_skip ?_
    | refine VL_box (by rfl) (by rfl) (by rfl) ?_
    | refine VL_alloc (by rfl) (by rfl) ?_
    | refine VL_store1 (by rfl) (by rfl) (by rfl) (by rfl) (by rfl) (by rfl) ?_
    | refine VL_storeN (by rfl) (by rfl) (by rfl) (by rfl) (by rfl) _ (by rfl) (by rfl) ?_
    | refine VL_lits (by rfl) (by rfl) (by rfl) (by rfl) (by rfl) (by rfl) (by rfl) ?_
    | refine VL_lit1 (by rfl) (by rfl) (by rfl) (by rfl) (by rfl) ?_
    | refine VL_litsK (by rfl) (by rfl) (by rfl) (by rfl) (by rfl) (by rfl) (by rfl) ?_
    | refine VL_append (by rfl) (by rfl) (by rfl) (by rfl) (by omega) (by rfl) (by unfold maxLen; omega) (by omega) (by rfl) (by rfl) ?_
    | refine VL_q _ (by first  | exact QS_move (by rfl) | exact QS_assign (by rfl) | exact QS_load1 (by rfl) (by rfl) (by rfl) | exact QS_loadA (by rfl) (by rfl) _ (by rfl) | exact QS_fieldAddr (by rfl) | exact QS_mfieldAddr (by rfl) | exact QS_field (by rfl) (by rfl) | exact QS_mload1 (by rfl) (by assumption) | exact QS_build _ (by rfl) (by rfl) (by rfl) | exact QS_not (by rfl) | exact QS_extract (by rfl) (by rfl) | exact QS_len (by rfl) | exact QS_lenStr (by rfl) | exact QS_lenRow (by rfl) (by rfl) | exact QS_pick_t (by rfl) (by first | rfl | assumption) (by rfl) | exact QS_pick_f (by rfl) (by first | rfl | assumption) (by rfl) | exact QS_bin (by rfl) (by rfl) (by first | exact B_lss | exact B_leq | exact B_gtr | exact B_geq | exact B_eql | exact B_neq | exact B_seql | exact B_sneq | exact B_slss | exact B_sgeq | exact B_sleq | exact B_sgtr | exact B_beql | exact B_bneq | exact B_slnil | exact Bq_eql_Span | exact Bq_neq_Span | exact Bq_eql_Eff | exact Bq_neq_Eff | exact Bq_eql_Msg | exact Bq_neq_Msg | exact Bq_eql_Pair | exact Bq_neq_Pair) | exact QS_bin (by rfl) (by rfl) (B_add (by omega) (by omega)) | exact QS_bin (by rfl) (by rfl) (B_sadd (by assumption)) | exact QS_bin (by rfl) (by rfl) (B_sub (by omega) (by omega))) (by rfl) ?_
    | refine VG_q _ (by first  | exact QS_move (by rfl) | exact QS_assign (by rfl) | exact QS_load1 (by rfl) (by rfl) (by rfl) | exact QS_loadA (by rfl) (by rfl) _ (by rfl) | exact QS_fieldAddr (by rfl) | exact QS_mfieldAddr (by rfl) | exact QS_field (by rfl) (by rfl) | exact QS_mload1 (by rfl) (by assumption) | exact QS_build _ (by rfl) (by rfl) (by rfl) | exact QS_not (by rfl) | exact QS_extract (by rfl) (by rfl) | exact QS_len (by rfl) | exact QS_lenStr (by rfl) | exact QS_lenRow (by rfl) (by rfl) | exact QS_pick_t (by rfl) (by first | rfl | assumption) (by rfl) | exact QS_pick_f (by rfl) (by first | rfl | assumption) (by rfl) | exact QS_bin (by rfl) (by rfl) (by first | exact B_lss | exact B_leq | exact B_gtr | exact B_geq | exact B_eql | exact B_neq | exact B_seql | exact B_sneq | exact B_slss | exact B_sgeq | exact B_sleq | exact B_sgtr | exact B_beql | exact B_bneq | exact B_slnil | exact Bq_eql_Span | exact Bq_neq_Span | exact Bq_eql_Eff | exact Bq_neq_Eff | exact Bq_eql_Msg | exact Bq_neq_Msg | exact Bq_eql_Pair | exact Bq_neq_Pair) | exact QS_bin (by rfl) (by rfl) (B_add (by omega) (by omega)) | exact QS_bin (by rfl) (by rfl) (B_sadd (by assumption)) | exact QS_bin (by rfl) (by rfl) (B_sub (by omega) (by omega))) (by rfl) ?_
    | refine VS_st (by rfl) ?_
    | refine VS_q _ (by first  | exact QS_move (by rfl) | exact QS_assign (by rfl) | exact QS_load1 (by rfl) (by rfl) (by rfl) | exact QS_loadA (by rfl) (by rfl) _ (by rfl) | exact QS_fieldAddr (by rfl) | exact QS_mfieldAddr (by rfl) | exact QS_field (by rfl) (by rfl) | exact QS_mload1 (by rfl) (by assumption) | exact QS_build _ (by rfl) (by rfl) (by rfl) | exact QS_not (by rfl) | exact QS_extract (by rfl) (by rfl) | exact QS_len (by rfl) | exact QS_lenStr (by rfl) | exact QS_lenRow (by rfl) (by rfl) | exact QS_pick_t (by rfl) (by first | rfl | assumption) (by rfl) | exact QS_pick_f (by rfl) (by first | rfl | assumption) (by rfl) | exact QS_bin (by rfl) (by rfl) (by first | exact B_lss | exact B_leq | exact B_gtr | exact B_geq | exact B_eql | exact B_neq | exact B_seql | exact B_sneq | exact B_slss | exact B_sgeq | exact B_sleq | exact B_sgtr | exact B_beql | exact B_bneq | exact B_slnil | exact Bq_eql_Span | exact Bq_neq_Span | exact Bq_eql_Eff | exact Bq_neq_Eff | exact Bq_eql_Msg | exact Bq_neq_Msg | exact Bq_eql_Pair | exact Bq_neq_Pair) | exact QS_bin (by rfl) (by rfl) (B_add (by omega) (by omega)) | exact QS_bin (by rfl) (by rfl) (B_sadd (by assumption)) | exact QS_bin (by rfl) (by rfl) (B_sub (by omega) (by omega))) (by rfl) (by rfl) ?_
    | refine VS_nil ?_
    | refine VE_q (by rfl) ?_
    | refine VE_st _ (by rfl) (by first | exact ES_store1 (by rfl) (by rfl) (by rfl) (by rfl) (by rfl) | exact ES_storeN (by rfl) (by rfl) (by rfl) (by rfl) (by rfl) _ (by rfl)) (by rfl) ?_
    | refine VE_nil ?_
    | refine VL_yes _ _ _ (by rfl) (by rfl) (by rfl) (by first | rfl | assumption) ?_
    | refine VL_no _ _ _ (by rfl) (by rfl) (by rfl) (by first | rfl | assumption) (by rfl) ?_
    | refine VG_yes _ _ _ (by rfl) (by rfl) (by rfl) (by first | rfl | assumption) ?_
    | refine VG_no _ _ _ (by rfl) (by rfl) (by rfl) (by first | rfl | assumption) (by rfl) ?_
    | refine VL_noU _ _ (by rfl) (by rfl) (by rfl) (by rfl) ?_
    | refine VG_noU _ _ (by rfl) (by rfl) (by rfl) (by rfl) ?_
    | refine VG_nil ⟨by rfl, ?_⟩
    | refine VG_nil ?_
    | refine VC_drawT (by decide +kernel) ?_
    | refine VC_draw1 (by rfl) (by decide +kernel) (by rfl) (by rfl) ?_
    | refine VC_drawQ (by rfl) (by decide +kernel) ?_
    | refine VC_true (by rfl) (by first | rfl | assumption) ?_
    | refine VC_false (by rfl) (by first | rfl | assumption) ?_
    | refine VL_dec _ _ _ (by rfl) (by rfl) (by rfl) (fun hq => ?_) (fun hq => ?_)
    | refine VG_dec _ _ _ (by rfl) (by rfl) (by rfl) (fun hq => ?_) (fun hq => ?_)
    | refine VC_cond _ (by rfl) (fun hq => ?_) (fun hq => ?_))
  all_goals
    show Res _ _ _ _
    refine Res.one (by rfl) (ResV_tmp (by rfl) ?_)
    refine congrArg Value.bool ?_
    simp_all [longM]
    try (intros; omega)
set_option maxHeartbeats 2000000 in
theorem ref_RightM (m : Msg) (w : World) (h1 : m.key.size ≤ 1000000) (h2 : m.hi.size ≤ 1000000) (h3 : m.val.size ≤ 1000000) :
    Calls Try.prog 18 #[.agg #[.int .i64 m.stamp, .int .i64 m.kind, .string m.key, .string m.hi, .bool m.opn, .string m.val]] w fun e w' => e = .returned (.bool (refRightM m)) ∧ Below w.heap.size w w' := by
  have hs := spanM_size m (n := 1000001) (by omega) (by omega)
  have k1 : (spanM m).lo.size ≤ maxLen := by unfold maxLen; omega
  have k2 : (spanM m).hi.size ≤ maxLen := by unfold maxLen; omega
  clear hs
  refine V_flat (args := [.agg #[.int .i64 m.stamp, .int .i64 m.kind, .string m.key, .string m.hi, .bool m.opn, .string m.val]]) (M := Mem.no) Try.func18 rfl Try.ntmps18 (by rfl) (Mem.no_le _) ?_
  repeat' (first
    | refine VC_seq ?_
    | refine VC_region ?_
    | refine VL_nil ?_
    | refine VC_ret ?_
    | refine VC_exit ?_
    | refine VC_block ?_
    | refine VC_skip ?_
    | refine VL_box (by rfl) (by rfl) (by rfl) ?_
    | refine VL_alloc (by rfl) (by rfl) ?_
    | refine VL_store1 (by rfl) (by rfl) (by rfl) (by rfl) (by rfl) (by rfl) ?_
    | refine VL_storeN (by rfl) (by rfl) (by rfl) (by rfl) (by rfl) _ (by rfl) (by rfl) ?_
    | refine VL_lits (by rfl) (by rfl) (by rfl) (by rfl) (by rfl) (by rfl) (by rfl) ?_
    | refine VL_lit1 (by rfl) (by rfl) (by rfl) (by rfl) (by rfl) ?_
    | refine VL_litsK (by rfl) (by rfl) (by rfl) (by rfl) (by rfl) (by rfl) (by rfl) ?_
    | refine VL_append (by rfl) (by rfl) (by rfl) (by rfl) (by omega) (by rfl) (by unfold maxLen; omega) (by omega) (by rfl) (by rfl) ?_
    | refine VL_q _ (by first | exact QS_call (by rfl) (fun W _ => ref_SpanM _ W (by assumption)) | exact QS_call (by rfl) (fun W _ => ref_Empty (spanM m) W k1 k2) | exact QS_move (by rfl) | exact QS_assign (by rfl) | exact QS_load1 (by rfl) (by rfl) (by rfl) | exact QS_loadA (by rfl) (by rfl) _ (by rfl) | exact QS_fieldAddr (by rfl) | exact QS_mfieldAddr (by rfl) | exact QS_field (by rfl) (by rfl) | exact QS_mload1 (by rfl) (by assumption) | exact QS_build _ (by rfl) (by rfl) (by rfl) | exact QS_not (by rfl) | exact QS_extract (by rfl) (by rfl) | exact QS_len (by rfl) | exact QS_lenStr (by rfl) | exact QS_lenRow (by rfl) (by rfl) | exact QS_pick_t (by rfl) (by first | rfl | assumption) (by rfl) | exact QS_pick_f (by rfl) (by first | rfl | assumption) (by rfl) | exact QS_bin (by rfl) (by rfl) (by first | exact B_lss | exact B_leq | exact B_gtr | exact B_geq | exact B_eql | exact B_neq | exact B_seql | exact B_sneq | exact B_slss | exact B_sgeq | exact B_sleq | exact B_sgtr | exact B_beql | exact B_bneq | exact B_slnil | exact Bq_eql_Span | exact Bq_neq_Span | exact Bq_eql_Eff | exact Bq_neq_Eff | exact Bq_eql_Msg | exact Bq_neq_Msg | exact Bq_eql_Pair | exact Bq_neq_Pair) | exact QS_bin (by rfl) (by rfl) (B_add (by omega) (by omega)) | exact QS_bin (by rfl) (by rfl) (B_sadd (by assumption)) | exact QS_bin (by rfl) (by rfl) (B_sub (by omega) (by omega))) (by rfl) ?_
    | refine VG_q _ (by first | exact QS_call (by rfl) (fun W _ => ref_SpanM _ W (by assumption)) | exact QS_call (by rfl) (fun W _ => ref_Empty (spanM m) W k1 k2) | exact QS_move (by rfl) | exact QS_assign (by rfl) | exact QS_load1 (by rfl) (by rfl) (by rfl) | exact QS_loadA (by rfl) (by rfl) _ (by rfl) | exact QS_fieldAddr (by rfl) | exact QS_mfieldAddr (by rfl) | exact QS_field (by rfl) (by rfl) | exact QS_mload1 (by rfl) (by assumption) | exact QS_build _ (by rfl) (by rfl) (by rfl) | exact QS_not (by rfl) | exact QS_extract (by rfl) (by rfl) | exact QS_len (by rfl) | exact QS_lenStr (by rfl) | exact QS_lenRow (by rfl) (by rfl) | exact QS_pick_t (by rfl) (by first | rfl | assumption) (by rfl) | exact QS_pick_f (by rfl) (by first | rfl | assumption) (by rfl) | exact QS_bin (by rfl) (by rfl) (by first | exact B_lss | exact B_leq | exact B_gtr | exact B_geq | exact B_eql | exact B_neq | exact B_seql | exact B_sneq | exact B_slss | exact B_sgeq | exact B_sleq | exact B_sgtr | exact B_beql | exact B_bneq | exact B_slnil | exact Bq_eql_Span | exact Bq_neq_Span | exact Bq_eql_Eff | exact Bq_neq_Eff | exact Bq_eql_Msg | exact Bq_neq_Msg | exact Bq_eql_Pair | exact Bq_neq_Pair) | exact QS_bin (by rfl) (by rfl) (B_add (by omega) (by omega)) | exact QS_bin (by rfl) (by rfl) (B_sadd (by assumption)) | exact QS_bin (by rfl) (by rfl) (B_sub (by omega) (by omega))) (by rfl) ?_
    | refine VS_st (by rfl) ?_
    | refine VS_q _ (by first | exact QS_call (by rfl) (fun W _ => ref_SpanM _ W (by assumption)) | exact QS_call (by rfl) (fun W _ => ref_Empty (spanM m) W k1 k2) | exact QS_move (by rfl) | exact QS_assign (by rfl) | exact QS_load1 (by rfl) (by rfl) (by rfl) | exact QS_loadA (by rfl) (by rfl) _ (by rfl) | exact QS_fieldAddr (by rfl) | exact QS_mfieldAddr (by rfl) | exact QS_field (by rfl) (by rfl) | exact QS_mload1 (by rfl) (by assumption) | exact QS_build _ (by rfl) (by rfl) (by rfl) | exact QS_not (by rfl) | exact QS_extract (by rfl) (by rfl) | exact QS_len (by rfl) | exact QS_lenStr (by rfl) | exact QS_lenRow (by rfl) (by rfl) | exact QS_pick_t (by rfl) (by first | rfl | assumption) (by rfl) | exact QS_pick_f (by rfl) (by first | rfl | assumption) (by rfl) | exact QS_bin (by rfl) (by rfl) (by first | exact B_lss | exact B_leq | exact B_gtr | exact B_geq | exact B_eql | exact B_neq | exact B_seql | exact B_sneq | exact B_slss | exact B_sgeq | exact B_sleq | exact B_sgtr | exact B_beql | exact B_bneq | exact B_slnil | exact Bq_eql_Span | exact Bq_neq_Span | exact Bq_eql_Eff | exact Bq_neq_Eff | exact Bq_eql_Msg | exact Bq_neq_Msg | exact Bq_eql_Pair | exact Bq_neq_Pair) | exact QS_bin (by rfl) (by rfl) (B_add (by omega) (by omega)) | exact QS_bin (by rfl) (by rfl) (B_sadd (by assumption)) | exact QS_bin (by rfl) (by rfl) (B_sub (by omega) (by omega))) (by rfl) (by rfl) ?_
    | refine VS_nil ?_
    | refine VE_q (by rfl) ?_
    | refine VE_st _ (by rfl) (by first | exact ES_store1 (by rfl) (by rfl) (by rfl) (by rfl) (by rfl) | exact ES_storeN (by rfl) (by rfl) (by rfl) (by rfl) (by rfl) _ (by rfl)) (by rfl) ?_
    | refine VE_nil ?_
    | refine VL_yes _ _ _ (by rfl) (by rfl) (by rfl) (by first | rfl | assumption) ?_
    | refine VL_no _ _ _ (by rfl) (by rfl) (by rfl) (by first | rfl | assumption) (by rfl) ?_
    | refine VG_yes _ _ _ (by rfl) (by rfl) (by rfl) (by first | rfl | assumption) ?_
    | refine VG_no _ _ _ (by rfl) (by rfl) (by rfl) (by first | rfl | assumption) (by rfl) ?_
    | refine VL_noU _ _ (by rfl) (by rfl) (by rfl) (by rfl) ?_
    | refine VG_noU _ _ (by rfl) (by rfl) (by rfl) (by rfl) ?_
    | refine VG_nil ⟨by rfl, ?_⟩
    | refine VG_nil ?_
    | refine VC_drawT (by decide +kernel) ?_
    | refine VC_draw1 (by rfl) (by decide +kernel) (by rfl) (by rfl) ?_
    | refine VC_drawQ (by rfl) (by decide +kernel) ?_
    | refine VC_true (by rfl) (by first | rfl | assumption) ?_
    | refine VC_false (by rfl) (by first | rfl | assumption) ?_
    | refine VL_dec _ _ _ (by rfl) (by rfl) (by rfl) (fun hq => ?_) (fun hq => ?_)
    | refine VG_dec _ _ _ (by rfl) (by rfl) (by rfl) (fun hq => ?_) (fun hq => ?_)
    | refine VC_cond _ (by rfl) (fun hq => ?_) (fun hq => ?_))
  all_goals
    show Res _ _ _ _
    refine Res.one (by rfl) (ResV_tmp (by rfl) ?_)
    clear h1 h2 h3 k1 k2
    refine congrArg Value.bool ?_
    simp_all [refRightM, i16]
    try (intros; omega)
def onM2 (m : Msg) (k : ByteArray) : Eff := if has (spanM m) k = false then keepE else if m.kind < 1 then keepE else if 4 < m.kind then keepE else if 3 ≤ m.kind then ⟨3, em⟩ else ⟨m.kind, m.val⟩
theorem onM2_eq (m : Msg) (k : ByteArray) : onM2 m k = onM m k := by
  unfold onM2 onM
  cases has (spanM m) k with
  | false => simp
  | true =>
    simp only [Bool.true_eq_false, if_false, if_true]
    by_cases h1 : m.kind < 1
    · rw [if_pos h1, if_neg (by omega), if_neg (by omega)]
    · rw [if_neg h1]
      by_cases h4 : 4 < m.kind
      · rw [if_pos h4, if_neg (by omega), if_neg (by omega)]
      · rw [if_neg h4]
        by_cases h3 : 3 ≤ m.kind
        · rw [if_pos h3, if_neg (by omega), if_pos (by omega)]
        · rw [if_neg h3, if_pos (by omega)]
theorem ref_OnM (m : Msg) (k : ByteArray) (w : World) (h1 : m.key.size ≤ 1000000) (h2 : m.hi.size ≤ 1000000) (h3 : k.size ≤ 1000000) :
    Calls Try.prog 21 #[.agg #[.int .i64 m.stamp, .int .i64 m.kind, .string m.key, .string m.hi, .bool m.opn, .string m.val], .string k] w fun e w' => e = .returned (.agg #[.int .i64 (onM m k).kind, .string (onM m k).val]) ∧ Below w.heap.size w w' := by
  have hs := spanM_size m (n := 1000001) (by omega) (by omega)
  have k1 : (spanM m).lo.size ≤ maxLen := by unfold maxLen; omega
  have k2 : (spanM m).hi.size ≤ maxLen := by unfold maxLen; omega
  have k3 : k.size ≤ maxLen := by unfold maxLen; omega
  clear hs
  rw [← onM2_eq]
  refine V_flat (args := [.agg #[.int .i64 m.stamp, .int .i64 m.kind, .string m.key, .string m.hi, .bool m.opn, .string m.val], .string k]) (M := Mem.no) Try.func21 rfl Try.ntmps21 (by rfl) (Mem.no_le _) ?_
  repeat' (first
    | refine VC_seq ?_
    | refine VC_region ?_
    | refine VL_nil ?_
    | refine VC_ret ?_
    | refine VC_exit ?_
    | refine VC_block ?_
    | refine VC_skip ?_
    | refine VL_box (by rfl) (by rfl) (by rfl) ?_
    | refine VL_alloc (by rfl) (by rfl) ?_
    | refine VL_store1 (by rfl) (by rfl) (by rfl) (by rfl) (by rfl) (by rfl) ?_
    | refine VL_storeN (by rfl) (by rfl) (by rfl) (by rfl) (by rfl) _ (by rfl) (by rfl) ?_
    | refine VL_lits (by rfl) (by rfl) (by rfl) (by rfl) (by rfl) (by rfl) (by rfl) ?_
    | refine VL_lit1 (by rfl) (by rfl) (by rfl) (by rfl) (by rfl) ?_
    | refine VL_litsK (by rfl) (by rfl) (by rfl) (by rfl) (by rfl) (by rfl) (by rfl) ?_
    | refine VL_append (by rfl) (by rfl) (by rfl) (by rfl) (by omega) (by rfl) (by unfold maxLen; omega) (by omega) (by rfl) (by rfl) ?_
    | refine VL_q _ (by first | exact QS_call (by rfl) (fun W _ => ref_SpanM _ W (by assumption)) | exact QS_call (by rfl) (fun W _ => ref_Has (spanM m) k W k1 k2 k3) | exact QS_move (by rfl) | exact QS_assign (by rfl) | exact QS_load1 (by rfl) (by rfl) (by rfl) | exact QS_loadA (by rfl) (by rfl) _ (by rfl) | exact QS_fieldAddr (by rfl) | exact QS_mfieldAddr (by rfl) | exact QS_field (by rfl) (by rfl) | exact QS_mload1 (by rfl) (by assumption) | exact QS_build _ (by rfl) (by rfl) (by rfl) | exact QS_not (by rfl) | exact QS_extract (by rfl) (by rfl) | exact QS_len (by rfl) | exact QS_lenStr (by rfl) | exact QS_lenRow (by rfl) (by rfl) | exact QS_pick_t (by rfl) (by first | rfl | assumption) (by rfl) | exact QS_pick_f (by rfl) (by first | rfl | assumption) (by rfl) | exact QS_bin (by rfl) (by rfl) (by first | exact B_lss | exact B_leq | exact B_gtr | exact B_geq | exact B_eql | exact B_neq | exact B_seql | exact B_sneq | exact B_slss | exact B_sgeq | exact B_sleq | exact B_sgtr | exact B_beql | exact B_bneq | exact B_slnil | exact Bq_eql_Span | exact Bq_neq_Span | exact Bq_eql_Eff | exact Bq_neq_Eff | exact Bq_eql_Msg | exact Bq_neq_Msg | exact Bq_eql_Pair | exact Bq_neq_Pair) | exact QS_bin (by rfl) (by rfl) (B_add (by omega) (by omega)) | exact QS_bin (by rfl) (by rfl) (B_sadd (by assumption)) | exact QS_bin (by rfl) (by rfl) (B_sub (by omega) (by omega))) (by rfl) ?_
    | refine VG_q _ (by first | exact QS_call (by rfl) (fun W _ => ref_SpanM _ W (by assumption)) | exact QS_call (by rfl) (fun W _ => ref_Has (spanM m) k W k1 k2 k3) | exact QS_move (by rfl) | exact QS_assign (by rfl) | exact QS_load1 (by rfl) (by rfl) (by rfl) | exact QS_loadA (by rfl) (by rfl) _ (by rfl) | exact QS_fieldAddr (by rfl) | exact QS_mfieldAddr (by rfl) | exact QS_field (by rfl) (by rfl) | exact QS_mload1 (by rfl) (by assumption) | exact QS_build _ (by rfl) (by rfl) (by rfl) | exact QS_not (by rfl) | exact QS_extract (by rfl) (by rfl) | exact QS_len (by rfl) | exact QS_lenStr (by rfl) | exact QS_lenRow (by rfl) (by rfl) | exact QS_pick_t (by rfl) (by first | rfl | assumption) (by rfl) | exact QS_pick_f (by rfl) (by first | rfl | assumption) (by rfl) | exact QS_bin (by rfl) (by rfl) (by first | exact B_lss | exact B_leq | exact B_gtr | exact B_geq | exact B_eql | exact B_neq | exact B_seql | exact B_sneq | exact B_slss | exact B_sgeq | exact B_sleq | exact B_sgtr | exact B_beql | exact B_bneq | exact B_slnil | exact Bq_eql_Span | exact Bq_neq_Span | exact Bq_eql_Eff | exact Bq_neq_Eff | exact Bq_eql_Msg | exact Bq_neq_Msg | exact Bq_eql_Pair | exact Bq_neq_Pair) | exact QS_bin (by rfl) (by rfl) (B_add (by omega) (by omega)) | exact QS_bin (by rfl) (by rfl) (B_sadd (by assumption)) | exact QS_bin (by rfl) (by rfl) (B_sub (by omega) (by omega))) (by rfl) ?_
    | refine VS_st (by rfl) ?_
    | refine VS_q _ (by first | exact QS_call (by rfl) (fun W _ => ref_SpanM _ W (by assumption)) | exact QS_call (by rfl) (fun W _ => ref_Has (spanM m) k W k1 k2 k3) | exact QS_move (by rfl) | exact QS_assign (by rfl) | exact QS_load1 (by rfl) (by rfl) (by rfl) | exact QS_loadA (by rfl) (by rfl) _ (by rfl) | exact QS_fieldAddr (by rfl) | exact QS_mfieldAddr (by rfl) | exact QS_field (by rfl) (by rfl) | exact QS_mload1 (by rfl) (by assumption) | exact QS_build _ (by rfl) (by rfl) (by rfl) | exact QS_not (by rfl) | exact QS_extract (by rfl) (by rfl) | exact QS_len (by rfl) | exact QS_lenStr (by rfl) | exact QS_lenRow (by rfl) (by rfl) | exact QS_pick_t (by rfl) (by first | rfl | assumption) (by rfl) | exact QS_pick_f (by rfl) (by first | rfl | assumption) (by rfl) | exact QS_bin (by rfl) (by rfl) (by first | exact B_lss | exact B_leq | exact B_gtr | exact B_geq | exact B_eql | exact B_neq | exact B_seql | exact B_sneq | exact B_slss | exact B_sgeq | exact B_sleq | exact B_sgtr | exact B_beql | exact B_bneq | exact B_slnil | exact Bq_eql_Span | exact Bq_neq_Span | exact Bq_eql_Eff | exact Bq_neq_Eff | exact Bq_eql_Msg | exact Bq_neq_Msg | exact Bq_eql_Pair | exact Bq_neq_Pair) | exact QS_bin (by rfl) (by rfl) (B_add (by omega) (by omega)) | exact QS_bin (by rfl) (by rfl) (B_sadd (by assumption)) | exact QS_bin (by rfl) (by rfl) (B_sub (by omega) (by omega))) (by rfl) (by rfl) ?_
    | refine VS_nil ?_
    | refine VE_q (by rfl) ?_
    | refine VE_st _ (by rfl) (by first | exact ES_store1 (by rfl) (by rfl) (by rfl) (by rfl) (by rfl) | exact ES_storeN (by rfl) (by rfl) (by rfl) (by rfl) (by rfl) _ (by rfl)) (by rfl) ?_
    | refine VE_nil ?_
    | refine VL_yes _ _ _ (by rfl) (by rfl) (by rfl) (by first | rfl | assumption) ?_
    | refine VL_no _ _ _ (by rfl) (by rfl) (by rfl) (by first | rfl | assumption) (by rfl) ?_
    | refine VG_yes _ _ _ (by rfl) (by rfl) (by rfl) (by first | rfl | assumption) ?_
    | refine VG_no _ _ _ (by rfl) (by rfl) (by rfl) (by first | rfl | assumption) (by rfl) ?_
    | refine VL_noU _ _ (by rfl) (by rfl) (by rfl) (by rfl) ?_
    | refine VG_noU _ _ (by rfl) (by rfl) (by rfl) (by rfl) ?_
    | refine VG_nil ⟨by rfl, ?_⟩
    | refine VG_nil ?_
    | refine VC_drawT (by decide +kernel) ?_
    | refine VC_draw1 (by rfl) (by decide +kernel) (by rfl) (by rfl) ?_
    | refine VC_drawQ (by rfl) (by decide +kernel) ?_
    | refine VC_true (by rfl) (by first | rfl | assumption) ?_
    | refine VC_false (by rfl) (by first | rfl | assumption) ?_
    | refine VL_dec _ _ _ (by rfl) (by rfl) (by rfl) (fun hq => ?_) (fun hq => ?_)
    | refine VG_dec _ _ _ (by rfl) (by rfl) (by rfl) (fun hq => ?_) (fun hq => ?_)
    | refine VC_cond _ (by rfl) (fun hq => ?_) (fun hq => ?_))
  all_goals
    show Res _ _ _ _
    refine Res.one (by rfl) (ResV_agg (by rfl) (by rfl) _ (by rfl) ?_)
    clear h1 h2 h3 k1 k2 k3
    simp only [Bool.not_eq_true', Bool.not_eq_false', decide_eq_true_eq, decide_eq_false_iff_not] at *
    simp only [onM2, *, if_true, if_false, Bool.true_eq_false]
    rfl
theorem ref_ClipM (m : Msg) (s : Span) (w : World) (h1 : m.key.size ≤ 1000000) (h2 : m.hi.size ≤ 1000000) (h3 : s.lo.size ≤ 1000000) (h4 : s.hi.size ≤ 1000000) :
    Calls Try.prog 28 #[.agg #[.int .i64 m.stamp, .int .i64 m.kind, .string m.key, .string m.hi, .bool m.opn, .string m.val], .agg #[.string s.lo, .string s.hi, .bool s.opn]] w fun e w' => e = .returned (.tuple #[.agg #[.int .i64 (clipM m s).1.stamp, .int .i64 (clipM m s).1.kind, .string (clipM m s).1.key, .string (clipM m s).1.hi, .bool (clipM m s).1.opn, .string (clipM m s).1.val], .bool (clipM m s).2]) ∧ Below w.heap.size w w' := by
  have hs := spanM_size m (n := 1000001) (by omega) (by omega)
  have hm := meet_size (spanM m) s hs.1 hs.2 (by omega) (by omega)
  have k1 : (spanM m).lo.size ≤ maxLen := by unfold maxLen; omega
  have k2 : (spanM m).hi.size ≤ maxLen := by unfold maxLen; omega
  have k3 : s.lo.size ≤ maxLen := by unfold maxLen; omega
  have k4 : s.hi.size ≤ maxLen := by unfold maxLen; omega
  have k5 : (meet (spanM m) s).lo.size ≤ maxLen := by unfold maxLen; omega
  have k6 : (meet (spanM m) s).hi.size ≤ maxLen := by unfold maxLen; omega
  clear hs hm
  refine V_flat (args := [.agg #[.int .i64 m.stamp, .int .i64 m.kind, .string m.key, .string m.hi, .bool m.opn, .string m.val], .agg #[.string s.lo, .string s.hi, .bool s.opn]]) (M := Mem.no) Try.func28 rfl Try.ntmps28 (by rfl) (Mem.no_le _) ?_
  repeat' (first
    | refine VC_seq ?_
    | refine VC_region ?_
    | refine VL_nil ?_
    | refine VC_ret ?_
    | refine VC_exit ?_
    | refine VC_block ?_
    | refine VC_skip ?_
    | refine VL_box (by rfl) (by rfl) (by rfl) ?_
    | refine VL_alloc (by rfl) (by rfl) ?_
    | refine VL_store1 (by rfl) (by rfl) (by rfl) (by rfl) (by rfl) (by rfl) ?_
    | refine VL_storeN (by rfl) (by rfl) (by rfl) (by rfl) (by rfl) _ (by rfl) (by rfl) ?_
    | refine VL_lits (by rfl) (by rfl) (by rfl) (by rfl) (by rfl) (by rfl) (by rfl) ?_
    | refine VL_lit1 (by rfl) (by rfl) (by rfl) (by rfl) (by rfl) ?_
    | refine VL_litsK (by rfl) (by rfl) (by rfl) (by rfl) (by rfl) (by rfl) (by rfl) ?_
    | refine VL_append (by rfl) (by rfl) (by rfl) (by rfl) (by omega) (by rfl) (by unfold maxLen; omega) (by omega) (by rfl) (by rfl) ?_
    | refine VL_q _ (by first | exact QS_call (by rfl) (fun W _ => ref_SpanM _ W (by assumption)) | exact QS_call (by rfl) (fun W _ => ref_Meet (spanM m) s W k1 k2 k3 k4) | exact QS_call (by rfl) (fun W _ => ref_Empty (meet (spanM m) s) W k5 k6) | exact QS_move (by rfl) | exact QS_assign (by rfl) | exact QS_load1 (by rfl) (by rfl) (by rfl) | exact QS_loadA (by rfl) (by rfl) _ (by rfl) | exact QS_fieldAddr (by rfl) | exact QS_mfieldAddr (by rfl) | exact QS_field (by rfl) (by rfl) | exact QS_mload1 (by rfl) (by assumption) | exact QS_build _ (by rfl) (by rfl) (by rfl) | exact QS_not (by rfl) | exact QS_extract (by rfl) (by rfl) | exact QS_len (by rfl) | exact QS_lenStr (by rfl) | exact QS_lenRow (by rfl) (by rfl) | exact QS_pick_t (by rfl) (by first | rfl | assumption) (by rfl) | exact QS_pick_f (by rfl) (by first | rfl | assumption) (by rfl) | exact QS_bin (by rfl) (by rfl) (by first | exact B_lss | exact B_leq | exact B_gtr | exact B_geq | exact B_eql | exact B_neq | exact B_seql | exact B_sneq | exact B_slss | exact B_sgeq | exact B_sleq | exact B_sgtr | exact B_beql | exact B_bneq | exact B_slnil | exact Bq_eql_Span | exact Bq_neq_Span | exact Bq_eql_Eff | exact Bq_neq_Eff | exact Bq_eql_Msg | exact Bq_neq_Msg | exact Bq_eql_Pair | exact Bq_neq_Pair) | exact QS_bin (by rfl) (by rfl) (B_add (by omega) (by omega)) | exact QS_bin (by rfl) (by rfl) (B_sadd (by assumption)) | exact QS_bin (by rfl) (by rfl) (B_sub (by omega) (by omega))) (by rfl) ?_
    | refine VG_q _ (by first | exact QS_call (by rfl) (fun W _ => ref_SpanM _ W (by assumption)) | exact QS_call (by rfl) (fun W _ => ref_Meet (spanM m) s W k1 k2 k3 k4) | exact QS_call (by rfl) (fun W _ => ref_Empty (meet (spanM m) s) W k5 k6) | exact QS_move (by rfl) | exact QS_assign (by rfl) | exact QS_load1 (by rfl) (by rfl) (by rfl) | exact QS_loadA (by rfl) (by rfl) _ (by rfl) | exact QS_fieldAddr (by rfl) | exact QS_mfieldAddr (by rfl) | exact QS_field (by rfl) (by rfl) | exact QS_mload1 (by rfl) (by assumption) | exact QS_build _ (by rfl) (by rfl) (by rfl) | exact QS_not (by rfl) | exact QS_extract (by rfl) (by rfl) | exact QS_len (by rfl) | exact QS_lenStr (by rfl) | exact QS_lenRow (by rfl) (by rfl) | exact QS_pick_t (by rfl) (by first | rfl | assumption) (by rfl) | exact QS_pick_f (by rfl) (by first | rfl | assumption) (by rfl) | exact QS_bin (by rfl) (by rfl) (by first | exact B_lss | exact B_leq | exact B_gtr | exact B_geq | exact B_eql | exact B_neq | exact B_seql | exact B_sneq | exact B_slss | exact B_sgeq | exact B_sleq | exact B_sgtr | exact B_beql | exact B_bneq | exact B_slnil | exact Bq_eql_Span | exact Bq_neq_Span | exact Bq_eql_Eff | exact Bq_neq_Eff | exact Bq_eql_Msg | exact Bq_neq_Msg | exact Bq_eql_Pair | exact Bq_neq_Pair) | exact QS_bin (by rfl) (by rfl) (B_add (by omega) (by omega)) | exact QS_bin (by rfl) (by rfl) (B_sadd (by assumption)) | exact QS_bin (by rfl) (by rfl) (B_sub (by omega) (by omega))) (by rfl) ?_
    | refine VS_st (by rfl) ?_
    | refine VS_q _ (by first | exact QS_call (by rfl) (fun W _ => ref_SpanM _ W (by assumption)) | exact QS_call (by rfl) (fun W _ => ref_Meet (spanM m) s W k1 k2 k3 k4) | exact QS_call (by rfl) (fun W _ => ref_Empty (meet (spanM m) s) W k5 k6) | exact QS_move (by rfl) | exact QS_assign (by rfl) | exact QS_load1 (by rfl) (by rfl) (by rfl) | exact QS_loadA (by rfl) (by rfl) _ (by rfl) | exact QS_fieldAddr (by rfl) | exact QS_mfieldAddr (by rfl) | exact QS_field (by rfl) (by rfl) | exact QS_mload1 (by rfl) (by assumption) | exact QS_build _ (by rfl) (by rfl) (by rfl) | exact QS_not (by rfl) | exact QS_extract (by rfl) (by rfl) | exact QS_len (by rfl) | exact QS_lenStr (by rfl) | exact QS_lenRow (by rfl) (by rfl) | exact QS_pick_t (by rfl) (by first | rfl | assumption) (by rfl) | exact QS_pick_f (by rfl) (by first | rfl | assumption) (by rfl) | exact QS_bin (by rfl) (by rfl) (by first | exact B_lss | exact B_leq | exact B_gtr | exact B_geq | exact B_eql | exact B_neq | exact B_seql | exact B_sneq | exact B_slss | exact B_sgeq | exact B_sleq | exact B_sgtr | exact B_beql | exact B_bneq | exact B_slnil | exact Bq_eql_Span | exact Bq_neq_Span | exact Bq_eql_Eff | exact Bq_neq_Eff | exact Bq_eql_Msg | exact Bq_neq_Msg | exact Bq_eql_Pair | exact Bq_neq_Pair) | exact QS_bin (by rfl) (by rfl) (B_add (by omega) (by omega)) | exact QS_bin (by rfl) (by rfl) (B_sadd (by assumption)) | exact QS_bin (by rfl) (by rfl) (B_sub (by omega) (by omega))) (by rfl) (by rfl) ?_
    | refine VS_nil ?_
    | refine VE_q (by rfl) ?_
    | refine VE_st _ (by rfl) (by first | exact ES_store1 (by rfl) (by rfl) (by rfl) (by rfl) (by rfl) | exact ES_storeN (by rfl) (by rfl) (by rfl) (by rfl) (by rfl) _ (by rfl)) (by rfl) ?_
    | refine VE_nil ?_
    | refine VL_yes _ _ _ (by rfl) (by rfl) (by rfl) (by first | rfl | assumption) ?_
    | refine VL_no _ _ _ (by rfl) (by rfl) (by rfl) (by first | rfl | assumption) (by rfl) ?_
    | refine VG_yes _ _ _ (by rfl) (by rfl) (by rfl) (by first | rfl | assumption) ?_
    | refine VG_no _ _ _ (by rfl) (by rfl) (by rfl) (by first | rfl | assumption) (by rfl) ?_
    | refine VL_noU _ _ (by rfl) (by rfl) (by rfl) (by rfl) ?_
    | refine VG_noU _ _ (by rfl) (by rfl) (by rfl) (by rfl) ?_
    | refine VG_nil ⟨by rfl, ?_⟩
    | refine VG_nil ?_
    | refine VC_drawT (by decide +kernel) ?_
    | refine VC_draw1 (by rfl) (by decide +kernel) (by rfl) (by rfl) ?_
    | refine VC_drawQ (by rfl) (by decide +kernel) ?_
    | refine VC_true (by rfl) (by first | rfl | assumption) ?_
    | refine VC_false (by rfl) (by first | rfl | assumption) ?_
    | refine VL_dec _ _ _ (by rfl) (by rfl) (by rfl) (fun hq => ?_) (fun hq => ?_)
    | refine VG_dec _ _ _ (by rfl) (by rfl) (by rfl) (fun hq => ?_) (fun hq => ?_)
    | refine VC_cond _ (by rfl) (fun hq => ?_) (fun hq => ?_))
  all_goals
    show Res _ _ _ _
    refine Res.two (by rfl) (ResV_agg (by rfl) (by rfl) _ (by rfl) ?_) (ResV_tmp (by rfl) ?_)
    all_goals clear k1 k2 k3 k4 k5 k6 h1 h2 h3 h4
    all_goals first | rfl | (simp_all [clipM, touch, Ob.cells, sets, msgE]; done) | (simp_all [clipM, touch, Ob.cells, sets, msgE]; rfl)
theorem message_Join (a b : Msg) (w : World) (h1 : a.key.size ≤ 1000000) (h2 : b.key.size ≤ 1000000) (h3 : a.val.size ≤ 3000) (h4 : b.val.size ≤ 3000) :
    Calls Try.prog 31 #[.agg #[.int .i64 a.stamp, .int .i64 a.kind, .string a.key, .string a.hi, .bool a.opn, .string a.val], .agg #[.int .i64 b.stamp, .int .i64 b.kind, .string b.key, .string b.hi, .bool b.opn, .string b.val]] w fun e w' => e = .returned (.tuple #[.agg #[.int .i64 (joinM a b).1.stamp, .int .i64 (joinM a b).1.kind, .string (joinM a b).1.key, .string (joinM a b).1.hi, .bool (joinM a b).1.opn, .string (joinM a b).1.val], .bool (joinM a b).2]) ∧ Below w.heap.size w w' := by
  have k1 : (onM a a.key).val.size ≤ 3000 := onM_size a _ h3
  have k2 : (onM b b.key).val.size ≤ 3000 := onM_size b _ h4
  refine V_flat (args := [.agg #[.int .i64 a.stamp, .int .i64 a.kind, .string a.key, .string a.hi, .bool a.opn, .string a.val], .agg #[.int .i64 b.stamp, .int .i64 b.kind, .string b.key, .string b.hi, .bool b.opn, .string b.val]]) (M := Mem.no) Try.func31 rfl Try.ntmps31 (by rfl) (Mem.no_le _) ?_
  repeat' (first
    | refine VC_seq ?_
    | refine VC_region ?_
    | refine VL_nil ?_
    | refine VC_ret ?_
    | refine VC_exit ?_
    | refine VC_block ?_
    | refine VC_skip ?_
    | refine VL_box (by rfl) (by rfl) (by rfl) ?_
    | refine VL_alloc (by rfl) (by rfl) ?_
    | refine VL_store1 (by rfl) (by rfl) (by rfl) (by rfl) (by rfl) (by rfl) ?_
    | refine VL_storeN (by rfl) (by rfl) (by rfl) (by rfl) (by rfl) _ (by rfl) (by rfl) ?_
    | refine VL_lits (by rfl) (by rfl) (by rfl) (by rfl) (by rfl) (by rfl) (by rfl) ?_
    | refine VL_lit1 (by rfl) (by rfl) (by rfl) (by rfl) (by rfl) ?_
    | refine VL_litsK (by rfl) (by rfl) (by rfl) (by rfl) (by rfl) (by rfl) (by rfl) ?_
    | refine VL_append (by rfl) (by rfl) (by rfl) (by rfl) (by omega) (by rfl) (by unfold maxLen; omega) (by omega) (by rfl) (by rfl) ?_
    | refine VL_q _ (by first | exact QS_call (by rfl) (fun W _ => message_Span _ W (by assumption)) | exact QS_call (by rfl) (fun W _ => span_Within _ _ W) | exact QS_call (by rfl) (fun W _ => message_On _ _ W (by assumption)) | exact QS_call (by rfl) (fun W _ => effect_Then (onM a a.key) (onM b b.key) W k1 k2) | exact QS_move (by rfl) | exact QS_assign (by rfl) | exact QS_load1 (by rfl) (by rfl) (by rfl) | exact QS_loadA (by rfl) (by rfl) _ (by rfl) | exact QS_fieldAddr (by rfl) | exact QS_mfieldAddr (by rfl) | exact QS_field (by rfl) (by rfl) | exact QS_mload1 (by rfl) (by assumption) | exact QS_build _ (by rfl) (by rfl) (by rfl) | exact QS_not (by rfl) | exact QS_extract (by rfl) (by rfl) | exact QS_len (by rfl) | exact QS_lenStr (by rfl) | exact QS_lenRow (by rfl) (by rfl) | exact QS_pick_t (by rfl) (by first | rfl | assumption) (by rfl) | exact QS_pick_f (by rfl) (by first | rfl | assumption) (by rfl) | exact QS_bin (by rfl) (by rfl) (by first | exact B_lss | exact B_leq | exact B_gtr | exact B_geq | exact B_eql | exact B_neq | exact B_seql | exact B_sneq | exact B_slss | exact B_sgeq | exact B_sleq | exact B_sgtr | exact B_beql | exact B_bneq | exact B_slnil | exact Bq_eql_Span | exact Bq_neq_Span | exact Bq_eql_Eff | exact Bq_neq_Eff | exact Bq_eql_Msg | exact Bq_neq_Msg | exact Bq_eql_Pair | exact Bq_neq_Pair) | exact QS_bin (by rfl) (by rfl) (B_add (by omega) (by omega)) | exact QS_bin (by rfl) (by rfl) (B_sadd (by assumption)) | exact QS_bin (by rfl) (by rfl) (B_sub (by omega) (by omega))) (by rfl) ?_
    | refine VG_q _ (by first | exact QS_call (by rfl) (fun W _ => message_Span _ W (by assumption)) | exact QS_call (by rfl) (fun W _ => span_Within _ _ W) | exact QS_call (by rfl) (fun W _ => message_On _ _ W (by assumption)) | exact QS_call (by rfl) (fun W _ => effect_Then (onM a a.key) (onM b b.key) W k1 k2) | exact QS_move (by rfl) | exact QS_assign (by rfl) | exact QS_load1 (by rfl) (by rfl) (by rfl) | exact QS_loadA (by rfl) (by rfl) _ (by rfl) | exact QS_fieldAddr (by rfl) | exact QS_mfieldAddr (by rfl) | exact QS_field (by rfl) (by rfl) | exact QS_mload1 (by rfl) (by assumption) | exact QS_build _ (by rfl) (by rfl) (by rfl) | exact QS_not (by rfl) | exact QS_extract (by rfl) (by rfl) | exact QS_len (by rfl) | exact QS_lenStr (by rfl) | exact QS_lenRow (by rfl) (by rfl) | exact QS_pick_t (by rfl) (by first | rfl | assumption) (by rfl) | exact QS_pick_f (by rfl) (by first | rfl | assumption) (by rfl) | exact QS_bin (by rfl) (by rfl) (by first | exact B_lss | exact B_leq | exact B_gtr | exact B_geq | exact B_eql | exact B_neq | exact B_seql | exact B_sneq | exact B_slss | exact B_sgeq | exact B_sleq | exact B_sgtr | exact B_beql | exact B_bneq | exact B_slnil | exact Bq_eql_Span | exact Bq_neq_Span | exact Bq_eql_Eff | exact Bq_neq_Eff | exact Bq_eql_Msg | exact Bq_neq_Msg | exact Bq_eql_Pair | exact Bq_neq_Pair) | exact QS_bin (by rfl) (by rfl) (B_add (by omega) (by omega)) | exact QS_bin (by rfl) (by rfl) (B_sadd (by assumption)) | exact QS_bin (by rfl) (by rfl) (B_sub (by omega) (by omega))) (by rfl) ?_
    | refine VS_st (by rfl) ?_
    | refine VS_q _ (by first | exact QS_call (by rfl) (fun W _ => message_Span _ W (by assumption)) | exact QS_call (by rfl) (fun W _ => span_Within _ _ W) | exact QS_call (by rfl) (fun W _ => message_On _ _ W (by assumption)) | exact QS_call (by rfl) (fun W _ => effect_Then (onM a a.key) (onM b b.key) W k1 k2) | exact QS_move (by rfl) | exact QS_assign (by rfl) | exact QS_load1 (by rfl) (by rfl) (by rfl) | exact QS_loadA (by rfl) (by rfl) _ (by rfl) | exact QS_fieldAddr (by rfl) | exact QS_mfieldAddr (by rfl) | exact QS_field (by rfl) (by rfl) | exact QS_mload1 (by rfl) (by assumption) | exact QS_build _ (by rfl) (by rfl) (by rfl) | exact QS_not (by rfl) | exact QS_extract (by rfl) (by rfl) | exact QS_len (by rfl) | exact QS_lenStr (by rfl) | exact QS_lenRow (by rfl) (by rfl) | exact QS_pick_t (by rfl) (by first | rfl | assumption) (by rfl) | exact QS_pick_f (by rfl) (by first | rfl | assumption) (by rfl) | exact QS_bin (by rfl) (by rfl) (by first | exact B_lss | exact B_leq | exact B_gtr | exact B_geq | exact B_eql | exact B_neq | exact B_seql | exact B_sneq | exact B_slss | exact B_sgeq | exact B_sleq | exact B_sgtr | exact B_beql | exact B_bneq | exact B_slnil | exact Bq_eql_Span | exact Bq_neq_Span | exact Bq_eql_Eff | exact Bq_neq_Eff | exact Bq_eql_Msg | exact Bq_neq_Msg | exact Bq_eql_Pair | exact Bq_neq_Pair) | exact QS_bin (by rfl) (by rfl) (B_add (by omega) (by omega)) | exact QS_bin (by rfl) (by rfl) (B_sadd (by assumption)) | exact QS_bin (by rfl) (by rfl) (B_sub (by omega) (by omega))) (by rfl) (by rfl) ?_
    | refine VS_nil ?_
    | refine VE_q (by rfl) ?_
    | refine VE_st _ (by rfl) (by first | exact ES_store1 (by rfl) (by rfl) (by rfl) (by rfl) (by rfl) | exact ES_storeN (by rfl) (by rfl) (by rfl) (by rfl) (by rfl) _ (by rfl)) (by rfl) ?_
    | refine VE_nil ?_
    | refine VL_yes _ _ _ (by rfl) (by rfl) (by rfl) (by first | rfl | assumption) ?_
    | refine VL_no _ _ _ (by rfl) (by rfl) (by rfl) (by first | rfl | assumption) (by rfl) ?_
    | refine VG_yes _ _ _ (by rfl) (by rfl) (by rfl) (by first | rfl | assumption) ?_
    | refine VG_no _ _ _ (by rfl) (by rfl) (by rfl) (by first | rfl | assumption) (by rfl) ?_
    | refine VL_noU _ _ (by rfl) (by rfl) (by rfl) (by rfl) ?_
    | refine VG_noU _ _ (by rfl) (by rfl) (by rfl) (by rfl) ?_
    | refine VG_nil ⟨by rfl, ?_⟩
    | refine VG_nil ?_
    | refine VC_drawT (by decide +kernel) ?_
    | refine VC_draw1 (by rfl) (by decide +kernel) (by rfl) (by rfl) ?_
    | refine VC_drawQ (by rfl) (by decide +kernel) ?_
    | refine VC_true (by rfl) (by first | rfl | assumption) ?_
    | refine VC_false (by rfl) (by first | rfl | assumption) ?_
    | refine VL_dec _ _ _ (by rfl) (by rfl) (by rfl) (fun hq => ?_) (fun hq => ?_)
    | refine VG_dec _ _ _ (by rfl) (by rfl) (by rfl) (fun hq => ?_) (fun hq => ?_)
    | refine VC_cond _ (by rfl) (fun hq => ?_) (fun hq => ?_))
  all_goals try refine VC_drawS [1] (by decide +kernel) ?_
  repeat' (first
    | refine VC_seq ?_
    | refine VC_region ?_
    | refine VL_nil ?_
    | refine VC_ret ?_
    | refine VC_exit ?_
    | refine VC_block ?_
    | refine VC_skip ?_
    | refine VL_box (by rfl) (by rfl) (by rfl) ?_
    | refine VL_alloc (by rfl) (by rfl) ?_
    | refine VL_store1 (by rfl) (by rfl) (by rfl) (by rfl) (by rfl) (by rfl) ?_
    | refine VL_storeN (by rfl) (by rfl) (by rfl) (by rfl) (by rfl) _ (by rfl) (by rfl) ?_
    | refine VL_lits (by rfl) (by rfl) (by rfl) (by rfl) (by rfl) (by rfl) (by rfl) ?_
    | refine VL_lit1 (by rfl) (by rfl) (by rfl) (by rfl) (by rfl) ?_
    | refine VL_litsK (by rfl) (by rfl) (by rfl) (by rfl) (by rfl) (by rfl) (by rfl) ?_
    | refine VL_append (by rfl) (by rfl) (by rfl) (by rfl) (by omega) (by rfl) (by unfold maxLen; omega) (by omega) (by rfl) (by rfl) ?_
    | refine VL_q _ (by first  | exact QS_move (by rfl) | exact QS_assign (by rfl) | exact QS_load1 (by rfl) (by rfl) (by rfl) | exact QS_loadA (by rfl) (by rfl) _ (by rfl) | exact QS_fieldAddr (by rfl) | exact QS_mfieldAddr (by rfl) | exact QS_field (by rfl) (by rfl) | exact QS_mload1 (by rfl) (by assumption) | exact QS_build _ (by rfl) (by rfl) (by rfl) | exact QS_not (by rfl) | exact QS_extract (by rfl) (by rfl) | exact QS_len (by rfl) | exact QS_lenStr (by rfl) | exact QS_lenRow (by rfl) (by rfl) | exact QS_pick_t (by rfl) (by first | rfl | assumption) (by rfl) | exact QS_pick_f (by rfl) (by first | rfl | assumption) (by rfl) | exact QS_bin (by rfl) (by rfl) (by first | exact B_lss | exact B_leq | exact B_gtr | exact B_geq | exact B_eql | exact B_neq | exact B_seql | exact B_sneq | exact B_slss | exact B_sgeq | exact B_sleq | exact B_sgtr | exact B_beql | exact B_bneq | exact B_slnil | exact Bq_eql_Span | exact Bq_neq_Span | exact Bq_eql_Eff | exact Bq_neq_Eff | exact Bq_eql_Msg | exact Bq_neq_Msg | exact Bq_eql_Pair | exact Bq_neq_Pair) | exact QS_bin (by rfl) (by rfl) (B_add (by omega) (by omega)) | exact QS_bin (by rfl) (by rfl) (B_sadd (by assumption)) | exact QS_bin (by rfl) (by rfl) (B_sub (by omega) (by omega))) (by rfl) ?_
    | refine VG_q _ (by first  | exact QS_move (by rfl) | exact QS_assign (by rfl) | exact QS_load1 (by rfl) (by rfl) (by rfl) | exact QS_loadA (by rfl) (by rfl) _ (by rfl) | exact QS_fieldAddr (by rfl) | exact QS_mfieldAddr (by rfl) | exact QS_field (by rfl) (by rfl) | exact QS_mload1 (by rfl) (by assumption) | exact QS_build _ (by rfl) (by rfl) (by rfl) | exact QS_not (by rfl) | exact QS_extract (by rfl) (by rfl) | exact QS_len (by rfl) | exact QS_lenStr (by rfl) | exact QS_lenRow (by rfl) (by rfl) | exact QS_pick_t (by rfl) (by first | rfl | assumption) (by rfl) | exact QS_pick_f (by rfl) (by first | rfl | assumption) (by rfl) | exact QS_bin (by rfl) (by rfl) (by first | exact B_lss | exact B_leq | exact B_gtr | exact B_geq | exact B_eql | exact B_neq | exact B_seql | exact B_sneq | exact B_slss | exact B_sgeq | exact B_sleq | exact B_sgtr | exact B_beql | exact B_bneq | exact B_slnil | exact Bq_eql_Span | exact Bq_neq_Span | exact Bq_eql_Eff | exact Bq_neq_Eff | exact Bq_eql_Msg | exact Bq_neq_Msg | exact Bq_eql_Pair | exact Bq_neq_Pair) | exact QS_bin (by rfl) (by rfl) (B_add (by omega) (by omega)) | exact QS_bin (by rfl) (by rfl) (B_sadd (by assumption)) | exact QS_bin (by rfl) (by rfl) (B_sub (by omega) (by omega))) (by rfl) ?_
    | refine VS_st (by rfl) ?_
    | refine VS_q _ (by first  | exact QS_move (by rfl) | exact QS_assign (by rfl) | exact QS_load1 (by rfl) (by rfl) (by rfl) | exact QS_loadA (by rfl) (by rfl) _ (by rfl) | exact QS_fieldAddr (by rfl) | exact QS_mfieldAddr (by rfl) | exact QS_field (by rfl) (by rfl) | exact QS_mload1 (by rfl) (by assumption) | exact QS_build _ (by rfl) (by rfl) (by rfl) | exact QS_not (by rfl) | exact QS_extract (by rfl) (by rfl) | exact QS_len (by rfl) | exact QS_lenStr (by rfl) | exact QS_lenRow (by rfl) (by rfl) | exact QS_pick_t (by rfl) (by first | rfl | assumption) (by rfl) | exact QS_pick_f (by rfl) (by first | rfl | assumption) (by rfl) | exact QS_bin (by rfl) (by rfl) (by first | exact B_lss | exact B_leq | exact B_gtr | exact B_geq | exact B_eql | exact B_neq | exact B_seql | exact B_sneq | exact B_slss | exact B_sgeq | exact B_sleq | exact B_sgtr | exact B_beql | exact B_bneq | exact B_slnil | exact Bq_eql_Span | exact Bq_neq_Span | exact Bq_eql_Eff | exact Bq_neq_Eff | exact Bq_eql_Msg | exact Bq_neq_Msg | exact Bq_eql_Pair | exact Bq_neq_Pair) | exact QS_bin (by rfl) (by rfl) (B_add (by omega) (by omega)) | exact QS_bin (by rfl) (by rfl) (B_sadd (by assumption)) | exact QS_bin (by rfl) (by rfl) (B_sub (by omega) (by omega))) (by rfl) (by rfl) ?_
    | refine VS_nil ?_
    | refine VE_q (by rfl) ?_
    | refine VE_st _ (by rfl) (by first | exact ES_store1 (by rfl) (by rfl) (by rfl) (by rfl) (by rfl) | exact ES_storeN (by rfl) (by rfl) (by rfl) (by rfl) (by rfl) _ (by rfl)) (by rfl) ?_
    | refine VE_nil ?_
    | refine VL_yes _ _ _ (by rfl) (by rfl) (by rfl) (by first | rfl | assumption) ?_
    | refine VL_no _ _ _ (by rfl) (by rfl) (by rfl) (by first | rfl | assumption) (by rfl) ?_
    | refine VG_yes _ _ _ (by rfl) (by rfl) (by rfl) (by first | rfl | assumption) ?_
    | refine VG_no _ _ _ (by rfl) (by rfl) (by rfl) (by first | rfl | assumption) (by rfl) ?_
    | refine VL_noU _ _ (by rfl) (by rfl) (by rfl) (by rfl) ?_
    | refine VG_noU _ _ (by rfl) (by rfl) (by rfl) (by rfl) ?_
    | refine VG_nil ⟨by rfl, ?_⟩
    | refine VG_nil ?_
    | refine VC_drawT (by decide +kernel) ?_
    | refine VC_draw1 (by rfl) (by decide +kernel) (by rfl) (by rfl) ?_
    | refine VC_drawQ (by rfl) (by decide +kernel) ?_
    | refine VC_true (by rfl) (by first | rfl | assumption) ?_
    | refine VC_false (by rfl) (by first | rfl | assumption) ?_
    | refine VL_dec _ _ _ (by rfl) (by rfl) (by rfl) (fun hq => ?_) (fun hq => ?_)
    | refine VG_dec _ _ _ (by rfl) (by rfl) (by rfl) (fun hq => ?_) (fun hq => ?_)
    | refine VC_cond _ (by rfl) (fun hq => ?_) (fun hq => ?_))
  all_goals
    show Res _ _ _ _
    refine Res.two (by rfl) (ResV_agg (by rfl) (by rfl) _ (by rfl) ?_) (ResV_tmp (by rfl) ?_)
    all_goals clear h1 h2 h3 h4 k1 k2
    all_goals first | rfl | (simp_all [joinM, Ob.cells, sets, msgE]; done) | (simp_all [joinM, Ob.cells, sets, msgE]; rfl)
end Go.Proofs.Ytipbbbamjckjoaa
