/- The walk of MessageClips. -/
import Derived.Test.YtipbbbamjckjoaaMsgL
import Derived.Test.YtipbbbamjckjoaaMsgF
import Derived.Test.YtipbbbamjckjoaaSome
import Derived.Test.YtipbbbamjckjoaaMsgAwake
namespace Go.Proofs.Ytipbbbamjckjoaa.lawMessageClips
open Go Go.RowKit
set_option linter.unusedVariables false
set_option maxRecDepth 20000
set_option linter.unusedSimpArgs false
theorem ne_eqv_self {α : Type} (h : Bool) (e : h = true) : (!h) = false := by rw [e]; rfl
set_option maxHeartbeats 8000000 in
set_option profiler true in
set_option profiler.threshold 1000 in
theorem main (m c : Msg) (s : Span) (k : ByteArray) (w : World) (m1 : m.key.size ≤ 300) (m2 : m.hi.size ≤ 300) (m3 : m.val.size ≤ 300) (s1 : s.lo.size ≤ 300) (s2 : s.hi.size ≤ 300) (n1 : k.size ≤ 300) (c1 : c.key.size ≤ 1001) (c3 : c.val.size ≤ 1001)
    (a1 : ∀ W, Calls Try.prog 14 #[.agg #[.int .i64 m.stamp, .int .i64 m.kind, .string m.key, .string m.hi, .bool m.opn, .string m.val], .int .i64 300] W fun e w' => e = .returned (.bool true) ∧ Below W.heap.size W w')
    (a2 : ∀ W, Calls Try.prog 15 #[.agg #[.string s.lo, .string s.hi, .bool s.opn], .agg #[.string s.lo, .string s.hi, .bool s.opn], .string k, .int .i64 300] W fun e w' => e = .returned (.bool true) ∧ Below W.heap.size W w')
    (a3 : ∀ W, Calls Try.prog 27 #[.agg #[.int .i64 m.stamp, .int .i64 m.kind, .string m.key, .string m.hi, .bool m.opn, .string m.val], .agg #[.string s.lo, .string s.hi, .bool s.opn]] W fun e w' => e = .returned (.tuple #[.agg #[.int .i64 c.stamp, .int .i64 c.kind, .string c.key, .string c.hi, .bool c.opn, .string c.val], .bool true]) ∧ Below W.heap.size W w')
    (a4 : ∀ W, Calls Try.prog 28 #[.agg #[.int .i64 m.stamp, .int .i64 m.kind, .string m.key, .string m.hi, .bool m.opn, .string m.val], .agg #[.string s.lo, .string s.hi, .bool s.opn]] W fun e w' => e = .returned (.tuple #[.agg #[.int .i64 c.stamp, .int .i64 c.kind, .string c.key, .string c.hi, .bool c.opn, .string c.val], .bool true]) ∧ Below W.heap.size W w')
    (a5 : ∀ W, Calls Try.prog 18 #[.agg #[.int .i64 m.stamp, .int .i64 m.kind, .string m.key, .string m.hi, .bool m.opn, .string m.val]] W fun e w' => e = .returned (.bool true) ∧ Below W.heap.size W w')
    (h1 : ∀ x, has s x = true → onM c x = onM m x) (h2 : m.kind = 4 → ∀ x, has s x = false → onM c x = keepE) (h3 : sizeM c = sizeM m) :
    Calls Try.prog 5 #[.agg #[.int .i64 m.stamp, .int .i64 m.kind, .string m.key, .string m.hi, .bool m.opn, .string m.val], .agg #[.string s.lo, .string s.hi, .bool s.opn], .string k] w fun e w' => e = .returned (.bool true) ∧ Below w.heap.size w w' := by
  have q0 : (!eqv c c) = false := by rw [eqv_self]; rfl
  have b5 := fun W => message_Size c W (by omega) (by omega)
  have b6 := fun W => ref_SizeM m W (by omega) (by omega)
  rw [h3] at b5
  have q5 : (sizeM m == sizeM m) = true := by simp
  refine V_flat (args := [.agg #[.int .i64 m.stamp, .int .i64 m.kind, .string m.key, .string m.hi, .bool m.opn, .string m.val], .agg #[.string s.lo, .string s.hi, .bool s.opn], .string k]) (M := Mem.no) Try.func5 rfl Try.ntmps5 (by rfl) (Mem.no_le _) ?_
  repeat' (first
    | refine VC_seq ?_
    | refine VC_region ?_
    | refine VL_nil ?_
    | refine VC_ret ?_
    | refine VC_exit ?_
    | refine VC_block ?_
    | refine VC_skip ?_
    | refine VL_box (by rfl) (by rfl) (by rfl) ?_
    | refine VL_alloc (by rfl) (by rfl) ?_
    | refine VL_store1 (by rfl) (by rfl) (by rfl) (by rfl) (by rfl) (by rfl) ?_
    | refine VL_storeN (by rfl) (by rfl) (by rfl) (by rfl) (by rfl) _ (by rfl) (by rfl) ?_
    | refine VL_lits (by rfl) (by rfl) (by rfl) (by rfl) (by rfl) (by rfl) (by rfl) ?_
    | refine VL_lit1 (by rfl) (by rfl) (by rfl) (by rfl) (by rfl) ?_
    | refine VL_append (by rfl) (by rfl) (by rfl) (by rfl) (by omega) (by rfl) (by unfold maxLen; omega) (by omega) (by rfl) (by rfl) ?_
    | refine VL_q _ (by first | exact QS_call (by rfl) (fun W _ => message_awake W) | exact QS_call (by rfl) (fun W _ => a1 W) | exact QS_call (by rfl) (fun W _ => a2 W) | exact QS_call (by rfl) (fun W _ => a3 W) | exact QS_call (by rfl) (fun W _ => a4 W) | exact QS_call (by rfl) (fun W _ => a5 W) | exact QS_move (by rfl) | exact QS_assign (by rfl) | exact QS_load1 (by rfl) (by rfl) (by rfl) | exact QS_loadA (by rfl) (by rfl) _ (by rfl) | exact QS_fieldAddr (by rfl) | exact QS_mfieldAddr (by rfl) | exact QS_field (by rfl) (by rfl) | exact QS_mload1 (by rfl) (by assumption) | exact QS_build _ (by rfl) (by rfl) (by rfl) | exact QS_not (by rfl) | exact QS_extract (by rfl) (by rfl) | exact QS_len (by rfl) | exact QS_lenStr (by rfl) | exact QS_lenRow (by rfl) (by rfl) | exact QS_pick_t (by rfl) (by first | rfl | assumption) (by rfl) | exact QS_pick_f (by rfl) (by first | rfl | assumption) (by rfl) | exact QS_bin (by rfl) (by rfl) (by first | exact B_lss | exact B_leq | exact B_gtr | exact B_geq | exact B_eql | exact B_neq | exact B_seql | exact B_sneq | exact B_slss | exact B_sgeq | exact B_sleq | exact B_sgtr | exact B_beql | exact B_bneq | exact Bq_eql_Span | exact Bq_neq_Span | exact Bq_eql_Eff | exact Bq_neq_Eff | exact Bq_eql_Msg | exact Bq_neq_Msg | exact Bq_eql_Pair | exact Bq_neq_Pair) | exact QS_bin (by rfl) (by rfl) (B_add (by omega) (by omega)) | exact QS_bin (by rfl) (by rfl) (B_sadd (by assumption)) | exact QS_bin (by rfl) (by rfl) (B_sub (by omega) (by omega))) (by rfl) ?_
    | refine VG_q _ (by first | exact QS_call (by rfl) (fun W _ => message_awake W) | exact QS_call (by rfl) (fun W _ => a1 W) | exact QS_call (by rfl) (fun W _ => a2 W) | exact QS_call (by rfl) (fun W _ => a3 W) | exact QS_call (by rfl) (fun W _ => a4 W) | exact QS_call (by rfl) (fun W _ => a5 W) | exact QS_move (by rfl) | exact QS_assign (by rfl) | exact QS_load1 (by rfl) (by rfl) (by rfl) | exact QS_loadA (by rfl) (by rfl) _ (by rfl) | exact QS_fieldAddr (by rfl) | exact QS_mfieldAddr (by rfl) | exact QS_field (by rfl) (by rfl) | exact QS_mload1 (by rfl) (by assumption) | exact QS_build _ (by rfl) (by rfl) (by rfl) | exact QS_not (by rfl) | exact QS_extract (by rfl) (by rfl) | exact QS_len (by rfl) | exact QS_lenStr (by rfl) | exact QS_lenRow (by rfl) (by rfl) | exact QS_pick_t (by rfl) (by first | rfl | assumption) (by rfl) | exact QS_pick_f (by rfl) (by first | rfl | assumption) (by rfl) | exact QS_bin (by rfl) (by rfl) (by first | exact B_lss | exact B_leq | exact B_gtr | exact B_geq | exact B_eql | exact B_neq | exact B_seql | exact B_sneq | exact B_slss | exact B_sgeq | exact B_sleq | exact B_sgtr | exact B_beql | exact B_bneq | exact Bq_eql_Span | exact Bq_neq_Span | exact Bq_eql_Eff | exact Bq_neq_Eff | exact Bq_eql_Msg | exact Bq_neq_Msg | exact Bq_eql_Pair | exact Bq_neq_Pair) | exact QS_bin (by rfl) (by rfl) (B_add (by omega) (by omega)) | exact QS_bin (by rfl) (by rfl) (B_sadd (by assumption)) | exact QS_bin (by rfl) (by rfl) (B_sub (by omega) (by omega))) (by rfl) ?_
    | refine VS_st (by rfl) ?_
    | refine VS_q _ (by first | exact QS_call (by rfl) (fun W _ => message_awake W) | exact QS_call (by rfl) (fun W _ => a1 W) | exact QS_call (by rfl) (fun W _ => a2 W) | exact QS_call (by rfl) (fun W _ => a3 W) | exact QS_call (by rfl) (fun W _ => a4 W) | exact QS_call (by rfl) (fun W _ => a5 W) | exact QS_move (by rfl) | exact QS_assign (by rfl) | exact QS_load1 (by rfl) (by rfl) (by rfl) | exact QS_loadA (by rfl) (by rfl) _ (by rfl) | exact QS_fieldAddr (by rfl) | exact QS_mfieldAddr (by rfl) | exact QS_field (by rfl) (by rfl) | exact QS_mload1 (by rfl) (by assumption) | exact QS_build _ (by rfl) (by rfl) (by rfl) | exact QS_not (by rfl) | exact QS_extract (by rfl) (by rfl) | exact QS_len (by rfl) | exact QS_lenStr (by rfl) | exact QS_lenRow (by rfl) (by rfl) | exact QS_pick_t (by rfl) (by first | rfl | assumption) (by rfl) | exact QS_pick_f (by rfl) (by first | rfl | assumption) (by rfl) | exact QS_bin (by rfl) (by rfl) (by first | exact B_lss | exact B_leq | exact B_gtr | exact B_geq | exact B_eql | exact B_neq | exact B_seql | exact B_sneq | exact B_slss | exact B_sgeq | exact B_sleq | exact B_sgtr | exact B_beql | exact B_bneq | exact Bq_eql_Span | exact Bq_neq_Span | exact Bq_eql_Eff | exact Bq_neq_Eff | exact Bq_eql_Msg | exact Bq_neq_Msg | exact Bq_eql_Pair | exact Bq_neq_Pair) | exact QS_bin (by rfl) (by rfl) (B_add (by omega) (by omega)) | exact QS_bin (by rfl) (by rfl) (B_sadd (by assumption)) | exact QS_bin (by rfl) (by rfl) (B_sub (by omega) (by omega))) (by rfl) (by rfl) ?_
    | refine VS_nil ?_
    | refine VE_q (by rfl) ?_
    | refine VE_st _ (by rfl) (by first | exact ES_store1 (by rfl) (by rfl) (by rfl) (by rfl) (by rfl) | exact ES_storeN (by rfl) (by rfl) (by rfl) (by rfl) (by rfl) _ (by rfl)) (by rfl) ?_
    | refine VE_nil ?_
    | refine VL_yes _ _ _ (by rfl) (by rfl) (by rfl) (by first | rfl | assumption) ?_
    | refine VL_no _ _ _ (by rfl) (by rfl) (by rfl) (by first | rfl | assumption) (by rfl) ?_
    | refine VG_yes _ _ _ (by rfl) (by rfl) (by rfl) (by first | rfl | assumption) ?_
    | refine VG_no _ _ _ (by rfl) (by rfl) (by rfl) (by first | rfl | assumption) (by rfl) ?_
    | refine VL_noU _ _ (by rfl) (by rfl) (by rfl) (by rfl) ?_
    | refine VG_noU _ _ (by rfl) (by rfl) (by rfl) (by rfl) ?_
    | refine VG_nil ⟨by rfl, ?_⟩
    | refine VG_nil ?_
    | refine VC_drawT (by decide +kernel) ?_
    | refine VC_draw1 (by rfl) (by decide +kernel) (by rfl) (by rfl) ?_
    | refine VC_drawQ (by rfl) (by decide +kernel) ?_
    | refine VC_true (by rfl) (by first | rfl | assumption) ?_
    | refine VC_false (by rfl) (by first | rfl | assumption) ?_
    | refine VL_dec _ _ _ (by rfl) (by rfl) (by rfl) (fun hq => ?_) (fun hq => ?_)
    | refine VG_dec _ _ _ (by rfl) (by rfl) (by rfl) (fun hq => ?_) (fun hq => ?_)
    | refine VC_cond _ (by rfl) (fun hq => ?_) (fun hq => ?_))
  refine VL_freeze 60 (by rfl) (by rfl) (fun v M' hle hv => ?_)
  have hs1 : SlM M' 1 strCells v [m.key, m.hi, s.lo, s.hi] := hv.slM (by simp [strCells])
  have hsz : ∀ x ∈ [m.key, m.hi, s.lo, s.hi], x.size ≤ 1000000 := by simp; omega
  have b9 : ∀ W, M'.le (Mem.of W) → Calls Try.prog 29 #[v] W (RetRow 9 1 9 (someV [m.key, m.hi, s.lo, s.hi]) W) := fun W hW => ref_Some2 v [m.key, m.hi, s.lo, s.hi] W (hs1.toSl hW) hsz (by simp)
  refine VL_callO (by rfl) b9 (by rfl) (by rfl) ?_
  repeat' (first
    | refine VC_seq ?_
    | refine VC_region ?_
    | refine VL_nil ?_
    | refine VC_ret ?_
    | refine VC_exit ?_
    | refine VC_block ?_
    | refine VC_skip ?_
    | refine VL_box (by rfl) (by rfl) (by rfl) ?_
    | refine VL_alloc (by rfl) (by rfl) ?_
    | refine VL_store1 (by rfl) (by rfl) (by rfl) (by rfl) (by rfl) (by rfl) ?_
    | refine VL_storeN (by rfl) (by rfl) (by rfl) (by rfl) (by rfl) _ (by rfl) (by rfl) ?_
    | refine VL_lits (by rfl) (by rfl) (by rfl) (by rfl) (by rfl) (by rfl) (by rfl) ?_
    | refine VL_lit1 (by rfl) (by rfl) (by rfl) (by rfl) (by rfl) ?_
    | refine VL_append (by rfl) (by rfl) (by rfl) (by rfl) (by omega) (by rfl) (by unfold maxLen; omega) (by omega) (by rfl) (by rfl) ?_
    | refine VL_q _ (by first  | exact QS_move (by rfl) | exact QS_assign (by rfl) | exact QS_load1 (by rfl) (by rfl) (by rfl) | exact QS_loadA (by rfl) (by rfl) _ (by rfl) | exact QS_fieldAddr (by rfl) | exact QS_mfieldAddr (by rfl) | exact QS_field (by rfl) (by rfl) | exact QS_mload1 (by rfl) (by assumption) | exact QS_build _ (by rfl) (by rfl) (by rfl) | exact QS_not (by rfl) | exact QS_extract (by rfl) (by rfl) | exact QS_len (by rfl) | exact QS_lenStr (by rfl) | exact QS_lenRow (by rfl) (by rfl) | exact QS_pick_t (by rfl) (by first | rfl | assumption) (by rfl) | exact QS_pick_f (by rfl) (by first | rfl | assumption) (by rfl) | exact QS_bin (by rfl) (by rfl) (by first | exact B_lss | exact B_leq | exact B_gtr | exact B_geq | exact B_eql | exact B_neq | exact B_seql | exact B_sneq | exact B_slss | exact B_sgeq | exact B_sleq | exact B_sgtr | exact B_beql | exact B_bneq | exact Bq_eql_Span | exact Bq_neq_Span | exact Bq_eql_Eff | exact Bq_neq_Eff | exact Bq_eql_Msg | exact Bq_neq_Msg | exact Bq_eql_Pair | exact Bq_neq_Pair) | exact QS_bin (by rfl) (by rfl) (B_add (by omega) (by omega)) | exact QS_bin (by rfl) (by rfl) (B_sadd (by assumption)) | exact QS_bin (by rfl) (by rfl) (B_sub (by omega) (by omega))) (by rfl) ?_
    | refine VG_q _ (by first  | exact QS_move (by rfl) | exact QS_assign (by rfl) | exact QS_load1 (by rfl) (by rfl) (by rfl) | exact QS_loadA (by rfl) (by rfl) _ (by rfl) | exact QS_fieldAddr (by rfl) | exact QS_mfieldAddr (by rfl) | exact QS_field (by rfl) (by rfl) | exact QS_mload1 (by rfl) (by assumption) | exact QS_build _ (by rfl) (by rfl) (by rfl) | exact QS_not (by rfl) | exact QS_extract (by rfl) (by rfl) | exact QS_len (by rfl) | exact QS_lenStr (by rfl) | exact QS_lenRow (by rfl) (by rfl) | exact QS_pick_t (by rfl) (by first | rfl | assumption) (by rfl) | exact QS_pick_f (by rfl) (by first | rfl | assumption) (by rfl) | exact QS_bin (by rfl) (by rfl) (by first | exact B_lss | exact B_leq | exact B_gtr | exact B_geq | exact B_eql | exact B_neq | exact B_seql | exact B_sneq | exact B_slss | exact B_sgeq | exact B_sleq | exact B_sgtr | exact B_beql | exact B_bneq | exact Bq_eql_Span | exact Bq_neq_Span | exact Bq_eql_Eff | exact Bq_neq_Eff | exact Bq_eql_Msg | exact Bq_neq_Msg | exact Bq_eql_Pair | exact Bq_neq_Pair) | exact QS_bin (by rfl) (by rfl) (B_add (by omega) (by omega)) | exact QS_bin (by rfl) (by rfl) (B_sadd (by assumption)) | exact QS_bin (by rfl) (by rfl) (B_sub (by omega) (by omega))) (by rfl) ?_
    | refine VS_st (by rfl) ?_
    | refine VS_q _ (by first  | exact QS_move (by rfl) | exact QS_assign (by rfl) | exact QS_load1 (by rfl) (by rfl) (by rfl) | exact QS_loadA (by rfl) (by rfl) _ (by rfl) | exact QS_fieldAddr (by rfl) | exact QS_mfieldAddr (by rfl) | exact QS_field (by rfl) (by rfl) | exact QS_mload1 (by rfl) (by assumption) | exact QS_build _ (by rfl) (by rfl) (by rfl) | exact QS_not (by rfl) | exact QS_extract (by rfl) (by rfl) | exact QS_len (by rfl) | exact QS_lenStr (by rfl) | exact QS_lenRow (by rfl) (by rfl) | exact QS_pick_t (by rfl) (by first | rfl | assumption) (by rfl) | exact QS_pick_f (by rfl) (by first | rfl | assumption) (by rfl) | exact QS_bin (by rfl) (by rfl) (by first | exact B_lss | exact B_leq | exact B_gtr | exact B_geq | exact B_eql | exact B_neq | exact B_seql | exact B_sneq | exact B_slss | exact B_sgeq | exact B_sleq | exact B_sgtr | exact B_beql | exact B_bneq | exact Bq_eql_Span | exact Bq_neq_Span | exact Bq_eql_Eff | exact Bq_neq_Eff | exact Bq_eql_Msg | exact Bq_neq_Msg | exact Bq_eql_Pair | exact Bq_neq_Pair) | exact QS_bin (by rfl) (by rfl) (B_add (by omega) (by omega)) | exact QS_bin (by rfl) (by rfl) (B_sadd (by assumption)) | exact QS_bin (by rfl) (by rfl) (B_sub (by omega) (by omega))) (by rfl) (by rfl) ?_
    | refine VS_nil ?_
    | refine VE_q (by rfl) ?_
    | refine VE_st _ (by rfl) (by first | exact ES_store1 (by rfl) (by rfl) (by rfl) (by rfl) (by rfl) | exact ES_storeN (by rfl) (by rfl) (by rfl) (by rfl) (by rfl) _ (by rfl)) (by rfl) ?_
    | refine VE_nil ?_
    | refine VL_yes _ _ _ (by rfl) (by rfl) (by rfl) (by first | rfl | assumption) ?_
    | refine VL_no _ _ _ (by rfl) (by rfl) (by rfl) (by first | rfl | assumption) (by rfl) ?_
    | refine VG_yes _ _ _ (by rfl) (by rfl) (by rfl) (by first | rfl | assumption) ?_
    | refine VG_no _ _ _ (by rfl) (by rfl) (by rfl) (by first | rfl | assumption) (by rfl) ?_
    | refine VL_noU _ _ (by rfl) (by rfl) (by rfl) (by rfl) ?_
    | refine VG_noU _ _ (by rfl) (by rfl) (by rfl) (by rfl) ?_
    | refine VG_nil ⟨by rfl, ?_⟩
    | refine VG_nil ?_
    | refine VC_drawT (by decide +kernel) ?_
    | refine VC_draw1 (by rfl) (by decide +kernel) (by rfl) (by rfl) ?_
    | refine VC_drawQ (by rfl) (by decide +kernel) ?_
    | refine VC_true (by rfl) (by first | rfl | assumption) ?_
    | refine VC_false (by rfl) (by first | rfl | assumption) ?_
    | refine VL_dec _ _ _ (by rfl) (by rfl) (by rfl) (fun hq => ?_) (fun hq => ?_)
    | refine VG_dec _ _ _ (by rfl) (by rfl) (by rfl) (fun hq => ?_) (fun hq => ?_)
    | refine VC_cond _ (by rfl) (fun hq => ?_) (fun hq => ?_))
  refine VC_freeze 64 (by rfl) (by rfl) (fun v2 M2 hle2 hv2 => ?_)
  have hs2 : SlM M2 1 strCells v2 (someL [m.key, m.hi, s.lo, s.hi] ++ [k]) := RowM.slM (l := someL [m.key, m.hi, s.lo, s.hi] ++ [k]) (by simp [strCells]) (by rw [flat_str, List.map_append]; exact hv2)
  have hsz2 : ∀ x ∈ someL [m.key, m.hi, s.lo, s.hi] ++ [k], x.size ≤ 1000000 := by
    have e0 := size_em
    simp [someL, size_nx]; omega
  have hlen : (someL [m.key, m.hi, s.lo, s.hi] ++ [k]).length = 10 := rfl
  generalize someL [m.key, m.hi, s.lo, s.hi] ++ [k] = L at hs2 hsz2 hlen
  obtain ⟨A, cc, rfl, hc1, hc2, _⟩ := id hs2
  clear hv hv2 hs1 hsz b9
  refine VC_for (fun j : Nat => ⟨M2, [.blk 25 (.agg #[.int .i64 m.stamp, .int .i64 m.kind, .string m.key, .string m.hi, .bool m.opn, .string m.val] : Value).cells.toList, .blk 28 (.agg #[.string s.lo, .string s.hi, .bool s.opn] : Value).cells.toList, .blk 25 (.agg #[.int .i64 c.stamp, .int .i64 c.kind, .string c.key, .string c.hi, .bool c.opn, .string c.val] : Value).cells.toList], [(2, .v (.string k)), (3, .p 0 0), (4, .p 1 0), (7, .p 2 0), (64, .v (.slice A L.length cc)), (65, .v (.int .i64 L.length)), (66, .v (.int .i64 j))]⟩) (fun j => j ≤ L.length) (fun j => L.length - j) [0, 1, 2] 0 ⟨rfl, rfl, ⟨rfl, rfl, rfl, trivial⟩, ⟨rfl, rfl, rfl, rfl, rfl, by rw [hlen]; rfl, rfl, trivial⟩⟩ (by omega) ?_
  intro j hj
  rcases Nat.lt_or_ge j L.length with hlt | hge
  · have hd := dlt hlt
    obtain ⟨b, off, rfl, hcA⟩ := hs2.get hlt
    have hz := hsz2 L[j] (List.getElem_mem hlt)
    have d1 := fun W => ref_Has s L[j] W (by unfold maxLen; omega) (by unfold maxLen; omega) (by unfold maxLen; omega)
    have d2 := fun W => message_On c L[j] W (by omega)
    have d3 := fun W => ref_OnM m L[j] W (by omega) (by omega) hz
    cases hh : has s L[j] with
    | true =>
      rw [hh] at d1
      have q1 : (!eqv (onM c L[j]) (onM m L[j])) = false := by rw [h1 _ hh, eqv_self]; rfl
      cases h4 : (m.kind == 4)
      all_goals
        repeat' (first
          | refine VC_seq ?_
          | refine VC_region ?_
          | refine VL_nil ?_
          | refine VC_ret ?_
          | refine VC_exit ?_
          | refine VC_block ?_
          | refine VC_skip ?_
          | refine VL_box (by rfl) (by rfl) (by rfl) ?_
          | refine VL_alloc (by rfl) (by rfl) ?_
          | refine VL_store1 (by rfl) (by rfl) (by rfl) (by rfl) (by rfl) (by rfl) ?_
          | refine VL_storeN (by rfl) (by rfl) (by rfl) (by rfl) (by rfl) _ (by rfl) (by rfl) ?_
          | refine VL_lits (by rfl) (by rfl) (by rfl) (by rfl) (by rfl) (by rfl) (by rfl) ?_
          | refine VL_lit1 (by rfl) (by rfl) (by rfl) (by rfl) (by rfl) ?_
          | refine VL_append (by rfl) (by rfl) (by rfl) (by rfl) (by omega) (by rfl) (by unfold maxLen; omega) (by omega) (by rfl) (by rfl) ?_
          | refine VL_q _ (by first | exact QS_indexAddr (j) (by rfl) (by rfl) (by omega) (by omega) | exact QS_mload1 (by rfl) (hcA 0 _ (by rfl)) | exact QS_mload1 (by rfl) (hcA _ _ (by rfl)) | exact QS_mloadN _ (by rfl) hcA _ (by rfl) | exact QS_call (by rfl) (fun W _ => d1 W) | exact QS_call (by rfl) (fun W _ => d2 W) | exact QS_call (by rfl) (fun W _ => d3 W) | exact QS_move (by rfl) | exact QS_assign (by rfl) | exact QS_load1 (by rfl) (by rfl) (by rfl) | exact QS_loadA (by rfl) (by rfl) _ (by rfl) | exact QS_fieldAddr (by rfl) | exact QS_mfieldAddr (by rfl) | exact QS_field (by rfl) (by rfl) | exact QS_mload1 (by rfl) (by assumption) | exact QS_build _ (by rfl) (by rfl) (by rfl) | exact QS_not (by rfl) | exact QS_extract (by rfl) (by rfl) | exact QS_len (by rfl) | exact QS_lenStr (by rfl) | exact QS_lenRow (by rfl) (by rfl) | exact QS_pick_t (by rfl) (by first | rfl | assumption) (by rfl) | exact QS_pick_f (by rfl) (by first | rfl | assumption) (by rfl) | exact QS_bin (by rfl) (by rfl) (by first | exact B_lss | exact B_leq | exact B_gtr | exact B_geq | exact B_eql | exact B_neq | exact B_seql | exact B_sneq | exact B_slss | exact B_sgeq | exact B_sleq | exact B_sgtr | exact B_beql | exact B_bneq | exact Bq_eql_Span | exact Bq_neq_Span | exact Bq_eql_Eff | exact Bq_neq_Eff | exact Bq_eql_Msg | exact Bq_neq_Msg | exact Bq_eql_Pair | exact Bq_neq_Pair) | exact QS_bin (by rfl) (by rfl) (B_add (by omega) (by omega)) | exact QS_bin (by rfl) (by rfl) (B_sadd (by assumption)) | exact QS_bin (by rfl) (by rfl) (B_sub (by omega) (by omega))) (by rfl) ?_
          | refine VG_q _ (by first | exact QS_indexAddr (j) (by rfl) (by rfl) (by omega) (by omega) | exact QS_mload1 (by rfl) (hcA 0 _ (by rfl)) | exact QS_mload1 (by rfl) (hcA _ _ (by rfl)) | exact QS_mloadN _ (by rfl) hcA _ (by rfl) | exact QS_call (by rfl) (fun W _ => d1 W) | exact QS_call (by rfl) (fun W _ => d2 W) | exact QS_call (by rfl) (fun W _ => d3 W) | exact QS_move (by rfl) | exact QS_assign (by rfl) | exact QS_load1 (by rfl) (by rfl) (by rfl) | exact QS_loadA (by rfl) (by rfl) _ (by rfl) | exact QS_fieldAddr (by rfl) | exact QS_mfieldAddr (by rfl) | exact QS_field (by rfl) (by rfl) | exact QS_mload1 (by rfl) (by assumption) | exact QS_build _ (by rfl) (by rfl) (by rfl) | exact QS_not (by rfl) | exact QS_extract (by rfl) (by rfl) | exact QS_len (by rfl) | exact QS_lenStr (by rfl) | exact QS_lenRow (by rfl) (by rfl) | exact QS_pick_t (by rfl) (by first | rfl | assumption) (by rfl) | exact QS_pick_f (by rfl) (by first | rfl | assumption) (by rfl) | exact QS_bin (by rfl) (by rfl) (by first | exact B_lss | exact B_leq | exact B_gtr | exact B_geq | exact B_eql | exact B_neq | exact B_seql | exact B_sneq | exact B_slss | exact B_sgeq | exact B_sleq | exact B_sgtr | exact B_beql | exact B_bneq | exact Bq_eql_Span | exact Bq_neq_Span | exact Bq_eql_Eff | exact Bq_neq_Eff | exact Bq_eql_Msg | exact Bq_neq_Msg | exact Bq_eql_Pair | exact Bq_neq_Pair) | exact QS_bin (by rfl) (by rfl) (B_add (by omega) (by omega)) | exact QS_bin (by rfl) (by rfl) (B_sadd (by assumption)) | exact QS_bin (by rfl) (by rfl) (B_sub (by omega) (by omega))) (by rfl) ?_
          | refine VS_st (by rfl) ?_
          | refine VS_q _ (by first | exact QS_indexAddr (j) (by rfl) (by rfl) (by omega) (by omega) | exact QS_mload1 (by rfl) (hcA 0 _ (by rfl)) | exact QS_mload1 (by rfl) (hcA _ _ (by rfl)) | exact QS_mloadN _ (by rfl) hcA _ (by rfl) | exact QS_call (by rfl) (fun W _ => d1 W) | exact QS_call (by rfl) (fun W _ => d2 W) | exact QS_call (by rfl) (fun W _ => d3 W) | exact QS_move (by rfl) | exact QS_assign (by rfl) | exact QS_load1 (by rfl) (by rfl) (by rfl) | exact QS_loadA (by rfl) (by rfl) _ (by rfl) | exact QS_fieldAddr (by rfl) | exact QS_mfieldAddr (by rfl) | exact QS_field (by rfl) (by rfl) | exact QS_mload1 (by rfl) (by assumption) | exact QS_build _ (by rfl) (by rfl) (by rfl) | exact QS_not (by rfl) | exact QS_extract (by rfl) (by rfl) | exact QS_len (by rfl) | exact QS_lenStr (by rfl) | exact QS_lenRow (by rfl) (by rfl) | exact QS_pick_t (by rfl) (by first | rfl | assumption) (by rfl) | exact QS_pick_f (by rfl) (by first | rfl | assumption) (by rfl) | exact QS_bin (by rfl) (by rfl) (by first | exact B_lss | exact B_leq | exact B_gtr | exact B_geq | exact B_eql | exact B_neq | exact B_seql | exact B_sneq | exact B_slss | exact B_sgeq | exact B_sleq | exact B_sgtr | exact B_beql | exact B_bneq | exact Bq_eql_Span | exact Bq_neq_Span | exact Bq_eql_Eff | exact Bq_neq_Eff | exact Bq_eql_Msg | exact Bq_neq_Msg | exact Bq_eql_Pair | exact Bq_neq_Pair) | exact QS_bin (by rfl) (by rfl) (B_add (by omega) (by omega)) | exact QS_bin (by rfl) (by rfl) (B_sadd (by assumption)) | exact QS_bin (by rfl) (by rfl) (B_sub (by omega) (by omega))) (by rfl) (by rfl) ?_
          | refine VS_nil ?_
          | refine VE_q (by rfl) ?_
          | refine VE_st _ (by rfl) (by first | exact ES_store1 (by rfl) (by rfl) (by rfl) (by rfl) (by rfl) | exact ES_storeN (by rfl) (by rfl) (by rfl) (by rfl) (by rfl) _ (by rfl)) (by rfl) ?_
          | refine VE_nil ?_
          | refine VL_yes _ _ _ (by rfl) (by rfl) (by rfl) (by first | rfl | assumption) ?_
          | refine VL_no _ _ _ (by rfl) (by rfl) (by rfl) (by first | rfl | assumption) (by rfl) ?_
          | refine VG_yes _ _ _ (by rfl) (by rfl) (by rfl) (by first | rfl | assumption) ?_
          | refine VG_no _ _ _ (by rfl) (by rfl) (by rfl) (by first | rfl | assumption) (by rfl) ?_
          | refine VL_noU _ _ (by rfl) (by rfl) (by rfl) (by rfl) ?_
          | refine VG_noU _ _ (by rfl) (by rfl) (by rfl) (by rfl) ?_
          | refine VG_nil ⟨by rfl, ?_⟩
          | refine VG_nil ?_
          | refine VC_drawT (by decide +kernel) ?_
          | refine VC_draw1 (by rfl) (by decide +kernel) (by rfl) (by rfl) ?_
          | refine VC_drawQ (by rfl) (by decide +kernel) ?_
          | refine VC_true (by rfl) (by first | rfl | assumption) ?_
          | refine VC_false (by rfl) (by first | rfl | assumption) ?_
          | refine VL_dec _ _ _ (by rfl) (by rfl) (by rfl) (fun hq => ?_) (fun hq => ?_)
          | refine VG_dec _ _ _ (by rfl) (by rfl) (by rfl) (fun hq => ?_) (fun hq => ?_)
          | refine VC_cond _ (by rfl) (fun hq => ?_) (fun hq => ?_))
        exact forQ_next [0, 1, 2] (j + 1) ⟨rfl, rfl, ⟨rfl, rfl, rfl, trivial⟩, ⟨rfl, rfl, rfl, rfl, rfl, rfl, rfl, trivial⟩⟩ (by omega) (by omega)
    | false =>
      rw [hh] at d1
      cases h4 : (m.kind == 4) with
      | false =>
        repeat' (first
          | refine VC_seq ?_
          | refine VC_region ?_
          | refine VL_nil ?_
          | refine VC_ret ?_
          | refine VC_exit ?_
          | refine VC_block ?_
          | refine VC_skip ?_
          | refine VL_box (by rfl) (by rfl) (by rfl) ?_
          | refine VL_alloc (by rfl) (by rfl) ?_
          | refine VL_store1 (by rfl) (by rfl) (by rfl) (by rfl) (by rfl) (by rfl) ?_
          | refine VL_storeN (by rfl) (by rfl) (by rfl) (by rfl) (by rfl) _ (by rfl) (by rfl) ?_
          | refine VL_lits (by rfl) (by rfl) (by rfl) (by rfl) (by rfl) (by rfl) (by rfl) ?_
          | refine VL_lit1 (by rfl) (by rfl) (by rfl) (by rfl) (by rfl) ?_
          | refine VL_append (by rfl) (by rfl) (by rfl) (by rfl) (by omega) (by rfl) (by unfold maxLen; omega) (by omega) (by rfl) (by rfl) ?_
          | refine VL_q _ (by first | exact QS_indexAddr (j) (by rfl) (by rfl) (by omega) (by omega) | exact QS_mload1 (by rfl) (hcA 0 _ (by rfl)) | exact QS_mload1 (by rfl) (hcA _ _ (by rfl)) | exact QS_mloadN _ (by rfl) hcA _ (by rfl) | exact QS_call (by rfl) (fun W _ => d1 W) | exact QS_call (by rfl) (fun W _ => d2 W) | exact QS_call (by rfl) (fun W _ => d3 W) | exact QS_move (by rfl) | exact QS_assign (by rfl) | exact QS_load1 (by rfl) (by rfl) (by rfl) | exact QS_loadA (by rfl) (by rfl) _ (by rfl) | exact QS_fieldAddr (by rfl) | exact QS_mfieldAddr (by rfl) | exact QS_field (by rfl) (by rfl) | exact QS_mload1 (by rfl) (by assumption) | exact QS_build _ (by rfl) (by rfl) (by rfl) | exact QS_not (by rfl) | exact QS_extract (by rfl) (by rfl) | exact QS_len (by rfl) | exact QS_lenStr (by rfl) | exact QS_lenRow (by rfl) (by rfl) | exact QS_pick_t (by rfl) (by first | rfl | assumption) (by rfl) | exact QS_pick_f (by rfl) (by first | rfl | assumption) (by rfl) | exact QS_bin (by rfl) (by rfl) (by first | exact B_lss | exact B_leq | exact B_gtr | exact B_geq | exact B_eql | exact B_neq | exact B_seql | exact B_sneq | exact B_slss | exact B_sgeq | exact B_sleq | exact B_sgtr | exact B_beql | exact B_bneq | exact Bq_eql_Span | exact Bq_neq_Span | exact Bq_eql_Eff | exact Bq_neq_Eff | exact Bq_eql_Msg | exact Bq_neq_Msg | exact Bq_eql_Pair | exact Bq_neq_Pair) | exact QS_bin (by rfl) (by rfl) (B_add (by omega) (by omega)) | exact QS_bin (by rfl) (by rfl) (B_sadd (by assumption)) | exact QS_bin (by rfl) (by rfl) (B_sub (by omega) (by omega))) (by rfl) ?_
          | refine VG_q _ (by first | exact QS_indexAddr (j) (by rfl) (by rfl) (by omega) (by omega) | exact QS_mload1 (by rfl) (hcA 0 _ (by rfl)) | exact QS_mload1 (by rfl) (hcA _ _ (by rfl)) | exact QS_mloadN _ (by rfl) hcA _ (by rfl) | exact QS_call (by rfl) (fun W _ => d1 W) | exact QS_call (by rfl) (fun W _ => d2 W) | exact QS_call (by rfl) (fun W _ => d3 W) | exact QS_move (by rfl) | exact QS_assign (by rfl) | exact QS_load1 (by rfl) (by rfl) (by rfl) | exact QS_loadA (by rfl) (by rfl) _ (by rfl) | exact QS_fieldAddr (by rfl) | exact QS_mfieldAddr (by rfl) | exact QS_field (by rfl) (by rfl) | exact QS_mload1 (by rfl) (by assumption) | exact QS_build _ (by rfl) (by rfl) (by rfl) | exact QS_not (by rfl) | exact QS_extract (by rfl) (by rfl) | exact QS_len (by rfl) | exact QS_lenStr (by rfl) | exact QS_lenRow (by rfl) (by rfl) | exact QS_pick_t (by rfl) (by first | rfl | assumption) (by rfl) | exact QS_pick_f (by rfl) (by first | rfl | assumption) (by rfl) | exact QS_bin (by rfl) (by rfl) (by first | exact B_lss | exact B_leq | exact B_gtr | exact B_geq | exact B_eql | exact B_neq | exact B_seql | exact B_sneq | exact B_slss | exact B_sgeq | exact B_sleq | exact B_sgtr | exact B_beql | exact B_bneq | exact Bq_eql_Span | exact Bq_neq_Span | exact Bq_eql_Eff | exact Bq_neq_Eff | exact Bq_eql_Msg | exact Bq_neq_Msg | exact Bq_eql_Pair | exact Bq_neq_Pair) | exact QS_bin (by rfl) (by rfl) (B_add (by omega) (by omega)) | exact QS_bin (by rfl) (by rfl) (B_sadd (by assumption)) | exact QS_bin (by rfl) (by rfl) (B_sub (by omega) (by omega))) (by rfl) ?_
          | refine VS_st (by rfl) ?_
          | refine VS_q _ (by first | exact QS_indexAddr (j) (by rfl) (by rfl) (by omega) (by omega) | exact QS_mload1 (by rfl) (hcA 0 _ (by rfl)) | exact QS_mload1 (by rfl) (hcA _ _ (by rfl)) | exact QS_mloadN _ (by rfl) hcA _ (by rfl) | exact QS_call (by rfl) (fun W _ => d1 W) | exact QS_call (by rfl) (fun W _ => d2 W) | exact QS_call (by rfl) (fun W _ => d3 W) | exact QS_move (by rfl) | exact QS_assign (by rfl) | exact QS_load1 (by rfl) (by rfl) (by rfl) | exact QS_loadA (by rfl) (by rfl) _ (by rfl) | exact QS_fieldAddr (by rfl) | exact QS_mfieldAddr (by rfl) | exact QS_field (by rfl) (by rfl) | exact QS_mload1 (by rfl) (by assumption) | exact QS_build _ (by rfl) (by rfl) (by rfl) | exact QS_not (by rfl) | exact QS_extract (by rfl) (by rfl) | exact QS_len (by rfl) | exact QS_lenStr (by rfl) | exact QS_lenRow (by rfl) (by rfl) | exact QS_pick_t (by rfl) (by first | rfl | assumption) (by rfl) | exact QS_pick_f (by rfl) (by first | rfl | assumption) (by rfl) | exact QS_bin (by rfl) (by rfl) (by first | exact B_lss | exact B_leq | exact B_gtr | exact B_geq | exact B_eql | exact B_neq | exact B_seql | exact B_sneq | exact B_slss | exact B_sgeq | exact B_sleq | exact B_sgtr | exact B_beql | exact B_bneq | exact Bq_eql_Span | exact Bq_neq_Span | exact Bq_eql_Eff | exact Bq_neq_Eff | exact Bq_eql_Msg | exact Bq_neq_Msg | exact Bq_eql_Pair | exact Bq_neq_Pair) | exact QS_bin (by rfl) (by rfl) (B_add (by omega) (by omega)) | exact QS_bin (by rfl) (by rfl) (B_sadd (by assumption)) | exact QS_bin (by rfl) (by rfl) (B_sub (by omega) (by omega))) (by rfl) (by rfl) ?_
          | refine VS_nil ?_
          | refine VE_q (by rfl) ?_
          | refine VE_st _ (by rfl) (by first | exact ES_store1 (by rfl) (by rfl) (by rfl) (by rfl) (by rfl) | exact ES_storeN (by rfl) (by rfl) (by rfl) (by rfl) (by rfl) _ (by rfl)) (by rfl) ?_
          | refine VE_nil ?_
          | refine VL_yes _ _ _ (by rfl) (by rfl) (by rfl) (by first | rfl | assumption) ?_
          | refine VL_no _ _ _ (by rfl) (by rfl) (by rfl) (by first | rfl | assumption) (by rfl) ?_
          | refine VG_yes _ _ _ (by rfl) (by rfl) (by rfl) (by first | rfl | assumption) ?_
          | refine VG_no _ _ _ (by rfl) (by rfl) (by rfl) (by first | rfl | assumption) (by rfl) ?_
          | refine VL_noU _ _ (by rfl) (by rfl) (by rfl) (by rfl) ?_
          | refine VG_noU _ _ (by rfl) (by rfl) (by rfl) (by rfl) ?_
          | refine VG_nil ⟨by rfl, ?_⟩
          | refine VG_nil ?_
          | refine VC_drawT (by decide +kernel) ?_
          | refine VC_draw1 (by rfl) (by decide +kernel) (by rfl) (by rfl) ?_
          | refine VC_drawQ (by rfl) (by decide +kernel) ?_
          | refine VC_true (by rfl) (by first | rfl | assumption) ?_
          | refine VC_false (by rfl) (by first | rfl | assumption) ?_
          | refine VL_dec _ _ _ (by rfl) (by rfl) (by rfl) (fun hq => ?_) (fun hq => ?_)
          | refine VG_dec _ _ _ (by rfl) (by rfl) (by rfl) (fun hq => ?_) (fun hq => ?_)
          | refine VC_cond _ (by rfl) (fun hq => ?_) (fun hq => ?_))
        exact forQ_next [0, 1, 2] (j + 1) ⟨rfl, rfl, ⟨rfl, rfl, rfl, trivial⟩, ⟨rfl, rfl, rfl, rfl, rfl, rfl, rfl, trivial⟩⟩ (by omega) (by omega)
      | true =>
        have q1 : (!eqv (onM c L[j]) keepE) = false := by rw [h2 (by simpa using h4) _ hh, eqv_self]; rfl
        repeat' (first
          | refine VC_seq ?_
          | refine VC_region ?_
          | refine VL_nil ?_
          | refine VC_ret ?_
          | refine VC_exit ?_
          | refine VC_block ?_
          | refine VC_skip ?_
          | refine VL_box (by rfl) (by rfl) (by rfl) ?_
          | refine VL_alloc (by rfl) (by rfl) ?_
          | refine VL_store1 (by rfl) (by rfl) (by rfl) (by rfl) (by rfl) (by rfl) ?_
          | refine VL_storeN (by rfl) (by rfl) (by rfl) (by rfl) (by rfl) _ (by rfl) (by rfl) ?_
          | refine VL_lits (by rfl) (by rfl) (by rfl) (by rfl) (by rfl) (by rfl) (by rfl) ?_
          | refine VL_lit1 (by rfl) (by rfl) (by rfl) (by rfl) (by rfl) ?_
          | refine VL_append (by rfl) (by rfl) (by rfl) (by rfl) (by omega) (by rfl) (by unfold maxLen; omega) (by omega) (by rfl) (by rfl) ?_
          | refine VL_q _ (by first | exact QS_indexAddr (j) (by rfl) (by rfl) (by omega) (by omega) | exact QS_mload1 (by rfl) (hcA 0 _ (by rfl)) | exact QS_mload1 (by rfl) (hcA _ _ (by rfl)) | exact QS_mloadN _ (by rfl) hcA _ (by rfl) | exact QS_call (by rfl) (fun W _ => d1 W) | exact QS_call (by rfl) (fun W _ => d2 W) | exact QS_call (by rfl) (fun W _ => d3 W) | exact QS_move (by rfl) | exact QS_assign (by rfl) | exact QS_load1 (by rfl) (by rfl) (by rfl) | exact QS_loadA (by rfl) (by rfl) _ (by rfl) | exact QS_fieldAddr (by rfl) | exact QS_mfieldAddr (by rfl) | exact QS_field (by rfl) (by rfl) | exact QS_mload1 (by rfl) (by assumption) | exact QS_build _ (by rfl) (by rfl) (by rfl) | exact QS_not (by rfl) | exact QS_extract (by rfl) (by rfl) | exact QS_len (by rfl) | exact QS_lenStr (by rfl) | exact QS_lenRow (by rfl) (by rfl) | exact QS_pick_t (by rfl) (by first | rfl | assumption) (by rfl) | exact QS_pick_f (by rfl) (by first | rfl | assumption) (by rfl) | exact QS_bin (by rfl) (by rfl) (by first | exact B_lss | exact B_leq | exact B_gtr | exact B_geq | exact B_eql | exact B_neq | exact B_seql | exact B_sneq | exact B_slss | exact B_sgeq | exact B_sleq | exact B_sgtr | exact B_beql | exact B_bneq | exact Bq_eql_Span | exact Bq_neq_Span | exact Bq_eql_Eff | exact Bq_neq_Eff | exact Bq_eql_Msg | exact Bq_neq_Msg | exact Bq_eql_Pair | exact Bq_neq_Pair) | exact QS_bin (by rfl) (by rfl) (B_add (by omega) (by omega)) | exact QS_bin (by rfl) (by rfl) (B_sadd (by assumption)) | exact QS_bin (by rfl) (by rfl) (B_sub (by omega) (by omega))) (by rfl) ?_
          | refine VG_q _ (by first | exact QS_indexAddr (j) (by rfl) (by rfl) (by omega) (by omega) | exact QS_mload1 (by rfl) (hcA 0 _ (by rfl)) | exact QS_mload1 (by rfl) (hcA _ _ (by rfl)) | exact QS_mloadN _ (by rfl) hcA _ (by rfl) | exact QS_call (by rfl) (fun W _ => d1 W) | exact QS_call (by rfl) (fun W _ => d2 W) | exact QS_call (by rfl) (fun W _ => d3 W) | exact QS_move (by rfl) | exact QS_assign (by rfl) | exact QS_load1 (by rfl) (by rfl) (by rfl) | exact QS_loadA (by rfl) (by rfl) _ (by rfl) | exact QS_fieldAddr (by rfl) | exact QS_mfieldAddr (by rfl) | exact QS_field (by rfl) (by rfl) | exact QS_mload1 (by rfl) (by assumption) | exact QS_build _ (by rfl) (by rfl) (by rfl) | exact QS_not (by rfl) | exact QS_extract (by rfl) (by rfl) | exact QS_len (by rfl) | exact QS_lenStr (by rfl) | exact QS_lenRow (by rfl) (by rfl) | exact QS_pick_t (by rfl) (by first | rfl | assumption) (by rfl) | exact QS_pick_f (by rfl) (by first | rfl | assumption) (by rfl) | exact QS_bin (by rfl) (by rfl) (by first | exact B_lss | exact B_leq | exact B_gtr | exact B_geq | exact B_eql | exact B_neq | exact B_seql | exact B_sneq | exact B_slss | exact B_sgeq | exact B_sleq | exact B_sgtr | exact B_beql | exact B_bneq | exact Bq_eql_Span | exact Bq_neq_Span | exact Bq_eql_Eff | exact Bq_neq_Eff | exact Bq_eql_Msg | exact Bq_neq_Msg | exact Bq_eql_Pair | exact Bq_neq_Pair) | exact QS_bin (by rfl) (by rfl) (B_add (by omega) (by omega)) | exact QS_bin (by rfl) (by rfl) (B_sadd (by assumption)) | exact QS_bin (by rfl) (by rfl) (B_sub (by omega) (by omega))) (by rfl) ?_
          | refine VS_st (by rfl) ?_
          | refine VS_q _ (by first | exact QS_indexAddr (j) (by rfl) (by rfl) (by omega) (by omega) | exact QS_mload1 (by rfl) (hcA 0 _ (by rfl)) | exact QS_mload1 (by rfl) (hcA _ _ (by rfl)) | exact QS_mloadN _ (by rfl) hcA _ (by rfl) | exact QS_call (by rfl) (fun W _ => d1 W) | exact QS_call (by rfl) (fun W _ => d2 W) | exact QS_call (by rfl) (fun W _ => d3 W) | exact QS_move (by rfl) | exact QS_assign (by rfl) | exact QS_load1 (by rfl) (by rfl) (by rfl) | exact QS_loadA (by rfl) (by rfl) _ (by rfl) | exact QS_fieldAddr (by rfl) | exact QS_mfieldAddr (by rfl) | exact QS_field (by rfl) (by rfl) | exact QS_mload1 (by rfl) (by assumption) | exact QS_build _ (by rfl) (by rfl) (by rfl) | exact QS_not (by rfl) | exact QS_extract (by rfl) (by rfl) | exact QS_len (by rfl) | exact QS_lenStr (by rfl) | exact QS_lenRow (by rfl) (by rfl) | exact QS_pick_t (by rfl) (by first | rfl | assumption) (by rfl) | exact QS_pick_f (by rfl) (by first | rfl | assumption) (by rfl) | exact QS_bin (by rfl) (by rfl) (by first | exact B_lss | exact B_leq | exact B_gtr | exact B_geq | exact B_eql | exact B_neq | exact B_seql | exact B_sneq | exact B_slss | exact B_sgeq | exact B_sleq | exact B_sgtr | exact B_beql | exact B_bneq | exact Bq_eql_Span | exact Bq_neq_Span | exact Bq_eql_Eff | exact Bq_neq_Eff | exact Bq_eql_Msg | exact Bq_neq_Msg | exact Bq_eql_Pair | exact Bq_neq_Pair) | exact QS_bin (by rfl) (by rfl) (B_add (by omega) (by omega)) | exact QS_bin (by rfl) (by rfl) (B_sadd (by assumption)) | exact QS_bin (by rfl) (by rfl) (B_sub (by omega) (by omega))) (by rfl) (by rfl) ?_
          | refine VS_nil ?_
          | refine VE_q (by rfl) ?_
          | refine VE_st _ (by rfl) (by first | exact ES_store1 (by rfl) (by rfl) (by rfl) (by rfl) (by rfl) | exact ES_storeN (by rfl) (by rfl) (by rfl) (by rfl) (by rfl) _ (by rfl)) (by rfl) ?_
          | refine VE_nil ?_
          | refine VL_yes _ _ _ (by rfl) (by rfl) (by rfl) (by first | rfl | assumption) ?_
          | refine VL_no _ _ _ (by rfl) (by rfl) (by rfl) (by first | rfl | assumption) (by rfl) ?_
          | refine VG_yes _ _ _ (by rfl) (by rfl) (by rfl) (by first | rfl | assumption) ?_
          | refine VG_no _ _ _ (by rfl) (by rfl) (by rfl) (by first | rfl | assumption) (by rfl) ?_
          | refine VL_noU _ _ (by rfl) (by rfl) (by rfl) (by rfl) ?_
          | refine VG_noU _ _ (by rfl) (by rfl) (by rfl) (by rfl) ?_
          | refine VG_nil ⟨by rfl, ?_⟩
          | refine VG_nil ?_
          | refine VC_drawT (by decide +kernel) ?_
          | refine VC_draw1 (by rfl) (by decide +kernel) (by rfl) (by rfl) ?_
          | refine VC_drawQ (by rfl) (by decide +kernel) ?_
          | refine VC_true (by rfl) (by first | rfl | assumption) ?_
          | refine VC_false (by rfl) (by first | rfl | assumption) ?_
          | refine VL_dec _ _ _ (by rfl) (by rfl) (by rfl) (fun hq => ?_) (fun hq => ?_)
          | refine VG_dec _ _ _ (by rfl) (by rfl) (by rfl) (fun hq => ?_) (fun hq => ?_)
          | refine VC_cond _ (by rfl) (fun hq => ?_) (fun hq => ?_))
        exact forQ_next [0, 1, 2] (j + 1) ⟨rfl, rfl, ⟨rfl, rfl, rfl, trivial⟩, ⟨rfl, rfl, rfl, rfl, rfl, rfl, rfl, trivial⟩⟩ (by omega) (by omega)
  · have hd := dge hge
    repeat' (first
      | refine VC_seq ?_
      | refine VC_region ?_
      | refine VL_nil ?_
      | refine VC_ret ?_
      | refine VC_exit ?_
      | refine VC_block ?_
      | refine VC_skip ?_
      | refine VL_box (by rfl) (by rfl) (by rfl) ?_
      | refine VL_alloc (by rfl) (by rfl) ?_
      | refine VL_store1 (by rfl) (by rfl) (by rfl) (by rfl) (by rfl) (by rfl) ?_
      | refine VL_storeN (by rfl) (by rfl) (by rfl) (by rfl) (by rfl) _ (by rfl) (by rfl) ?_
      | refine VL_lits (by rfl) (by rfl) (by rfl) (by rfl) (by rfl) (by rfl) (by rfl) ?_
      | refine VL_lit1 (by rfl) (by rfl) (by rfl) (by rfl) (by rfl) ?_
      | refine VL_append (by rfl) (by rfl) (by rfl) (by rfl) (by omega) (by rfl) (by unfold maxLen; omega) (by omega) (by rfl) (by rfl) ?_
      | refine VL_q _ (by first | exact QS_call (by rfl) (fun W _ => b5 W) | exact QS_call (by rfl) (fun W _ => b6 W) | exact QS_call (by rfl) (fun W _ => message_awake W) | exact QS_move (by rfl) | exact QS_assign (by rfl) | exact QS_load1 (by rfl) (by rfl) (by rfl) | exact QS_loadA (by rfl) (by rfl) _ (by rfl) | exact QS_fieldAddr (by rfl) | exact QS_mfieldAddr (by rfl) | exact QS_field (by rfl) (by rfl) | exact QS_mload1 (by rfl) (by assumption) | exact QS_build _ (by rfl) (by rfl) (by rfl) | exact QS_not (by rfl) | exact QS_extract (by rfl) (by rfl) | exact QS_len (by rfl) | exact QS_lenStr (by rfl) | exact QS_lenRow (by rfl) (by rfl) | exact QS_pick_t (by rfl) (by first | rfl | assumption) (by rfl) | exact QS_pick_f (by rfl) (by first | rfl | assumption) (by rfl) | exact QS_bin (by rfl) (by rfl) (by first | exact B_lss | exact B_leq | exact B_gtr | exact B_geq | exact B_eql | exact B_neq | exact B_seql | exact B_sneq | exact B_slss | exact B_sgeq | exact B_sleq | exact B_sgtr | exact B_beql | exact B_bneq | exact Bq_eql_Span | exact Bq_neq_Span | exact Bq_eql_Eff | exact Bq_neq_Eff | exact Bq_eql_Msg | exact Bq_neq_Msg | exact Bq_eql_Pair | exact Bq_neq_Pair) | exact QS_bin (by rfl) (by rfl) (B_add (by omega) (by omega)) | exact QS_bin (by rfl) (by rfl) (B_sadd (by assumption)) | exact QS_bin (by rfl) (by rfl) (B_sub (by omega) (by omega))) (by rfl) ?_
      | refine VG_q _ (by first | exact QS_call (by rfl) (fun W _ => b5 W) | exact QS_call (by rfl) (fun W _ => b6 W) | exact QS_call (by rfl) (fun W _ => message_awake W) | exact QS_move (by rfl) | exact QS_assign (by rfl) | exact QS_load1 (by rfl) (by rfl) (by rfl) | exact QS_loadA (by rfl) (by rfl) _ (by rfl) | exact QS_fieldAddr (by rfl) | exact QS_mfieldAddr (by rfl) | exact QS_field (by rfl) (by rfl) | exact QS_mload1 (by rfl) (by assumption) | exact QS_build _ (by rfl) (by rfl) (by rfl) | exact QS_not (by rfl) | exact QS_extract (by rfl) (by rfl) | exact QS_len (by rfl) | exact QS_lenStr (by rfl) | exact QS_lenRow (by rfl) (by rfl) | exact QS_pick_t (by rfl) (by first | rfl | assumption) (by rfl) | exact QS_pick_f (by rfl) (by first | rfl | assumption) (by rfl) | exact QS_bin (by rfl) (by rfl) (by first | exact B_lss | exact B_leq | exact B_gtr | exact B_geq | exact B_eql | exact B_neq | exact B_seql | exact B_sneq | exact B_slss | exact B_sgeq | exact B_sleq | exact B_sgtr | exact B_beql | exact B_bneq | exact Bq_eql_Span | exact Bq_neq_Span | exact Bq_eql_Eff | exact Bq_neq_Eff | exact Bq_eql_Msg | exact Bq_neq_Msg | exact Bq_eql_Pair | exact Bq_neq_Pair) | exact QS_bin (by rfl) (by rfl) (B_add (by omega) (by omega)) | exact QS_bin (by rfl) (by rfl) (B_sadd (by assumption)) | exact QS_bin (by rfl) (by rfl) (B_sub (by omega) (by omega))) (by rfl) ?_
      | refine VS_st (by rfl) ?_
      | refine VS_q _ (by first | exact QS_call (by rfl) (fun W _ => b5 W) | exact QS_call (by rfl) (fun W _ => b6 W) | exact QS_call (by rfl) (fun W _ => message_awake W) | exact QS_move (by rfl) | exact QS_assign (by rfl) | exact QS_load1 (by rfl) (by rfl) (by rfl) | exact QS_loadA (by rfl) (by rfl) _ (by rfl) | exact QS_fieldAddr (by rfl) | exact QS_mfieldAddr (by rfl) | exact QS_field (by rfl) (by rfl) | exact QS_mload1 (by rfl) (by assumption) | exact QS_build _ (by rfl) (by rfl) (by rfl) | exact QS_not (by rfl) | exact QS_extract (by rfl) (by rfl) | exact QS_len (by rfl) | exact QS_lenStr (by rfl) | exact QS_lenRow (by rfl) (by rfl) | exact QS_pick_t (by rfl) (by first | rfl | assumption) (by rfl) | exact QS_pick_f (by rfl) (by first | rfl | assumption) (by rfl) | exact QS_bin (by rfl) (by rfl) (by first | exact B_lss | exact B_leq | exact B_gtr | exact B_geq | exact B_eql | exact B_neq | exact B_seql | exact B_sneq | exact B_slss | exact B_sgeq | exact B_sleq | exact B_sgtr | exact B_beql | exact B_bneq | exact Bq_eql_Span | exact Bq_neq_Span | exact Bq_eql_Eff | exact Bq_neq_Eff | exact Bq_eql_Msg | exact Bq_neq_Msg | exact Bq_eql_Pair | exact Bq_neq_Pair) | exact QS_bin (by rfl) (by rfl) (B_add (by omega) (by omega)) | exact QS_bin (by rfl) (by rfl) (B_sadd (by assumption)) | exact QS_bin (by rfl) (by rfl) (B_sub (by omega) (by omega))) (by rfl) (by rfl) ?_
      | refine VS_nil ?_
      | refine VE_q (by rfl) ?_
      | refine VE_st _ (by rfl) (by first | exact ES_store1 (by rfl) (by rfl) (by rfl) (by rfl) (by rfl) | exact ES_storeN (by rfl) (by rfl) (by rfl) (by rfl) (by rfl) _ (by rfl)) (by rfl) ?_
      | refine VE_nil ?_
      | refine VL_yes _ _ _ (by rfl) (by rfl) (by rfl) (by first | rfl | assumption) ?_
      | refine VL_no _ _ _ (by rfl) (by rfl) (by rfl) (by first | rfl | assumption) (by rfl) ?_
      | refine VG_yes _ _ _ (by rfl) (by rfl) (by rfl) (by first | rfl | assumption) ?_
      | refine VG_no _ _ _ (by rfl) (by rfl) (by rfl) (by first | rfl | assumption) (by rfl) ?_
      | refine VL_noU _ _ (by rfl) (by rfl) (by rfl) (by rfl) ?_
      | refine VG_noU _ _ (by rfl) (by rfl) (by rfl) (by rfl) ?_
      | refine VG_nil ⟨by rfl, ?_⟩
      | refine VG_nil ?_
      | refine VC_drawT (by decide +kernel) ?_
      | refine VC_draw1 (by rfl) (by decide +kernel) (by rfl) (by rfl) ?_
      | refine VC_drawQ (by rfl) (by decide +kernel) ?_
      | refine VC_true (by rfl) (by first | rfl | assumption) ?_
      | refine VC_false (by rfl) (by first | rfl | assumption) ?_
      | refine VL_dec _ _ _ (by rfl) (by rfl) (by rfl) (fun hq => ?_) (fun hq => ?_)
      | refine VG_dec _ _ _ (by rfl) (by rfl) (by rfl) (fun hq => ?_) (fun hq => ?_)
      | refine VC_cond _ (by rfl) (fun hq => ?_) (fun hq => ?_))
    show Res _ _ _ _
    refine Res.one (by rfl) (ResV_tmp (by rfl) ?_)
    rfl
set_option maxHeartbeats 8000000 in
theorem walk (m : Msg) (s : Span) (k : ByteArray) (w : World) (hm : m.In) (hs : s.In) (hk : Sz k) :
    Calls Try.prog 5 #[.agg #[.int .i64 m.stamp, .int .i64 m.kind, .string m.key, .string m.hi, .bool m.opn, .string m.val], .agg #[.string s.lo, .string s.hi, .bool s.opn], .string k] w fun e w' => e = .returned (.bool true) ∧ Below w.heap.size w w' := by
  have a1 : ∀ W, Calls Try.prog 14 #[.agg #[.int .i64 m.stamp, .int .i64 m.kind, .string m.key, .string m.hi, .bool m.opn, .string m.val], .int .i64 300] W fun e w' => e = .returned (.bool (longM m 300)) ∧ Below W.heap.size W w' := fun W => ref_Long m 300 W hm
  have a2 : ∀ W, Calls Try.prog 15 #[.agg #[.string s.lo, .string s.hi, .bool s.opn], .agg #[.string s.lo, .string s.hi, .bool s.opn], .string k, .int .i64 300] W fun e w' => e = .returned (.bool (shortB s s k 300)) ∧ Below W.heap.size W w' := fun W => ref_Short s s k 300 W hs.1 hs.2 hs.1 hs.2 hk
  cases hL : longM m 300 with
  | false =>
    rw [hL] at a1
    refine V_flat (args := [.agg #[.int .i64 m.stamp, .int .i64 m.kind, .string m.key, .string m.hi, .bool m.opn, .string m.val], .agg #[.string s.lo, .string s.hi, .bool s.opn], .string k]) (M := Mem.no) Try.func5 rfl Try.ntmps5 (by rfl) (Mem.no_le _) ?_
    repeat' (first
      | refine VC_seq ?_
      | refine VC_region ?_
      | refine VL_nil ?_
      | refine VC_ret ?_
      | refine VC_exit ?_
      | refine VC_block ?_
      | refine VC_skip ?_
      | refine VL_box (by rfl) (by rfl) (by rfl) ?_
      | refine VL_alloc (by rfl) (by rfl) ?_
      | refine VL_store1 (by rfl) (by rfl) (by rfl) (by rfl) (by rfl) (by rfl) ?_
      | refine VL_storeN (by rfl) (by rfl) (by rfl) (by rfl) (by rfl) _ (by rfl) (by rfl) ?_
      | refine VL_lits (by rfl) (by rfl) (by rfl) (by rfl) (by rfl) (by rfl) (by rfl) ?_
      | refine VL_lit1 (by rfl) (by rfl) (by rfl) (by rfl) (by rfl) ?_
      | refine VL_append (by rfl) (by rfl) (by rfl) (by rfl) (by omega) (by rfl) (by unfold maxLen; omega) (by omega) (by rfl) (by rfl) ?_
      | refine VL_q _ (by first | exact QS_call (by rfl) (fun W _ => message_awake W) | exact QS_call (by rfl) (fun W _ => a1 W) | exact QS_call (by rfl) (fun W _ => a2 W) | exact QS_move (by rfl) | exact QS_assign (by rfl) | exact QS_load1 (by rfl) (by rfl) (by rfl) | exact QS_loadA (by rfl) (by rfl) _ (by rfl) | exact QS_fieldAddr (by rfl) | exact QS_mfieldAddr (by rfl) | exact QS_field (by rfl) (by rfl) | exact QS_mload1 (by rfl) (by assumption) | exact QS_build _ (by rfl) (by rfl) (by rfl) | exact QS_not (by rfl) | exact QS_extract (by rfl) (by rfl) | exact QS_len (by rfl) | exact QS_lenStr (by rfl) | exact QS_lenRow (by rfl) (by rfl) | exact QS_pick_t (by rfl) (by first | rfl | assumption) (by rfl) | exact QS_pick_f (by rfl) (by first | rfl | assumption) (by rfl) | exact QS_bin (by rfl) (by rfl) (by first | exact B_lss | exact B_leq | exact B_gtr | exact B_geq | exact B_eql | exact B_neq | exact B_seql | exact B_sneq | exact B_slss | exact B_sgeq | exact B_sleq | exact B_sgtr | exact B_beql | exact B_bneq | exact Bq_eql_Span | exact Bq_neq_Span | exact Bq_eql_Eff | exact Bq_neq_Eff | exact Bq_eql_Msg | exact Bq_neq_Msg | exact Bq_eql_Pair | exact Bq_neq_Pair) | exact QS_bin (by rfl) (by rfl) (B_add (by omega) (by omega)) | exact QS_bin (by rfl) (by rfl) (B_sadd (by assumption)) | exact QS_bin (by rfl) (by rfl) (B_sub (by omega) (by omega))) (by rfl) ?_
      | refine VG_q _ (by first | exact QS_call (by rfl) (fun W _ => message_awake W) | exact QS_call (by rfl) (fun W _ => a1 W) | exact QS_call (by rfl) (fun W _ => a2 W) | exact QS_move (by rfl) | exact QS_assign (by rfl) | exact QS_load1 (by rfl) (by rfl) (by rfl) | exact QS_loadA (by rfl) (by rfl) _ (by rfl) | exact QS_fieldAddr (by rfl) | exact QS_mfieldAddr (by rfl) | exact QS_field (by rfl) (by rfl) | exact QS_mload1 (by rfl) (by assumption) | exact QS_build _ (by rfl) (by rfl) (by rfl) | exact QS_not (by rfl) | exact QS_extract (by rfl) (by rfl) | exact QS_len (by rfl) | exact QS_lenStr (by rfl) | exact QS_lenRow (by rfl) (by rfl) | exact QS_pick_t (by rfl) (by first | rfl | assumption) (by rfl) | exact QS_pick_f (by rfl) (by first | rfl | assumption) (by rfl) | exact QS_bin (by rfl) (by rfl) (by first | exact B_lss | exact B_leq | exact B_gtr | exact B_geq | exact B_eql | exact B_neq | exact B_seql | exact B_sneq | exact B_slss | exact B_sgeq | exact B_sleq | exact B_sgtr | exact B_beql | exact B_bneq | exact Bq_eql_Span | exact Bq_neq_Span | exact Bq_eql_Eff | exact Bq_neq_Eff | exact Bq_eql_Msg | exact Bq_neq_Msg | exact Bq_eql_Pair | exact Bq_neq_Pair) | exact QS_bin (by rfl) (by rfl) (B_add (by omega) (by omega)) | exact QS_bin (by rfl) (by rfl) (B_sadd (by assumption)) | exact QS_bin (by rfl) (by rfl) (B_sub (by omega) (by omega))) (by rfl) ?_
      | refine VS_st (by rfl) ?_
      | refine VS_q _ (by first | exact QS_call (by rfl) (fun W _ => message_awake W) | exact QS_call (by rfl) (fun W _ => a1 W) | exact QS_call (by rfl) (fun W _ => a2 W) | exact QS_move (by rfl) | exact QS_assign (by rfl) | exact QS_load1 (by rfl) (by rfl) (by rfl) | exact QS_loadA (by rfl) (by rfl) _ (by rfl) | exact QS_fieldAddr (by rfl) | exact QS_mfieldAddr (by rfl) | exact QS_field (by rfl) (by rfl) | exact QS_mload1 (by rfl) (by assumption) | exact QS_build _ (by rfl) (by rfl) (by rfl) | exact QS_not (by rfl) | exact QS_extract (by rfl) (by rfl) | exact QS_len (by rfl) | exact QS_lenStr (by rfl) | exact QS_lenRow (by rfl) (by rfl) | exact QS_pick_t (by rfl) (by first | rfl | assumption) (by rfl) | exact QS_pick_f (by rfl) (by first | rfl | assumption) (by rfl) | exact QS_bin (by rfl) (by rfl) (by first | exact B_lss | exact B_leq | exact B_gtr | exact B_geq | exact B_eql | exact B_neq | exact B_seql | exact B_sneq | exact B_slss | exact B_sgeq | exact B_sleq | exact B_sgtr | exact B_beql | exact B_bneq | exact Bq_eql_Span | exact Bq_neq_Span | exact Bq_eql_Eff | exact Bq_neq_Eff | exact Bq_eql_Msg | exact Bq_neq_Msg | exact Bq_eql_Pair | exact Bq_neq_Pair) | exact QS_bin (by rfl) (by rfl) (B_add (by omega) (by omega)) | exact QS_bin (by rfl) (by rfl) (B_sadd (by assumption)) | exact QS_bin (by rfl) (by rfl) (B_sub (by omega) (by omega))) (by rfl) (by rfl) ?_
      | refine VS_nil ?_
      | refine VE_q (by rfl) ?_
      | refine VE_st _ (by rfl) (by first | exact ES_store1 (by rfl) (by rfl) (by rfl) (by rfl) (by rfl) | exact ES_storeN (by rfl) (by rfl) (by rfl) (by rfl) (by rfl) _ (by rfl)) (by rfl) ?_
      | refine VE_nil ?_
      | refine VL_yes _ _ _ (by rfl) (by rfl) (by rfl) (by first | rfl | assumption) ?_
      | refine VL_no _ _ _ (by rfl) (by rfl) (by rfl) (by first | rfl | assumption) (by rfl) ?_
      | refine VG_yes _ _ _ (by rfl) (by rfl) (by rfl) (by first | rfl | assumption) ?_
      | refine VG_no _ _ _ (by rfl) (by rfl) (by rfl) (by first | rfl | assumption) (by rfl) ?_
      | refine VL_noU _ _ (by rfl) (by rfl) (by rfl) (by rfl) ?_
      | refine VG_noU _ _ (by rfl) (by rfl) (by rfl) (by rfl) ?_
      | refine VG_nil ⟨by rfl, ?_⟩
      | refine VG_nil ?_
      | refine VC_drawT (by decide +kernel) ?_
      | refine VC_draw1 (by rfl) (by decide +kernel) (by rfl) (by rfl) ?_
      | refine VC_drawQ (by rfl) (by decide +kernel) ?_
      | refine VC_true (by rfl) (by first | rfl | assumption) ?_
      | refine VC_false (by rfl) (by first | rfl | assumption) ?_
      | refine VL_dec _ _ _ (by rfl) (by rfl) (by rfl) (fun hq => ?_) (fun hq => ?_)
      | refine VG_dec _ _ _ (by rfl) (by rfl) (by rfl) (fun hq => ?_) (fun hq => ?_)
      | refine VC_cond _ (by rfl) (fun hq => ?_) (fun hq => ?_))
    show Res _ _ _ _
    refine Res.one (by rfl) (ResV_tmp (by rfl) ?_)
    rfl
  | true =>
    rw [hL] at a1
    cases hS : shortB s s k 300 with
    | false =>
      rw [hS] at a2
      refine V_flat (args := [.agg #[.int .i64 m.stamp, .int .i64 m.kind, .string m.key, .string m.hi, .bool m.opn, .string m.val], .agg #[.string s.lo, .string s.hi, .bool s.opn], .string k]) (M := Mem.no) Try.func5 rfl Try.ntmps5 (by rfl) (Mem.no_le _) ?_
      repeat' (first
        | refine VC_seq ?_
        | refine VC_region ?_
        | refine VL_nil ?_
        | refine VC_ret ?_
        | refine VC_exit ?_
        | refine VC_block ?_
        | refine VC_skip ?_
        | refine VL_box (by rfl) (by rfl) (by rfl) ?_
        | refine VL_alloc (by rfl) (by rfl) ?_
        | refine VL_store1 (by rfl) (by rfl) (by rfl) (by rfl) (by rfl) (by rfl) ?_
        | refine VL_storeN (by rfl) (by rfl) (by rfl) (by rfl) (by rfl) _ (by rfl) (by rfl) ?_
        | refine VL_lits (by rfl) (by rfl) (by rfl) (by rfl) (by rfl) (by rfl) (by rfl) ?_
        | refine VL_lit1 (by rfl) (by rfl) (by rfl) (by rfl) (by rfl) ?_
        | refine VL_append (by rfl) (by rfl) (by rfl) (by rfl) (by omega) (by rfl) (by unfold maxLen; omega) (by omega) (by rfl) (by rfl) ?_
        | refine VL_q _ (by first | exact QS_call (by rfl) (fun W _ => message_awake W) | exact QS_call (by rfl) (fun W _ => a1 W) | exact QS_call (by rfl) (fun W _ => a2 W) | exact QS_move (by rfl) | exact QS_assign (by rfl) | exact QS_load1 (by rfl) (by rfl) (by rfl) | exact QS_loadA (by rfl) (by rfl) _ (by rfl) | exact QS_fieldAddr (by rfl) | exact QS_mfieldAddr (by rfl) | exact QS_field (by rfl) (by rfl) | exact QS_mload1 (by rfl) (by assumption) | exact QS_build _ (by rfl) (by rfl) (by rfl) | exact QS_not (by rfl) | exact QS_extract (by rfl) (by rfl) | exact QS_len (by rfl) | exact QS_lenStr (by rfl) | exact QS_lenRow (by rfl) (by rfl) | exact QS_pick_t (by rfl) (by first | rfl | assumption) (by rfl) | exact QS_pick_f (by rfl) (by first | rfl | assumption) (by rfl) | exact QS_bin (by rfl) (by rfl) (by first | exact B_lss | exact B_leq | exact B_gtr | exact B_geq | exact B_eql | exact B_neq | exact B_seql | exact B_sneq | exact B_slss | exact B_sgeq | exact B_sleq | exact B_sgtr | exact B_beql | exact B_bneq | exact Bq_eql_Span | exact Bq_neq_Span | exact Bq_eql_Eff | exact Bq_neq_Eff | exact Bq_eql_Msg | exact Bq_neq_Msg | exact Bq_eql_Pair | exact Bq_neq_Pair) | exact QS_bin (by rfl) (by rfl) (B_add (by omega) (by omega)) | exact QS_bin (by rfl) (by rfl) (B_sadd (by assumption)) | exact QS_bin (by rfl) (by rfl) (B_sub (by omega) (by omega))) (by rfl) ?_
        | refine VG_q _ (by first | exact QS_call (by rfl) (fun W _ => message_awake W) | exact QS_call (by rfl) (fun W _ => a1 W) | exact QS_call (by rfl) (fun W _ => a2 W) | exact QS_move (by rfl) | exact QS_assign (by rfl) | exact QS_load1 (by rfl) (by rfl) (by rfl) | exact QS_loadA (by rfl) (by rfl) _ (by rfl) | exact QS_fieldAddr (by rfl) | exact QS_mfieldAddr (by rfl) | exact QS_field (by rfl) (by rfl) | exact QS_mload1 (by rfl) (by assumption) | exact QS_build _ (by rfl) (by rfl) (by rfl) | exact QS_not (by rfl) | exact QS_extract (by rfl) (by rfl) | exact QS_len (by rfl) | exact QS_lenStr (by rfl) | exact QS_lenRow (by rfl) (by rfl) | exact QS_pick_t (by rfl) (by first | rfl | assumption) (by rfl) | exact QS_pick_f (by rfl) (by first | rfl | assumption) (by rfl) | exact QS_bin (by rfl) (by rfl) (by first | exact B_lss | exact B_leq | exact B_gtr | exact B_geq | exact B_eql | exact B_neq | exact B_seql | exact B_sneq | exact B_slss | exact B_sgeq | exact B_sleq | exact B_sgtr | exact B_beql | exact B_bneq | exact Bq_eql_Span | exact Bq_neq_Span | exact Bq_eql_Eff | exact Bq_neq_Eff | exact Bq_eql_Msg | exact Bq_neq_Msg | exact Bq_eql_Pair | exact Bq_neq_Pair) | exact QS_bin (by rfl) (by rfl) (B_add (by omega) (by omega)) | exact QS_bin (by rfl) (by rfl) (B_sadd (by assumption)) | exact QS_bin (by rfl) (by rfl) (B_sub (by omega) (by omega))) (by rfl) ?_
        | refine VS_st (by rfl) ?_
        | refine VS_q _ (by first | exact QS_call (by rfl) (fun W _ => message_awake W) | exact QS_call (by rfl) (fun W _ => a1 W) | exact QS_call (by rfl) (fun W _ => a2 W) | exact QS_move (by rfl) | exact QS_assign (by rfl) | exact QS_load1 (by rfl) (by rfl) (by rfl) | exact QS_loadA (by rfl) (by rfl) _ (by rfl) | exact QS_fieldAddr (by rfl) | exact QS_mfieldAddr (by rfl) | exact QS_field (by rfl) (by rfl) | exact QS_mload1 (by rfl) (by assumption) | exact QS_build _ (by rfl) (by rfl) (by rfl) | exact QS_not (by rfl) | exact QS_extract (by rfl) (by rfl) | exact QS_len (by rfl) | exact QS_lenStr (by rfl) | exact QS_lenRow (by rfl) (by rfl) | exact QS_pick_t (by rfl) (by first | rfl | assumption) (by rfl) | exact QS_pick_f (by rfl) (by first | rfl | assumption) (by rfl) | exact QS_bin (by rfl) (by rfl) (by first | exact B_lss | exact B_leq | exact B_gtr | exact B_geq | exact B_eql | exact B_neq | exact B_seql | exact B_sneq | exact B_slss | exact B_sgeq | exact B_sleq | exact B_sgtr | exact B_beql | exact B_bneq | exact Bq_eql_Span | exact Bq_neq_Span | exact Bq_eql_Eff | exact Bq_neq_Eff | exact Bq_eql_Msg | exact Bq_neq_Msg | exact Bq_eql_Pair | exact Bq_neq_Pair) | exact QS_bin (by rfl) (by rfl) (B_add (by omega) (by omega)) | exact QS_bin (by rfl) (by rfl) (B_sadd (by assumption)) | exact QS_bin (by rfl) (by rfl) (B_sub (by omega) (by omega))) (by rfl) (by rfl) ?_
        | refine VS_nil ?_
        | refine VE_q (by rfl) ?_
        | refine VE_st _ (by rfl) (by first | exact ES_store1 (by rfl) (by rfl) (by rfl) (by rfl) (by rfl) | exact ES_storeN (by rfl) (by rfl) (by rfl) (by rfl) (by rfl) _ (by rfl)) (by rfl) ?_
        | refine VE_nil ?_
        | refine VL_yes _ _ _ (by rfl) (by rfl) (by rfl) (by first | rfl | assumption) ?_
        | refine VL_no _ _ _ (by rfl) (by rfl) (by rfl) (by first | rfl | assumption) (by rfl) ?_
        | refine VG_yes _ _ _ (by rfl) (by rfl) (by rfl) (by first | rfl | assumption) ?_
        | refine VG_no _ _ _ (by rfl) (by rfl) (by rfl) (by first | rfl | assumption) (by rfl) ?_
        | refine VL_noU _ _ (by rfl) (by rfl) (by rfl) (by rfl) ?_
        | refine VG_noU _ _ (by rfl) (by rfl) (by rfl) (by rfl) ?_
        | refine VG_nil ⟨by rfl, ?_⟩
        | refine VG_nil ?_
        | refine VC_drawT (by decide +kernel) ?_
        | refine VC_draw1 (by rfl) (by decide +kernel) (by rfl) (by rfl) ?_
        | refine VC_drawQ (by rfl) (by decide +kernel) ?_
        | refine VC_true (by rfl) (by first | rfl | assumption) ?_
        | refine VC_false (by rfl) (by first | rfl | assumption) ?_
        | refine VL_dec _ _ _ (by rfl) (by rfl) (by rfl) (fun hq => ?_) (fun hq => ?_)
        | refine VG_dec _ _ _ (by rfl) (by rfl) (by rfl) (fun hq => ?_) (fun hq => ?_)
        | refine VC_cond _ (by rfl) (fun hq => ?_) (fun hq => ?_))
      show Res _ _ _ _
      refine Res.one (by rfl) (ResV_tmp (by rfl) ?_)
      rfl
    | true =>
      rw [hS] at a2
      simp only [longM, Bool.and_eq_true, decide_eq_true_eq] at hL
      simp only [shortB, Bool.and_eq_true, decide_eq_true_eq] at hS
      obtain ⟨l1, l2, l3⟩ := hL
      obtain ⟨⟨s1, _⟩, s2⟩ := hS
      have a3 := fun W => message_Clip m s W (by omega)
      have a4 := fun W => ref_ClipM m s W (by omega) (by omega) (by omega) (by omega)
      rw [clip_ok] at a3 a4
      cases hT : touch (spanM m) s with
      | false =>
        have hc : (clipM m s).1 = msgE := by unfold clipM; rw [hT]; rfl
        rw [hT, hc] at a3 a4
        have q0 : (!eqv msgE msgE) = false := by rw [eqv_self]; rfl
        refine V_flat (args := [.agg #[.int .i64 m.stamp, .int .i64 m.kind, .string m.key, .string m.hi, .bool m.opn, .string m.val], .agg #[.string s.lo, .string s.hi, .bool s.opn], .string k]) (M := Mem.no) Try.func5 rfl Try.ntmps5 (by rfl) (Mem.no_le _) ?_
        repeat' (first
          | refine VC_seq ?_
          | refine VC_region ?_
          | refine VL_nil ?_
          | refine VC_ret ?_
          | refine VC_exit ?_
          | refine VC_block ?_
          | refine VC_skip ?_
          | refine VL_box (by rfl) (by rfl) (by rfl) ?_
          | refine VL_alloc (by rfl) (by rfl) ?_
          | refine VL_store1 (by rfl) (by rfl) (by rfl) (by rfl) (by rfl) (by rfl) ?_
          | refine VL_storeN (by rfl) (by rfl) (by rfl) (by rfl) (by rfl) _ (by rfl) (by rfl) ?_
          | refine VL_lits (by rfl) (by rfl) (by rfl) (by rfl) (by rfl) (by rfl) (by rfl) ?_
          | refine VL_lit1 (by rfl) (by rfl) (by rfl) (by rfl) (by rfl) ?_
          | refine VL_append (by rfl) (by rfl) (by rfl) (by rfl) (by omega) (by rfl) (by unfold maxLen; omega) (by omega) (by rfl) (by rfl) ?_
          | refine VL_q _ (by first | exact QS_call (by rfl) (fun W _ => message_awake W) | exact QS_call (by rfl) (fun W _ => a1 W) | exact QS_call (by rfl) (fun W _ => a2 W) | exact QS_call (by rfl) (fun W _ => a3 W) | exact QS_call (by rfl) (fun W _ => a4 W) | exact QS_move (by rfl) | exact QS_assign (by rfl) | exact QS_load1 (by rfl) (by rfl) (by rfl) | exact QS_loadA (by rfl) (by rfl) _ (by rfl) | exact QS_fieldAddr (by rfl) | exact QS_mfieldAddr (by rfl) | exact QS_field (by rfl) (by rfl) | exact QS_mload1 (by rfl) (by assumption) | exact QS_build _ (by rfl) (by rfl) (by rfl) | exact QS_not (by rfl) | exact QS_extract (by rfl) (by rfl) | exact QS_len (by rfl) | exact QS_lenStr (by rfl) | exact QS_lenRow (by rfl) (by rfl) | exact QS_pick_t (by rfl) (by first | rfl | assumption) (by rfl) | exact QS_pick_f (by rfl) (by first | rfl | assumption) (by rfl) | exact QS_bin (by rfl) (by rfl) (by first | exact B_lss | exact B_leq | exact B_gtr | exact B_geq | exact B_eql | exact B_neq | exact B_seql | exact B_sneq | exact B_slss | exact B_sgeq | exact B_sleq | exact B_sgtr | exact B_beql | exact B_bneq | exact Bq_eql_Span | exact Bq_neq_Span | exact Bq_eql_Eff | exact Bq_neq_Eff | exact Bq_eql_Msg | exact Bq_neq_Msg | exact Bq_eql_Pair | exact Bq_neq_Pair) | exact QS_bin (by rfl) (by rfl) (B_add (by omega) (by omega)) | exact QS_bin (by rfl) (by rfl) (B_sadd (by assumption)) | exact QS_bin (by rfl) (by rfl) (B_sub (by omega) (by omega))) (by rfl) ?_
          | refine VG_q _ (by first | exact QS_call (by rfl) (fun W _ => message_awake W) | exact QS_call (by rfl) (fun W _ => a1 W) | exact QS_call (by rfl) (fun W _ => a2 W) | exact QS_call (by rfl) (fun W _ => a3 W) | exact QS_call (by rfl) (fun W _ => a4 W) | exact QS_move (by rfl) | exact QS_assign (by rfl) | exact QS_load1 (by rfl) (by rfl) (by rfl) | exact QS_loadA (by rfl) (by rfl) _ (by rfl) | exact QS_fieldAddr (by rfl) | exact QS_mfieldAddr (by rfl) | exact QS_field (by rfl) (by rfl) | exact QS_mload1 (by rfl) (by assumption) | exact QS_build _ (by rfl) (by rfl) (by rfl) | exact QS_not (by rfl) | exact QS_extract (by rfl) (by rfl) | exact QS_len (by rfl) | exact QS_lenStr (by rfl) | exact QS_lenRow (by rfl) (by rfl) | exact QS_pick_t (by rfl) (by first | rfl | assumption) (by rfl) | exact QS_pick_f (by rfl) (by first | rfl | assumption) (by rfl) | exact QS_bin (by rfl) (by rfl) (by first | exact B_lss | exact B_leq | exact B_gtr | exact B_geq | exact B_eql | exact B_neq | exact B_seql | exact B_sneq | exact B_slss | exact B_sgeq | exact B_sleq | exact B_sgtr | exact B_beql | exact B_bneq | exact Bq_eql_Span | exact Bq_neq_Span | exact Bq_eql_Eff | exact Bq_neq_Eff | exact Bq_eql_Msg | exact Bq_neq_Msg | exact Bq_eql_Pair | exact Bq_neq_Pair) | exact QS_bin (by rfl) (by rfl) (B_add (by omega) (by omega)) | exact QS_bin (by rfl) (by rfl) (B_sadd (by assumption)) | exact QS_bin (by rfl) (by rfl) (B_sub (by omega) (by omega))) (by rfl) ?_
          | refine VS_st (by rfl) ?_
          | refine VS_q _ (by first | exact QS_call (by rfl) (fun W _ => message_awake W) | exact QS_call (by rfl) (fun W _ => a1 W) | exact QS_call (by rfl) (fun W _ => a2 W) | exact QS_call (by rfl) (fun W _ => a3 W) | exact QS_call (by rfl) (fun W _ => a4 W) | exact QS_move (by rfl) | exact QS_assign (by rfl) | exact QS_load1 (by rfl) (by rfl) (by rfl) | exact QS_loadA (by rfl) (by rfl) _ (by rfl) | exact QS_fieldAddr (by rfl) | exact QS_mfieldAddr (by rfl) | exact QS_field (by rfl) (by rfl) | exact QS_mload1 (by rfl) (by assumption) | exact QS_build _ (by rfl) (by rfl) (by rfl) | exact QS_not (by rfl) | exact QS_extract (by rfl) (by rfl) | exact QS_len (by rfl) | exact QS_lenStr (by rfl) | exact QS_lenRow (by rfl) (by rfl) | exact QS_pick_t (by rfl) (by first | rfl | assumption) (by rfl) | exact QS_pick_f (by rfl) (by first | rfl | assumption) (by rfl) | exact QS_bin (by rfl) (by rfl) (by first | exact B_lss | exact B_leq | exact B_gtr | exact B_geq | exact B_eql | exact B_neq | exact B_seql | exact B_sneq | exact B_slss | exact B_sgeq | exact B_sleq | exact B_sgtr | exact B_beql | exact B_bneq | exact Bq_eql_Span | exact Bq_neq_Span | exact Bq_eql_Eff | exact Bq_neq_Eff | exact Bq_eql_Msg | exact Bq_neq_Msg | exact Bq_eql_Pair | exact Bq_neq_Pair) | exact QS_bin (by rfl) (by rfl) (B_add (by omega) (by omega)) | exact QS_bin (by rfl) (by rfl) (B_sadd (by assumption)) | exact QS_bin (by rfl) (by rfl) (B_sub (by omega) (by omega))) (by rfl) (by rfl) ?_
          | refine VS_nil ?_
          | refine VE_q (by rfl) ?_
          | refine VE_st _ (by rfl) (by first | exact ES_store1 (by rfl) (by rfl) (by rfl) (by rfl) (by rfl) | exact ES_storeN (by rfl) (by rfl) (by rfl) (by rfl) (by rfl) _ (by rfl)) (by rfl) ?_
          | refine VE_nil ?_
          | refine VL_yes _ _ _ (by rfl) (by rfl) (by rfl) (by first | rfl | assumption) ?_
          | refine VL_no _ _ _ (by rfl) (by rfl) (by rfl) (by first | rfl | assumption) (by rfl) ?_
          | refine VG_yes _ _ _ (by rfl) (by rfl) (by rfl) (by first | rfl | assumption) ?_
          | refine VG_no _ _ _ (by rfl) (by rfl) (by rfl) (by first | rfl | assumption) (by rfl) ?_
          | refine VL_noU _ _ (by rfl) (by rfl) (by rfl) (by rfl) ?_
          | refine VG_noU _ _ (by rfl) (by rfl) (by rfl) (by rfl) ?_
          | refine VG_nil ⟨by rfl, ?_⟩
          | refine VG_nil ?_
          | refine VC_drawT (by decide +kernel) ?_
          | refine VC_draw1 (by rfl) (by decide +kernel) (by rfl) (by rfl) ?_
          | refine VC_drawQ (by rfl) (by decide +kernel) ?_
          | refine VC_true (by rfl) (by first | rfl | assumption) ?_
          | refine VC_false (by rfl) (by first | rfl | assumption) ?_
          | refine VL_dec _ _ _ (by rfl) (by rfl) (by rfl) (fun hq => ?_) (fun hq => ?_)
          | refine VG_dec _ _ _ (by rfl) (by rfl) (by rfl) (fun hq => ?_) (fun hq => ?_)
          | refine VC_cond _ (by rfl) (fun hq => ?_) (fun hq => ?_))
        show Res _ _ _ _
        refine Res.one (by rfl) (ResV_tmp (by rfl) ?_)
        rfl
      | true =>
        rw [hT] at a3 a4
        have a5 := fun W => ref_RightM m W (by omega) (by omega) (by omega)
        cases hR : refRightM m with
        | false =>
          rw [hR] at a5
          have q0 : (!eqv (clipM m s).1 (clipM m s).1) = false := by rw [eqv_self]; rfl
          refine V_flat (args := [.agg #[.int .i64 m.stamp, .int .i64 m.kind, .string m.key, .string m.hi, .bool m.opn, .string m.val], .agg #[.string s.lo, .string s.hi, .bool s.opn], .string k]) (M := Mem.no) Try.func5 rfl Try.ntmps5 (by rfl) (Mem.no_le _) ?_
          repeat' (first
            | refine VC_seq ?_
            | refine VC_region ?_
            | refine VL_nil ?_
            | refine VC_ret ?_
            | refine VC_exit ?_
            | refine VC_block ?_
            | refine VC_skip ?_
            | refine VL_box (by rfl) (by rfl) (by rfl) ?_
            | refine VL_alloc (by rfl) (by rfl) ?_
            | refine VL_store1 (by rfl) (by rfl) (by rfl) (by rfl) (by rfl) (by rfl) ?_
            | refine VL_storeN (by rfl) (by rfl) (by rfl) (by rfl) (by rfl) _ (by rfl) (by rfl) ?_
            | refine VL_lits (by rfl) (by rfl) (by rfl) (by rfl) (by rfl) (by rfl) (by rfl) ?_
            | refine VL_lit1 (by rfl) (by rfl) (by rfl) (by rfl) (by rfl) ?_
            | refine VL_append (by rfl) (by rfl) (by rfl) (by rfl) (by omega) (by rfl) (by unfold maxLen; omega) (by omega) (by rfl) (by rfl) ?_
            | refine VL_q _ (by first | exact QS_call (by rfl) (fun W _ => message_awake W) | exact QS_call (by rfl) (fun W _ => a1 W) | exact QS_call (by rfl) (fun W _ => a2 W) | exact QS_call (by rfl) (fun W _ => a3 W) | exact QS_call (by rfl) (fun W _ => a4 W) | exact QS_call (by rfl) (fun W _ => a5 W) | exact QS_move (by rfl) | exact QS_assign (by rfl) | exact QS_load1 (by rfl) (by rfl) (by rfl) | exact QS_loadA (by rfl) (by rfl) _ (by rfl) | exact QS_fieldAddr (by rfl) | exact QS_mfieldAddr (by rfl) | exact QS_field (by rfl) (by rfl) | exact QS_mload1 (by rfl) (by assumption) | exact QS_build _ (by rfl) (by rfl) (by rfl) | exact QS_not (by rfl) | exact QS_extract (by rfl) (by rfl) | exact QS_len (by rfl) | exact QS_lenStr (by rfl) | exact QS_lenRow (by rfl) (by rfl) | exact QS_pick_t (by rfl) (by first | rfl | assumption) (by rfl) | exact QS_pick_f (by rfl) (by first | rfl | assumption) (by rfl) | exact QS_bin (by rfl) (by rfl) (by first | exact B_lss | exact B_leq | exact B_gtr | exact B_geq | exact B_eql | exact B_neq | exact B_seql | exact B_sneq | exact B_slss | exact B_sgeq | exact B_sleq | exact B_sgtr | exact B_beql | exact B_bneq | exact Bq_eql_Span | exact Bq_neq_Span | exact Bq_eql_Eff | exact Bq_neq_Eff | exact Bq_eql_Msg | exact Bq_neq_Msg | exact Bq_eql_Pair | exact Bq_neq_Pair) | exact QS_bin (by rfl) (by rfl) (B_add (by omega) (by omega)) | exact QS_bin (by rfl) (by rfl) (B_sadd (by assumption)) | exact QS_bin (by rfl) (by rfl) (B_sub (by omega) (by omega))) (by rfl) ?_
            | refine VG_q _ (by first | exact QS_call (by rfl) (fun W _ => message_awake W) | exact QS_call (by rfl) (fun W _ => a1 W) | exact QS_call (by rfl) (fun W _ => a2 W) | exact QS_call (by rfl) (fun W _ => a3 W) | exact QS_call (by rfl) (fun W _ => a4 W) | exact QS_call (by rfl) (fun W _ => a5 W) | exact QS_move (by rfl) | exact QS_assign (by rfl) | exact QS_load1 (by rfl) (by rfl) (by rfl) | exact QS_loadA (by rfl) (by rfl) _ (by rfl) | exact QS_fieldAddr (by rfl) | exact QS_mfieldAddr (by rfl) | exact QS_field (by rfl) (by rfl) | exact QS_mload1 (by rfl) (by assumption) | exact QS_build _ (by rfl) (by rfl) (by rfl) | exact QS_not (by rfl) | exact QS_extract (by rfl) (by rfl) | exact QS_len (by rfl) | exact QS_lenStr (by rfl) | exact QS_lenRow (by rfl) (by rfl) | exact QS_pick_t (by rfl) (by first | rfl | assumption) (by rfl) | exact QS_pick_f (by rfl) (by first | rfl | assumption) (by rfl) | exact QS_bin (by rfl) (by rfl) (by first | exact B_lss | exact B_leq | exact B_gtr | exact B_geq | exact B_eql | exact B_neq | exact B_seql | exact B_sneq | exact B_slss | exact B_sgeq | exact B_sleq | exact B_sgtr | exact B_beql | exact B_bneq | exact Bq_eql_Span | exact Bq_neq_Span | exact Bq_eql_Eff | exact Bq_neq_Eff | exact Bq_eql_Msg | exact Bq_neq_Msg | exact Bq_eql_Pair | exact Bq_neq_Pair) | exact QS_bin (by rfl) (by rfl) (B_add (by omega) (by omega)) | exact QS_bin (by rfl) (by rfl) (B_sadd (by assumption)) | exact QS_bin (by rfl) (by rfl) (B_sub (by omega) (by omega))) (by rfl) ?_
            | refine VS_st (by rfl) ?_
            | refine VS_q _ (by first | exact QS_call (by rfl) (fun W _ => message_awake W) | exact QS_call (by rfl) (fun W _ => a1 W) | exact QS_call (by rfl) (fun W _ => a2 W) | exact QS_call (by rfl) (fun W _ => a3 W) | exact QS_call (by rfl) (fun W _ => a4 W) | exact QS_call (by rfl) (fun W _ => a5 W) | exact QS_move (by rfl) | exact QS_assign (by rfl) | exact QS_load1 (by rfl) (by rfl) (by rfl) | exact QS_loadA (by rfl) (by rfl) _ (by rfl) | exact QS_fieldAddr (by rfl) | exact QS_mfieldAddr (by rfl) | exact QS_field (by rfl) (by rfl) | exact QS_mload1 (by rfl) (by assumption) | exact QS_build _ (by rfl) (by rfl) (by rfl) | exact QS_not (by rfl) | exact QS_extract (by rfl) (by rfl) | exact QS_len (by rfl) | exact QS_lenStr (by rfl) | exact QS_lenRow (by rfl) (by rfl) | exact QS_pick_t (by rfl) (by first | rfl | assumption) (by rfl) | exact QS_pick_f (by rfl) (by first | rfl | assumption) (by rfl) | exact QS_bin (by rfl) (by rfl) (by first | exact B_lss | exact B_leq | exact B_gtr | exact B_geq | exact B_eql | exact B_neq | exact B_seql | exact B_sneq | exact B_slss | exact B_sgeq | exact B_sleq | exact B_sgtr | exact B_beql | exact B_bneq | exact Bq_eql_Span | exact Bq_neq_Span | exact Bq_eql_Eff | exact Bq_neq_Eff | exact Bq_eql_Msg | exact Bq_neq_Msg | exact Bq_eql_Pair | exact Bq_neq_Pair) | exact QS_bin (by rfl) (by rfl) (B_add (by omega) (by omega)) | exact QS_bin (by rfl) (by rfl) (B_sadd (by assumption)) | exact QS_bin (by rfl) (by rfl) (B_sub (by omega) (by omega))) (by rfl) (by rfl) ?_
            | refine VS_nil ?_
            | refine VE_q (by rfl) ?_
            | refine VE_st _ (by rfl) (by first | exact ES_store1 (by rfl) (by rfl) (by rfl) (by rfl) (by rfl) | exact ES_storeN (by rfl) (by rfl) (by rfl) (by rfl) (by rfl) _ (by rfl)) (by rfl) ?_
            | refine VE_nil ?_
            | refine VL_yes _ _ _ (by rfl) (by rfl) (by rfl) (by first | rfl | assumption) ?_
            | refine VL_no _ _ _ (by rfl) (by rfl) (by rfl) (by first | rfl | assumption) (by rfl) ?_
            | refine VG_yes _ _ _ (by rfl) (by rfl) (by rfl) (by first | rfl | assumption) ?_
            | refine VG_no _ _ _ (by rfl) (by rfl) (by rfl) (by first | rfl | assumption) (by rfl) ?_
            | refine VL_noU _ _ (by rfl) (by rfl) (by rfl) (by rfl) ?_
            | refine VG_noU _ _ (by rfl) (by rfl) (by rfl) (by rfl) ?_
            | refine VG_nil ⟨by rfl, ?_⟩
            | refine VG_nil ?_
            | refine VC_drawT (by decide +kernel) ?_
            | refine VC_draw1 (by rfl) (by decide +kernel) (by rfl) (by rfl) ?_
            | refine VC_drawQ (by rfl) (by decide +kernel) ?_
            | refine VC_true (by rfl) (by first | rfl | assumption) ?_
            | refine VC_false (by rfl) (by first | rfl | assumption) ?_
            | refine VL_dec _ _ _ (by rfl) (by rfl) (by rfl) (fun hq => ?_) (fun hq => ?_)
            | refine VG_dec _ _ _ (by rfl) (by rfl) (by rfl) (fun hq => ?_) (fun hq => ?_)
            | refine VC_cond _ (by rfl) (fun hq => ?_) (fun hq => ?_))
          show Res _ _ _ _
          refine Res.one (by rfl) (ResV_tmp (by rfl) ?_)
          rfl
        | true =>
          rw [hR] at a5
          have b1 := spanM_size m (n := 1001) (by omega) (by omega)
          have b2 := meet_size (spanM m) s (n := 1001) b1.1 b1.2 (by omega) (by omega)
          have hz : (clipM m s).1.key.size ≤ 1001 ∧ (clipM m s).1.val.size ≤ 1001 := by
            unfold clipM
            rw [if_pos hT]
            split
            · exact ⟨b2.1, by simp; omega⟩
            · exact ⟨by simp; omega, by simp; omega⟩
          exact main m (clipM m s).1 s k w (by omega) (by omega) (by omega) (by omega) (by omega) (by omega) (by omega) (by omega) a1 a2 a3 a4 a5 (fun x hx => clip_on hx hT) (fun h4 x hx => clip_off hx hT h4) (clip_size hT)
end Go.Proofs.Ytipbbbamjckjoaa.lawMessageClips
