/- The walks of whether a node may be, and of the document's answer. -/
import Derived.Test.YtlapnbklbpeddaaGreatPNd3
namespace Go.Proofs.YtlapnbklbpeddaaGreat
open Go Go.RowKit
set_option linter.unusedVariables false
set_option maxRecDepth 20000
set_option linter.unusedSimpArgs false
set_option maxHeartbeats 4000000
attribute [local irreducible] Calls
def headOk (n : Nd) : Bool := !decide (n.slot < 0) && !decide (n.level < 0) && !decide (n.seen < 0) && endN n
def inrN (c : Cfg) (n : Nd) : Bool := ((n.rs.length : Int) == 0) && decide (2 ≤ (n.ks.length : Int)) && decide ((n.ks.length : Int) ≤ c.fanout) && rightK n.ps n.ks && innN c n
/-- May a node be? -/
def rightN (c : Cfg) (n : Nd) : Bool := headOk n && (if (n.level == 0) = true then leafN c n else inrN c n)
theorem node_out (n : Nd) (p : Pair) (b : Nat) (w : World) (M : Mem) (hMw : M.le (Mem.of w)) (hb : ∀ j u, ([.int .i64 n.slot, .int .i64 n.level, n.pv, n.kv, .string n.high, .bool n.top, .int .i64 n.right, .int .i64 n.seen, n.mv, n.rv] : List Value)[j]? = some u → M.cell b (0 + j) = some u) :
    Calls Tryz.prog 72 #[.agg #[.string p.key, .string p.val], .pointer (some ⟨b, 0, none⟩)] w fun e w' => e = .returned (.bool (!hasN n p.key)) ∧ Below w.heap.size w w' := by
  have c1 := fun W => node_Has n p.key W
  refine V_flat (args := [.agg #[.string p.key, .string p.val], .pointer (some ⟨b, 0, none⟩)]) (M := M) Tryz.func72 rfl Tryz.ntmps72 (by rfl) (hMw) ?_
  repeat' (first | refine VC_seq ?_ | refine VC_region ?_ | refine VL_nil ?_ | refine VC_ret ?_ | refine kbox ?_ | ((apply VL_q); (first | exact QS_call (by rfl) (fun W _ => c1 W) | exact QS_mloadN _ (by rfl) hb _ (by rfl) | exact qas (by rfl) | exact ql1 (by rfl) | exact qfa (by rfl) | exact qno (by rfl)); rfl))
  show Res _ _ _ _
  refine Res.one (by rfl) (ResV_tmp (by rfl) ?_)
  rfl
theorem node_Right (c : Cfg) (n : Nd) (w : World) (hn : n.Ok (Mem.of w)) (hz : n.Big) : Calls Tryz.prog 38 #[.agg #[.int .i64 c.fanout, .int .i64 c.leaf, .int .i64 c.budget, .int .i64 c.slots, .int .i64 c.restarts], .agg #[.int .i64 n.slot, .int .i64 n.level, n.pv, n.kv, .string n.high, .bool n.top, .int .i64 n.right, .int .i64 n.seen, n.mv, n.rv]] w fun e w' => e = .returned (.bool (rightN c n)) ∧ Below w.heap.size w w' := by
  have cE := fun W => node_end n W (by have := hz.high; unfold maxLen; omega)
  cases hh : headOk n with
  | false =>
    unfold rightN
    rw [hh, Bool.false_and]
    unfold headOk at hh
    refine V_flat (args := [.agg #[.int .i64 c.fanout, .int .i64 c.leaf, .int .i64 c.budget, .int .i64 c.slots, .int .i64 c.restarts], .agg #[.int .i64 n.slot, .int .i64 n.level, n.pv, n.kv, .string n.high, .bool n.top, .int .i64 n.right, .int .i64 n.seen, n.mv, n.rv]]) (M := Mem.of w) Tryz.func38 rfl Tryz.ntmps38 (by rfl) (Mem.le_refl _) ?_
    repeat' (first | refine VC_seq ?_ | refine VC_region ?_ | refine VL_nil ?_ | refine VC_ret ?_ | refine VC_skip ?_ | refine kbox ?_ | ((apply VL_q); (first | exact QS_call (by rfl) (fun W _ => cE W) | exact qmv (by rfl) | exact qas (by rfl) | exact ql1 (by rfl) | exact qlA (by rfl) | exact qfa (by rfl) | exact qno (by rfl) | exact qpt (by rfl) | exact qpf (by rfl) | exact qcp (by rfl)); rfl) | refine kyes ?_ | refine kno ?_ | refine ctr ?_ | refine kdec (fun hq => ?_) (fun hq => ?_) | refine cco (fun hq => ?_) (fun hq => ?_))
    all_goals first
      | (refine Res.one (by rfl) (ResV_tmp (by rfl) rfl))
      | (exfalso; simp_all <;> omega)
  | true =>
    have hI := fun (W : World) (hW : (Mem.of w).le (Mem.of W)) => node_inner c n W (hn.mono hW) hz
    have hK := fun (W : World) (hW : (Mem.of w).le (Mem.of W)) => bnode_RightK n.pv n.kv n.ps n.ks W (hn.1.toSl hW) (hn.2.1.toSl hW) (by have := hz.psn; omega)
    have hRP := fun (M : Mem) (hm : (Mem.of w).le M) (W : World) (hW : M.le (Mem.of W)) => model_RightP n.rv n.rs W ((hn.2.2.2.mono hm).toSl hW) (fun p hp => by have := hz.rs p hp; unfold maxLen; omega) (by have := hz.rsn; omega)
    have hC := fun (b : Nat) (M : Mem) (hm : (Mem.of w).le M) (hb : ∀ j u, ([.int .i64 n.slot, .int .i64 n.level, n.pv, n.kv, .string n.high, .bool n.top, .int .i64 n.right, .int .i64 n.seen, n.mv, n.rv] : List Value)[j]? = some u → M.cell b (0 + j) = some u) (W : World) (hW : M.le (Mem.of W)) =>
      slices_ContainsFuncP 72 #[.pointer (some ⟨b, 0, none⟩)] (fun p => !hasN n p.key) n.rv n.rs W ((hn.2.2.2.mono hm).toSl hW) (by have := hz.rsn; omega) (fun p _ W' hW' => node_out n p b W' M (hW.trans hW') hb)
    unfold rightN
    rw [hh, Bool.true_and]
    unfold headOk at hh
    simp only [Bool.and_eq_true, Bool.not_eq_true'] at hh
    obtain ⟨⟨⟨h1, h2⟩, h3⟩, h4⟩ := hh
    rw [h4] at cE
    unfold leafN inrN
    have hany := anyG_not n.rs (fun p => hasN n p.key)
    obtain ⟨slot, level, pv, ps, kv, ks, high, top, right, seen, mv, ms, rv, rs⟩ := n
    obtain ⟨zh, zp, zpn, zkn, zm, zmn, zr, zrn, zi⟩ := hz
    dsimp only [Nd.Ok] at hn
    dsimp only at *
    obtain ⟨hP, hKs, hM, hR⟩ := hn
    obtain ⟨B, d, rfl, _⟩ := id hP
    obtain ⟨D, d', rfl, _⟩ := id hKs
    obtain ⟨A, c', rfl, _⟩ := id hM
    obtain ⟨E, e', rfl, _⟩ := id hR
    cases hl : (level == 0) with
    | true =>
      refine V_flat (args := [.agg #[.int .i64 c.fanout, .int .i64 c.leaf, .int .i64 c.budget, .int .i64 c.slots, .int .i64 c.restarts], .agg #[.int .i64 slot, .int .i64 level, .slice B ps.length d, .slice D ks.length d', .string high, .bool top, .int .i64 right, .int .i64 seen, .slice A ms.length c', .slice E rs.length e']]) (M := Mem.of w) Tryz.func38 rfl Tryz.ntmps38 (by rfl) (Mem.le_refl _) ?_
      refine VC_seq ?_
      refine VC_region ?_
      refine kbox ?_
      refine kbox ?_
      refine VL_frzB 1 (by rfl) (fun b M' hle hb => ?_)
      have f0 : M'.cell b 0 = some (.int .i64 slot) := Mem.cell_of hb rfl
      have f1 : M'.cell b 1 = some (.int .i64 level) := Mem.cell_of hb rfl
      have f2 : M'.cell b 2 = some (.slice B ps.length d) := Mem.cell_of hb rfl
      have f3 : M'.cell b 3 = some (.slice D ks.length d') := Mem.cell_of hb rfl
      have f7 : M'.cell b 7 = some (.int .i64 seen) := Mem.cell_of hb rfl
      have f8 : M'.cell b 8 = some (.slice A ms.length c') := Mem.cell_of hb rfl
      have f9 : M'.cell b 9 = some (.slice E rs.length e') := Mem.cell_of hb rfl
      have hcs : ∀ j u, ([.int .i64 slot, .int .i64 level, .slice B ps.length d, .slice D ks.length d', .string high, .bool top, .int .i64 right, .int .i64 seen, .slice A ms.length c', .slice E rs.length e'] : List Value)[j]? = some u → M'.cell b (0 + j) = some u := fun j u hu => by rw [Nat.zero_add]; exact Mem.cell_of hb hu
      have cM := fun W hW => hRP M' hle W hW
      have cC := fun W hW => hC b M' hle hcs W hW
      repeat' (first | refine VC_seq ?_ | refine VC_region ?_ | refine VL_nil ?_ | refine VC_ret ?_ | refine VC_skip ?_ | ((apply VL_q); (first | exact QS_call (by rfl) (fun W _ => cE W) | exact QS_mloadN _ (by rfl) hcs _ (by rfl) | exact QS_makeFunc1 (by rfl) | exact QS_call (by rfl) cM | exact QS_call (by rfl) cC | exact qmv (by rfl) | exact qas (by rfl) | exact ql1 (by rfl) | exact qfa (by rfl) | exact qmf (by rfl) | exact qm1 (by rfl) | exact qno (by rfl) | exact qln (by rfl) | exact qpt (by rfl) | exact qpf (by rfl) | exact qcp (by rfl) | exact qad (by rfl)); rfl) | refine kyes ?_ | refine kno ?_ | refine ctr ?_ | refine cfa ?_ | refine kdec (fun hq => ?_) (fun hq => ?_))
      all_goals
        show Res _ _ _ _
        refine Res.one (by rfl) (ResV_tmp (by rfl) ?_)
        refine congrArg Value.bool ?_
        simp_all <;> omega
    | false =>
      refine V_flat (args := [.agg #[.int .i64 c.fanout, .int .i64 c.leaf, .int .i64 c.budget, .int .i64 c.slots, .int .i64 c.restarts], .agg #[.int .i64 slot, .int .i64 level, .slice B ps.length d, .slice D ks.length d', .string high, .bool top, .int .i64 right, .int .i64 seen, .slice A ms.length c', .slice E rs.length e']]) (M := Mem.of w) Tryz.func38 rfl Tryz.ntmps38 (by rfl) (Mem.le_refl _) ?_
      repeat' (first | refine VC_seq ?_ | refine VC_region ?_ | refine VL_nil ?_ | refine VC_ret ?_ | refine VC_skip ?_ | refine kbox ?_ | ((apply VL_q); (first | exact QS_call (by rfl) (fun W _ => cE W) | exact QS_call (by rfl) hK | exact QS_call (by rfl) hI | exact qmv (by rfl) | exact qas (by rfl) | exact ql1 (by rfl) | exact qlA (by rfl) | exact qfa (by rfl) | exact qno (by rfl) | exact qln (by rfl) | exact qpt (by rfl) | exact qpf (by rfl) | exact qcp (by rfl)); rfl) | refine kyes ?_ | refine kno ?_ | refine cfa ?_ | refine kdec (fun hq => ?_) (fun hq => ?_))
      all_goals
        show Res _ _ _ _
        refine Res.one (by rfl) (ResV_tmp (by rfl) ?_)
        refine congrArg Value.bool ?_
        simp_all <;> omega
end Go.Proofs.YtlapnbklbpeddaaGreat
