/- The walks of whether a node may be: a leaf, an inner node, any; the document's answer. -/
import Derived.Test.YtlapnbklbpeddaaGreatPNd2
namespace Go.Proofs.YtlapnbklbpeddaaGreat
open Go Go.RowKit
set_option linter.unusedVariables false
set_option maxRecDepth 20000
set_option linter.unusedSimpArgs false
set_option maxHeartbeats 4000000
attribute [local irreducible] Calls
def endN (n : Nd) : Bool := if n.top = true then decide (n.high = em) && (n.right == -1) else decide ((n.high.size : Int) ≤ 16) && !decide (n.high = em) && decide (0 ≤ n.right)
theorem node_end (n : Nd) (w : World) (hz : n.high.size ≤ maxLen) : Calls Tryz.prog 71 #[.agg #[.int .i64 n.slot, .int .i64 n.level, n.pv, n.kv, .string n.high, .bool n.top, .int .i64 n.right, .int .i64 n.seen, n.mv, n.rv]] w fun e w' => e = .returned (.bool (endN n)) ∧ Below w.heap.size w w' := by
  have c1 := fun W => key_Right n.high W hz
  unfold endN
  rcases Bool.eq_false_or_eq_true n.top with ht | ht
  · rw [if_pos ht]
    refine V_flat (args := [.agg #[.int .i64 n.slot, .int .i64 n.level, n.pv, n.kv, .string n.high, .bool n.top, .int .i64 n.right, .int .i64 n.seen, n.mv, n.rv]]) (M := Mem.no) Tryz.func71 rfl Tryz.ntmps71 (by rfl) (Mem.no_le _) ?_
    repeat' (first | refine VC_seq ?_ | refine VC_region ?_ | refine VL_nil ?_ | refine VC_ret ?_ | refine kbox ?_ | ((apply VL_q); (first | exact qmv (by rfl) | exact qas (by rfl) | exact ql1 (by rfl) | exact qfa (by rfl) | exact qpt (by rfl) | exact qpf (by rfl) | exact qcp (by rfl)); rfl) | refine kyes ?_ | refine kno ?_ | refine ctr ?_ | refine kdec (fun hq => ?_) (fun hq => ?_))
    all_goals
      show Res _ _ _ _
      refine Res.one (by rfl) (ResV_tmp (by rfl) ?_)
      refine congrArg Value.bool ?_
      simp_all [em] <;> omega
  · rw [if_neg (by rw [ht]; simp)]
    refine V_flat (args := [.agg #[.int .i64 n.slot, .int .i64 n.level, n.pv, n.kv, .string n.high, .bool n.top, .int .i64 n.right, .int .i64 n.seen, n.mv, n.rv]]) (M := Mem.no) Tryz.func71 rfl Tryz.ntmps71 (by rfl) (Mem.no_le _) ?_
    repeat' (first | refine VC_seq ?_ | refine VC_region ?_ | refine VL_nil ?_ | refine VC_ret ?_ | refine VC_skip ?_ | refine kbox ?_ | ((apply VL_q); (first | exact QS_call0 (by rfl) (fun W _ => c1 W) | exact qmv (by rfl) | exact qas (by rfl) | exact ql1 (by rfl) | exact qfa (by rfl) | exact qpt (by rfl) | exact qpf (by rfl) | exact qcp (by rfl)); rfl) | refine kyes ?_ | refine kno ?_ | refine cfa ?_ | refine kdec (fun hq => ?_) (fun hq => ?_))
    all_goals
      show Res _ _ _ _
      refine Res.one (by rfl) (ResV_tmp (by rfl) ?_)
      refine congrArg Value.bool ?_
      simp_all [em] <;> omega
structure Nd.Big (n : Nd) : Prop where
  high : n.high.size ≤ 1000000
  ps : ∀ s ∈ n.ps, s.size ≤ 1000000
  psn : n.ps.length ≤ 1000000
  ksn : n.ks.length ≤ 1000000
  ms : ∀ m ∈ n.ms, m.key.size ≤ 1000000 ∧ m.hi.size ≤ 1000000 ∧ m.val.size ≤ 1000000
  msn : n.ms.length ≤ 1000000
  rs : ∀ p ∈ n.rs, p.key.size ≤ 1000000 ∧ p.val.size ≤ 1000000
  rsn : n.rs.length ≤ 1000000
  min : ∀ m ∈ n.ms, m.In
def leafN (c : Cfg) (n : Nd) : Bool := ((n.ps.length : Int) + (n.ks.length : Int) + (n.ms.length : Int) == 0) && decide ((n.rs.length : Int) ≤ c.leaf) && rightP n.rs && n.rs.all (fun p => hasN n p.key)
def inP (n : Nd) (p : ByteArray) : Bool := !decide (p = em) && decide ((p.size : Int) ≤ 16) && hasN n p
def inM (n : Nd) (m : Msg) : Bool := decide (m.stamp ≤ n.seen) && within (spanM m) (spanN n)
def innN (c : Cfg) (n : Nd) : Bool := n.ks.all (fun k => !decide (k < 0)) && n.ps.all (inP n) && n.ms.all (inM n) && rightL n.ms c.budget
theorem node_inner (c : Cfg) (n : Nd) (w : World) (hn : n.Ok (Mem.of w)) (hz : n.Big) : Calls Tryz.prog 76 #[.agg #[.int .i64 c.fanout, .int .i64 c.leaf, .int .i64 c.budget, .int .i64 c.slots, .int .i64 c.restarts], .agg #[.int .i64 n.slot, .int .i64 n.level, n.pv, n.kv, .string n.high, .bool n.top, .int .i64 n.right, .int .i64 n.seen, n.mv, n.rv]] w fun e w' => e = .returned (.bool (innN c n)) ∧ Below w.heap.size w w' := by
  have cR := fun W hW => buffer_Right n.mv n.ms c.budget W (hn.2.2.1.toSl hW) hz.ms hz.msn
  have cS := fun W => node_Span n W
  have cH := fun (k : ByteArray) (W : World) => node_Has n k W
  have cW := fun (m : Msg) (W : World) => span_Within (spanM m) (spanN n) W
  obtain ⟨slot, level, pv, ps, kv, ks, high, top, right, seen, mv, ms, rv, rs⟩ := n
  obtain ⟨zh, zp, zpn, zkn, zm, zmn, zr, zrn, zi⟩ := hz
  dsimp only [Nd.Ok] at *
  obtain ⟨hP, hK, hM, _⟩ := hn
  obtain ⟨B, d, rfl, _⟩ := id hP
  obtain ⟨D, d', rfl, _⟩ := id hK
  obtain ⟨A, c', rfl, _⟩ := id hM
  generalize hnd : (⟨slot, level, .slice B ps.length d, ps, .slice D ks.length d', ks, high, top, right, seen, .slice A ms.length c', ms, rv, rs⟩ : Nd) = n at *
  have hseen : n.seen = seen := by rw [← hnd]
  have hks : n.ks = ks := by rw [← hnd]
  have hps : n.ps = ps := by rw [← hnd]
  have hms : n.ms = ms := by rw [← hnd]
  unfold innN
  rw [hks, hps, hms]
  clear hks hps hms
  refine V_flat (args := [.agg #[.int .i64 c.fanout, .int .i64 c.leaf, .int .i64 c.budget, .int .i64 c.slots, .int .i64 c.restarts], .agg #[.int .i64 slot, .int .i64 level, .slice B ps.length d, .slice D ks.length d', .string high, .bool top, .int .i64 right, .int .i64 seen, .slice A ms.length c', rv]]) (M := Mem.of w) Tryz.func76 rfl Tryz.ntmps76 (by rfl) (Mem.le_refl _) ?_
  repeat' (first | refine VC_seq ?_ | refine VC_region ?_ | refine VL_nil ?_ | refine VC_block ?_ | refine kbox ?_ | ((apply VL_q); (first | exact qmv (by rfl) | exact qas (by rfl) | exact ql1 (by rfl) | exact qfa (by rfl) | exact qln (by rfl)); rfl))
  refine VC_for (fun k : Nat => ⟨Mem.of w, [.blk 23 (.agg #[.int .i64 c.fanout, .int .i64 c.leaf, .int .i64 c.budget, .int .i64 c.slots, .int .i64 c.restarts] : Value).cells.toList, .blk 35 [.int .i64 slot, .int .i64 level, .slice B ps.length d, .slice D ks.length d', .string high, .bool top, .int .i64 right, .int .i64 seen, .slice A ms.length c', rv]], [(2, .p 0 0), (3, .p 1 0), (12, .v (.slice D ks.length d')), (13, .v (.int .i64 ks.length)), (14, .v (.int .i64 k))]⟩) (fun k => k ≤ ks.length ∧ (ks.take k).all (fun k => !decide (k < 0)) = true) (fun k => ks.length - k) [0, 1] 0 ⟨rfl, rfl, ⟨rfl, rfl, trivial⟩, ⟨rfl, rfl, rfl, rfl, rfl, trivial⟩⟩ ⟨by omega, rfl⟩ ?_
  rintro k ⟨hk, hr⟩
  rcases Nat.lt_or_ge k ks.length with hlt | hge
  · have hd := dlt hlt
    obtain ⟨b, off, rfl, hcA⟩ := hK.get hlt
    cases hq : decide (ks[k] < 0) with
    | true =>
      repeat' (first | refine VC_seq ?_ | refine VC_region ?_ | refine VL_nil ?_ | refine VC_ret ?_ | refine VC_block ?_ | refine VC_skip ?_ | ((apply VL_q); (first | exact QS_indexAddr (k) (by rfl) (by rfl) (by omega) (by omega) | exact QS_mload1 (by rfl) (hcA 0 _ (by rfl)) | exact qmv (by rfl) | exact qas (by rfl) | exact qcp (by rfl)); rfl) | refine ctr ?_)
      show Res _ _ _ _
      refine Res.one (by rfl) (ResV_tmp (by rfl) ?_)
      refine congrArg Value.bool ?_
      rw [allG_stop (p := fun k => !decide (k < 0)) hlt (by rw [hq]; rfl)]; rfl
    | false =>
      repeat' (first | refine VC_seq ?_ | refine VC_region ?_ | refine VL_nil ?_ | refine VC_block ?_ | refine VC_skip ?_ | ((apply VL_q); (first | exact QS_indexAddr (k) (by rfl) (by rfl) (by omega) (by omega) | exact QS_mload1 (by rfl) (hcA 0 _ (by rfl)) | exact qmv (by rfl) | exact qas (by rfl) | exact qcp (by rfl) | exact qad (by rfl)); rfl) | refine ctr ?_ | refine cfa ?_)
      exact forQ_next (Q := fun _ _ => True) [0, 1] (k + 1) ⟨rfl, rfl, ⟨rfl, rfl, trivial⟩, ⟨rfl, rfl, rfl, rfl, rfl, trivial⟩⟩ ⟨by omega, by rw [allG_step hlt, hr, hq]; rfl⟩ (by omega)
  · have hd := dge hge
    obtain rfl : k = ks.length := by omega
    rw [List.take_length] at hr
    rw [hr, Bool.true_and]
    repeat' (first | refine VC_seq ?_ | refine VC_region ?_ | refine VL_nil ?_ | refine VC_exit ?_ | refine VC_block ?_ | ((apply VL_q); (first | exact qmv (by rfl) | exact ql1 (by rfl) | exact qfa (by rfl) | exact qln (by rfl) | exact qcp (by rfl)); rfl) | refine cfa ?_)
    refine VC_for (fun k : Nat => ⟨Mem.of w, [.blk 23 (.agg #[.int .i64 c.fanout, .int .i64 c.leaf, .int .i64 c.budget, .int .i64 c.slots, .int .i64 c.restarts] : Value).cells.toList, .blk 35 [.int .i64 slot, .int .i64 level, .slice B ps.length d, .slice D ks.length d', .string high, .bool top, .int .i64 right, .int .i64 seen, .slice A ms.length c', rv]], [(2, .p 0 0), (3, .p 1 0), (22, .v (.slice B ps.length d)), (23, .v (.int .i64 ps.length)), (24, .v (.int .i64 k))]⟩) (fun k => k ≤ ps.length ∧ (ps.take k).all (inP n) = true) (fun k => ps.length - k) [0, 1] 0 ⟨rfl, rfl, ⟨rfl, rfl, trivial⟩, ⟨rfl, rfl, rfl, rfl, rfl, trivial⟩⟩ ⟨by omega, rfl⟩ ?_
    rintro k ⟨hk, hr⟩
    rcases Nat.lt_or_ge k ps.length with hlt | hge
    · have hd := dlt hlt
      obtain ⟨b, off, rfl, hcA⟩ := hP.get hlt
      have z1 := zp ps[k] (List.getElem_mem hlt)
      have c1 := fun W => key_Right ps[k] W (by unfold maxLen; omega)
      have c2 := fun W => cH ps[k] W
      have hp : inP n ps[k] = (!decide (ps[k] = em) && decide ((ps[k].size : Int) ≤ 16) && hasN n ps[k]) := rfl
      repeat' (first | refine VC_seq ?_ | refine VC_region ?_ | refine VL_nil ?_ | refine VC_ret ?_ | refine VC_block ?_ | refine VC_skip ?_ | ((apply VL_q); (first | exact QS_indexAddr (k) (by rfl) (by rfl) (by omega) (by omega) | exact QS_mload1 (by rfl) (hcA 0 _ (by rfl)) | exact QS_call0 (by rfl) (fun W _ => c1 W) | exact QS_call (by rfl) (fun W _ => c2 W) | exact qmv (by rfl) | exact qas (by rfl) | exact qlA (by rfl) | exact qno (by rfl) | exact qpt (by rfl) | exact qpf (by rfl) | exact qcp (by rfl) | exact qad (by rfl)); rfl) | refine kyes ?_ | refine kno ?_ | refine ctr ?_ | refine kdec (fun hq => ?_) (fun hq => ?_) | refine cco (fun hq => ?_) (fun hq => ?_))
      all_goals first
        | (refine Res.one (by rfl) (ResV_tmp (by rfl) (congrArg Value.bool ?_)); rw [allG_stop (p := inP n) hlt (by rw [hp]; simp_all [em] <;> omega)]; rfl)
        | exact forQ_next (Q := fun _ _ => True) [0, 1] (k + 1) ⟨rfl, rfl, ⟨rfl, rfl, trivial⟩, ⟨rfl, rfl, rfl, rfl, rfl, trivial⟩⟩ ⟨by omega, by rw [allG_step hlt, hr, hp]; simp_all [em] <;> omega⟩ (by omega)
    · have hd := dge hge
      obtain rfl : k = ps.length := by omega
      rw [List.take_length] at hr
      rw [hr, Bool.true_and]
      repeat' (first | refine VC_seq ?_ | refine VC_region ?_ | refine VL_nil ?_ | refine VC_exit ?_ | refine VC_block ?_ | ((apply VL_q); (first | exact qmv (by rfl) | exact ql1 (by rfl) | exact qfa (by rfl) | exact qln (by rfl) | exact qcp (by rfl)); rfl) | refine cfa ?_)
      refine VC_for (fun k : Nat => ⟨Mem.of w, [.blk 23 (.agg #[.int .i64 c.fanout, .int .i64 c.leaf, .int .i64 c.budget, .int .i64 c.slots, .int .i64 c.restarts] : Value).cells.toList, .blk 35 [.int .i64 slot, .int .i64 level, .slice B ps.length d, .slice D ks.length d', .string high, .bool top, .int .i64 right, .int .i64 seen, .slice A ms.length c', rv]], [(2, .p 0 0), (3, .p 1 0), (43, .v (.slice A ms.length c')), (44, .v (.int .i64 ms.length)), (45, .v (.int .i64 k))]⟩) (fun k => k ≤ ms.length ∧ (ms.take k).all (inM n) = true) (fun k => ms.length - k) [0, 1] 0 ⟨rfl, rfl, ⟨rfl, rfl, trivial⟩, ⟨rfl, rfl, rfl, rfl, rfl, trivial⟩⟩ ⟨by omega, rfl⟩ ?_
      rintro k ⟨hk, hr⟩
      rcases Nat.lt_or_ge k ms.length with hlt | hge
      · have hd := dlt hlt
        obtain ⟨b, off, rfl, hcA⟩ := hM.get hlt
        have z1 := zm ms[k] (List.getElem_mem hlt)
        have c1 := fun W => message_Span ms[k] W z1.1
        have c2 := fun W => cW ms[k] W
        have e1 := dgt ms[k].stamp seen
        have hp : inM n ms[k] = (decide (ms[k].stamp ≤ seen) && within (spanM ms[k]) (spanN n)) := by unfold inM; rw [hseen]
        repeat' (first | refine VC_seq ?_ | refine VC_region ?_ | refine VL_nil ?_ | refine VC_ret ?_ | refine VC_block ?_ | refine VC_skip ?_ | refine kall ?_ | refine ksN ?_ | ((first | apply VL_q | apply VG_q); (first | exact QS_indexAddr (k) (by rfl) (by rfl) (by omega) (by omega) | exact QS_mloadN _ (by rfl) hcA _ (by rfl) | exact QS_call (by rfl) (fun W _ => c1 W) | exact QS_call (by rfl) (fun W _ => cS W) | exact QS_call (by rfl) (fun W _ => c2 W) | exact qmv (by rfl) | exact qas (by rfl) | exact ql1 (by rfl) | exact qlA (by rfl) | exact qfa (by rfl) | exact qno (by rfl) | exact qpt (by rfl) | exact qpf (by rfl) | exact qcp (by rfl) | exact qad (by rfl)); rfl) | refine gyes ?_ | refine gno ?_ | refine VG_nil ?_ | refine dQ ?_ | refine ctr ?_ | refine gdec (fun hq => ?_) (fun hq => ?_) | refine cco (fun hq => ?_) (fun hq => ?_))
        all_goals first
          | (refine Res.one (by rfl) (ResV_tmp (by rfl) (congrArg Value.bool ?_)); rw [allG_stop (p := inM n) hlt (by rw [hp]; simp_all <;> omega)]; rfl)
          | exact forQ_next (Q := fun _ _ => True) [0, 1] (k + 1) ⟨rfl, rfl, ⟨rfl, rfl, trivial⟩, ⟨rfl, rfl, rfl, rfl, rfl, trivial⟩⟩ ⟨by omega, by rw [allG_step hlt, hr, hp]; simp_all <;> omega⟩ (by omega)
      · have hd := dge hge
        obtain rfl : k = ms.length := by omega
        rw [List.take_length] at hr
        rw [hr, Bool.true_and]
        repeat' (first | refine VC_seq ?_ | refine VC_region ?_ | refine VL_nil ?_ | refine VC_ret ?_ | refine VC_exit ?_ | ((apply VL_q); (first | exact QS_call (by rfl) cR | exact qas (by rfl) | exact ql1 (by rfl) | exact qfa (by rfl) | exact qcp (by rfl)); rfl) | refine cfa ?_)
        show Res _ _ _ _
        refine Res.one (by rfl) (ResV_tmp (by rfl) ?_)
        rfl
end Go.Proofs.YtlapnbklbpeddaaGreat
