/- The walks of the document's answer to whether a node may be. -/
import Derived.Test.YtclbmfepdlffnaaPNd4
namespace Go.Proofs.Ytclbmfepdlffnaa
open Go Go.RowKit
set_option linter.unusedVariables false
set_option maxRecDepth 20000
set_option linter.unusedSimpArgs false
set_option maxHeartbeats 4000000
attribute [local irreducible] Calls
theorem ref_leafN (c : Cfg) (n : Nd) (w : World) (hn : n.Ok (Mem.of w)) (hz : n.Big) : Calls Try.prog 118 #[.agg #[.int .i64 c.fanout, .int .i64 c.leaf, .int .i64 c.budget, .int .i64 c.slots, .int .i64 c.restarts], .agg #[.int .i64 n.slot, .int .i64 n.level, n.pv, n.kv, .string n.high, .bool n.top, .int .i64 n.right, .int .i64 n.seen, n.mv, n.rv]] w fun e w' => e = .returned (.bool (leafN c n)) ∧ Below w.heap.size w w' := by
  have cR := fun W hW => ref_RightP n.rv n.rs W (hn.2.2.2.toSl hW) (fun p hp => by have := hz.rs p hp; unfold maxLen; omega) (by have := hz.rsn; omega)
  have cH := fun (k : ByteArray) (W : World) (hk : k.size ≤ 1000000) => ref_HasN n k W hz.high hk
  obtain ⟨slot, level, pv, ps, kv, ks, high, top, right, seen, mv, ms, rv, rs⟩ := n
  obtain ⟨zh, zp, zpn, zkn, zm, zmn, zr, zrn, zi⟩ := hz
  dsimp only [Nd.Ok] at *
  obtain ⟨hP, hK, hM, hR⟩ := hn
  obtain ⟨B, d, rfl, _⟩ := id hP
  obtain ⟨D, d', rfl, _⟩ := id hK
  obtain ⟨A, c', rfl, _⟩ := id hM
  obtain ⟨E, e', rfl, _⟩ := id hR
  generalize hnd : (⟨slot, level, .slice B ps.length d, ps, .slice D ks.length d', ks, high, top, right, seen, .slice A ms.length c', ms, .slice E rs.length e', rs⟩ : Nd) = n at *
  have hps : n.ps = ps := by rw [← hnd]
  have hks : n.ks = ks := by rw [← hnd]
  have hms : n.ms = ms := by rw [← hnd]
  have hrs : n.rs = rs := by rw [← hnd]
  unfold leafN
  rw [hps, hks, hms, hrs]
  have s1 : decide ((0 : Int) < (ps.length : Int) + (ks.length : Int) + (ms.length : Int)) = !((ps.length : Int) + (ks.length : Int) + (ms.length : Int) == 0) := by
    by_cases h : (ps.length : Int) + (ks.length : Int) + (ms.length : Int) = 0
    · rw [h]; rfl
    · rw [decide_eq_true (by omega), beq_eq_false_iff_ne.2 h]; rfl
  have s2 := dgt (rs.length : Int) c.leaf
  cases hh : (((ps.length : Int) + (ks.length : Int) + (ms.length : Int) == 0) && decide ((rs.length : Int) ≤ c.leaf) && rightP rs) with
  | false =>
    rw [Bool.false_and]
    refine V_flat (args := [.agg #[.int .i64 c.fanout, .int .i64 c.leaf, .int .i64 c.budget, .int .i64 c.slots, .int .i64 c.restarts], .agg #[.int .i64 slot, .int .i64 level, .slice B ps.length d, .slice D ks.length d', .string high, .bool top, .int .i64 right, .int .i64 seen, .slice A ms.length c', .slice E rs.length e']]) (M := Mem.of w) Try.func118 rfl Try.ntmps118 (by rfl) (Mem.le_refl _) ?_
    repeat' (first | refine VC_seq ?_ | refine VC_region ?_ | refine VL_nil ?_ | refine VC_ret ?_ | refine VC_block ?_ | refine VC_skip ?_ | refine kbox ?_ | ((apply VL_q); (first | exact QS_call (by rfl) cR | exact qmv (by rfl) | exact qas (by rfl) | exact ql1 (by rfl) | exact qfa (by rfl) | exact qno (by rfl) | exact qln (by rfl) | exact qpt (by rfl) | exact qpf (by rfl) | exact qcp (by rfl) | exact qad (by rfl)); rfl) | refine kyes ?_ | refine kno ?_ | refine ctr ?_ | refine kdec (fun hq => ?_) (fun hq => ?_) | refine cco (fun hq => ?_) (fun hq => ?_))
    all_goals first
      | (refine Res.one (by rfl) (ResV_tmp (by rfl) rfl))
      | (exfalso; simp_all <;> omega)
  | true =>
    simp only [Bool.and_eq_true] at hh
    obtain ⟨⟨h1, h2⟩, h3⟩ := hh
    rw [h3] at cR
    rw [h1] at s1
    rw [h2] at s2
    rw [Bool.true_and]
    refine V_flat (args := [.agg #[.int .i64 c.fanout, .int .i64 c.leaf, .int .i64 c.budget, .int .i64 c.slots, .int .i64 c.restarts], .agg #[.int .i64 slot, .int .i64 level, .slice B ps.length d, .slice D ks.length d', .string high, .bool top, .int .i64 right, .int .i64 seen, .slice A ms.length c', .slice E rs.length e']]) (M := Mem.of w) Try.func118 rfl Try.ntmps118 (by rfl) (Mem.le_refl _) ?_
    repeat' (first | refine VC_seq ?_ | refine VC_region ?_ | refine VL_nil ?_ | refine VC_block ?_ | refine VC_skip ?_ | refine kbox ?_ | ((apply VL_q); (first | exact QS_call (by rfl) cR | exact qmv (by rfl) | exact qas (by rfl) | exact ql1 (by rfl) | exact qfa (by rfl) | exact qno (by rfl) | exact qln (by rfl) | exact qpf (by rfl) | exact qcp (by rfl) | exact qad (by rfl)); rfl) | refine kyes ?_ | refine cfa ?_)
    refine VC_for (fun k : Nat => ⟨Mem.of w, [.blk 74 (.agg #[.int .i64 c.fanout, .int .i64 c.leaf, .int .i64 c.budget, .int .i64 c.slots, .int .i64 c.restarts] : Value).cells.toList, .blk 94 [.int .i64 slot, .int .i64 level, .slice B ps.length d, .slice D ks.length d', .string high, .bool top, .int .i64 right, .int .i64 seen, .slice A ms.length c', .slice E rs.length e']], [(2, .p 0 0), (3, .p 1 0), (5, .v (.int .i64 k))]⟩) (fun k => k ≤ rs.length ∧ (rs.take k).all (fun p => hasN n p.key) = true) (fun k => rs.length - k) [0, 1] 0 ⟨rfl, rfl, ⟨rfl, rfl, trivial⟩, ⟨rfl, rfl, rfl, trivial⟩⟩ ⟨by omega, rfl⟩ ?_
    rintro k ⟨hk, hr⟩
    rcases Nat.lt_or_ge k rs.length with hlt | hge
    · have hd := dlt hlt
      obtain ⟨b, off, rfl, hcA⟩ := hR.get hlt
      have c1 := fun W => cH rs[k].key W (zr rs[k] (List.getElem_mem hlt)).1
      cases hq : hasN n rs[k].key with
      | true =>
        rw [hq] at c1
        repeat' (first | refine VC_seq ?_ | refine VC_region ?_ | refine VL_nil ?_ | refine VC_block ?_ | refine VC_skip ?_ | ((first | apply VL_q | apply VG_q); (first | exact QS_indexAddr (k) (by rfl) (by rfl) (by omega) (by omega) | exact QS_mload1 (by rfl) (hcA 0 _ (by rfl)) | exact QS_call (by rfl) (fun W _ => c1 W) | exact qmv (by rfl) | exact qas (by rfl) | exact ql1 (by rfl) | exact qlA (by rfl) | exact qfa (by rfl) | exact qmf (by rfl) | exact qno (by rfl) | exact qln (by rfl) | exact qcp (by rfl) | exact qad (by rfl)); rfl) | refine VG_nil ?_ | refine dQ ?_ | refine ctr ?_ | refine cfa ?_)
        exact forQ_next (Q := fun _ _ => True) [0, 1] (k + 1) ⟨rfl, rfl, ⟨rfl, rfl, trivial⟩, ⟨rfl, rfl, rfl, trivial⟩⟩ ⟨by omega, by rw [allG_step hlt, hr, hq]; rfl⟩ (by omega)
      | false =>
        rw [hq] at c1
        repeat' (first | refine VC_seq ?_ | refine VC_region ?_ | refine VL_nil ?_ | refine VC_ret ?_ | refine VC_block ?_ | refine VC_skip ?_ | ((first | apply VL_q | apply VG_q); (first | exact QS_indexAddr (k) (by rfl) (by rfl) (by omega) (by omega) | exact QS_mload1 (by rfl) (hcA 0 _ (by rfl)) | exact QS_call (by rfl) (fun W _ => c1 W) | exact qmv (by rfl) | exact qas (by rfl) | exact ql1 (by rfl) | exact qlA (by rfl) | exact qfa (by rfl) | exact qmf (by rfl) | exact qno (by rfl) | exact qln (by rfl) | exact qcp (by rfl)); rfl) | refine VG_nil ?_ | refine dQ ?_ | refine ctr ?_)
        show Res _ _ _ _
        refine Res.one (by rfl) (ResV_tmp (by rfl) ?_)
        refine congrArg Value.bool ?_
        exact (allG_stop (p := fun p => hasN n p.key) hlt hq).symm
    · have hd := dge hge
      obtain rfl : k = rs.length := by omega
      rw [List.take_length] at hr
      repeat' (first | refine VC_seq ?_ | refine VC_region ?_ | refine VL_nil ?_ | refine VC_ret ?_ | refine VC_exit ?_ | ((apply VL_q); (first | exact qmv (by rfl) | exact qas (by rfl) | exact ql1 (by rfl) | exact qfa (by rfl) | exact qln (by rfl) | exact qcp (by rfl)); rfl) | refine cfa ?_)
      show Res _ _ _ _
      refine Res.one (by rfl) (ResV_tmp (by rfl) ?_)
      exact congrArg Value.bool hr.symm
def inM' (n : Nd) (m : Msg) : Bool := decide (m.stamp ≤ n.seen) && (n.top || (!(spanM m).opn && !lt n.high (spanM m).hi))
def refInr (c : Cfg) (n : Nd) : Bool := ((n.rs.length : Int) == 0) && decide (2 ≤ (n.ks.length : Int)) && decide ((n.ks.length : Int) ≤ c.fanout) && rightK n.ps n.ks && allB n.ms && decide (sizeL n.ms ≤ c.budget)
def refAll (n : Nd) : Bool := n.ks.all (fun k => !decide (k < 0)) && n.ps.all (inP n) && n.ms.all (inM' n)
theorem dltn (a b : Int) : decide (a < b) = !decide (b ≤ a) := dgt b a
theorem ref_innerN (c : Cfg) (n : Nd) (w : World) (hn : n.Ok (Mem.of w)) (hz : n.Big) : Calls Try.prog 119 #[.agg #[.int .i64 c.fanout, .int .i64 c.leaf, .int .i64 c.budget, .int .i64 c.slots, .int .i64 c.restarts], .agg #[.int .i64 n.slot, .int .i64 n.level, n.pv, n.kv, .string n.high, .bool n.top, .int .i64 n.right, .int .i64 n.seen, n.mv, n.rv]] w fun e w' => e = .returned (.bool (refInr c n && refAll n)) ∧ Below w.heap.size w w' := by
  have cK := fun W hW => ref_RightK n.pv n.kv n.ps n.ks W (hn.1.toSl hW) (hn.2.1.toSl hW) (fun s hs => by have := hz.ps s hs; omega) (by have := hz.psn; omega)
  have cA := fun W hW => ref_All n.mv n.ms W (hn.2.2.1.toSl hW) hz.min (by have := hz.msn; omega)
  have cS := fun W hW => ref_SizeL n.mv n.ms W (hn.2.2.1.toSl hW) hz.ms hz.msn
  have cH := fun (k : ByteArray) (W : World) (hk : k.size ≤ 1000000) => ref_HasN n k W hz.high hk
  obtain ⟨slot, level, pv, ps, kv, ks, high, top, right, seen, mv, ms, rv, rs⟩ := n
  obtain ⟨zh, zp, zpn, zkn, zm, zmn, zr, zrn, zi⟩ := hz
  dsimp only [Nd.Ok] at *
  obtain ⟨hP, hK, hM, hR⟩ := hn
  obtain ⟨B, d, rfl, _⟩ := id hP
  obtain ⟨D, d', rfl, _⟩ := id hK
  obtain ⟨A, c', rfl, _⟩ := id hM
  obtain ⟨E, e', rfl, _⟩ := id hR
  generalize hnd : (⟨slot, level, .slice B ps.length d, ps, .slice D ks.length d', ks, high, top, right, seen, .slice A ms.length c', ms, .slice E rs.length e', rs⟩ : Nd) = n at *
  have hps : n.ps = ps := by rw [← hnd]
  have hks : n.ks = ks := by rw [← hnd]
  have hms : n.ms = ms := by rw [← hnd]
  have hrs : n.rs = rs := by rw [← hnd]
  unfold refInr refAll
  rw [hps, hks, hms, hrs]
  have hseen : n.seen = seen := by rw [← hnd]
  have htop : n.top = top := by rw [← hnd]
  have hhigh : n.high = high := by rw [← hnd]
  have s1 : decide ((0 : Int) < (rs.length : Int)) = !((rs.length : Int) == 0) := by
    by_cases h : (rs.length : Int) = 0
    · rw [h]; rfl
    · rw [decide_eq_true (by omega), beq_eq_false_iff_ne.2 h]; rfl
  have s2 := dltn (ks.length : Int) 2
  have s3 := dgt (ks.length : Int) c.fanout
  have s4 := dgt (sizeL ms) c.budget
  cases hh : (((rs.length : Int) == 0) && decide (2 ≤ (ks.length : Int)) && decide ((ks.length : Int) ≤ c.fanout) && rightK ps ks && allB ms && decide (sizeL ms ≤ c.budget)) with
  | false =>
    rw [Bool.false_and]
    refine V_flat (args := [.agg #[.int .i64 c.fanout, .int .i64 c.leaf, .int .i64 c.budget, .int .i64 c.slots, .int .i64 c.restarts], .agg #[.int .i64 slot, .int .i64 level, .slice B ps.length d, .slice D ks.length d', .string high, .bool top, .int .i64 right, .int .i64 seen, .slice A ms.length c', .slice E rs.length e']]) (M := Mem.of w) Try.func119 rfl Try.ntmps119 (by rfl) (Mem.le_refl _) ?_
    repeat' (first | refine VC_seq ?_ | refine VC_region ?_ | refine VL_nil ?_ | refine VC_ret ?_ | refine VC_block ?_ | refine VC_skip ?_ | refine kbox ?_ | ((first | apply VL_q | apply VG_q); (first | exact QS_call (by rfl) cK | exact QS_call (by rfl) cA | exact QS_call (by rfl) cS | exact qmv (by rfl) | exact qas (by rfl) | exact ql1 (by rfl) | exact qfa (by rfl) | exact qno (by rfl) | exact qln (by rfl) | exact qpt (by rfl) | exact qpf (by rfl) | exact qcp (by rfl)); rfl) | refine gyes ?_ | refine gno ?_ | refine VG_nil ?_ | refine dQ ?_ | refine ctr ?_ | refine gdec (fun hq => ?_) (fun hq => ?_) | refine cco (fun hq => ?_) (fun hq => ?_))
    all_goals first
      | (refine Res.one (by rfl) (ResV_tmp (by rfl) rfl))
      | (exfalso; simp_all <;> omega)
  | true =>
    simp only [Bool.and_eq_true] at hh
    obtain ⟨⟨⟨⟨⟨h1, h2⟩, h3⟩, h4⟩, h5⟩, h6⟩ := hh
    rw [h4] at cK
    rw [h5] at cA
    rw [h1] at s1
    rw [h2] at s2
    rw [h3] at s3
    rw [h6] at s4
    rw [Bool.true_and]
    refine V_flat (args := [.agg #[.int .i64 c.fanout, .int .i64 c.leaf, .int .i64 c.budget, .int .i64 c.slots, .int .i64 c.restarts], .agg #[.int .i64 slot, .int .i64 level, .slice B ps.length d, .slice D ks.length d', .string high, .bool top, .int .i64 right, .int .i64 seen, .slice A ms.length c', .slice E rs.length e']]) (M := Mem.of w) Try.func119 rfl Try.ntmps119 (by rfl) (Mem.le_refl _) ?_
    repeat' (first | refine VC_seq ?_ | refine VC_region ?_ | refine VL_nil ?_ | refine VC_block ?_ | refine VC_skip ?_ | refine kbox ?_ | ((first | apply VL_q | apply VG_q); (first | exact QS_call (by rfl) cK | exact QS_call (by rfl) cA | exact QS_call (by rfl) cS | exact qmv (by rfl) | exact qas (by rfl) | exact ql1 (by rfl) | exact qfa (by rfl) | exact qno (by rfl) | exact qln (by rfl) | exact qpf (by rfl) | exact qcp (by rfl)); rfl) | refine gyes ?_ | refine VG_nil ?_ | refine dQ ?_ | refine cfa ?_)
    refine VC_for (fun k : Nat => ⟨Mem.of w, [.blk 74 (.agg #[.int .i64 c.fanout, .int .i64 c.leaf, .int .i64 c.budget, .int .i64 c.slots, .int .i64 c.restarts] : Value).cells.toList, .blk 94 [.int .i64 slot, .int .i64 level, .slice B ps.length d, .slice D ks.length d', .string high, .bool top, .int .i64 right, .int .i64 seen, .slice A ms.length c', .slice E rs.length e']], [(2, .p 0 0), (3, .p 1 0), (5, .v (.int .i64 k))]⟩) (fun k => k ≤ ks.length ∧ (ks.take k).all (fun k => !decide (k < 0)) = true) (fun k => ks.length - k) [0, 1] 0 ⟨rfl, rfl, ⟨rfl, rfl, trivial⟩, ⟨rfl, rfl, rfl, trivial⟩⟩ ⟨by omega, rfl⟩ ?_
    rintro k ⟨hk, hr⟩
    rcases Nat.lt_or_ge k ks.length with hlt | hge
    · have hd := dlt hlt
      obtain ⟨b, off, rfl, hcA⟩ := hK.get hlt
      cases hq : decide (ks[k] < 0) with
      | true =>
        repeat' (first | refine VC_seq ?_ | refine VC_region ?_ | refine VL_nil ?_ | refine VC_ret ?_ | refine VC_block ?_ | refine VC_skip ?_ | ((apply VL_q); (first | exact QS_indexAddr (k) (by rfl) (by rfl) (by omega) (by omega) | exact QS_mload1 (by rfl) (hcA 0 _ (by rfl)) | exact qmv (by rfl) | exact qas (by rfl) | exact ql1 (by rfl) | exact qfa (by rfl) | exact qln (by rfl) | exact qcp (by rfl)); rfl) | refine ctr ?_)
        show Res _ _ _ _
        refine Res.one (by rfl) (ResV_tmp (by rfl) ?_)
        refine congrArg Value.bool ?_
        rw [allG_stop (p := fun k => !decide (k < 0)) hlt (by rw [hq]; rfl)]; rfl
      | false =>
        repeat' (first | refine VC_seq ?_ | refine VC_region ?_ | refine VL_nil ?_ | refine VC_block ?_ | refine VC_skip ?_ | ((apply VL_q); (first | exact QS_indexAddr (k) (by rfl) (by rfl) (by omega) (by omega) | exact QS_mload1 (by rfl) (hcA 0 _ (by rfl)) | exact qmv (by rfl) | exact qas (by rfl) | exact ql1 (by rfl) | exact qfa (by rfl) | exact qln (by rfl) | exact qcp (by rfl) | exact qad (by rfl)); rfl) | refine ctr ?_ | refine cfa ?_)
        exact forQ_next (Q := fun _ _ => True) [0, 1] (k + 1) ⟨rfl, rfl, ⟨rfl, rfl, trivial⟩, ⟨rfl, rfl, rfl, trivial⟩⟩ ⟨by omega, by rw [allG_step hlt, hr, hq]; rfl⟩ (by omega)
    · have hd := dge hge
      obtain rfl : k = ks.length := by omega
      rw [List.take_length] at hr
      rw [hr, Bool.true_and]
      repeat' (first | refine VC_seq ?_ | refine VC_region ?_ | refine VL_nil ?_ | refine VC_exit ?_ | refine VC_block ?_ | ((apply VL_q); (first | exact qmv (by rfl) | exact qas (by rfl) | exact ql1 (by rfl) | exact qfa (by rfl) | exact qln (by rfl) | exact qcp (by rfl)); rfl) | refine cfa ?_)
      refine VC_for (fun k : Nat => ⟨Mem.of w, [.blk 74 (.agg #[.int .i64 c.fanout, .int .i64 c.leaf, .int .i64 c.budget, .int .i64 c.slots, .int .i64 c.restarts] : Value).cells.toList, .blk 94 [.int .i64 slot, .int .i64 level, .slice B ps.length d, .slice D ks.length d', .string high, .bool top, .int .i64 right, .int .i64 seen, .slice A ms.length c', .slice E rs.length e']], [(2, .p 0 0), (3, .p 1 0), (6, .v (.int .i64 k))]⟩) (fun k => k ≤ ps.length ∧ (ps.take k).all (inP n) = true) (fun k => ps.length - k) [0, 1] 0 ⟨rfl, rfl, ⟨rfl, rfl, trivial⟩, ⟨rfl, rfl, rfl, trivial⟩⟩ ⟨by omega, rfl⟩ ?_
      rintro k ⟨hk, hr⟩
      rcases Nat.lt_or_ge k ps.length with hlt | hge
      · have hd := dlt hlt
        obtain ⟨b, off, rfl, hcA⟩ := hP.get hlt
        have z1 := zp ps[k] (List.getElem_mem hlt)
        have c2 := fun W => cH ps[k] W z1
        have t1 := dgt (ps[k].size : Int) 16
        have hp : inP n ps[k] = (!decide (ps[k] = em) && decide ((ps[k].size : Int) ≤ 16) && hasN n ps[k]) := rfl
        repeat' (first | refine VC_seq ?_ | refine VC_region ?_ | refine VL_nil ?_ | refine VC_ret ?_ | refine VC_block ?_ | refine VC_skip ?_ | ((first | apply VL_q | apply VG_q); (first | exact QS_indexAddr (k) (by rfl) (by rfl) (by omega) (by omega) | exact QS_mload1 (by rfl) (hcA 0 _ (by rfl)) | exact QS_call (by rfl) (fun W _ => c2 W) | exact qmv (by rfl) | exact qas (by rfl) | exact ql1 (by rfl) | exact qlA (by rfl) | exact qfa (by rfl) | exact qno (by rfl) | exact qln (by rfl) | exact qls (by rfl) | exact qpt (by rfl) | exact qpf (by rfl) | exact qcp (by rfl) | exact qad (by rfl)); rfl) | refine gyes ?_ | refine gno ?_ | refine VG_nil ?_ | refine dQ ?_ | refine ctr ?_ | refine gdec (fun hq => ?_) (fun hq => ?_) | refine cco (fun hq => ?_) (fun hq => ?_))
        all_goals first
          | (refine Res.one (by rfl) (ResV_tmp (by rfl) (congrArg Value.bool ?_)); rw [allG_stop (p := inP n) hlt (by rw [hp]; simp_all [em] <;> omega)]; rfl)
          | exact forQ_next (Q := fun _ _ => True) [0, 1] (k + 1) ⟨rfl, rfl, ⟨rfl, rfl, trivial⟩, ⟨rfl, rfl, rfl, trivial⟩⟩ ⟨by omega, by rw [allG_step hlt, hr, hp]; simp_all [em] <;> omega⟩ (by omega)
      · have hd := dge hge
        obtain rfl : k = ps.length := by omega
        rw [List.take_length] at hr
        rw [hr, Bool.true_and]
        repeat' (first | refine VC_seq ?_ | refine VC_region ?_ | refine VL_nil ?_ | refine VC_exit ?_ | refine VC_block ?_ | ((apply VL_q); (first | exact qmv (by rfl) | exact qas (by rfl) | exact ql1 (by rfl) | exact qfa (by rfl) | exact qln (by rfl) | exact qcp (by rfl)); rfl) | refine cfa ?_)
        refine VC_for (fun k : Nat => ⟨Mem.of w, [.blk 74 (.agg #[.int .i64 c.fanout, .int .i64 c.leaf, .int .i64 c.budget, .int .i64 c.slots, .int .i64 c.restarts] : Value).cells.toList, .blk 94 [.int .i64 slot, .int .i64 level, .slice B ps.length d, .slice D ks.length d', .string high, .bool top, .int .i64 right, .int .i64 seen, .slice A ms.length c', .slice E rs.length e']], [(2, .p 0 0), (3, .p 1 0), (7, .v (.int .i64 k))]⟩) (fun k => k ≤ ms.length ∧ (ms.take k).all (inM' n) = true) (fun k => ms.length - k) [0, 1] 0 ⟨rfl, rfl, ⟨rfl, rfl, trivial⟩, ⟨rfl, rfl, rfl, trivial⟩⟩ ⟨by omega, rfl⟩ ?_
        rintro k ⟨hk, hr⟩
        rcases Nat.lt_or_ge k ms.length with hlt | hge
        · have hd := dlt hlt
          obtain ⟨b, off, rfl, hcA⟩ := hM.get hlt
          have z1 := zm ms[k] (List.getElem_mem hlt)
          have c1 := fun W => ref_SpanM ms[k] W z1.1
          have hs := spanM_size ms[k] (n := 1000001) (by omega) (by omega)
          have c2 : ∀ W, Calls Try.prog 90 #[.string high, .string (spanM ms[k]).hi] W fun e w' => e = .returned (.bool (lt high (spanM ms[k]).hi)) ∧ Below W.heap.size W w' := fun W => ref_Less _ _ (by unfold maxLen; omega) (by unfold maxLen; omega) W
          have e1 := dgt ms[k].stamp seen
          have hp : inM' n ms[k] = (decide (ms[k].stamp ≤ seen) && (top || (!(spanM ms[k]).opn && !lt high (spanM ms[k]).hi))) := by unfold inM'; rw [hseen, htop, hhigh]
          clear hps hks hms hrs hseen htop hhigh hnd hd h1 h2 h3 h4 h5 h6 s1 s2 s3 s4
          have hd := dlt hlt
          repeat' (first | refine VC_seq ?_ | refine VC_region ?_ | refine VL_nil ?_ | refine VC_ret ?_ | refine VC_block ?_ | refine VC_skip ?_ | refine kall ?_ | refine ksN ?_ | ((first | apply VL_q | apply VG_q); (first | exact QS_indexAddr (k) (by rfl) (by rfl) (by omega) (by omega) | exact QS_mload1 (by rfl) (hcA 0 _ (by rfl)) | exact QS_mloadN _ (by rfl) hcA _ (by rfl) | exact QS_call (by rfl) (fun W _ => c1 W) | exact QS_call (by rfl) (fun W _ => c2 W) | exact qmv (by rfl) | exact qas (by rfl) | exact ql1 (by rfl) | exact qfa (by rfl) | exact qmf (by rfl) | exact qno (by rfl) | exact qln (by rfl) | exact qpt (by rfl) | exact qpf (by rfl) | exact qcp (by rfl) | exact qad (by rfl)); rfl) | refine gyes ?_ | refine gno ?_ | refine gnoU ?_ | refine VG_nil ?_ | refine dQ ?_ | refine ctr ?_ | refine cfa ?_ | refine gdec (fun hq => ?_) (fun hq => ?_) | refine cco (fun hq => ?_) (fun hq => ?_))
          all_goals first
            | (refine Res.one (by rfl) (ResV_tmp (by rfl) (congrArg Value.bool ?_)); rw [allG_stop (p := inM' n) hlt (by rw [hp]; simp_all <;> omega)])
            | exact forQ_next (Q := fun _ _ => True) [0, 1] (k + 1) ⟨rfl, rfl, ⟨rfl, rfl, trivial⟩, ⟨rfl, rfl, rfl, trivial⟩⟩ ⟨by omega, by rw [allG_step hlt, hr, hp]; simp_all <;> omega⟩ (by omega)
        · have hd := dge hge
          obtain rfl : k = ms.length := by omega
          rw [List.take_length] at hr
          repeat' (first | refine VC_seq ?_ | refine VC_region ?_ | refine VL_nil ?_ | refine VC_ret ?_ | refine VC_exit ?_ | ((apply VL_q); (first | exact qmv (by rfl) | exact qas (by rfl) | exact ql1 (by rfl) | exact qfa (by rfl) | exact qln (by rfl) | exact qcp (by rfl)); rfl) | refine cfa ?_)
          show Res _ _ _ _
          refine Res.one (by rfl) (ResV_tmp (by rfl) ?_)
          exact congrArg Value.bool hr.symm
end Go.Proofs.Ytclbmfepdlffnaa
