/- The walks of the buffer layer's loops. The walks of the buffer layer's loops: All, Same, Size, the library's IndexFunc and ContainsFunc. The walks of the buffer layer: Size, Fits, the library's Clone, IndexFunc and ContainsFunc, Right, Add. The walks of the buffer layer: the library's IndexFunc and ContainsFunc, Right, Add. The walk of the buffer layer's Add. The walk of the buffer layer's On, and the chapter's examples. The chapter's examples of the buffer layer. The walks of the buffer layer's Clip and of the reference's Clip, After, On. The walk of the reference's On. The walk of the library's DeleteFunc, of the buffer layer's After. The walk of the buffer layer's After. -/
import Derived.Test.YtipbbbamjckjoaaPMs
import Derived.Test.YtipbbbamjckjoaaPLg2
namespace Go.Proofs.Ytipbbbamjckjoaa
open Go Go.RowKit
attribute [local irreducible] Calls
set_option linter.unusedVariables false
set_option maxRecDepth 20000
set_option linter.unusedSimpArgs false
theorem In.sizes {m : Msg} (h : m.In) : m.key.size ≤ 140737488351232 ∧ m.hi.size ≤ 140737488351232 ∧ m.val.size ≤ 140737488351232 := ⟨h.2.2.1.le, h.2.2.2.1.le, h.2.2.2.2.le⟩
theorem ref_Few (v : Value) (l : List Msg) (most : Int) (w : World) (hl : SlMsg w v l) (hin : ∀ m ∈ l, m.In) (h0 : 0 ≤ most) (h1 : most ≤ 1000000) :
    Calls Try.prog 34 #[v, .int .i64 most] w fun e w' => e = .returned (.bool (decide (sumBy wtM l ≤ most))) ∧ Below w.heap.size w w' := by
  obtain ⟨A, c, rfl, hc1, hc2, _⟩ := id hl
  have hM := hl.toM
  unfold maxLen at hc2
  refine V_flat (args := [.slice A l.length c, .int .i64 most]) (M := Mem.of w) Try.func34 rfl Try.ntmps34 (by rfl) (Mem.le_refl _) ?_
  repeat' (first
    | refine VC_seq ?_
    | refine VC_region ?_
    | refine VL_nil ?_
    | refine VC_ret ?_
    | refine VC_exit ?_
    | refine VC_block ?_
    | refine VC_skip ?_
    | refine kbox ?_
    | refine kall ?_
    | refine kst ?_
    | refine ksN ?_
    | refine klt ?_
    | refine kl1 ?_
    | refine klK ?_
    | refine kap ?_
    | ((first | apply VL_q | apply VG_q | apply VS_q2); (first  | exact qmv (by rfl) | exact qas (by rfl) | exact ql1 (by rfl) | exact qlA (by rfl) | exact qfa (by rfl) | exact qmf (by rfl) | exact qfd (by rfl) | exact qm1 (by rfl) | exact qbd (by rfl) | exact qno (by rfl) | exact qex (by rfl) | exact qln (by rfl) | exact qls (by rfl) | exact qlr (by rfl) | exact qpt (by rfl) | exact qpf (by rfl) | exact qcp (by rfl) | exact qbe (by rfl) | exact qbn (by rfl) | exact qsn (by rfl) | exact qad (by rfl) | exact qsa (by rfl) | exact qsu (by rfl) | exact QS_bin (by rfl) (by rfl) (by first | exact B_slnil | exact Bq_eql_Span | exact Bq_neq_Span | exact Bq_eql_Eff | exact Bq_neq_Eff | exact Bq_eql_Msg | exact Bq_neq_Msg | exact Bq_eql_Pair | exact Bq_neq_Pair)); rfl)
    | refine sst ?_
    | refine VS_nil ?_
    | refine eeq ?_
    | refine ees ?_ (by first | exact es1 (by rfl) | exact esN (by rfl))
    | refine VE_nil ?_
    | refine kyes ?_
    | refine kno ?_
    | refine gyes ?_
    | refine gno ?_
    | refine knoU ?_
    | refine gnoU ?_
    | refine VG_nil ⟨by rfl, ?_⟩
    | refine VG_nil ?_
    | refine dT ?_
    | refine d1 ?_
    | refine dQ ?_
    | refine ctr ?_
    | refine cfa ?_
    | refine kdec (fun hq => ?_) (fun hq => ?_)
    | refine gdec (fun hq => ?_) (fun hq => ?_)
    | refine cco (fun hq => ?_) (fun hq => ?_))
  refine VC_for (fun k : Nat => ⟨Mem.of w, [], [(0, .v (.slice A l.length c)), (1, .v (.int .i64 most)), (5, .v (.int .i64 (sumBy wtM (l.take k)))), (6, .v (.int .i64 k))]⟩) (fun k => k ≤ l.length ∧ sumBy wtM (l.take k) ≤ 1000000000000000) (fun k => l.length - k) [] 0 ⟨rfl, rfl, trivial, ⟨rfl, rfl, rfl, rfl, trivial⟩⟩ ⟨by omega, by simp [sumBy]⟩ ?_
  rintro k ⟨hk, hs⟩
  have hp := sumBy_nonneg (f := wtM) (l.take k) (fun a _ => by have := wtM_pos a; omega)
  have hle := sumBy_take_le (f := wtM) l (fun a _ => by have := wtM_pos a; omega) k
  rcases Nat.lt_or_ge k l.length with hlt | hge
  · have hd := dlt hlt
    obtain ⟨b, off, rfl, hcA⟩ := hM.get hlt
    obtain ⟨z1, z2, z3⟩ := In.sizes (hin l[k] (List.getElem_mem hlt))
    cases d2 : decide (sumBy wtM (l.take k) ≤ most) with
    | false =>
      repeat' (first
        | refine VC_seq ?_
        | refine VC_region ?_
        | refine VL_nil ?_
        | refine VC_ret ?_
        | refine VC_exit ?_
        | refine VC_block ?_
        | refine VC_skip ?_
        | refine kbox ?_
        | refine kall ?_
        | refine kst ?_
        | refine ksN ?_
        | refine klt ?_
        | refine kl1 ?_
        | refine klK ?_
        | refine kap ?_
        | ((first | apply VL_q | apply VG_q | apply VS_q2); (first | exact QS_indexAddr (k) (by rfl) (by rfl) (by omega) (by omega) | exact QS_mload1 (by rfl) (hcA 0 _ (by rfl)) | exact QS_mload1 (by rfl) (hcA _ _ (by rfl)) | exact QS_mloadN _ (by rfl) hcA _ (by rfl) | exact qmv (by rfl) | exact qas (by rfl) | exact ql1 (by rfl) | exact qlA (by rfl) | exact qfa (by rfl) | exact qmf (by rfl) | exact qfd (by rfl) | exact qm1 (by rfl) | exact qbd (by rfl) | exact qno (by rfl) | exact qex (by rfl) | exact qln (by rfl) | exact qls (by rfl) | exact qlr (by rfl) | exact qpt (by rfl) | exact qpf (by rfl) | exact qcp (by rfl) | exact qbe (by rfl) | exact qbn (by rfl) | exact qsn (by rfl) | exact qad (by rfl) | exact qsa (by rfl) | exact qsu (by rfl) | exact QS_bin (by rfl) (by rfl) (by first | exact B_slnil | exact Bq_eql_Span | exact Bq_neq_Span | exact Bq_eql_Eff | exact Bq_neq_Eff | exact Bq_eql_Msg | exact Bq_neq_Msg | exact Bq_eql_Pair | exact Bq_neq_Pair)); rfl)
        | refine sst ?_
        | refine VS_nil ?_
        | refine eeq ?_
        | refine ees ?_ (by first | exact es1 (by rfl) | exact esN (by rfl))
        | refine VE_nil ?_
        | refine kyes ?_
        | refine kno ?_
        | refine gyes ?_
        | refine gno ?_
        | refine knoU ?_
        | refine gnoU ?_
        | refine VG_nil ⟨by rfl, ?_⟩
        | refine VG_nil ?_
        | refine dT ?_
        | refine d1 ?_
        | refine dQ ?_
        | refine ctr ?_
        | refine cfa ?_
        | refine kdec (fun hq => ?_) (fun hq => ?_)
        | refine gdec (fun hq => ?_) (fun hq => ?_)
        | refine cco (fun hq => ?_) (fun hq => ?_))
      show Res _ _ _ _
      refine Res.one (by rfl) (ResV_tmp (by rfl) ?_)
      refine congrArg Value.bool ?_
      rw [d2]
      simp only [decide_eq_false_iff_not] at d2
      exact (decide_eq_false (by omega)).symm
    | true =>
      simp only [decide_eq_true_eq] at d2
      have d3 := decide_eq_true d2
      repeat' (first
        | refine VC_seq ?_
        | refine VC_region ?_
        | refine VL_nil ?_
        | refine VC_ret ?_
        | refine VC_exit ?_
        | refine VC_block ?_
        | refine VC_skip ?_
        | refine kbox ?_
        | refine kall ?_
        | refine kst ?_
        | refine ksN ?_
        | refine klt ?_
        | refine kl1 ?_
        | refine klK ?_
        | refine kap ?_
        | ((first | apply VL_q | apply VG_q | apply VS_q2); (first | exact QS_indexAddr (k) (by rfl) (by rfl) (by omega) (by omega) | exact QS_mload1 (by rfl) (hcA 0 _ (by rfl)) | exact QS_mload1 (by rfl) (hcA _ _ (by rfl)) | exact QS_mloadN _ (by rfl) hcA _ (by rfl) | exact qmv (by rfl) | exact qas (by rfl) | exact ql1 (by rfl) | exact qlA (by rfl) | exact qfa (by rfl) | exact qmf (by rfl) | exact qfd (by rfl) | exact qm1 (by rfl) | exact qbd (by rfl) | exact qno (by rfl) | exact qex (by rfl) | exact qln (by rfl) | exact qls (by rfl) | exact qlr (by rfl) | exact qpt (by rfl) | exact qpf (by rfl) | exact qcp (by rfl) | exact qbe (by rfl) | exact qbn (by rfl) | exact qsn (by rfl) | exact qad (by rfl) | exact qsa (by rfl) | exact qsu (by rfl) | exact QS_bin (by rfl) (by rfl) (by first | exact B_slnil | exact Bq_eql_Span | exact Bq_neq_Span | exact Bq_eql_Eff | exact Bq_neq_Eff | exact Bq_eql_Msg | exact Bq_neq_Msg | exact Bq_eql_Pair | exact Bq_neq_Pair)); rfl)
        | refine sst ?_
        | refine VS_nil ?_
        | refine eeq ?_
        | refine ees ?_ (by first | exact es1 (by rfl) | exact esN (by rfl))
        | refine VE_nil ?_
        | refine kyes ?_
        | refine kno ?_
        | refine gyes ?_
        | refine gno ?_
        | refine knoU ?_
        | refine gnoU ?_
        | refine VG_nil ⟨by rfl, ?_⟩
        | refine VG_nil ?_
        | refine dT ?_
        | refine d1 ?_
        | refine dQ ?_
        | refine ctr ?_
        | refine cfa ?_
        | refine kdec (fun hq => ?_) (fun hq => ?_)
        | refine gdec (fun hq => ?_) (fun hq => ?_)
        | refine cco (fun hq => ?_) (fun hq => ?_))
      refine forQ_next [] (k + 1) ⟨rfl, rfl, trivial, ⟨rfl, rfl, ?_, rfl, trivial⟩⟩ ⟨by omega, ?_⟩ (by omega)
      · rw [sumBy_step hlt]; rfl
      · rw [sumBy_step hlt]
        have h3 : wtM l[k] = 1 + (l[k].key.size : Int) + (l[k].hi.size : Int) + (l[k].val.size : Int) := rfl
        omega
  · have hd := dge hge
    obtain rfl : k = l.length := by omega
    repeat' (first
      | refine VC_seq ?_
      | refine VC_region ?_
      | refine VL_nil ?_
      | refine VC_ret ?_
      | refine VC_exit ?_
      | refine VC_block ?_
      | refine VC_skip ?_
      | refine kbox ?_
      | refine kall ?_
      | refine kst ?_
      | refine ksN ?_
      | refine klt ?_
      | refine kl1 ?_
      | refine klK ?_
      | refine kap ?_
      | ((first | apply VL_q | apply VG_q | apply VS_q2); (first  | exact qmv (by rfl) | exact qas (by rfl) | exact ql1 (by rfl) | exact qlA (by rfl) | exact qfa (by rfl) | exact qmf (by rfl) | exact qfd (by rfl) | exact qm1 (by rfl) | exact qbd (by rfl) | exact qno (by rfl) | exact qex (by rfl) | exact qln (by rfl) | exact qls (by rfl) | exact qlr (by rfl) | exact qpt (by rfl) | exact qpf (by rfl) | exact qcp (by rfl) | exact qbe (by rfl) | exact qbn (by rfl) | exact qsn (by rfl) | exact qad (by rfl) | exact qsa (by rfl) | exact qsu (by rfl) | exact QS_bin (by rfl) (by rfl) (by first | exact B_slnil | exact Bq_eql_Span | exact Bq_neq_Span | exact Bq_eql_Eff | exact Bq_neq_Eff | exact Bq_eql_Msg | exact Bq_neq_Msg | exact Bq_eql_Pair | exact Bq_neq_Pair)); rfl)
      | refine sst ?_
      | refine VS_nil ?_
      | refine eeq ?_
      | refine ees ?_ (by first | exact es1 (by rfl) | exact esN (by rfl))
      | refine VE_nil ?_
      | refine kyes ?_
      | refine kno ?_
      | refine gyes ?_
      | refine gno ?_
      | refine knoU ?_
      | refine gnoU ?_
      | refine VG_nil ⟨by rfl, ?_⟩
      | refine VG_nil ?_
      | refine dT ?_
      | refine d1 ?_
      | refine dQ ?_
      | refine ctr ?_
      | refine cfa ?_
      | refine kdec (fun hq => ?_) (fun hq => ?_)
      | refine gdec (fun hq => ?_) (fun hq => ?_)
      | refine cco (fun hq => ?_) (fun hq => ?_))
    show Res _ _ _ _
    refine Res.one (by rfl) (ResV_tmp (by rfl) ?_)
    rw [List.take_length]
end Go.Proofs.Ytipbbbamjckjoaa
namespace Go.Proofs.Ytipbbbamjckjoaa
open Go Go.RowKit
attribute [local irreducible] Calls
set_option linter.unusedVariables false
set_option maxRecDepth 20000
set_option linter.unusedSimpArgs false
set_option maxHeartbeats 8000000
theorem take_all_step {l : List Msg} {k : Nat} (h : k < l.length) (p : Msg → Bool) : (l.take (k + 1)).all p = ((l.take k).all p && p l[k]) := by
  rw [List.take_succ_eq_append_getElem h, List.all_append]; simp
theorem ref_SameM (v u : Value) (l m : List Msg) (w : World) (hl : SlMsg w v l) (hm : SlMsg w u m) :
    Calls Try.prog 42 #[v, u] w fun e w' => e = .returned (.bool (decide (l = m))) ∧ Below w.heap.size w w' := by
  obtain ⟨A, c, rfl, hc1, hc2, _⟩ := id hl
  obtain ⟨B, c', rfl, hd1, hd2, _⟩ := id hm
  have hM := hl.toM
  have hN := hm.toM
  unfold maxLen at hc2 hd2
  by_cases hlen : l.length = m.length
  · have hne : ((l.length : Int) != (m.length : Int)) = false := by rw [hlen]; simp
    refine V_flat (args := [.slice A l.length c, .slice B m.length c']) (M := Mem.of w) Try.func42 rfl Try.ntmps42 (by rfl) (Mem.le_refl _) ?_
    repeat' (first
      | refine VC_seq ?_
      | refine VC_region ?_
      | refine VL_nil ?_
      | refine VC_ret ?_
      | refine VC_exit ?_
      | refine VC_block ?_
      | refine VC_skip ?_
      | refine kbox ?_
      | refine kall ?_
      | refine kst ?_
      | refine ksN ?_
      | refine klt ?_
      | refine kl1 ?_
      | refine klK ?_
      | refine kap ?_
      | ((first | apply VL_q | apply VG_q | apply VS_q2); (first  | exact qmv (by rfl) | exact qas (by rfl) | exact ql1 (by rfl) | exact qlA (by rfl) | exact qfa (by rfl) | exact qmf (by rfl) | exact qfd (by rfl) | exact qm1 (by rfl) | exact qbd (by rfl) | exact qno (by rfl) | exact qex (by rfl) | exact qln (by rfl) | exact qls (by rfl) | exact qlr (by rfl) | exact qpt (by rfl) | exact qpf (by rfl) | exact qcp (by rfl) | exact qbe (by rfl) | exact qbn (by rfl) | exact qsn (by rfl) | exact qad (by rfl) | exact qsa (by rfl) | exact qsu (by rfl) | exact QS_bin (by rfl) (by rfl) (by first | exact B_slnil | exact Bq_eql_Span | exact Bq_neq_Span | exact Bq_eql_Eff | exact Bq_neq_Eff | exact Bq_eql_Msg | exact Bq_neq_Msg | exact Bq_eql_Pair | exact Bq_neq_Pair)); rfl)
      | refine sst ?_
      | refine VS_nil ?_
      | refine eeq ?_
      | refine ees ?_ (by first | exact es1 (by rfl) | exact esN (by rfl))
      | refine VE_nil ?_
      | refine kyes ?_
      | refine kno ?_
      | refine gyes ?_
      | refine gno ?_
      | refine knoU ?_
      | refine gnoU ?_
      | refine VG_nil ⟨by rfl, ?_⟩
      | refine VG_nil ?_
      | refine dT ?_
      | refine d1 ?_
      | refine dQ ?_
      | refine ctr ?_
      | refine cfa ?_
      | refine kdec (fun hq => ?_) (fun hq => ?_)
      | refine gdec (fun hq => ?_) (fun hq => ?_)
      | refine cco (fun hq => ?_) (fun hq => ?_))
    refine VC_for (fun k : Nat => ⟨Mem.of w, [], [(0, .v (.slice A l.length c)), (1, .v (.slice B m.length c')), (5, .v (.int .i64 k))]⟩) (fun k => k ≤ l.length ∧ l.take k = m.take k) (fun k => l.length - k) [] 0 ⟨rfl, rfl, trivial, ⟨rfl, rfl, rfl, trivial⟩⟩ ⟨by omega, rfl⟩ ?_
    rintro k ⟨hk, he⟩
    rcases Nat.lt_or_ge k l.length with hlt | hge
    · have hd := dlt hlt
      have hlt' : k < m.length := by omega
      obtain ⟨b, off, rfl, hcA⟩ := hM.get hlt
      obtain ⟨b', off', rfl, hcB⟩ := hN.get hlt'
      cases hq : eqv l[k] m[k] with
      | false =>
        have hq' : (!eqv l[k] m[k]) = true := by rw [hq]; rfl
        repeat' (first
          | refine VC_seq ?_
          | refine VC_region ?_
          | refine VL_nil ?_
          | refine VC_ret ?_
          | refine VC_exit ?_
          | refine VC_block ?_
          | refine VC_skip ?_
          | refine kbox ?_
          | refine kall ?_
          | refine kst ?_
          | refine ksN ?_
          | refine klt ?_
          | refine kl1 ?_
          | refine klK ?_
          | refine kap ?_
          | ((first | apply VL_q | apply VG_q | apply VS_q2); (first | exact QS_indexAddr (k) (by rfl) (by rfl) (by omega) (by omega) | exact QS_mload1 (by rfl) (hcA 0 _ (by rfl)) | exact QS_mload1 (by rfl) (hcA _ _ (by rfl)) | exact QS_mloadN _ (by rfl) hcA _ (by rfl) | exact QS_mload1 (by rfl) (hcB 0 _ (by rfl)) | exact QS_mload1 (by rfl) (hcB _ _ (by rfl)) | exact QS_mloadN _ (by rfl) hcB _ (by rfl) | exact qmv (by rfl) | exact qas (by rfl) | exact ql1 (by rfl) | exact qlA (by rfl) | exact qfa (by rfl) | exact qmf (by rfl) | exact qfd (by rfl) | exact qm1 (by rfl) | exact qbd (by rfl) | exact qno (by rfl) | exact qex (by rfl) | exact qln (by rfl) | exact qls (by rfl) | exact qlr (by rfl) | exact qpt (by rfl) | exact qpf (by rfl) | exact qcp (by rfl) | exact qbe (by rfl) | exact qbn (by rfl) | exact qsn (by rfl) | exact qad (by rfl) | exact qsa (by rfl) | exact qsu (by rfl) | exact QS_bin (by rfl) (by rfl) (by first | exact B_slnil | exact Bq_eql_Span | exact Bq_neq_Span | exact Bq_eql_Eff | exact Bq_neq_Eff | exact Bq_eql_Msg | exact Bq_neq_Msg | exact Bq_eql_Pair | exact Bq_neq_Pair)); rfl)
          | refine sst ?_
          | refine VS_nil ?_
          | refine eeq ?_
          | refine ees ?_ (by first | exact es1 (by rfl) | exact esN (by rfl))
          | refine VE_nil ?_
          | refine kyes ?_
          | refine kno ?_
          | refine gyes ?_
          | refine gno ?_
          | refine knoU ?_
          | refine gnoU ?_
          | refine VG_nil ⟨by rfl, ?_⟩
          | refine VG_nil ?_
          | refine dT ?_
          | refine d1 ?_
          | refine dQ ?_
          | refine ctr ?_
          | refine cfa ?_
          | refine kdec (fun hq => ?_) (fun hq => ?_)
          | refine gdec (fun hq => ?_) (fun hq => ?_)
          | refine cco (fun hq => ?_) (fun hq => ?_))
        show Res _ _ _ _
        refine Res.one (by rfl) (ResV_tmp (by rfl) ?_)
        refine congrArg Value.bool ?_
        refine (decide_eq_false fun e => ?_).symm
        subst e
        rw [eqv_self] at hq; cases hq
      | true =>
        have hq' : (!eqv l[k] m[k]) = false := by rw [hq]; rfl
        repeat' (first
          | refine VC_seq ?_
          | refine VC_region ?_
          | refine VL_nil ?_
          | refine VC_ret ?_
          | refine VC_exit ?_
          | refine VC_block ?_
          | refine VC_skip ?_
          | refine kbox ?_
          | refine kall ?_
          | refine kst ?_
          | refine ksN ?_
          | refine klt ?_
          | refine kl1 ?_
          | refine klK ?_
          | refine kap ?_
          | ((first | apply VL_q | apply VG_q | apply VS_q2); (first | exact QS_indexAddr (k) (by rfl) (by rfl) (by omega) (by omega) | exact QS_mload1 (by rfl) (hcA 0 _ (by rfl)) | exact QS_mload1 (by rfl) (hcA _ _ (by rfl)) | exact QS_mloadN _ (by rfl) hcA _ (by rfl) | exact QS_mload1 (by rfl) (hcB 0 _ (by rfl)) | exact QS_mload1 (by rfl) (hcB _ _ (by rfl)) | exact QS_mloadN _ (by rfl) hcB _ (by rfl) | exact qmv (by rfl) | exact qas (by rfl) | exact ql1 (by rfl) | exact qlA (by rfl) | exact qfa (by rfl) | exact qmf (by rfl) | exact qfd (by rfl) | exact qm1 (by rfl) | exact qbd (by rfl) | exact qno (by rfl) | exact qex (by rfl) | exact qln (by rfl) | exact qls (by rfl) | exact qlr (by rfl) | exact qpt (by rfl) | exact qpf (by rfl) | exact qcp (by rfl) | exact qbe (by rfl) | exact qbn (by rfl) | exact qsn (by rfl) | exact qad (by rfl) | exact qsa (by rfl) | exact qsu (by rfl) | exact QS_bin (by rfl) (by rfl) (by first | exact B_slnil | exact Bq_eql_Span | exact Bq_neq_Span | exact Bq_eql_Eff | exact Bq_neq_Eff | exact Bq_eql_Msg | exact Bq_neq_Msg | exact Bq_eql_Pair | exact Bq_neq_Pair)); rfl)
          | refine sst ?_
          | refine VS_nil ?_
          | refine eeq ?_
          | refine ees ?_ (by first | exact es1 (by rfl) | exact esN (by rfl))
          | refine VE_nil ?_
          | refine kyes ?_
          | refine kno ?_
          | refine gyes ?_
          | refine gno ?_
          | refine knoU ?_
          | refine gnoU ?_
          | refine VG_nil ⟨by rfl, ?_⟩
          | refine VG_nil ?_
          | refine dT ?_
          | refine d1 ?_
          | refine dQ ?_
          | refine ctr ?_
          | refine cfa ?_
          | refine kdec (fun hq => ?_) (fun hq => ?_)
          | refine gdec (fun hq => ?_) (fun hq => ?_)
          | refine cco (fun hq => ?_) (fun hq => ?_))
        refine forQ_next [] (k + 1) ⟨rfl, rfl, trivial, ⟨rfl, rfl, rfl, trivial⟩⟩ ⟨by omega, ?_⟩ (by omega)
        rw [List.take_succ_eq_append_getElem hlt, List.take_succ_eq_append_getElem hlt', he]
        have : l[k] = m[k] := by simpa [eqv] using hq
        rw [this]
    · have hd := dge hge
      have h1 : k = l.length := by omega
      repeat' (first
        | refine VC_seq ?_
        | refine VC_region ?_
        | refine VL_nil ?_
        | refine VC_ret ?_
        | refine VC_exit ?_
        | refine VC_block ?_
        | refine VC_skip ?_
        | refine kbox ?_
        | refine kall ?_
        | refine kst ?_
        | refine ksN ?_
        | refine klt ?_
        | refine kl1 ?_
        | refine klK ?_
        | refine kap ?_
        | ((first | apply VL_q | apply VG_q | apply VS_q2); (first  | exact qmv (by rfl) | exact qas (by rfl) | exact ql1 (by rfl) | exact qlA (by rfl) | exact qfa (by rfl) | exact qmf (by rfl) | exact qfd (by rfl) | exact qm1 (by rfl) | exact qbd (by rfl) | exact qno (by rfl) | exact qex (by rfl) | exact qln (by rfl) | exact qls (by rfl) | exact qlr (by rfl) | exact qpt (by rfl) | exact qpf (by rfl) | exact qcp (by rfl) | exact qbe (by rfl) | exact qbn (by rfl) | exact qsn (by rfl) | exact qad (by rfl) | exact qsa (by rfl) | exact qsu (by rfl) | exact QS_bin (by rfl) (by rfl) (by first | exact B_slnil | exact Bq_eql_Span | exact Bq_neq_Span | exact Bq_eql_Eff | exact Bq_neq_Eff | exact Bq_eql_Msg | exact Bq_neq_Msg | exact Bq_eql_Pair | exact Bq_neq_Pair)); rfl)
        | refine sst ?_
        | refine VS_nil ?_
        | refine eeq ?_
        | refine ees ?_ (by first | exact es1 (by rfl) | exact esN (by rfl))
        | refine VE_nil ?_
        | refine kyes ?_
        | refine kno ?_
        | refine gyes ?_
        | refine gno ?_
        | refine knoU ?_
        | refine gnoU ?_
        | refine VG_nil ⟨by rfl, ?_⟩
        | refine VG_nil ?_
        | refine dT ?_
        | refine d1 ?_
        | refine dQ ?_
        | refine ctr ?_
        | refine cfa ?_
        | refine kdec (fun hq => ?_) (fun hq => ?_)
        | refine gdec (fun hq => ?_) (fun hq => ?_)
        | refine cco (fun hq => ?_) (fun hq => ?_))
      show Res _ _ _ _
      refine Res.one (by rfl) (ResV_tmp (by rfl) ?_)
      refine congrArg Value.bool ?_
      refine (decide_eq_true ?_).symm
      rw [h1, List.take_length, hlen, List.take_length] at he
      exact he
  · have hne : ((l.length : Int) != (m.length : Int)) = true := by
      have : (l.length : Int) ≠ m.length := by omega
      simpa using this
    refine V_flat (args := [.slice A l.length c, .slice B m.length c']) (M := Mem.of w) Try.func42 rfl Try.ntmps42 (by rfl) (Mem.le_refl _) ?_
    repeat' (first
      | refine VC_seq ?_
      | refine VC_region ?_
      | refine VL_nil ?_
      | refine VC_ret ?_
      | refine VC_exit ?_
      | refine VC_block ?_
      | refine VC_skip ?_
      | refine kbox ?_
      | refine kall ?_
      | refine kst ?_
      | refine ksN ?_
      | refine klt ?_
      | refine kl1 ?_
      | refine klK ?_
      | refine kap ?_
      | ((first | apply VL_q | apply VG_q | apply VS_q2); (first  | exact qmv (by rfl) | exact qas (by rfl) | exact ql1 (by rfl) | exact qlA (by rfl) | exact qfa (by rfl) | exact qmf (by rfl) | exact qfd (by rfl) | exact qm1 (by rfl) | exact qbd (by rfl) | exact qno (by rfl) | exact qex (by rfl) | exact qln (by rfl) | exact qls (by rfl) | exact qlr (by rfl) | exact qpt (by rfl) | exact qpf (by rfl) | exact qcp (by rfl) | exact qbe (by rfl) | exact qbn (by rfl) | exact qsn (by rfl) | exact qad (by rfl) | exact qsa (by rfl) | exact qsu (by rfl) | exact QS_bin (by rfl) (by rfl) (by first | exact B_slnil | exact Bq_eql_Span | exact Bq_neq_Span | exact Bq_eql_Eff | exact Bq_neq_Eff | exact Bq_eql_Msg | exact Bq_neq_Msg | exact Bq_eql_Pair | exact Bq_neq_Pair)); rfl)
      | refine sst ?_
      | refine VS_nil ?_
      | refine eeq ?_
      | refine ees ?_ (by first | exact es1 (by rfl) | exact esN (by rfl))
      | refine VE_nil ?_
      | refine kyes ?_
      | refine kno ?_
      | refine gyes ?_
      | refine gno ?_
      | refine knoU ?_
      | refine gnoU ?_
      | refine VG_nil ⟨by rfl, ?_⟩
      | refine VG_nil ?_
      | refine dT ?_
      | refine d1 ?_
      | refine dQ ?_
      | refine ctr ?_
      | refine cfa ?_
      | refine kdec (fun hq => ?_) (fun hq => ?_)
      | refine gdec (fun hq => ?_) (fun hq => ?_)
      | refine cco (fun hq => ?_) (fun hq => ?_))
    show Res _ _ _ _
    refine Res.one (by rfl) (ResV_tmp (by rfl) ?_)
    refine congrArg Value.bool ?_
    exact (decide_eq_false fun e => hlen (by rw [e])).symm
end Go.Proofs.Ytipbbbamjckjoaa
namespace Go.Proofs.Ytipbbbamjckjoaa
open Go Go.RowKit
attribute [local irreducible] Calls
set_option linter.unusedVariables false
set_option maxRecDepth 20000
set_option linter.unusedSimpArgs false
set_option maxHeartbeats 8000000
theorem buffer_Size (v : Value) (l : List Msg) (w : World) (hl : SlMsg w v l) (hz : ∀ m ∈ l, m.key.size ≤ 1000000 ∧ m.hi.size ≤ 1000000 ∧ m.val.size ≤ 1000000) (hn : l.length ≤ 1000000) :
    Calls Try.prog 39 #[v] w fun e w' => e = .returned (.int .i64 (sizeL l)) ∧ Below w.heap.size w w' := by
  obtain ⟨A, c, rfl, hc1, hc2, _⟩ := id hl
  have hM := hl.toM
  unfold maxLen at hc2
  refine V_flat (args := [.slice A l.length c]) (M := Mem.of w) Try.func39 rfl Try.ntmps39 (by rfl) (Mem.le_refl _) ?_
  repeat' (first
    | refine VC_seq ?_
    | refine VC_region ?_
    | refine VL_nil ?_
    | refine VC_ret ?_
    | refine VC_exit ?_
    | refine VC_block ?_
    | refine VC_skip ?_
    | refine kbox ?_
    | refine kall ?_
    | refine kst ?_
    | refine ksN ?_
    | refine klt ?_
    | refine kl1 ?_
    | refine klK ?_
    | refine kap ?_
    | ((first | apply VL_q | apply VG_q | apply VS_q2); (first  | exact qmv (by rfl) | exact qas (by rfl) | exact ql1 (by rfl) | exact qlA (by rfl) | exact qfa (by rfl) | exact qmf (by rfl) | exact qfd (by rfl) | exact qm1 (by rfl) | exact qbd (by rfl) | exact qno (by rfl) | exact qex (by rfl) | exact qln (by rfl) | exact qls (by rfl) | exact qlr (by rfl) | exact qpt (by rfl) | exact qpf (by rfl) | exact qcp (by rfl) | exact qbe (by rfl) | exact qbn (by rfl) | exact qsn (by rfl) | exact qad (by rfl) | exact qsa (by rfl) | exact qsu (by rfl) | exact QS_bin (by rfl) (by rfl) (by first | exact B_slnil | exact Bq_eql_Span | exact Bq_neq_Span | exact Bq_eql_Eff | exact Bq_neq_Eff | exact Bq_eql_Msg | exact Bq_neq_Msg | exact Bq_eql_Pair | exact Bq_neq_Pair)); rfl)
    | refine sst ?_
    | refine VS_nil ?_
    | refine eeq ?_
    | refine ees ?_ (by first | exact es1 (by rfl) | exact esN (by rfl))
    | refine VE_nil ?_
    | refine kyes ?_
    | refine kno ?_
    | refine gyes ?_
    | refine gno ?_
    | refine knoU ?_
    | refine gnoU ?_
    | refine VG_nil ⟨by rfl, ?_⟩
    | refine VG_nil ?_
    | refine dT ?_
    | refine d1 ?_
    | refine dQ ?_
    | refine ctr ?_
    | refine cfa ?_
    | refine kdec (fun hq => ?_) (fun hq => ?_)
    | refine gdec (fun hq => ?_) (fun hq => ?_)
    | refine cco (fun hq => ?_) (fun hq => ?_))
  refine VC_for (fun k : Nat => ⟨Mem.of w, [], [(3, .v (.int .i64 (sumBy sizeM (l.take k)))), (6, .v (.slice A l.length c)), (7, .v (.int .i64 l.length)), (8, .v (.int .i64 k))]⟩) (fun k => k ≤ l.length) (fun k => l.length - k) [] 0 ⟨rfl, rfl, trivial, ⟨rfl, rfl, rfl, rfl, trivial⟩⟩ (by omega) ?_
  intro k hk
  have hp := sumBy_nonneg (f := sizeM) (l.take k) (fun a _ => sizeM_pos a)
  have hs := sumBy_le (f := sizeM) 3000000 (l.take k) (fun a ha => by
    have := hz a (List.mem_of_mem_take ha)
    have := sizeM_le (m := a) (n := 1000000) (by omega) (by omega) (by omega)
    omega)
  have htl : ((l.take k).length : Int) ≤ 1000000 := by rw [List.length_take]; omega
  rcases Nat.lt_or_ge k l.length with hlt | hge
  · have hd := dlt hlt
    obtain ⟨b, off, rfl, hcA⟩ := hM.get hlt
    obtain ⟨z1, z2, z3⟩ := hz l[k] (List.getElem_mem hlt)
    have hq := sizeM_le (m := l[k]) (n := 1000000) (by omega) (by omega) (by omega)
    have hq0 := sizeM_pos l[k]
    have c1 := fun W => message_Size l[k] W z1 z3
    repeat' (first
      | refine VC_seq ?_
      | refine VC_region ?_
      | refine VL_nil ?_
      | refine VC_ret ?_
      | refine VC_exit ?_
      | refine VC_block ?_
      | refine VC_skip ?_
      | refine kbox ?_
      | refine kall ?_
      | refine kst ?_
      | refine ksN ?_
      | refine klt ?_
      | refine kl1 ?_
      | refine klK ?_
      | refine kap ?_
      | ((first | apply VL_q | apply VG_q | apply VS_q2); (first | exact QS_indexAddr (k) (by rfl) (by rfl) (by omega) (by omega) | exact QS_mload1 (by rfl) (hcA 0 _ (by rfl)) | exact QS_mload1 (by rfl) (hcA _ _ (by rfl)) | exact QS_mloadN _ (by rfl) hcA _ (by rfl) | exact QS_call (by rfl) (fun W _ => c1 W) | exact qmv (by rfl) | exact qas (by rfl) | exact ql1 (by rfl) | exact qlA (by rfl) | exact qfa (by rfl) | exact qmf (by rfl) | exact qfd (by rfl) | exact qm1 (by rfl) | exact qbd (by rfl) | exact qno (by rfl) | exact qex (by rfl) | exact qln (by rfl) | exact qls (by rfl) | exact qlr (by rfl) | exact qpt (by rfl) | exact qpf (by rfl) | exact qcp (by rfl) | exact qbe (by rfl) | exact qbn (by rfl) | exact qsn (by rfl) | exact qad (by rfl) | exact qsa (by rfl) | exact qsu (by rfl) | exact QS_bin (by rfl) (by rfl) (by first | exact B_slnil | exact Bq_eql_Span | exact Bq_neq_Span | exact Bq_eql_Eff | exact Bq_neq_Eff | exact Bq_eql_Msg | exact Bq_neq_Msg | exact Bq_eql_Pair | exact Bq_neq_Pair)); rfl)
      | refine sst ?_
      | refine VS_nil ?_
      | refine eeq ?_
      | refine ees ?_ (by first | exact es1 (by rfl) | exact esN (by rfl))
      | refine VE_nil ?_
      | refine kyes ?_
      | refine kno ?_
      | refine gyes ?_
      | refine gno ?_
      | refine knoU ?_
      | refine gnoU ?_
      | refine VG_nil ⟨by rfl, ?_⟩
      | refine VG_nil ?_
      | refine dT ?_
      | refine d1 ?_
      | refine dQ ?_
      | refine ctr ?_
      | refine cfa ?_
      | refine kdec (fun hq => ?_) (fun hq => ?_)
      | refine gdec (fun hq => ?_) (fun hq => ?_)
      | refine cco (fun hq => ?_) (fun hq => ?_))
    refine forQ_next [] (k + 1) ⟨rfl, rfl, trivial, ⟨?_, rfl, rfl, rfl, trivial⟩⟩ (by omega) (by omega)
    rw [sumBy_step hlt]; rfl
  · have hd := dge hge
    obtain rfl : k = l.length := by omega
    repeat' (first
      | refine VC_seq ?_
      | refine VC_region ?_
      | refine VL_nil ?_
      | refine VC_ret ?_
      | refine VC_exit ?_
      | refine VC_block ?_
      | refine VC_skip ?_
      | refine kbox ?_
      | refine kall ?_
      | refine kst ?_
      | refine ksN ?_
      | refine klt ?_
      | refine kl1 ?_
      | refine klK ?_
      | refine kap ?_
      | ((first | apply VL_q | apply VG_q | apply VS_q2); (first  | exact qmv (by rfl) | exact qas (by rfl) | exact ql1 (by rfl) | exact qlA (by rfl) | exact qfa (by rfl) | exact qmf (by rfl) | exact qfd (by rfl) | exact qm1 (by rfl) | exact qbd (by rfl) | exact qno (by rfl) | exact qex (by rfl) | exact qln (by rfl) | exact qls (by rfl) | exact qlr (by rfl) | exact qpt (by rfl) | exact qpf (by rfl) | exact qcp (by rfl) | exact qbe (by rfl) | exact qbn (by rfl) | exact qsn (by rfl) | exact qad (by rfl) | exact qsa (by rfl) | exact qsu (by rfl) | exact QS_bin (by rfl) (by rfl) (by first | exact B_slnil | exact Bq_eql_Span | exact Bq_neq_Span | exact Bq_eql_Eff | exact Bq_neq_Eff | exact Bq_eql_Msg | exact Bq_neq_Msg | exact Bq_eql_Pair | exact Bq_neq_Pair)); rfl)
      | refine sst ?_
      | refine VS_nil ?_
      | refine eeq ?_
      | refine ees ?_ (by first | exact es1 (by rfl) | exact esN (by rfl))
      | refine VE_nil ?_
      | refine kyes ?_
      | refine kno ?_
      | refine gyes ?_
      | refine gno ?_
      | refine knoU ?_
      | refine gnoU ?_
      | refine VG_nil ⟨by rfl, ?_⟩
      | refine VG_nil ?_
      | refine dT ?_
      | refine d1 ?_
      | refine dQ ?_
      | refine ctr ?_
      | refine cfa ?_
      | refine kdec (fun hq => ?_) (fun hq => ?_)
      | refine gdec (fun hq => ?_) (fun hq => ?_)
      | refine cco (fun hq => ?_) (fun hq => ?_))
    show Res _ _ _ _
    refine Res.one (by rfl) (ResV_tmp (by rfl) ?_)
    rw [List.take_length]; rfl
theorem slices_CloneM (v : Value) (l : List Msg) (w : World) (hl : SlMsg w v l) (hn : l.length ≤ 1000000) :
    Calls Try.prog 84 #[v] w (RetRow 25 6 l.length (l.flatMap msgCells) w) := by
  obtain ⟨A, c, rfl, hc1, hc2, hv⟩ := id hl
  have hM := hl.toM
  refine V_rowN (args := [.slice A l.length c]) (M := Mem.of w) Try.func84 rfl Try.ntmps84 (by rfl) (Mem.le_refl _) rfl ?_
  cases A with
  | none =>
    have h0 : l = [] := by
      rcases hv with h | ⟨b, off, h, _⟩
      · exact h
      · cases h
    subst h0
    have hn : (none : Option Addr).isNone = true := rfl
    repeat' (first
      | refine VC_seq ?_
      | refine VC_region ?_
      | refine VL_nil ?_
      | refine VC_ret ?_
      | refine VC_exit ?_
      | refine VC_block ?_
      | refine VC_skip ?_
      | refine kbox ?_
      | refine kall ?_
      | refine kst ?_
      | refine ksN ?_
      | refine klt ?_
      | refine kl1 ?_
      | refine klK ?_
      | refine kap ?_
      | ((first | apply VL_q | apply VG_q | apply VS_q2); (first  | exact qmv (by rfl) | exact qas (by rfl) | exact ql1 (by rfl) | exact qlA (by rfl) | exact qfa (by rfl) | exact qmf (by rfl) | exact qfd (by rfl) | exact qm1 (by rfl) | exact qbd (by rfl) | exact qno (by rfl) | exact qex (by rfl) | exact qln (by rfl) | exact qls (by rfl) | exact qlr (by rfl) | exact qpt (by rfl) | exact qpf (by rfl) | exact qcp (by rfl) | exact qbe (by rfl) | exact qbn (by rfl) | exact qsn (by rfl) | exact qad (by rfl) | exact qsa (by rfl) | exact qsu (by rfl) | exact QS_bin (by rfl) (by rfl) (by first | exact B_slnil | exact Bq_eql_Span | exact Bq_neq_Span | exact Bq_eql_Eff | exact Bq_neq_Eff | exact Bq_eql_Msg | exact Bq_neq_Msg | exact Bq_eql_Pair | exact Bq_neq_Pair)); rfl)
      | refine sst ?_
      | refine VS_nil ?_
      | refine eeq ?_
      | refine ees ?_ (by first | exact es1 (by rfl) | exact esN (by rfl))
      | refine VE_nil ?_
      | refine kyes ?_
      | refine kno ?_
      | refine gyes ?_
      | refine gno ?_
      | refine knoU ?_
      | refine gnoU ?_
      | refine VG_nil ⟨by rfl, ?_⟩
      | refine VG_nil ?_
      | refine dT ?_
      | refine d1 ?_
      | refine dQ ?_
      | refine ctr ?_
      | refine cfa ?_
      | refine kdec (fun hq => ?_) (fun hq => ?_)
      | refine gdec (fun hq => ?_) (fun hq => ?_)
      | refine cco (fun hq => ?_) (fun hq => ?_))
    exact .inr ⟨rfl, rfl, rfl⟩
  | some a =>
    have hn' : (some a : Option Addr).isNone = false := rfl
    by_cases h0 : l = []
    · subst h0
      repeat' (first
        | refine VC_seq ?_
        | refine VC_region ?_
        | refine VL_nil ?_
        | refine VC_ret ?_
        | refine VC_exit ?_
        | refine VC_block ?_
        | refine VC_skip ?_
        | refine kbox ?_
        | refine kall ?_
        | refine kst ?_
        | refine ksN ?_
        | refine klt ?_
        | refine kl1 ?_
        | refine klK ?_
        | refine kap ?_
        | ((first | apply VL_q | apply VG_q | apply VS_q2); (first | exact QS_append_nilR (by rfl) (by rfl) (by rfl) | exact qmv (by rfl) | exact qas (by rfl) | exact ql1 (by rfl) | exact qlA (by rfl) | exact qfa (by rfl) | exact qmf (by rfl) | exact qfd (by rfl) | exact qm1 (by rfl) | exact qbd (by rfl) | exact qno (by rfl) | exact qex (by rfl) | exact qln (by rfl) | exact qls (by rfl) | exact qlr (by rfl) | exact qpt (by rfl) | exact qpf (by rfl) | exact qcp (by rfl) | exact qbe (by rfl) | exact qbn (by rfl) | exact qsn (by rfl) | exact qad (by rfl) | exact qsa (by rfl) | exact qsu (by rfl) | exact QS_bin (by rfl) (by rfl) (by first | exact B_slnil | exact Bq_eql_Span | exact Bq_neq_Span | exact Bq_eql_Eff | exact Bq_neq_Eff | exact Bq_eql_Msg | exact Bq_neq_Msg | exact Bq_eql_Pair | exact Bq_neq_Pair)); rfl)
        | refine sst ?_
        | refine VS_nil ?_
        | refine eeq ?_
        | refine ees ?_ (by first | exact es1 (by rfl) | exact esN (by rfl))
        | refine VE_nil ?_
        | refine kyes ?_
        | refine kno ?_
        | refine gyes ?_
        | refine gno ?_
        | refine knoU ?_
        | refine gnoU ?_
        | refine VG_nil ⟨by rfl, ?_⟩
        | refine VG_nil ?_
        | refine dT ?_
        | refine d1 ?_
        | refine dQ ?_
        | refine ctr ?_
        | refine cfa ?_
        | refine kdec (fun hq => ?_) (fun hq => ?_)
        | refine gdec (fun hq => ?_) (fun hq => ?_)
        | refine cco (fun hq => ?_) (fun hq => ?_))
      exact .inl ⟨_, rfl, rfl⟩
    · obtain ⟨b, off, he, hcl, hcells⟩ := SlM.flat (k := 6) (cells := msgCells) (fun a _ => rfl) hM h0
      injection he with he
      subst he
      have hpos : 0 < l.length := List.length_pos_iff.2 h0
      have h1 : ((l.flatMap msgCells).all (·.oneCell')) = true := by simp [List.all_flatMap, msgCells, Value.oneCell']
      repeat' (first
        | refine VC_seq ?_
        | refine VC_region ?_
        | refine VL_nil ?_
        | refine VC_ret ?_
        | refine VC_exit ?_
        | refine VC_block ?_
        | refine VC_skip ?_
        | refine kbox ?_
        | refine kall ?_
        | refine kst ?_
        | refine ksN ?_
        | refine klt ?_
        | refine kl1 ?_
        | refine klK ?_
        | refine kap ?_
        | ((first | apply VL_q | apply VG_q | apply VS_q2); (first  | exact qmv (by rfl) | exact qas (by rfl) | exact ql1 (by rfl) | exact qlA (by rfl) | exact qfa (by rfl) | exact qmf (by rfl) | exact qfd (by rfl) | exact qm1 (by rfl) | exact qbd (by rfl) | exact qno (by rfl) | exact qex (by rfl) | exact qln (by rfl) | exact qls (by rfl) | exact qlr (by rfl) | exact qpt (by rfl) | exact qpf (by rfl) | exact qcp (by rfl) | exact qbe (by rfl) | exact qbn (by rfl) | exact qsn (by rfl) | exact qad (by rfl) | exact qsa (by rfl) | exact qsu (by rfl) | exact QS_bin (by rfl) (by rfl) (by first | exact B_slnil | exact Bq_eql_Span | exact Bq_neq_Span | exact Bq_eql_Eff | exact Bq_neq_Eff | exact Bq_eql_Msg | exact Bq_neq_Msg | exact Bq_eql_Pair | exact Bq_neq_Pair)); rfl)
        | refine sst ?_
        | refine VS_nil ?_
        | refine eeq ?_
        | refine ees ?_ (by first | exact es1 (by rfl) | exact esN (by rfl))
        | refine VE_nil ?_
        | refine kyes ?_
        | refine kno ?_
        | refine gyes ?_
        | refine gno ?_
        | refine knoU ?_
        | refine gnoU ?_
        | refine VG_nil ⟨by rfl, ?_⟩
        | refine VG_nil ?_
        | refine dT ?_
        | refine d1 ?_
        | refine dQ ?_
        | refine ctr ?_
        | refine cfa ?_
        | refine kdec (fun hq => ?_) (fun hq => ?_)
        | refine gdec (fun hq => ?_) (fun hq => ?_)
        | refine cco (fun hq => ?_) (fun hq => ?_))
      refine VL_e _ _ (EF_appendM (l.flatMap msgCells) (by rfl) (by rfl) (by rfl) hcl hcells hpos h1 (by unfold maxLen; omega) (by omega)) (by rfl) (by rfl) ?_
      repeat' (first
        | refine VC_seq ?_
        | refine VC_region ?_
        | refine VL_nil ?_
        | refine VC_ret ?_
        | refine VC_exit ?_
        | refine VC_block ?_
        | refine VC_skip ?_
        | refine kbox ?_
        | refine kall ?_
        | refine kst ?_
        | refine ksN ?_
        | refine klt ?_
        | refine kl1 ?_
        | refine klK ?_
        | refine kap ?_
        | ((first | apply VL_q | apply VG_q | apply VS_q2); (first  | exact qmv (by rfl) | exact qas (by rfl) | exact ql1 (by rfl) | exact qlA (by rfl) | exact qfa (by rfl) | exact qmf (by rfl) | exact qfd (by rfl) | exact qm1 (by rfl) | exact qbd (by rfl) | exact qno (by rfl) | exact qex (by rfl) | exact qln (by rfl) | exact qls (by rfl) | exact qlr (by rfl) | exact qpt (by rfl) | exact qpf (by rfl) | exact qcp (by rfl) | exact qbe (by rfl) | exact qbn (by rfl) | exact qsn (by rfl) | exact qad (by rfl) | exact qsa (by rfl) | exact qsu (by rfl) | exact QS_bin (by rfl) (by rfl) (by first | exact B_slnil | exact Bq_eql_Span | exact Bq_neq_Span | exact Bq_eql_Eff | exact Bq_neq_Eff | exact Bq_eql_Msg | exact Bq_neq_Msg | exact Bq_eql_Pair | exact Bq_neq_Pair)); rfl)
        | refine sst ?_
        | refine VS_nil ?_
        | refine eeq ?_
        | refine ees ?_ (by first | exact es1 (by rfl) | exact esN (by rfl))
        | refine VE_nil ?_
        | refine kyes ?_
        | refine kno ?_
        | refine gyes ?_
        | refine gno ?_
        | refine knoU ?_
        | refine gnoU ?_
        | refine VG_nil ⟨by rfl, ?_⟩
        | refine VG_nil ?_
        | refine dT ?_
        | refine d1 ?_
        | refine dQ ?_
        | refine ctr ?_
        | refine cfa ?_
        | refine kdec (fun hq => ?_) (fun hq => ?_)
        | refine gdec (fun hq => ?_) (fun hq => ?_)
        | refine cco (fun hq => ?_) (fun hq => ?_))
      refine .inl ⟨_, rfl, ?_⟩
      simp
end Go.Proofs.Ytipbbbamjckjoaa
namespace Go.Proofs.Ytipbbbamjckjoaa
open Go Go.RowKit
attribute [local irreducible] Calls
set_option linter.unusedVariables false
set_option maxRecDepth 20000
set_option linter.unusedSimpArgs false
set_option maxHeartbeats 8000000
def idxI (p : Msg → Bool) (l : List Msg) : Int := match l.findIdx? p with | some i => i | none => -1
theorem idxI_at {p : Msg → Bool} {l : List Msg} {k : Nat} (h : k < l.length) (h1 : (l.take k).all (fun m => !p m) = true) (h2 : p l[k] = true) : idxI p l = k := by
  have : l.findIdx? p = some k := by
    rw [List.findIdx?_eq_some_iff_getElem]
    refine ⟨h, h2, fun j hj => ?_⟩
    have := List.all_eq_true.1 h1 l[j] (by
      rw [List.mem_take_iff_getElem]
      exact ⟨j, by omega, rfl⟩)
    simpa using this
  unfold idxI
  rw [this]
theorem idxI_no {p : Msg → Bool} {l : List Msg} (h1 : l.all (fun m => !p m) = true) : idxI p l = -1 := by
  have : l.findIdx? p = none := by
    rw [List.findIdx?_eq_none_iff]
    intro x hx
    have := List.all_eq_true.1 h1 x hx
    simpa using this
  unfold idxI
  rw [this]
theorem idxI_any (p : Msg → Bool) (l : List Msg) : decide (0 ≤ idxI p l) = l.any p := by
  cases h : l.any p with
  | false =>
    rw [idxI_no (by
      refine List.all_eq_true.2 fun x hx => ?_
      have := List.any_eq_false.1 h x hx
      simpa using this)]
    rfl
  | true =>
    unfold idxI
    cases hf : l.findIdx? p with
    | none =>
      rw [List.findIdx?_eq_none_iff] at hf
      obtain ⟨x, hx, hp⟩ := List.any_eq_true.1 h
      rw [hf x hx] at hp; cases hp
    | some i => simp
theorem slices_IndexFuncM (f : FuncId) [hf : CalT Try.prog f] (caps : Array Value) (p : Msg → Bool) (v : Value) (l : List Msg) (w : World) (hl : SlMsg w v l) (hn : l.length ≤ 1000000000)
    (hp : ∀ m ∈ l, ∀ W, (Mem.of w).le (Mem.of W) → Calls Try.prog f (#[.agg #[.int .i64 m.stamp, .int .i64 m.kind, .string m.key, .string m.hi, .bool m.opn, .string m.val]] ++ caps) W fun e w' => e = .returned (.bool (p m)) ∧ Below W.heap.size W w') :
    Calls Try.prog 89 #[v, .func (.func f) #[] caps] w fun e w' => e = .returned (.int .i64 (idxI p l)) ∧ Below w.heap.size w w' := by
  obtain ⟨A, c, rfl, hc1, hc2, _⟩ := id hl
  have hM := hl.toM
  unfold maxLen at hc2
  refine V_flat (args := [.slice A l.length c, .func (.func f) #[] caps]) (M := Mem.of w) Try.func89 rfl Try.ntmps89 (by rfl) (Mem.le_refl _) ?_
  repeat' (first
    | refine VC_seq ?_
    | refine VC_region ?_
    | refine VL_nil ?_
    | refine VC_ret ?_
    | refine VC_exit ?_
    | refine VC_block ?_
    | refine VC_skip ?_
    | refine kbox ?_
    | refine kall ?_
    | refine kst ?_
    | refine ksN ?_
    | refine klt ?_
    | refine kl1 ?_
    | refine klK ?_
    | refine kap ?_
    | ((first | apply VL_q | apply VG_q | apply VS_q2); (first  | exact qmv (by rfl) | exact qas (by rfl) | exact ql1 (by rfl) | exact qlA (by rfl) | exact qfa (by rfl) | exact qmf (by rfl) | exact qfd (by rfl) | exact qm1 (by rfl) | exact qbd (by rfl) | exact qno (by rfl) | exact qex (by rfl) | exact qln (by rfl) | exact qls (by rfl) | exact qlr (by rfl) | exact qpt (by rfl) | exact qpf (by rfl) | exact qcp (by rfl) | exact qbe (by rfl) | exact qbn (by rfl) | exact qsn (by rfl) | exact qad (by rfl) | exact qsa (by rfl) | exact qsu (by rfl) | exact QS_bin (by rfl) (by rfl) (by first | exact B_slnil | exact Bq_eql_Span | exact Bq_neq_Span | exact Bq_eql_Eff | exact Bq_neq_Eff | exact Bq_eql_Msg | exact Bq_neq_Msg | exact Bq_eql_Pair | exact Bq_neq_Pair)); rfl)
    | refine sst ?_
    | refine VS_nil ?_
    | refine eeq ?_
    | refine ees ?_ (by first | exact es1 (by rfl) | exact esN (by rfl))
    | refine VE_nil ?_
    | refine kyes ?_
    | refine kno ?_
    | refine gyes ?_
    | refine gno ?_
    | refine knoU ?_
    | refine gnoU ?_
    | refine VG_nil ⟨by rfl, ?_⟩
    | refine VG_nil ?_
    | refine dT ?_
    | refine d1 ?_
    | refine dQ ?_
    | refine ctr ?_
    | refine cfa ?_
    | refine kdec (fun hq => ?_) (fun hq => ?_)
    | refine gdec (fun hq => ?_) (fun hq => ?_)
    | refine cco (fun hq => ?_) (fun hq => ?_))
  refine VC_for (fun k : Nat => ⟨Mem.of w, [], [(0, .v (.slice A l.length c)), (1, .v (.func (.func f) #[] caps)), (7, .v (.int .i64 l.length)), (8, .v (.int .i64 k))]⟩) (fun k => k ≤ l.length ∧ (l.take k).all (fun m => !p m) = true) (fun k => l.length - k) [] 0 ⟨rfl, rfl, trivial, ⟨rfl, rfl, rfl, rfl, trivial⟩⟩ ⟨by omega, rfl⟩ ?_
  rintro k ⟨hk, hr⟩
  rcases Nat.lt_or_ge k l.length with hlt | hge
  · have hd := dlt hlt
    obtain ⟨b, off, rfl, hcA⟩ := hM.get hlt
    have hpk := hp l[k] (List.getElem_mem hlt)
    cases hq : p l[k] with
    | true =>
      rw [hq] at hpk
      repeat' (first
        | refine VC_seq ?_
        | refine VC_region ?_
        | refine VL_nil ?_
        | refine VC_ret ?_
        | refine VC_exit ?_
        | refine VC_block ?_
        | refine VC_skip ?_
        | refine kbox ?_
        | refine kall ?_
        | refine kst ?_
        | refine ksN ?_
        | refine klt ?_
        | refine kl1 ?_
        | refine klK ?_
        | refine kap ?_
        | ((first | apply VL_q | apply VG_q | apply VS_q2); (first | exact QS_indexAddr (k) (by rfl) (by rfl) (by omega) (by omega) | exact QS_mload1 (by rfl) (hcA 0 _ (by rfl)) | exact QS_mload1 (by rfl) (hcA _ _ (by rfl)) | exact QS_mloadN _ (by rfl) hcA _ (by rfl) | exact QS_callV (by rfl) (by rfl) (fun W hW => hpk W hW) | exact qmv (by rfl) | exact qas (by rfl) | exact ql1 (by rfl) | exact qlA (by rfl) | exact qfa (by rfl) | exact qmf (by rfl) | exact qfd (by rfl) | exact qm1 (by rfl) | exact qbd (by rfl) | exact qno (by rfl) | exact qex (by rfl) | exact qln (by rfl) | exact qls (by rfl) | exact qlr (by rfl) | exact qpt (by rfl) | exact qpf (by rfl) | exact qcp (by rfl) | exact qbe (by rfl) | exact qbn (by rfl) | exact qsn (by rfl) | exact qad (by rfl) | exact qsa (by rfl) | exact qsu (by rfl) | exact QS_bin (by rfl) (by rfl) (by first | exact B_slnil | exact Bq_eql_Span | exact Bq_neq_Span | exact Bq_eql_Eff | exact Bq_neq_Eff | exact Bq_eql_Msg | exact Bq_neq_Msg | exact Bq_eql_Pair | exact Bq_neq_Pair)); rfl)
        | refine sst ?_
        | refine VS_nil ?_
        | refine eeq ?_
        | refine ees ?_ (by first | exact es1 (by rfl) | exact esN (by rfl))
        | refine VE_nil ?_
        | refine kyes ?_
        | refine kno ?_
        | refine gyes ?_
        | refine gno ?_
        | refine knoU ?_
        | refine gnoU ?_
        | refine VG_nil ⟨by rfl, ?_⟩
        | refine VG_nil ?_
        | refine dT ?_
        | refine d1 ?_
        | refine dQ ?_
        | refine ctr ?_
        | refine cfa ?_
        | refine kdec (fun hq => ?_) (fun hq => ?_)
        | refine gdec (fun hq => ?_) (fun hq => ?_)
        | refine cco (fun hq => ?_) (fun hq => ?_))
      show Res _ _ _ _
      refine Res.one (by rfl) (ResV_tmp (by rfl) ?_)
      refine congrArg (Value.int .i64) ?_
      exact (idxI_at hlt hr hq).symm
    | false =>
      rw [hq] at hpk
      repeat' (first
        | refine VC_seq ?_
        | refine VC_region ?_
        | refine VL_nil ?_
        | refine VC_ret ?_
        | refine VC_exit ?_
        | refine VC_block ?_
        | refine VC_skip ?_
        | refine kbox ?_
        | refine kall ?_
        | refine kst ?_
        | refine ksN ?_
        | refine klt ?_
        | refine kl1 ?_
        | refine klK ?_
        | refine kap ?_
        | ((first | apply VL_q | apply VG_q | apply VS_q2); (first | exact QS_indexAddr (k) (by rfl) (by rfl) (by omega) (by omega) | exact QS_mload1 (by rfl) (hcA 0 _ (by rfl)) | exact QS_mload1 (by rfl) (hcA _ _ (by rfl)) | exact QS_mloadN _ (by rfl) hcA _ (by rfl) | exact QS_callV (by rfl) (by rfl) (fun W hW => hpk W hW) | exact qmv (by rfl) | exact qas (by rfl) | exact ql1 (by rfl) | exact qlA (by rfl) | exact qfa (by rfl) | exact qmf (by rfl) | exact qfd (by rfl) | exact qm1 (by rfl) | exact qbd (by rfl) | exact qno (by rfl) | exact qex (by rfl) | exact qln (by rfl) | exact qls (by rfl) | exact qlr (by rfl) | exact qpt (by rfl) | exact qpf (by rfl) | exact qcp (by rfl) | exact qbe (by rfl) | exact qbn (by rfl) | exact qsn (by rfl) | exact qad (by rfl) | exact qsa (by rfl) | exact qsu (by rfl) | exact QS_bin (by rfl) (by rfl) (by first | exact B_slnil | exact Bq_eql_Span | exact Bq_neq_Span | exact Bq_eql_Eff | exact Bq_neq_Eff | exact Bq_eql_Msg | exact Bq_neq_Msg | exact Bq_eql_Pair | exact Bq_neq_Pair)); rfl)
        | refine sst ?_
        | refine VS_nil ?_
        | refine eeq ?_
        | refine ees ?_ (by first | exact es1 (by rfl) | exact esN (by rfl))
        | refine VE_nil ?_
        | refine kyes ?_
        | refine kno ?_
        | refine gyes ?_
        | refine gno ?_
        | refine knoU ?_
        | refine gnoU ?_
        | refine VG_nil ⟨by rfl, ?_⟩
        | refine VG_nil ?_
        | refine dT ?_
        | refine d1 ?_
        | refine dQ ?_
        | refine ctr ?_
        | refine cfa ?_
        | refine kdec (fun hq => ?_) (fun hq => ?_)
        | refine gdec (fun hq => ?_) (fun hq => ?_)
        | refine cco (fun hq => ?_) (fun hq => ?_))
      refine forQ_next [] (k + 1) ⟨rfl, rfl, trivial, ⟨rfl, rfl, rfl, rfl, trivial⟩⟩ ⟨by omega, ?_⟩ (by omega)
      rw [take_all_step hlt (fun m => !p m), hr, hq]; rfl
  · have hd := dge hge
    obtain rfl : k = l.length := by omega
    rw [List.take_length] at hr
    repeat' (first
      | refine VC_seq ?_
      | refine VC_region ?_
      | refine VL_nil ?_
      | refine VC_ret ?_
      | refine VC_exit ?_
      | refine VC_block ?_
      | refine VC_skip ?_
      | refine kbox ?_
      | refine kall ?_
      | refine kst ?_
      | refine ksN ?_
      | refine klt ?_
      | refine kl1 ?_
      | refine klK ?_
      | refine kap ?_
      | ((first | apply VL_q | apply VG_q | apply VS_q2); (first  | exact qmv (by rfl) | exact qas (by rfl) | exact ql1 (by rfl) | exact qlA (by rfl) | exact qfa (by rfl) | exact qmf (by rfl) | exact qfd (by rfl) | exact qm1 (by rfl) | exact qbd (by rfl) | exact qno (by rfl) | exact qex (by rfl) | exact qln (by rfl) | exact qls (by rfl) | exact qlr (by rfl) | exact qpt (by rfl) | exact qpf (by rfl) | exact qcp (by rfl) | exact qbe (by rfl) | exact qbn (by rfl) | exact qsn (by rfl) | exact qad (by rfl) | exact qsa (by rfl) | exact qsu (by rfl) | exact QS_bin (by rfl) (by rfl) (by first | exact B_slnil | exact Bq_eql_Span | exact Bq_neq_Span | exact Bq_eql_Eff | exact Bq_neq_Eff | exact Bq_eql_Msg | exact Bq_neq_Msg | exact Bq_eql_Pair | exact Bq_neq_Pair)); rfl)
      | refine sst ?_
      | refine VS_nil ?_
      | refine eeq ?_
      | refine ees ?_ (by first | exact es1 (by rfl) | exact esN (by rfl))
      | refine VE_nil ?_
      | refine kyes ?_
      | refine kno ?_
      | refine gyes ?_
      | refine gno ?_
      | refine knoU ?_
      | refine gnoU ?_
      | refine VG_nil ⟨by rfl, ?_⟩
      | refine VG_nil ?_
      | refine dT ?_
      | refine d1 ?_
      | refine dQ ?_
      | refine ctr ?_
      | refine cfa ?_
      | refine kdec (fun hq => ?_) (fun hq => ?_)
      | refine gdec (fun hq => ?_) (fun hq => ?_)
      | refine cco (fun hq => ?_) (fun hq => ?_))
    show Res _ _ _ _
    refine Res.one (by rfl) (ResV_tmp (by rfl) ?_)
    rw [idxI_no hr]
theorem slices_ContainsFuncM (f : FuncId) [hf : CalT Try.prog f] (caps : Array Value) (p : Msg → Bool) (v : Value) (l : List Msg) (w : World) (hl : SlMsg w v l) (hn : l.length ≤ 1000000000)
    (hp : ∀ m ∈ l, ∀ W, (Mem.of w).le (Mem.of W) → Calls Try.prog f (#[.agg #[.int .i64 m.stamp, .int .i64 m.kind, .string m.key, .string m.hi, .bool m.opn, .string m.val]] ++ caps) W fun e w' => e = .returned (.bool (p m)) ∧ Below W.heap.size W w') :
    Calls Try.prog 86 #[v, .func (.func f) #[] caps] w fun e w' => e = .returned (.bool (l.any p)) ∧ Below w.heap.size w w' := by
  have hM := hl.toM
  have c1 : ∀ W, (Mem.of w).le (Mem.of W) → Calls Try.prog 89 #[v, .func (.func f) #[] caps] W fun e w' => e = .returned (.int .i64 (idxI p l)) ∧ Below W.heap.size W w' :=
    fun W hW => slices_IndexFuncM f caps p v l W (hM.toSl hW) hn (fun m hm W' hW' => hp m hm W' (hW.trans hW'))
  refine V_flat (args := [v, .func (.func f) #[] caps]) (M := Mem.of w) Try.func86 rfl Try.ntmps86 (by rfl) (Mem.le_refl _) ?_
  repeat' (first
    | refine VC_seq ?_
    | refine VC_region ?_
    | refine VL_nil ?_
    | refine VC_ret ?_
    | refine VC_exit ?_
    | refine VC_block ?_
    | refine VC_skip ?_
    | refine kbox ?_
    | refine kall ?_
    | refine kst ?_
    | refine ksN ?_
    | refine klt ?_
    | refine kl1 ?_
    | refine klK ?_
    | refine kap ?_
    | ((first | apply VL_q | apply VG_q | apply VS_q2); (first | exact QS_call (by rfl) c1 | exact qmv (by rfl) | exact qas (by rfl) | exact ql1 (by rfl) | exact qlA (by rfl) | exact qfa (by rfl) | exact qmf (by rfl) | exact qfd (by rfl) | exact qm1 (by rfl) | exact qbd (by rfl) | exact qno (by rfl) | exact qex (by rfl) | exact qln (by rfl) | exact qls (by rfl) | exact qlr (by rfl) | exact qpt (by rfl) | exact qpf (by rfl) | exact qcp (by rfl) | exact qbe (by rfl) | exact qbn (by rfl) | exact qsn (by rfl) | exact qad (by rfl) | exact qsa (by rfl) | exact qsu (by rfl) | exact QS_bin (by rfl) (by rfl) (by first | exact B_slnil | exact Bq_eql_Span | exact Bq_neq_Span | exact Bq_eql_Eff | exact Bq_neq_Eff | exact Bq_eql_Msg | exact Bq_neq_Msg | exact Bq_eql_Pair | exact Bq_neq_Pair)); rfl)
    | refine sst ?_
    | refine VS_nil ?_
    | refine eeq ?_
    | refine ees ?_ (by first | exact es1 (by rfl) | exact esN (by rfl))
    | refine VE_nil ?_
    | refine kyes ?_
    | refine kno ?_
    | refine gyes ?_
    | refine gno ?_
    | refine knoU ?_
    | refine gnoU ?_
    | refine VG_nil ⟨by rfl, ?_⟩
    | refine VG_nil ?_
    | refine dT ?_
    | refine d1 ?_
    | refine dQ ?_
    | refine ctr ?_
    | refine cfa ?_
    | refine kdec (fun hq => ?_) (fun hq => ?_)
    | refine gdec (fun hq => ?_) (fun hq => ?_)
    | refine cco (fun hq => ?_) (fun hq => ?_))
  show Res _ _ _ _
  refine Res.one (by rfl) (ResV_tmp (by rfl) ?_)
  rw [idxI_any]
theorem buffer_wrong (m : Msg) (w : World) (h1 : m.key.size ≤ 1000000) (h2 : m.hi.size ≤ 1000000) (h3 : m.val.size ≤ 1000000) :
    Calls Try.prog 85 #[.agg #[.int .i64 m.stamp, .int .i64 m.kind, .string m.key, .string m.hi, .bool m.opn, .string m.val]] w fun e w' => e = .returned (.bool (!rightM m)) ∧ Below w.heap.size w w' := by
  have c1 := fun W => message_Right m W h1 h2 h3
  refine V_flat (args := [.agg #[.int .i64 m.stamp, .int .i64 m.kind, .string m.key, .string m.hi, .bool m.opn, .string m.val]]) (M := Mem.no) Try.func85 rfl Try.ntmps85 (by rfl) (Mem.no_le _) ?_
  repeat' (first
    | refine VC_seq ?_
    | refine VC_region ?_
    | refine VL_nil ?_
    | refine VC_ret ?_
    | refine VC_exit ?_
    | refine VC_block ?_
    | refine VC_skip ?_
    | refine kbox ?_
    | refine kall ?_
    | refine kst ?_
    | refine ksN ?_
    | refine klt ?_
    | refine kl1 ?_
    | refine klK ?_
    | refine kap ?_
    | ((first | apply VL_q | apply VG_q | apply VS_q2); (first | exact QS_call (by rfl) (fun W _ => c1 W) | exact qmv (by rfl) | exact qas (by rfl) | exact ql1 (by rfl) | exact qlA (by rfl) | exact qfa (by rfl) | exact qmf (by rfl) | exact qfd (by rfl) | exact qm1 (by rfl) | exact qbd (by rfl) | exact qno (by rfl) | exact qex (by rfl) | exact qln (by rfl) | exact qls (by rfl) | exact qlr (by rfl) | exact qpt (by rfl) | exact qpf (by rfl) | exact qcp (by rfl) | exact qbe (by rfl) | exact qbn (by rfl) | exact qsn (by rfl) | exact qad (by rfl) | exact qsa (by rfl) | exact qsu (by rfl) | exact QS_bin (by rfl) (by rfl) (by first | exact B_slnil | exact Bq_eql_Span | exact Bq_neq_Span | exact Bq_eql_Eff | exact Bq_neq_Eff | exact Bq_eql_Msg | exact Bq_neq_Msg | exact Bq_eql_Pair | exact Bq_neq_Pair)); rfl)
    | refine sst ?_
    | refine VS_nil ?_
    | refine eeq ?_
    | refine ees ?_ (by first | exact es1 (by rfl) | exact esN (by rfl))
    | refine VE_nil ?_
    | refine kyes ?_
    | refine kno ?_
    | refine gyes ?_
    | refine gno ?_
    | refine knoU ?_
    | refine gnoU ?_
    | refine VG_nil ⟨by rfl, ?_⟩
    | refine VG_nil ?_
    | refine dT ?_
    | refine d1 ?_
    | refine dQ ?_
    | refine ctr ?_
    | refine cfa ?_
    | refine kdec (fun hq => ?_) (fun hq => ?_)
    | refine gdec (fun hq => ?_) (fun hq => ?_)
    | refine cco (fun hq => ?_) (fun hq => ?_))
  show Res _ _ _ _
  refine Res.one (by rfl) (ResV_tmp (by rfl) ?_)
  rfl
def rightL (l : List Msg) (budget : Int) : Bool := l.all rightM && (riseB l && decide (sizeL l ≤ budget))
theorem any_not (l : List Msg) (p : Msg → Bool) : (!l.any fun m => !p m) = l.all p := by
  induction l with
  | nil => rfl
  | cons a l ih => simp only [List.any_cons, List.all_cons, ← ih, Bool.not_or, Bool.not_not]
theorem buffer_Right (v : Value) (l : List Msg) (budget : Int) (w : World) (hl : SlMsg w v l) (hz : ∀ m ∈ l, m.key.size ≤ 1000000 ∧ m.hi.size ≤ 1000000 ∧ m.val.size ≤ 1000000) (hn : l.length ≤ 1000000) :
    Calls Try.prog 40 #[v, .int .i64 budget] w fun e w' => e = .returned (.bool (rightL l budget)) ∧ Below w.heap.size w w' := by
  have hM := hl.toM
  have c1 : ∀ W, (Mem.of w).le (Mem.of W) → Calls Try.prog 86 #[v, .func (.func 85) #[] #[]] W fun e w' => e = .returned (.bool (l.any fun m => !rightM m)) ∧ Below W.heap.size W w' :=
    fun W hW => slices_ContainsFuncM 85 #[] (fun m => !rightM m) v l W (hM.toSl hW) (by omega) (fun m hm W' _ => buffer_wrong m W' (hz m hm).1 (hz m hm).2.1 (hz m hm).2.2)
  have c2 := fun W hW => message_Rising v l W (hM.toSl hW)
  have c3 := fun W hW => buffer_Size v l W (hM.toSl hW) hz hn
  have e1 := any_not l rightM
  cases h1 : l.all rightM with
  | false =>
    rw [h1] at e1
    refine V_flat (args := [v, .int .i64 budget]) (M := Mem.of w) Try.func40 rfl Try.ntmps40 (by rfl) (Mem.le_refl _) ?_
    repeat' (first
      | refine VC_seq ?_
      | refine VC_region ?_
      | refine VL_nil ?_
      | refine VC_ret ?_
      | refine VC_exit ?_
      | refine VC_block ?_
      | refine VC_skip ?_
      | refine kbox ?_
      | refine kall ?_
      | refine kst ?_
      | refine ksN ?_
      | refine klt ?_
      | refine kl1 ?_
      | refine klK ?_
      | refine kap ?_
      | ((first | apply VL_q | apply VG_q | apply VS_q2); (first | exact QS_call (by rfl) c1 | exact QS_call (by rfl) c2 | exact QS_call (by rfl) c3 | exact qmv (by rfl) | exact qas (by rfl) | exact ql1 (by rfl) | exact qlA (by rfl) | exact qfa (by rfl) | exact qmf (by rfl) | exact qfd (by rfl) | exact qm1 (by rfl) | exact qbd (by rfl) | exact qno (by rfl) | exact qex (by rfl) | exact qln (by rfl) | exact qls (by rfl) | exact qlr (by rfl) | exact qpt (by rfl) | exact qpf (by rfl) | exact qcp (by rfl) | exact qbe (by rfl) | exact qbn (by rfl) | exact qsn (by rfl) | exact qad (by rfl) | exact qsa (by rfl) | exact qsu (by rfl) | exact QS_bin (by rfl) (by rfl) (by first | exact B_slnil | exact Bq_eql_Span | exact Bq_neq_Span | exact Bq_eql_Eff | exact Bq_neq_Eff | exact Bq_eql_Msg | exact Bq_neq_Msg | exact Bq_eql_Pair | exact Bq_neq_Pair)); rfl)
      | refine sst ?_
      | refine VS_nil ?_
      | refine eeq ?_
      | refine ees ?_ (by first | exact es1 (by rfl) | exact esN (by rfl))
      | refine VE_nil ?_
      | refine kyes ?_
      | refine kno ?_
      | refine gyes ?_
      | refine gno ?_
      | refine knoU ?_
      | refine gnoU ?_
      | refine VG_nil ⟨by rfl, ?_⟩
      | refine VG_nil ?_
      | refine dT ?_
      | refine d1 ?_
      | refine dQ ?_
      | refine ctr ?_
      | refine cfa ?_
      | refine kdec (fun hq => ?_) (fun hq => ?_)
      | refine gdec (fun hq => ?_) (fun hq => ?_)
      | refine cco (fun hq => ?_) (fun hq => ?_))
    show Res _ _ _ _
    refine Res.one (by rfl) (ResV_tmp (by rfl) ?_)
    unfold rightL
    rw [h1]; rfl
  | true =>
    rw [h1] at e1
    cases h2 : riseB l with
    | false =>
      rw [h2] at c2
      refine V_flat (args := [v, .int .i64 budget]) (M := Mem.of w) Try.func40 rfl Try.ntmps40 (by rfl) (Mem.le_refl _) ?_
      repeat' (first
        | refine VC_seq ?_
        | refine VC_region ?_
        | refine VL_nil ?_
        | refine VC_ret ?_
        | refine VC_exit ?_
        | refine VC_block ?_
        | refine VC_skip ?_
        | refine kbox ?_
        | refine kall ?_
        | refine kst ?_
        | refine ksN ?_
        | refine klt ?_
        | refine kl1 ?_
        | refine klK ?_
        | refine kap ?_
        | ((first | apply VL_q | apply VG_q | apply VS_q2); (first | exact QS_call (by rfl) c1 | exact QS_call (by rfl) c2 | exact QS_call (by rfl) c3 | exact qmv (by rfl) | exact qas (by rfl) | exact ql1 (by rfl) | exact qlA (by rfl) | exact qfa (by rfl) | exact qmf (by rfl) | exact qfd (by rfl) | exact qm1 (by rfl) | exact qbd (by rfl) | exact qno (by rfl) | exact qex (by rfl) | exact qln (by rfl) | exact qls (by rfl) | exact qlr (by rfl) | exact qpt (by rfl) | exact qpf (by rfl) | exact qcp (by rfl) | exact qbe (by rfl) | exact qbn (by rfl) | exact qsn (by rfl) | exact qad (by rfl) | exact qsa (by rfl) | exact qsu (by rfl) | exact QS_bin (by rfl) (by rfl) (by first | exact B_slnil | exact Bq_eql_Span | exact Bq_neq_Span | exact Bq_eql_Eff | exact Bq_neq_Eff | exact Bq_eql_Msg | exact Bq_neq_Msg | exact Bq_eql_Pair | exact Bq_neq_Pair)); rfl)
        | refine sst ?_
        | refine VS_nil ?_
        | refine eeq ?_
        | refine ees ?_ (by first | exact es1 (by rfl) | exact esN (by rfl))
        | refine VE_nil ?_
        | refine kyes ?_
        | refine kno ?_
        | refine gyes ?_
        | refine gno ?_
        | refine knoU ?_
        | refine gnoU ?_
        | refine VG_nil ⟨by rfl, ?_⟩
        | refine VG_nil ?_
        | refine dT ?_
        | refine d1 ?_
        | refine dQ ?_
        | refine ctr ?_
        | refine cfa ?_
        | refine kdec (fun hq => ?_) (fun hq => ?_)
        | refine gdec (fun hq => ?_) (fun hq => ?_)
        | refine cco (fun hq => ?_) (fun hq => ?_))
      show Res _ _ _ _
      refine Res.one (by rfl) (ResV_tmp (by rfl) ?_)
      unfold rightL
      rw [h1, h2]; rfl
    | true =>
      rw [h2] at c2
      refine V_flat (args := [v, .int .i64 budget]) (M := Mem.of w) Try.func40 rfl Try.ntmps40 (by rfl) (Mem.le_refl _) ?_
      repeat' (first
        | refine VC_seq ?_
        | refine VC_region ?_
        | refine VL_nil ?_
        | refine VC_ret ?_
        | refine VC_exit ?_
        | refine VC_block ?_
        | refine VC_skip ?_
        | refine kbox ?_
        | refine kall ?_
        | refine kst ?_
        | refine ksN ?_
        | refine klt ?_
        | refine kl1 ?_
        | refine klK ?_
        | refine kap ?_
        | ((first | apply VL_q | apply VG_q | apply VS_q2); (first | exact QS_call (by rfl) c1 | exact QS_call (by rfl) c2 | exact QS_call (by rfl) c3 | exact qmv (by rfl) | exact qas (by rfl) | exact ql1 (by rfl) | exact qlA (by rfl) | exact qfa (by rfl) | exact qmf (by rfl) | exact qfd (by rfl) | exact qm1 (by rfl) | exact qbd (by rfl) | exact qno (by rfl) | exact qex (by rfl) | exact qln (by rfl) | exact qls (by rfl) | exact qlr (by rfl) | exact qpt (by rfl) | exact qpf (by rfl) | exact qcp (by rfl) | exact qbe (by rfl) | exact qbn (by rfl) | exact qsn (by rfl) | exact qad (by rfl) | exact qsa (by rfl) | exact qsu (by rfl) | exact QS_bin (by rfl) (by rfl) (by first | exact B_slnil | exact Bq_eql_Span | exact Bq_neq_Span | exact Bq_eql_Eff | exact Bq_neq_Eff | exact Bq_eql_Msg | exact Bq_neq_Msg | exact Bq_eql_Pair | exact Bq_neq_Pair)); rfl)
        | refine sst ?_
        | refine VS_nil ?_
        | refine eeq ?_
        | refine ees ?_ (by first | exact es1 (by rfl) | exact esN (by rfl))
        | refine VE_nil ?_
        | refine kyes ?_
        | refine kno ?_
        | refine gyes ?_
        | refine gno ?_
        | refine knoU ?_
        | refine gnoU ?_
        | refine VG_nil ⟨by rfl, ?_⟩
        | refine VG_nil ?_
        | refine dT ?_
        | refine d1 ?_
        | refine dQ ?_
        | refine ctr ?_
        | refine cfa ?_
        | refine kdec (fun hq => ?_) (fun hq => ?_)
        | refine gdec (fun hq => ?_) (fun hq => ?_)
        | refine cco (fun hq => ?_) (fun hq => ?_))
      show Res _ _ _ _
      refine Res.one (by rfl) (ResV_tmp (by rfl) ?_)
      unfold rightL
      rw [h1, h2]; rfl
end Go.Proofs.Ytipbbbamjckjoaa
namespace Go.Proofs.Ytipbbbamjckjoaa
open Go Go.RowKit
attribute [local irreducible] Calls
set_option linter.unusedVariables false
set_option maxRecDepth 20000
set_option linter.unusedSimpArgs false
set_option maxHeartbeats 8000000
end Go.Proofs.Ytipbbbamjckjoaa
namespace Go.Proofs.Ytipbbbamjckjoaa
open Go Go.RowKit
attribute [local irreducible] Calls
set_option linter.unusedVariables false
set_option maxRecDepth 20000
set_option linter.unusedSimpArgs false
set_option maxHeartbeats 8000000
end Go.Proofs.Ytipbbbamjckjoaa
namespace Go.Proofs.Ytipbbbamjckjoaa
open Go Go.RowKit
attribute [local irreducible] Calls
set_option linter.unusedVariables false
set_option maxRecDepth 20000
set_option linter.unusedSimpArgs false
set_option maxHeartbeats 8000000
end Go.Proofs.Ytipbbbamjckjoaa
namespace Go.Proofs.Ytipbbbamjckjoaa
open Go Go.RowKit
attribute [local irreducible] Calls
set_option linter.unusedVariables false
set_option maxRecDepth 20000
set_option linter.unusedSimpArgs false
set_option maxHeartbeats 8000000
end Go.Proofs.Ytipbbbamjckjoaa
namespace Go.Proofs.Ytipbbbamjckjoaa
open Go Go.RowKit
attribute [local irreducible] Calls
set_option linter.unusedVariables false
set_option maxRecDepth 20000
set_option linter.unusedSimpArgs false
set_option maxHeartbeats 8000000
end Go.Proofs.Ytipbbbamjckjoaa
namespace Go.Proofs.Ytipbbbamjckjoaa
open Go Go.RowKit
attribute [local irreducible] Calls
set_option linter.unusedVariables false
set_option maxRecDepth 20000
set_option linter.unusedSimpArgs false
set_option maxHeartbeats 8000000
end Go.Proofs.Ytipbbbamjckjoaa
namespace Go.Proofs.Ytipbbbamjckjoaa
open Go Go.RowKit
attribute [local irreducible] Calls
set_option linter.unusedVariables false
set_option maxRecDepth 20000
set_option linter.unusedSimpArgs false
set_option maxHeartbeats 8000000
theorem QS_makeFunc1 {P : Program} {w : World} {M0 : Mem} {N : Nat} {dst : Option Tmp} {ty : TypeId} {pos : String} {aft : Array Edge} {g : Option (Nat × Bool)} {s : St} {fn : Fn} {x : Operand} {u : Value} (hx : s.env.op x = some (.v u)) : QS P w M0 N ⟨dst, .makeFunc fn #[] #[x], ty, pos, aft, g⟩ s (.v (.func fn #[] #[u])) := QS_run fun hd a W hR => by
  have h1 := hR.2.eval hx
  simp only [SV.den] at h1
  simp [execOp, h1, SV.den, Instr.makeFunc]
end Go.Proofs.Ytipbbbamjckjoaa
