/- The walks of the buffer layer's loops. The walks of the buffer layer's loops: All, Same, Size, the library's IndexFunc and ContainsFunc. The walks of the buffer layer: Size, Fits, the library's Clone, IndexFunc and ContainsFunc, Right, Add. The walks of the buffer layer: the library's IndexFunc and ContainsFunc, Right, Add. The walk of the buffer layer's Add. The walk of the buffer layer's On, and the chapter's examples. The chapter's examples of the buffer layer. The walks of the buffer layer's Clip and of the reference's Clip, After, On. The walk of the reference's On. The walk of the library's DeleteFunc, of the buffer layer's After. The walk of the buffer layer's After. -/
import Derived.Test.YtlapnbklbpeddaaGreatPMs
import Derived.Test.YtlapnbklbpeddaaGreatPLg2
namespace Go.Proofs.YtlapnbklbpeddaaGreat
open Go Go.RowKit
attribute [local irreducible] Calls
set_option linter.unusedVariables false
set_option maxRecDepth 20000
set_option linter.unusedSimpArgs false
theorem In.sizes {m : Msg} (h : m.In) : m.key.size ≤ 140737488351232 ∧ m.hi.size ≤ 140737488351232 ∧ m.val.size ≤ 140737488351232 := ⟨h.2.2.1.le, h.2.2.2.1.le, h.2.2.2.2.le⟩
theorem ref_Few (v : Value) (l : List Msg) (most : Int) (w : World) (hl : SlMsg w v l) (hin : ∀ m ∈ l, m.In) (h0 : 0 ≤ most) (h1 : most ≤ 1000000) :
    Calls Tryz.prog 16 #[v, .int .i64 most] w fun e w' => e = .returned (.bool (decide (sumBy wtM l ≤ most))) ∧ Below w.heap.size w w' := by
  obtain ⟨A, c, rfl, hc1, hc2, _⟩ := id hl
  have hM := hl.toM
  unfold maxLen at hc2
  refine V_flat (args := [.slice A l.length c, .int .i64 most]) (M := Mem.of w) Tryz.func16 rfl Tryz.ntmps16 (by rfl) (Mem.le_refl _) ?_
  repeat' (first | refine VC_seq ?_ | refine VC_region ?_ | refine VL_nil ?_ | refine VC_block ?_ | ((apply VL_q); (exact qas (by rfl)); rfl))
  refine VC_for (fun k : Nat => ⟨Mem.of w, [], [(0, .v (.slice A l.length c)), (1, .v (.int .i64 most)), (5, .v (.int .i64 (sumBy wtM (l.take k)))), (6, .v (.int .i64 k))]⟩) (fun k => k ≤ l.length ∧ sumBy wtM (l.take k) ≤ 1000000000000000) (fun k => l.length - k) [] 0 ⟨rfl, rfl, trivial, ⟨rfl, rfl, rfl, rfl, trivial⟩⟩ ⟨by omega, by simp [sumBy]⟩ ?_
  rintro k ⟨hk, hs⟩
  have hp := sumBy_nonneg (f := wtM) (l.take k) (fun a _ => by have := wtM_pos a; omega)
  have hle := sumBy_take_le (f := wtM) l (fun a _ => by have := wtM_pos a; omega) k
  rcases Nat.lt_or_ge k l.length with hlt | hge
  · have hd := dlt hlt
    obtain ⟨b, off, rfl, hcA⟩ := hM.get hlt
    obtain ⟨z1, z2, z3⟩ := In.sizes (hin l[k] (List.getElem_mem hlt))
    cases d2 : decide (sumBy wtM (l.take k) ≤ most) with
    | false =>
      repeat' (first | refine VC_seq ?_ | refine VC_region ?_ | refine VL_nil ?_ | refine VC_ret ?_ | refine VC_exit ?_ | ((apply VL_q); (first | exact qmv (by rfl) | exact qas (by rfl) | exact qln (by rfl) | exact qpt (by rfl) | exact qcp (by rfl)); rfl) | refine kyes ?_ | refine cfa ?_)
      show Res _ _ _ _
      refine Res.one (by rfl) (ResV_tmp (by rfl) ?_)
      refine congrArg Value.bool ?_
      rw [d2]
      simp only [decide_eq_false_iff_not] at d2
      exact (decide_eq_false (by omega)).symm
    | true =>
      simp only [decide_eq_true_eq] at d2
      have d3 := decide_eq_true d2
      repeat' (first | refine VC_seq ?_ | refine VC_region ?_ | refine VL_nil ?_ | refine VC_block ?_ | refine VC_skip ?_ | ((first | apply VL_q | apply VG_q); (first | exact QS_indexAddr (k) (by rfl) (by rfl) (by omega) (by omega) | exact QS_mload1 (by rfl) (hcA _ _ (by rfl)) | exact qmv (by rfl) | exact qas (by rfl) | exact qmf (by rfl) | exact qln (by rfl) | exact qls (by rfl) | exact qpt (by rfl) | exact qcp (by rfl) | exact qad (by rfl)); rfl) | refine kyes ?_ | refine VG_nil ?_ | refine dQ ?_ | refine ctr ?_)
      refine forQ_next [] (k + 1) ⟨rfl, rfl, trivial, ⟨rfl, rfl, ?_, rfl, trivial⟩⟩ ⟨by omega, ?_⟩ (by omega)
      · rw [sumBy_step hlt]; rfl
      · rw [sumBy_step hlt]
        have h3 : wtM l[k] = 1 + (l[k].key.size : Int) + (l[k].hi.size : Int) + (l[k].val.size : Int) := rfl
        omega
  · have hd := dge hge
    obtain rfl : k = l.length := by omega
    repeat' (first | refine VC_seq ?_ | refine VC_region ?_ | refine VL_nil ?_ | refine VC_ret ?_ | refine VC_exit ?_ | ((apply VL_q); (first | exact qmv (by rfl) | exact qas (by rfl) | exact qln (by rfl) | exact qpf (by rfl) | exact qcp (by rfl)); rfl) | refine kno ?_ | refine cfa ?_)
    show Res _ _ _ _
    refine Res.one (by rfl) (ResV_tmp (by rfl) ?_)
    rw [List.take_length]
theorem ref_SizeL (v : Value) (l : List Msg) (w : World) (hl : SlMsg w v l) (hz : ∀ m ∈ l, m.key.size ≤ 1000000 ∧ m.hi.size ≤ 1000000 ∧ m.val.size ≤ 1000000) (hn : l.length ≤ 1000000) :
    Calls Tryz.prog 92 #[v] w fun e w' => e = .returned (.int .i64 (sizeL l)) ∧ Below w.heap.size w w' := by
  obtain ⟨A, c, rfl, hc1, hc2, _⟩ := id hl
  have hM := hl.toM
  unfold maxLen at hc2
  refine V_flat (args := [.slice A l.length c]) (M := Mem.of w) Tryz.func92 rfl Tryz.ntmps92 (by rfl) (Mem.le_refl _) ?_
  repeat' (first | refine VC_seq ?_ | refine VC_region ?_ | refine VL_nil ?_ | refine VC_block ?_ | ((apply VL_q); (exact qas (by rfl)); rfl))
  refine VC_for (fun k : Nat => ⟨Mem.of w, [], [(0, .v (.slice A l.length c)), (3, .v (.int .i64 (sumBy sizeM (l.take k)))), (4, .v (.int .i64 k))]⟩) (fun k => k ≤ l.length) (fun k => l.length - k) [] 0 ⟨rfl, rfl, trivial, ⟨rfl, rfl, rfl, trivial⟩⟩ (by omega) ?_
  intro k hk
  have hp := sumBy_nonneg (f := sizeM) (l.take k) (fun a _ => sizeM_pos a)
  have hs := sumBy_le (f := sizeM) 3000000 (l.take k) (fun a ha => by
    have := hz a (List.mem_of_mem_take ha)
    have := sizeM_le (m := a) (n := 1000000) (by omega) (by omega) (by omega)
    omega)
  have htl : ((l.take k).length : Int) ≤ 1000000 := by rw [List.length_take]; omega
  rcases Nat.lt_or_ge k l.length with hlt | hge
  · have hd := dlt hlt
    obtain ⟨b, off, rfl, hcA⟩ := hM.get hlt
    obtain ⟨z1, z2, z3⟩ := hz l[k] (List.getElem_mem hlt)
    have hq := sizeM_le (m := l[k]) (n := 1000000) (by omega) (by omega) (by omega)
    have hq0 := sizeM_pos l[k]
    have c1 := fun W => ref_SizeM l[k] W z1 z3
    repeat' (first | refine VC_seq ?_ | refine VC_region ?_ | refine VL_nil ?_ | refine VC_block ?_ | refine VC_skip ?_ | ((apply VL_q); (first | exact QS_indexAddr (k) (by rfl) (by rfl) (by omega) (by omega) | exact QS_mloadN _ (by rfl) hcA _ (by rfl) | exact QS_call (by rfl) (fun W _ => c1 W) | exact qmv (by rfl) | exact qas (by rfl) | exact qln (by rfl) | exact qcp (by rfl) | exact qad (by rfl)); rfl) | refine ctr ?_)
    refine forQ_next [] (k + 1) ⟨rfl, rfl, trivial, ⟨rfl, ?_, rfl, trivial⟩⟩ (by omega) (by omega)
    rw [sumBy_step hlt]; rfl
  · have hd := dge hge
    obtain rfl : k = l.length := by omega
    repeat' (first | refine VC_seq ?_ | refine VC_region ?_ | refine VL_nil ?_ | refine VC_ret ?_ | refine VC_exit ?_ | ((apply VL_q); (first | exact qmv (by rfl) | exact qas (by rfl) | exact qln (by rfl) | exact qcp (by rfl)); rfl) | refine cfa ?_)
    show Res _ _ _ _
    refine Res.one (by rfl) (ResV_tmp (by rfl) ?_)
    rw [List.take_length]; rfl
end Go.Proofs.YtlapnbklbpeddaaGreat
namespace Go.Proofs.YtlapnbklbpeddaaGreat
open Go Go.RowKit
attribute [local irreducible] Calls
set_option linter.unusedVariables false
set_option maxRecDepth 20000
set_option linter.unusedSimpArgs false
set_option maxHeartbeats 8000000
/-- May all be, and do their stamps rise? -/
def allB (l : List Msg) : Bool := l.all refRightM && riseB l
theorem take_all_step {l : List Msg} {k : Nat} (h : k < l.length) (p : Msg → Bool) : (l.take (k + 1)).all p = ((l.take k).all p && p l[k]) := by
  rw [List.take_succ_eq_append_getElem h, List.all_append]; simp
theorem all_false_of {l : List Msg} {k : Nat} (h : k < l.length) {p : Msg → Bool} (hp : p l[k] = false) : l.all p = false := by
  cases h2 : l.all p with
  | false => rfl
  | true => rw [List.all_eq_true.1 h2 l[k] (List.getElem_mem h)] at hp; cases hp
theorem ref_All (v : Value) (l : List Msg) (w : World) (hl : SlMsg w v l) (hin : ∀ m ∈ l, m.In) (hn : l.length ≤ 1000000000) :
    Calls Tryz.prog 91 #[v] w fun e w' => e = .returned (.bool (allB l)) ∧ Below w.heap.size w w' := by
  obtain ⟨A, c, rfl, hc1, hc2, _⟩ := id hl
  have hM := hl.toM
  unfold maxLen at hc2
  refine V_flat (args := [.slice A l.length c]) (M := Mem.of w) Tryz.func91 rfl Tryz.ntmps91 (by rfl) (Mem.le_refl _) ?_
  repeat' (first | refine VC_seq ?_ | refine VC_region ?_ | refine VL_nil ?_ | refine VC_block ?_ | ((apply VL_q); (exact qas (by rfl)); rfl))
  refine VC_for (fun k : Nat => ⟨Mem.of w, [], [(0, .v (.slice A l.length c)), (3, .v (.int .i64 k))]⟩) (fun k => k ≤ l.length ∧ (l.take k).all refRightM = true ∧ riseTo l k = true) (fun k => l.length - k) [] 0 ⟨rfl, rfl, trivial, ⟨rfl, rfl, trivial⟩⟩ ⟨by omega, rfl, rfl⟩ ?_
  rintro k ⟨hk, hr, hri⟩
  rcases Nat.lt_or_ge k l.length with hlt | hge
  · have hd := dlt hlt
    obtain ⟨b, off, rfl, hcA⟩ := hM.get hlt
    have c1 := fun W => ref_RightM' l[k] W (hin l[k] (List.getElem_mem hlt))
    cases hR : refRightM l[k] with
    | false =>
      rw [hR] at c1
      repeat' (first | refine VC_seq ?_ | refine VC_region ?_ | refine VL_nil ?_ | refine VC_ret ?_ | refine VC_block ?_ | refine VC_skip ?_ | ((first | apply VL_q | apply VG_q); (first | exact QS_indexAddr (k) (by rfl) (by rfl) (by omega) (by omega) | exact QS_mloadN _ (by rfl) hcA _ (by rfl) | exact QS_call (by rfl) (fun W _ => c1 W) | exact qmv (by rfl) | exact qas (by rfl) | exact qno (by rfl) | exact qln (by rfl) | exact qpt (by rfl) | exact qcp (by rfl)); rfl) | refine gno ?_ | refine gnoU ?_ | refine VG_nil ?_ | refine dQ ?_ | refine ctr ?_)
      show Res _ _ _ _
      refine Res.one (by rfl) (ResV_tmp (by rfl) ?_)
      refine congrArg Value.bool ?_
      unfold allB
      rw [all_false_of hlt hR]; rfl
    | true =>
      rw [hR] at c1
      by_cases hk0 : k = 0
      · subst hk0
        repeat' (first | refine VC_seq ?_ | refine VC_region ?_ | refine VL_nil ?_ | refine VC_block ?_ | refine VC_skip ?_ | ((first | apply VL_q | apply VG_q); (first | exact QS_indexAddr (0) (by rfl) (by rfl) (by omega) (by omega) | exact QS_mloadN _ (by rfl) hcA _ (by rfl) | exact QS_call (by rfl) (fun W _ => c1 W) | exact qmv (by rfl) | exact qas (by rfl) | exact qno (by rfl) | exact qln (by rfl) | exact qpf (by rfl) | exact qcp (by rfl) | exact qad (by rfl)); rfl) | refine gyes ?_ | refine gno ?_ | refine VG_nil ?_ | refine dQ ?_ | refine ctr ?_ | refine cfa ?_)
        refine forQ_next [] 1 ⟨rfl, rfl, trivial, ⟨rfl, rfl, trivial⟩⟩ ⟨by omega, ?_, ?_⟩ (by omega)
        · rw [take_all_step hlt, hr, hR]; rfl
        · rfl
      · have hlt1 : k - 1 < l.length := by omega
        obtain ⟨b', off', he, hcB⟩ := hM.get hlt1
        injection he with he
        injection he with he1 he2
        subst he1 he2
        have hd0 : decide ((0 : Int) < (k : Int)) = true := decide_eq_true (by omega)
        cases hs : decide (l[k].stamp ≤ l[k - 1].stamp) with
        | true =>
          repeat' (first | refine VC_seq ?_ | refine VC_region ?_ | refine VL_nil ?_ | refine VC_ret ?_ | refine VC_block ?_ | refine VC_skip ?_ | ((first | apply VL_q | apply VG_q); (first | exact QS_indexAddr (k) (by rfl) (by rfl) (by omega) (by omega) | exact QS_indexAddr (k - 1) (by rfl) (by rfl) (by omega) (by omega) | exact QS_mload1 (by rfl) (hcA 0 _ (by rfl)) | exact QS_mloadN _ (by rfl) hcA _ (by rfl) | exact QS_mload1 (by rfl) (hcB 0 _ (by rfl)) | exact QS_call (by rfl) (fun W _ => c1 W) | exact qmv (by rfl) | exact qas (by rfl) | exact qmf (by rfl) | exact qno (by rfl) | exact qln (by rfl) | exact qpt (by rfl) | exact qpf (by rfl) | exact qcp (by rfl) | exact qsu (by rfl)); rfl) | refine gyes ?_ | refine VG_nil ?_ | refine dQ ?_ | refine ctr ?_)
          show Res _ _ _ _
          refine Res.one (by rfl) (ResV_tmp (by rfl) ?_)
          refine congrArg Value.bool ?_
          have := riseTo_false (l := l) (k := k + 1) (by
            rw [riseTo_succ, hri, stAt_eq hlt, stAt_eq hlt1]
            simp only [decide_eq_true_eq] at *
            simp only [Bool.true_and, decide_eq_false_iff_not]; omega) l.length (by omega)
          unfold allB
          have h2 : riseB l = false := this
          rw [h2, Bool.and_false]
        | false =>
          repeat' (first | refine VC_seq ?_ | refine VC_region ?_ | refine VL_nil ?_ | refine VC_block ?_ | refine VC_skip ?_ | ((first | apply VL_q | apply VG_q); (first | exact QS_indexAddr (k) (by rfl) (by rfl) (by omega) (by omega) | exact QS_indexAddr (k - 1) (by rfl) (by rfl) (by omega) (by omega) | exact QS_mload1 (by rfl) (hcA 0 _ (by rfl)) | exact QS_mloadN _ (by rfl) hcA _ (by rfl) | exact QS_mload1 (by rfl) (hcB 0 _ (by rfl)) | exact QS_call (by rfl) (fun W _ => c1 W) | exact qmv (by rfl) | exact qas (by rfl) | exact qmf (by rfl) | exact qno (by rfl) | exact qln (by rfl) | exact qpt (by rfl) | exact qpf (by rfl) | exact qcp (by rfl) | exact qad (by rfl) | exact qsu (by rfl)); rfl) | refine gyes ?_ | refine VG_nil ?_ | refine dQ ?_ | refine ctr ?_ | refine cfa ?_)
          refine forQ_next [] (k + 1) ⟨rfl, rfl, trivial, ⟨rfl, rfl, trivial⟩⟩ ⟨by omega, ?_, ?_⟩ (by omega)
          · rw [take_all_step hlt, hr, hR]; rfl
          · rw [riseTo_succ, hri, stAt_eq hlt, stAt_eq hlt1]
            simp only [decide_eq_false_iff_not] at *
            simp only [Bool.true_and, decide_eq_true_eq]; omega
  · have hd := dge hge
    obtain rfl : k = l.length := by omega
    repeat' (first | refine VC_seq ?_ | refine VC_region ?_ | refine VL_nil ?_ | refine VC_ret ?_ | refine VC_exit ?_ | ((apply VL_q); (first | exact qmv (by rfl) | exact qas (by rfl) | exact qln (by rfl) | exact qcp (by rfl)); rfl) | refine cfa ?_)
    show Res _ _ _ _
    refine Res.one (by rfl) (ResV_tmp (by rfl) ?_)
    refine congrArg Value.bool ?_
    rw [List.take_length] at hr
    have h2 : riseB l = true := hri
    unfold allB
    rw [hr, h2]; rfl
theorem ref_SameM (v u : Value) (l m : List Msg) (w : World) (hl : SlMsg w v l) (hm : SlMsg w u m) :
    Calls Tryz.prog 65 #[v, u] w fun e w' => e = .returned (.bool (decide (l = m))) ∧ Below w.heap.size w w' := by
  obtain ⟨A, c, rfl, hc1, hc2, _⟩ := id hl
  obtain ⟨B, c', rfl, hd1, hd2, _⟩ := id hm
  have hM := hl.toM
  have hN := hm.toM
  unfold maxLen at hc2 hd2
  by_cases hlen : l.length = m.length
  · have hne : ((l.length : Int) != (m.length : Int)) = false := by rw [hlen]; simp
    refine V_flat (args := [.slice A l.length c, .slice B m.length c']) (M := Mem.of w) Tryz.func65 rfl Tryz.ntmps65 (by rfl) (Mem.le_refl _) ?_
    repeat' (first | refine VC_seq ?_ | refine VC_region ?_ | refine VL_nil ?_ | refine VC_block ?_ | refine VC_skip ?_ | ((apply VL_q); (first | exact qmv (by rfl) | exact qas (by rfl) | exact qln (by rfl) | exact qcp (by rfl)); rfl) | refine cfa ?_)
    refine VC_for (fun k : Nat => ⟨Mem.of w, [], [(0, .v (.slice A l.length c)), (1, .v (.slice B m.length c')), (5, .v (.int .i64 k))]⟩) (fun k => k ≤ l.length ∧ l.take k = m.take k) (fun k => l.length - k) [] 0 ⟨rfl, rfl, trivial, ⟨rfl, rfl, rfl, trivial⟩⟩ ⟨by omega, rfl⟩ ?_
    rintro k ⟨hk, he⟩
    rcases Nat.lt_or_ge k l.length with hlt | hge
    · have hd := dlt hlt
      have hlt' : k < m.length := by omega
      obtain ⟨b, off, rfl, hcA⟩ := hM.get hlt
      obtain ⟨b', off', rfl, hcB⟩ := hN.get hlt'
      cases hq : eqv l[k] m[k] with
      | false =>
        have hq' : (!eqv l[k] m[k]) = true := by rw [hq]; rfl
        repeat' (first | refine VC_seq ?_ | refine VC_region ?_ | refine VL_nil ?_ | refine VC_ret ?_ | refine VC_block ?_ | refine VC_skip ?_ | ((first | apply VL_q | apply VG_q); (first | exact QS_indexAddr (k) (by rfl) (by rfl) (by omega) (by omega) | exact QS_mloadN _ (by rfl) hcA _ (by rfl) | exact QS_mloadN _ (by rfl) hcB _ (by rfl) | exact qmv (by rfl) | exact qas (by rfl) | exact qln (by rfl) | exact qcp (by rfl) | exact QS_bin (by rfl) (by rfl) (by exact Bq_neq_Msg)); rfl) | refine VG_nil ?_ | refine dQ ?_ | refine ctr ?_)
        show Res _ _ _ _
        refine Res.one (by rfl) (ResV_tmp (by rfl) ?_)
        refine congrArg Value.bool ?_
        refine (decide_eq_false fun e => ?_).symm
        subst e
        rw [eqv_self] at hq; cases hq
      | true =>
        have hq' : (!eqv l[k] m[k]) = false := by rw [hq]; rfl
        repeat' (first | refine VC_seq ?_ | refine VC_region ?_ | refine VL_nil ?_ | refine VC_block ?_ | refine VC_skip ?_ | ((first | apply VL_q | apply VG_q); (first | exact QS_indexAddr (k) (by rfl) (by rfl) (by omega) (by omega) | exact QS_mloadN _ (by rfl) hcA _ (by rfl) | exact QS_mloadN _ (by rfl) hcB _ (by rfl) | exact qmv (by rfl) | exact qas (by rfl) | exact qln (by rfl) | exact qcp (by rfl) | exact qad (by rfl) | exact QS_bin (by rfl) (by rfl) (by exact Bq_neq_Msg)); rfl) | refine VG_nil ?_ | refine dQ ?_ | refine ctr ?_ | refine cfa ?_)
        refine forQ_next [] (k + 1) ⟨rfl, rfl, trivial, ⟨rfl, rfl, rfl, trivial⟩⟩ ⟨by omega, ?_⟩ (by omega)
        rw [List.take_succ_eq_append_getElem hlt, List.take_succ_eq_append_getElem hlt', he]
        have : l[k] = m[k] := by simpa [eqv] using hq
        rw [this]
    · have hd := dge hge
      have h1 : k = l.length := by omega
      repeat' (first | refine VC_seq ?_ | refine VC_region ?_ | refine VL_nil ?_ | refine VC_ret ?_ | refine VC_exit ?_ | ((apply VL_q); (first | exact qmv (by rfl) | exact qas (by rfl) | exact qln (by rfl) | exact qcp (by rfl)); rfl) | refine cfa ?_)
      show Res _ _ _ _
      refine Res.one (by rfl) (ResV_tmp (by rfl) ?_)
      refine congrArg Value.bool ?_
      refine (decide_eq_true ?_).symm
      rw [h1, List.take_length, hlen, List.take_length] at he
      exact he
  · have hne : ((l.length : Int) != (m.length : Int)) = true := by
      have : (l.length : Int) ≠ m.length := by omega
      simpa using this
    refine V_flat (args := [.slice A l.length c, .slice B m.length c']) (M := Mem.of w) Tryz.func65 rfl Tryz.ntmps65 (by rfl) (Mem.le_refl _) ?_
    repeat' (first | refine VC_seq ?_ | refine VC_region ?_ | refine VL_nil ?_ | refine VC_ret ?_ | ((apply VL_q); (first | exact qmv (by rfl) | exact qas (by rfl) | exact qln (by rfl) | exact qcp (by rfl)); rfl) | refine ctr ?_)
    show Res _ _ _ _
    refine Res.one (by rfl) (ResV_tmp (by rfl) ?_)
    refine congrArg Value.bool ?_
    exact (decide_eq_false fun e => hlen (by rw [e])).symm
end Go.Proofs.YtlapnbklbpeddaaGreat
namespace Go.Proofs.YtlapnbklbpeddaaGreat
open Go Go.RowKit
attribute [local irreducible] Calls
set_option linter.unusedVariables false
set_option maxRecDepth 20000
set_option linter.unusedSimpArgs false
set_option maxHeartbeats 8000000
theorem buffer_Size (v : Value) (l : List Msg) (w : World) (hl : SlMsg w v l) (hz : ∀ m ∈ l, m.key.size ≤ 1000000 ∧ m.hi.size ≤ 1000000 ∧ m.val.size ≤ 1000000) (hn : l.length ≤ 1000000) :
    Calls Tryz.prog 118 #[v] w fun e w' => e = .returned (.int .i64 (sizeL l)) ∧ Below w.heap.size w w' := by
  obtain ⟨A, c, rfl, hc1, hc2, _⟩ := id hl
  have hM := hl.toM
  unfold maxLen at hc2
  refine V_flat (args := [.slice A l.length c]) (M := Mem.of w) Tryz.func118 rfl Tryz.ntmps118 (by rfl) (Mem.le_refl _) ?_
  repeat' (first | refine VC_seq ?_ | refine VC_region ?_ | refine VL_nil ?_ | refine VC_block ?_ | ((apply VL_q); (first | exact qmv (by rfl) | exact qas (by rfl) | exact qln (by rfl)); rfl))
  refine VC_for (fun k : Nat => ⟨Mem.of w, [], [(3, .v (.int .i64 (sumBy sizeM (l.take k)))), (6, .v (.slice A l.length c)), (7, .v (.int .i64 l.length)), (8, .v (.int .i64 k))]⟩) (fun k => k ≤ l.length) (fun k => l.length - k) [] 0 ⟨rfl, rfl, trivial, ⟨rfl, rfl, rfl, rfl, trivial⟩⟩ (by omega) ?_
  intro k hk
  have hp := sumBy_nonneg (f := sizeM) (l.take k) (fun a _ => sizeM_pos a)
  have hs := sumBy_le (f := sizeM) 3000000 (l.take k) (fun a ha => by
    have := hz a (List.mem_of_mem_take ha)
    have := sizeM_le (m := a) (n := 1000000) (by omega) (by omega) (by omega)
    omega)
  have htl : ((l.take k).length : Int) ≤ 1000000 := by rw [List.length_take]; omega
  rcases Nat.lt_or_ge k l.length with hlt | hge
  · have hd := dlt hlt
    obtain ⟨b, off, rfl, hcA⟩ := hM.get hlt
    obtain ⟨z1, z2, z3⟩ := hz l[k] (List.getElem_mem hlt)
    have hq := sizeM_le (m := l[k]) (n := 1000000) (by omega) (by omega) (by omega)
    have hq0 := sizeM_pos l[k]
    have c1 := fun W => message_Size l[k] W z1 z3
    repeat' (first | refine VC_seq ?_ | refine VC_region ?_ | refine VL_nil ?_ | refine VC_block ?_ | refine VC_skip ?_ | refine kall ?_ | refine ksN ?_ | ((apply VL_q); (first | exact QS_indexAddr (k) (by rfl) (by rfl) (by omega) (by omega) | exact QS_mloadN _ (by rfl) hcA _ (by rfl) | exact QS_call (by rfl) (fun W _ => c1 W) | exact qmv (by rfl) | exact qas (by rfl) | exact qlA (by rfl) | exact qcp (by rfl) | exact qad (by rfl)); rfl) | refine ctr ?_)
    refine forQ_next [] (k + 1) ⟨rfl, rfl, trivial, ⟨?_, rfl, rfl, rfl, trivial⟩⟩ (by omega) (by omega)
    rw [sumBy_step hlt]; rfl
  · have hd := dge hge
    obtain rfl : k = l.length := by omega
    repeat' (first | refine VC_seq ?_ | refine VC_region ?_ | refine VL_nil ?_ | refine VC_ret ?_ | refine VC_exit ?_ | ((apply VL_q); (first | exact qmv (by rfl) | exact qas (by rfl) | exact qcp (by rfl)); rfl) | refine cfa ?_)
    show Res _ _ _ _
    refine Res.one (by rfl) (ResV_tmp (by rfl) ?_)
    rw [List.take_length]; rfl
end Go.Proofs.YtlapnbklbpeddaaGreat
namespace Go.Proofs.YtlapnbklbpeddaaGreat
open Go Go.RowKit
attribute [local irreducible] Calls
set_option linter.unusedVariables false
set_option maxRecDepth 20000
set_option linter.unusedSimpArgs false
set_option maxHeartbeats 8000000
def idxI (p : Msg → Bool) (l : List Msg) : Int := match l.findIdx? p with | some i => i | none => -1
theorem idxI_at {p : Msg → Bool} {l : List Msg} {k : Nat} (h : k < l.length) (h1 : (l.take k).all (fun m => !p m) = true) (h2 : p l[k] = true) : idxI p l = k := by
  have : l.findIdx? p = some k := by
    rw [List.findIdx?_eq_some_iff_getElem]
    refine ⟨h, h2, fun j hj => ?_⟩
    have := List.all_eq_true.1 h1 l[j] (by
      rw [List.mem_take_iff_getElem]
      exact ⟨j, by omega, rfl⟩)
    simpa using this
  unfold idxI
  rw [this]
theorem idxI_no {p : Msg → Bool} {l : List Msg} (h1 : l.all (fun m => !p m) = true) : idxI p l = -1 := by
  have : l.findIdx? p = none := by
    rw [List.findIdx?_eq_none_iff]
    intro x hx
    have := List.all_eq_true.1 h1 x hx
    simpa using this
  unfold idxI
  rw [this]
theorem idxI_any (p : Msg → Bool) (l : List Msg) : decide (0 ≤ idxI p l) = l.any p := by
  cases h : l.any p with
  | false =>
    rw [idxI_no (by
      refine List.all_eq_true.2 fun x hx => ?_
      have := List.any_eq_false.1 h x hx
      simpa using this)]
    rfl
  | true =>
    unfold idxI
    cases hf : l.findIdx? p with
    | none =>
      rw [List.findIdx?_eq_none_iff] at hf
      obtain ⟨x, hx, hp⟩ := List.any_eq_true.1 h
      rw [hf x hx] at hp; cases hp
    | some i => simp
theorem slices_IndexFuncM (f : FuncId) [hf : CalT Tryz.prog f] (caps : Array Value) (p : Msg → Bool) (v : Value) (l : List Msg) (w : World) (hl : SlMsg w v l) (hn : l.length ≤ 1000000000)
    (hp : ∀ m ∈ l, ∀ W, (Mem.of w).le (Mem.of W) → Calls Tryz.prog f (#[.agg #[.int .i64 m.stamp, .int .i64 m.kind, .string m.key, .string m.hi, .bool m.opn, .string m.val]] ++ caps) W fun e w' => e = .returned (.bool (p m)) ∧ Below W.heap.size W w') :
    Calls Tryz.prog 125 #[v, .func (.func f) #[] caps] w fun e w' => e = .returned (.int .i64 (idxI p l)) ∧ Below w.heap.size w w' := by
  obtain ⟨A, c, rfl, hc1, hc2, _⟩ := id hl
  have hM := hl.toM
  unfold maxLen at hc2
  refine V_flat (args := [.slice A l.length c, .func (.func f) #[] caps]) (M := Mem.of w) Tryz.func125 rfl Tryz.ntmps125 (by rfl) (Mem.le_refl _) ?_
  repeat' (first | refine VC_seq ?_ | refine VC_region ?_ | refine VL_nil ?_ | refine VC_block ?_ | ((apply VL_q); (first | exact qmv (by rfl) | exact qas (by rfl) | exact qln (by rfl)); rfl))
  refine VC_for (fun k : Nat => ⟨Mem.of w, [], [(0, .v (.slice A l.length c)), (1, .v (.func (.func f) #[] caps)), (7, .v (.int .i64 l.length)), (8, .v (.int .i64 k))]⟩) (fun k => k ≤ l.length ∧ (l.take k).all (fun m => !p m) = true) (fun k => l.length - k) [] 0 ⟨rfl, rfl, trivial, ⟨rfl, rfl, rfl, rfl, trivial⟩⟩ ⟨by omega, rfl⟩ ?_
  rintro k ⟨hk, hr⟩
  rcases Nat.lt_or_ge k l.length with hlt | hge
  · have hd := dlt hlt
    obtain ⟨b, off, rfl, hcA⟩ := hM.get hlt
    have hpk := hp l[k] (List.getElem_mem hlt)
    cases hq : p l[k] with
    | true =>
      rw [hq] at hpk
      repeat' (first | refine VC_seq ?_ | refine VC_region ?_ | refine VL_nil ?_ | refine VC_ret ?_ | refine VC_block ?_ | refine VC_skip ?_ | ((apply VL_q); (first | exact QS_indexAddr (k) (by rfl) (by rfl) (by omega) (by omega) | exact QS_mloadN _ (by rfl) hcA _ (by rfl) | exact QS_callV (by rfl) (by rfl) (fun W hW => hpk W hW) | exact qmv (by rfl) | exact qas (by rfl) | exact qcp (by rfl)); rfl) | refine ctr ?_)
      show Res _ _ _ _
      refine Res.one (by rfl) (ResV_tmp (by rfl) ?_)
      refine congrArg (Value.int .i64) ?_
      exact (idxI_at hlt hr hq).symm
    | false =>
      rw [hq] at hpk
      repeat' (first | refine VC_seq ?_ | refine VC_region ?_ | refine VL_nil ?_ | refine VC_block ?_ | refine VC_skip ?_ | ((apply VL_q); (first | exact QS_indexAddr (k) (by rfl) (by rfl) (by omega) (by omega) | exact QS_mloadN _ (by rfl) hcA _ (by rfl) | exact QS_callV (by rfl) (by rfl) (fun W hW => hpk W hW) | exact qmv (by rfl) | exact qas (by rfl) | exact qcp (by rfl) | exact qad (by rfl)); rfl) | refine ctr ?_ | refine cfa ?_)
      refine forQ_next [] (k + 1) ⟨rfl, rfl, trivial, ⟨rfl, rfl, rfl, rfl, trivial⟩⟩ ⟨by omega, ?_⟩ (by omega)
      rw [take_all_step hlt (fun m => !p m), hr, hq]; rfl
  · have hd := dge hge
    obtain rfl : k = l.length := by omega
    rw [List.take_length] at hr
    repeat' (first | refine VC_seq ?_ | refine VC_region ?_ | refine VL_nil ?_ | refine VC_ret ?_ | refine VC_exit ?_ | ((apply VL_q); (first | exact qas (by rfl) | exact qcp (by rfl)); rfl) | refine cfa ?_)
    show Res _ _ _ _
    refine Res.one (by rfl) (ResV_tmp (by rfl) ?_)
    rw [idxI_no hr]
theorem slices_ContainsFuncM (f : FuncId) [hf : CalT Tryz.prog f] (caps : Array Value) (p : Msg → Bool) (v : Value) (l : List Msg) (w : World) (hl : SlMsg w v l) (hn : l.length ≤ 1000000000)
    (hp : ∀ m ∈ l, ∀ W, (Mem.of w).le (Mem.of W) → Calls Tryz.prog f (#[.agg #[.int .i64 m.stamp, .int .i64 m.kind, .string m.key, .string m.hi, .bool m.opn, .string m.val]] ++ caps) W fun e w' => e = .returned (.bool (p m)) ∧ Below W.heap.size W w') :
    Calls Tryz.prog 116 #[v, .func (.func f) #[] caps] w fun e w' => e = .returned (.bool (l.any p)) ∧ Below w.heap.size w w' := by
  have hM := hl.toM
  have c1 : ∀ W, (Mem.of w).le (Mem.of W) → Calls Tryz.prog 125 #[v, .func (.func f) #[] caps] W fun e w' => e = .returned (.int .i64 (idxI p l)) ∧ Below W.heap.size W w' :=
    fun W hW => slices_IndexFuncM f caps p v l W (hM.toSl hW) hn (fun m hm W' hW' => hp m hm W' (hW.trans hW'))
  refine V_flat (args := [v, .func (.func f) #[] caps]) (M := Mem.of w) Tryz.func116 rfl Tryz.ntmps116 (by rfl) (Mem.le_refl _) ?_
  repeat' (first | refine VC_seq ?_ | refine VC_region ?_ | refine VL_nil ?_ | refine VC_ret ?_ | ((apply VL_q); (first | exact QS_call (by rfl) c1 | exact qmv (by rfl) | exact qas (by rfl) | exact qcp (by rfl)); rfl))
  show Res _ _ _ _
  refine Res.one (by rfl) (ResV_tmp (by rfl) ?_)
  rw [idxI_any]
theorem buffer_wrong (m : Msg) (w : World) (h1 : m.key.size ≤ 1000000) (h2 : m.hi.size ≤ 1000000) (h3 : m.val.size ≤ 1000000) :
    Calls Tryz.prog 114 #[.agg #[.int .i64 m.stamp, .int .i64 m.kind, .string m.key, .string m.hi, .bool m.opn, .string m.val]] w fun e w' => e = .returned (.bool (!rightM m)) ∧ Below w.heap.size w w' := by
  have c1 := fun W => message_Right m W h1 h2 h3
  refine V_flat (args := [.agg #[.int .i64 m.stamp, .int .i64 m.kind, .string m.key, .string m.hi, .bool m.opn, .string m.val]]) (M := Mem.no) Tryz.func114 rfl Tryz.ntmps114 (by rfl) (Mem.no_le _) ?_
  repeat' (first | refine VC_seq ?_ | refine VC_region ?_ | refine VL_nil ?_ | refine VC_ret ?_ | refine kbox ?_ | ((apply VL_q); (first | exact QS_call (by rfl) (fun W _ => c1 W) | exact qas (by rfl) | exact qlA (by rfl) | exact qno (by rfl)); rfl))
  show Res _ _ _ _
  refine Res.one (by rfl) (ResV_tmp (by rfl) ?_)
  rfl
def rightL (l : List Msg) (budget : Int) : Bool := l.all rightM && (riseB l && decide (sizeL l ≤ budget))
theorem any_not (l : List Msg) (p : Msg → Bool) : (!l.any fun m => !p m) = l.all p := by
  induction l with
  | nil => rfl
  | cons a l ih => simp only [List.any_cons, List.all_cons, ← ih, Bool.not_or, Bool.not_not]
theorem buffer_Right (v : Value) (l : List Msg) (budget : Int) (w : World) (hl : SlMsg w v l) (hz : ∀ m ∈ l, m.key.size ≤ 1000000 ∧ m.hi.size ≤ 1000000 ∧ m.val.size ≤ 1000000) (hn : l.length ≤ 1000000) :
    Calls Tryz.prog 102 #[v, .int .i64 budget] w fun e w' => e = .returned (.bool (rightL l budget)) ∧ Below w.heap.size w w' := by
  have hM := hl.toM
  have c1 : ∀ W, (Mem.of w).le (Mem.of W) → Calls Tryz.prog 116 #[v, .func (.func 114) #[] #[]] W fun e w' => e = .returned (.bool (l.any fun m => !rightM m)) ∧ Below W.heap.size W w' :=
    fun W hW => slices_ContainsFuncM 114 #[] (fun m => !rightM m) v l W (hM.toSl hW) (by omega) (fun m hm W' _ => buffer_wrong m W' (hz m hm).1 (hz m hm).2.1 (hz m hm).2.2)
  have c2 := fun W hW => message_Rising v l W (hM.toSl hW)
  have c3 := fun W hW => buffer_Size v l W (hM.toSl hW) hz hn
  have e1 := any_not l rightM
  cases h1 : l.all rightM with
  | false =>
    rw [h1] at e1
    refine V_flat (args := [v, .int .i64 budget]) (M := Mem.of w) Tryz.func102 rfl Tryz.ntmps102 (by rfl) (Mem.le_refl _) ?_
    repeat' (first | refine VC_seq ?_ | refine VC_region ?_ | refine VL_nil ?_ | refine VC_ret ?_ | ((apply VL_q); (first | exact QS_call (by rfl) c1 | exact qmv (by rfl) | exact qas (by rfl) | exact qno (by rfl) | exact qpf (by rfl)); rfl) | refine kno ?_)
    show Res _ _ _ _
    refine Res.one (by rfl) (ResV_tmp (by rfl) ?_)
    unfold rightL
    rw [h1]; rfl
  | true =>
    rw [h1] at e1
    cases h2 : riseB l with
    | false =>
      rw [h2] at c2
      refine V_flat (args := [v, .int .i64 budget]) (M := Mem.of w) Tryz.func102 rfl Tryz.ntmps102 (by rfl) (Mem.le_refl _) ?_
      repeat' (first | refine VC_seq ?_ | refine VC_region ?_ | refine VL_nil ?_ | refine VC_ret ?_ | ((apply VL_q); (first | exact QS_call (by rfl) c1 | exact QS_call (by rfl) c2 | exact qmv (by rfl) | exact qas (by rfl) | exact qno (by rfl) | exact qpt (by rfl) | exact qpf (by rfl)); rfl) | refine kyes ?_ | refine kno ?_)
      show Res _ _ _ _
      refine Res.one (by rfl) (ResV_tmp (by rfl) ?_)
      unfold rightL
      rw [h1, h2]; rfl
    | true =>
      rw [h2] at c2
      refine V_flat (args := [v, .int .i64 budget]) (M := Mem.of w) Tryz.func102 rfl Tryz.ntmps102 (by rfl) (Mem.le_refl _) ?_
      repeat' (first | refine VC_seq ?_ | refine VC_region ?_ | refine VL_nil ?_ | refine VC_ret ?_ | ((apply VL_q); (first | exact QS_call (by rfl) c1 | exact QS_call (by rfl) c2 | exact QS_call (by rfl) c3 | exact qmv (by rfl) | exact qas (by rfl) | exact qno (by rfl) | exact qpt (by rfl) | exact qcp (by rfl)); rfl) | refine kyes ?_)
      show Res _ _ _ _
      refine Res.one (by rfl) (ResV_tmp (by rfl) ?_)
      unfold rightL
      rw [h1, h2]; rfl
end Go.Proofs.YtlapnbklbpeddaaGreat
namespace Go.Proofs.YtlapnbklbpeddaaGreat
open Go Go.RowKit
attribute [local irreducible] Calls
set_option linter.unusedVariables false
set_option maxRecDepth 20000
set_option linter.unusedSimpArgs false
set_option maxHeartbeats 8000000
end Go.Proofs.YtlapnbklbpeddaaGreat
namespace Go.Proofs.YtlapnbklbpeddaaGreat
open Go Go.RowKit
attribute [local irreducible] Calls
set_option linter.unusedVariables false
set_option maxRecDepth 20000
set_option linter.unusedSimpArgs false
set_option maxHeartbeats 8000000
end Go.Proofs.YtlapnbklbpeddaaGreat
namespace Go.Proofs.YtlapnbklbpeddaaGreat
open Go Go.RowKit
attribute [local irreducible] Calls
set_option linter.unusedVariables false
set_option maxRecDepth 20000
set_option linter.unusedSimpArgs false
set_option maxHeartbeats 8000000
end Go.Proofs.YtlapnbklbpeddaaGreat
namespace Go.Proofs.YtlapnbklbpeddaaGreat
open Go Go.RowKit
attribute [local irreducible] Calls
set_option linter.unusedVariables false
set_option maxRecDepth 20000
set_option linter.unusedSimpArgs false
set_option maxHeartbeats 8000000
def clip1 (m : Msg) (s : Span) : List Msg := if (clipM m s).2 = true then [(clipM m s).1] else []
def clipL (l : List Msg) (s : Span) : List Msg := l.flatMap fun m => clip1 m s
theorem clipL_step {l : List Msg} {k : Nat} (h : k < l.length) (s : Span) : clipL (l.take (k + 1)) s = clipL (l.take k) s ++ clip1 l[k] s := by
  unfold clipL
  rw [List.take_succ_eq_append_getElem h, List.flatMap_append]; simp
theorem clipL_len (l : List Msg) (s : Span) : (clipL l s).length ≤ l.length := by
  unfold clipL
  induction l with
  | nil => simp
  | cons a l ih =>
    rw [List.flatMap_cons, List.length_append, List.length_cons]
    have : (clip1 a s).length ≤ 1 := by unfold clip1; split <;> simp
    omega
end Go.Proofs.YtlapnbklbpeddaaGreat
namespace Go.Proofs.YtlapnbklbpeddaaGreat
open Go Go.RowKit
attribute [local irreducible] Calls
set_option linter.unusedVariables false
set_option maxRecDepth 20000
set_option linter.unusedSimpArgs false
set_option maxHeartbeats 8000000
end Go.Proofs.YtlapnbklbpeddaaGreat
namespace Go.Proofs.YtlapnbklbpeddaaGreat
open Go Go.RowKit
attribute [local irreducible] Calls
set_option linter.unusedVariables false
set_option maxRecDepth 20000
set_option linter.unusedSimpArgs false
set_option maxHeartbeats 8000000
end Go.Proofs.YtlapnbklbpeddaaGreat
namespace Go.Proofs.YtlapnbklbpeddaaGreat
open Go Go.RowKit
attribute [local irreducible] Calls
set_option linter.unusedVariables false
set_option maxRecDepth 20000
set_option linter.unusedSimpArgs false
set_option maxHeartbeats 8000000
theorem QS_makeFunc1 {P : Program} {w : World} {M0 : Mem} {N : Nat} {dst : Option Tmp} {ty : TypeId} {pos : String} {aft : Array Edge} {g : Option (Nat × Bool)} {s : St} {fn : Fn} {x : Operand} {u : Value} (hx : s.env.op x = some (.v u)) : QS P w M0 N ⟨dst, .makeFunc fn #[] #[x], ty, pos, aft, g⟩ s (.v (.func fn #[] #[u])) := QS_run fun hd a W hR => by
  have h1 := hR.2.eval hx
  simp only [SV.den] at h1
  simp [execOp, h1, SV.den, Instr.makeFunc]
end Go.Proofs.YtlapnbklbpeddaaGreat
