/- The document's linked, Once, Placed and Sound. -/
import Derived.Test.YtclbmfepdlffnaaPSe5
import Derived.Test.YtclbmfepdlffnaaPEqS
namespace Go.Proofs.Ytclbmfepdlffnaa
open Go Go.RowKit
attribute [local irreducible] Calls
set_option linter.unusedVariables false
set_option maxRecDepth 20000
set_option linter.unusedSimpArgs false
set_option maxHeartbeats 8000000
theorem ref_linkedQ (v : Value) (X : List (Sq × Value)) (w : World) (M : Mem) (hMw : M.le (Mem.of w)) (hl : SlM M 14 sqCells v X) (hn : X.length ≤ 1000000000) :
    Calls Try.prog 92 #[v] w fun e w' => e = .returned (.bool (linkedF (X.map (·.1)))) ∧ Below w.heap.size w w' := by
  obtain ⟨A, c, rfl, hc1, hc2, _⟩ := id hl
  unfold maxLen at hc2
  refine V_flat (args := [.slice A X.length c]) (M := M) Try.func92 rfl Try.ntmps92 (by rfl) (hMw) ?_
  repeat' (first | refine VC_seq ?_ | refine VC_region ?_ | refine VL_nil ?_ | refine VC_block ?_ | ((apply VL_q); (exact qas (by rfl)); rfl))
  refine VC_for (fun k : Nat => ⟨M, [], [(0, .v (.slice A X.length c)), (3, .v (.int .i64 k))]⟩) (fun k => k ≤ X.length ∧ linkedF (X.map (·.1)) = linkedF ((X.drop k).map (·.1))) (fun k => X.length - k) [] 0 ⟨rfl, rfl, trivial, ⟨rfl, rfl, trivial⟩⟩ ⟨by omega, rfl⟩ ?_
  rintro k ⟨hk, hr⟩
  rcases Nat.lt_or_ge k X.length with hlt | hge
  · have hd := dlt hlt
    obtain ⟨b, off, rfl, hcA⟩ := hl.get hlt
    rw [List.drop_eq_getElem_cons hlt, List.map_cons, linkedF] at hr
    by_cases h1 : k + 1 < X.length
    · have d1 : decide ((k : Int) + 1 < (X.length : Int)) = true := decide_eq_true (by omega)
      obtain ⟨b', off', he, hcB⟩ := hl.get h1
      injection he with he
      injection he with he1 he2
      subst he1 he2
      have hw0 : wantR ((X.drop (k + 1)).map (·.1)) X[k].1.n.level = if (X[k + 1].1.n.level == X[k].1.n.level) = true then X[k + 1].1.n.slot else -1 := by rw [List.drop_eq_getElem_cons h1]; rfl
      rw [hw0] at hr
      cases hq : X[k + 1].1.n.level == X[k].1.n.level with
      | true =>
        rw [hq, if_pos rfl] at hr
        cases hw : X[k].1.n.right != X[k + 1].1.n.slot with
        | true =>
          repeat' (first | refine VC_seq ?_ | refine VC_region ?_ | refine VL_nil ?_ | refine VC_ret ?_ | refine VC_block ?_ | refine VC_skip ?_ | ((first | apply VL_q | apply VG_q); (first | exact QS_indexAddr (k) (by rfl) (by rfl) (by omega) (by omega) | exact QS_indexAddr (k + 1) (by rfl) (by rfl) (by omega) (by omega) | exact QS_mload1 (by rfl) (hcA _ _ (by rfl)) | exact QS_mload1 (by rfl) (hcB 0 _ (by rfl)) | exact QS_mload1 (by rfl) (hcB _ _ (by rfl)) | exact qmv (by rfl) | exact qas (by rfl) | exact qmf (by rfl) | exact qln (by rfl) | exact qpt (by rfl) | exact qcp (by rfl) | exact qad (by rfl)); rfl) | refine gyes ?_ | refine VG_nil ?_ | refine dQ ?_ | refine ctr ?_)
          show Res _ _ _ _
          refine Res.one (by rfl) (ResV_tmp (by rfl) ?_)
          rw [hr, show (X[k].1.n.right == X[k + 1].1.n.slot) = false by simpa using hw]; rfl
        | false =>
          repeat' (first | refine VC_seq ?_ | refine VC_region ?_ | refine VL_nil ?_ | refine VC_block ?_ | refine VC_skip ?_ | ((first | apply VL_q | apply VG_q); (first | exact QS_indexAddr (k) (by rfl) (by rfl) (by omega) (by omega) | exact QS_indexAddr (k + 1) (by rfl) (by rfl) (by omega) (by omega) | exact QS_mload1 (by rfl) (hcA _ _ (by rfl)) | exact QS_mload1 (by rfl) (hcB 0 _ (by rfl)) | exact QS_mload1 (by rfl) (hcB _ _ (by rfl)) | exact qmv (by rfl) | exact qas (by rfl) | exact qmf (by rfl) | exact qln (by rfl) | exact qpt (by rfl) | exact qcp (by rfl) | exact qad (by rfl)); rfl) | refine gyes ?_ | refine VG_nil ?_ | refine dQ ?_ | refine ctr ?_ | refine cfa ?_)
          exact forQ_next (Q := fun _ _ => True) [] (k + 1) ⟨rfl, rfl, trivial, ⟨rfl, rfl, trivial⟩⟩ ⟨by omega, by rw [hr, show (X[k].1.n.right == X[k + 1].1.n.slot) = true by simpa using hw]; rfl⟩ (by omega)
      | false =>
        rw [hq, if_neg (by simp)] at hr
        cases hw : X[k].1.n.right != -1 with
        | true =>
          repeat' (first | refine VC_seq ?_ | refine VC_region ?_ | refine VL_nil ?_ | refine VC_ret ?_ | refine VC_block ?_ | refine VC_skip ?_ | ((first | apply VL_q | apply VG_q); (first | exact QS_indexAddr (k) (by rfl) (by rfl) (by omega) (by omega) | exact QS_indexAddr (k + 1) (by rfl) (by rfl) (by omega) (by omega) | exact QS_mload1 (by rfl) (hcA _ _ (by rfl)) | exact QS_mload1 (by rfl) (hcB _ _ (by rfl)) | exact qmv (by rfl) | exact qas (by rfl) | exact qmf (by rfl) | exact qln (by rfl) | exact qpt (by rfl) | exact qcp (by rfl) | exact qad (by rfl)); rfl) | refine gyes ?_ | refine VG_nil ?_ | refine dQ ?_ | refine ctr ?_ | refine cfa ?_)
          show Res _ _ _ _
          refine Res.one (by rfl) (ResV_tmp (by rfl) ?_)
          rw [hr, show (X[k].1.n.right == -1) = false by simpa using hw]; rfl
        | false =>
          repeat' (first | refine VC_seq ?_ | refine VC_region ?_ | refine VL_nil ?_ | refine VC_block ?_ | refine VC_skip ?_ | ((first | apply VL_q | apply VG_q); (first | exact QS_indexAddr (k) (by rfl) (by rfl) (by omega) (by omega) | exact QS_indexAddr (k + 1) (by rfl) (by rfl) (by omega) (by omega) | exact QS_mload1 (by rfl) (hcA _ _ (by rfl)) | exact QS_mload1 (by rfl) (hcB _ _ (by rfl)) | exact qmv (by rfl) | exact qas (by rfl) | exact qmf (by rfl) | exact qln (by rfl) | exact qpt (by rfl) | exact qcp (by rfl) | exact qad (by rfl)); rfl) | refine gyes ?_ | refine VG_nil ?_ | refine dQ ?_ | refine ctr ?_ | refine cfa ?_)
          exact forQ_next (Q := fun _ _ => True) [] (k + 1) ⟨rfl, rfl, trivial, ⟨rfl, rfl, trivial⟩⟩ ⟨by omega, by rw [hr, show (X[k].1.n.right == -1) = true by simpa using hw]; rfl⟩ (by omega)
    · have d1 : decide ((k : Int) + 1 < (X.length : Int)) = false := decide_eq_false (by omega)
      have hw0 : wantR ((X.drop (k + 1)).map (·.1)) X[k].1.n.level = -1 := by rw [List.drop_eq_nil_of_le (by omega)]; rfl
      rw [hw0] at hr
      cases hw : X[k].1.n.right != -1 with
      | true =>
        repeat' (first | refine VC_seq ?_ | refine VC_region ?_ | refine VL_nil ?_ | refine VC_ret ?_ | refine VC_block ?_ | refine VC_skip ?_ | ((first | apply VL_q | apply VG_q); (first | exact QS_indexAddr (k) (by rfl) (by rfl) (by omega) (by omega) | exact QS_mload1 (by rfl) (hcA _ _ (by rfl)) | exact qmv (by rfl) | exact qas (by rfl) | exact qmf (by rfl) | exact qln (by rfl) | exact qpf (by rfl) | exact qcp (by rfl) | exact qad (by rfl)); rfl) | refine gno ?_ | refine VG_nil ?_ | refine dQ ?_ | refine ctr ?_ | refine cfa ?_)
        show Res _ _ _ _
        refine Res.one (by rfl) (ResV_tmp (by rfl) ?_)
        rw [hr, show (X[k].1.n.right == -1) = false by simpa using hw]; rfl
      | false =>
        repeat' (first | refine VC_seq ?_ | refine VC_region ?_ | refine VL_nil ?_ | refine VC_block ?_ | refine VC_skip ?_ | ((first | apply VL_q | apply VG_q); (first | exact QS_indexAddr (k) (by rfl) (by rfl) (by omega) (by omega) | exact QS_mload1 (by rfl) (hcA _ _ (by rfl)) | exact qmv (by rfl) | exact qas (by rfl) | exact qmf (by rfl) | exact qln (by rfl) | exact qpf (by rfl) | exact qcp (by rfl) | exact qad (by rfl)); rfl) | refine gno ?_ | refine VG_nil ?_ | refine dQ ?_ | refine ctr ?_ | refine cfa ?_)
        exact forQ_next (Q := fun _ _ => True) [] (k + 1) ⟨rfl, rfl, trivial, ⟨rfl, rfl, trivial⟩⟩ ⟨by omega, by rw [hr, show (X[k].1.n.right == -1) = true by simpa using hw]; rfl⟩ (by omega)
  · have hd := dge hge
    rw [List.drop_eq_nil_of_le hge] at hr
    repeat' (first | refine VC_seq ?_ | refine VC_region ?_ | refine VL_nil ?_ | refine VC_ret ?_ | refine VC_exit ?_ | ((apply VL_q); (first | exact qmv (by rfl) | exact qas (by rfl) | exact qln (by rfl) | exact qcp (by rfl)); rfl) | refine cfa ?_)
    show Res _ _ _ _
    refine Res.one (by rfl) (ResV_tmp (by rfl) ?_)
    rw [hr]; rfl
theorem cntQ_step {X : List (Sq × Value)} {k : Nat} (h : k < X.length) (s : Int) : cntQ s ((X.take (k + 1)).map (·.1)) = cntQ s ((X.take k).map (·.1)) + (if (X[k].1.n.slot == s) = true then 1 else 0) := by
  unfold cntQ slotQ
  rw [List.take_succ_eq_append_getElem h, List.map_append, List.map_append, List.count_append]
  congr 1
  simp only [List.map_cons, List.map_nil, List.count_cons, List.count_nil, Nat.zero_add]
theorem cntQ_le (X : List (Sq × Value)) (k : Nat) (s : Int) : cntQ s ((X.take k).map (·.1)) ≤ X.length := by
  unfold cntQ slotQ
  refine Nat.le_trans List.count_le_length ?_
  simp only [List.length_map, List.length_take]
  omega
theorem ref_Once (v u : Value) (l : List Nd) (X : List (Sq × Value)) (w : World) (M : Mem) (hMw : M.le (Mem.of w)) (hl : SlM M 10 ndCells v l) (hX : SlM M 14 sqCells u X) (hn : X.length ≤ 1000000000) :
    Calls Try.prog 91 #[v, u] w fun e w' => e = .returned (.bool (onceR l (X.map (·.1)))) ∧ Below w.heap.size w w' := by
  obtain ⟨A, c, rfl, hc1, hc2, _⟩ := id hl
  obtain ⟨B, d, rfl, hd1, hd2, _⟩ := id hX
  unfold maxLen at hc2 hd2
  unfold onceR
  rw [List.length_map]
  cases hq : ((l.length : Int) != (X.length : Int)) with
  | true =>
    refine V_flat (args := [.slice A l.length c, .slice B X.length d]) (M := M) Try.func91 rfl Try.ntmps91 (by rfl) (hMw) ?_
    repeat' (first | refine VC_seq ?_ | refine VC_region ?_ | refine VL_nil ?_ | refine VC_ret ?_ | ((apply VL_q); (first | exact qmv (by rfl) | exact qas (by rfl) | exact qln (by rfl) | exact qcp (by rfl)); rfl) | refine ctr ?_)
    show Res _ _ _ _
    refine Res.one (by rfl) (ResV_tmp (by rfl) ?_)
    rfl
  | false =>
    refine V_flat (args := [.slice A l.length c, .slice B X.length d]) (M := M) Try.func91 rfl Try.ntmps91 (by rfl) (hMw) ?_
    repeat' (first | refine VC_seq ?_ | refine VC_region ?_ | refine VL_nil ?_ | refine VC_block ?_ | refine VC_skip ?_ | ((apply VL_q); (first | exact qmv (by rfl) | exact qas (by rfl) | exact qln (by rfl) | exact qcp (by rfl)); rfl) | refine cfa ?_)
    refine VC_for (fun k : Nat => ⟨M, [], [(0, .v (.slice A l.length c)), (1, .v (.slice B X.length d)), (5, .v (.int .i64 k))]⟩) (fun k => k ≤ l.length ∧ (l.take k).all (fun n => (cntQ n.slot (X.map (·.1)) : Int) == 1) = true) (fun k => l.length - k) [] 0 ⟨rfl, rfl, trivial, ⟨rfl, rfl, rfl, trivial⟩⟩ ⟨by omega, rfl⟩ ?_
    rintro k ⟨hk, hr⟩
    rcases Nat.lt_or_ge k l.length with hlt | hge
    · have hd := dlt hlt
      obtain ⟨b, off, rfl, hcA⟩ := hl.get hlt
      repeat' (first | refine VC_seq ?_ | refine VC_region ?_ | refine VL_nil ?_ | refine VC_block ?_ | refine VC_skip ?_ | ((apply VL_q); (first | exact qmv (by rfl) | exact qas (by rfl) | exact qln (by rfl) | exact qcp (by rfl)); rfl) | refine ctr ?_)
      refine VC_for (fun j : Nat => ⟨M, [], [(0, .v (.slice (some ⟨b, off, none⟩) l.length c)), (1, .v (.slice B X.length d)), (5, .v (.int .i64 k)), (6, .v (.int .i64 (cntQ l[k].slot ((X.take j).map (·.1)) : Nat))), (7, .v (.int .i64 j))]⟩) (fun j => j ≤ X.length) (fun j => X.length - j) [] 0 ⟨rfl, rfl, trivial, ⟨rfl, rfl, rfl, rfl, rfl, trivial⟩⟩ (by omega) ?_
      intro j hj
      have hcl := cntQ_le X j l[k].slot
      rcases Nat.lt_or_ge j X.length with hlj | hgj
      · have hdj := dlt hlj
        obtain ⟨b2, off2, rfl, hcB⟩ := hX.get hlj
        have hst := cntQ_step hlj l[k].slot
        generalize hcn : cntQ l[k].slot ((X.take j).map (·.1)) = cn at *
        cases he : X[j].1.n.slot == l[k].slot with
        | true =>
          rw [he, if_pos rfl] at hst
          repeat' (first | refine VC_seq ?_ | refine VC_region ?_ | refine VL_nil ?_ | refine VC_block ?_ | refine VC_skip ?_ | ((first | apply VL_q | apply VG_q); (first | exact QS_indexAddr (k) (by rfl) (by rfl) (by omega) (by omega) | exact QS_indexAddr (j) (by rfl) (by rfl) (by omega) (by omega) | exact QS_mload1 (by rfl) (hcA 0 _ (by rfl)) | exact QS_mload1 (by rfl) (hcB 0 _ (by rfl)) | exact qmv (by rfl) | exact qas (by rfl) | exact qmf (by rfl) | exact qln (by rfl) | exact qcp (by rfl) | exact qad (by rfl)); rfl) | refine VG_nil ?_ | refine dQ ?_ | refine ctr ?_)
          exact forQ_next (Q := fun _ _ => True) [] (j + 1) ⟨rfl, rfl, trivial, ⟨rfl, rfl, rfl, by rw [hst]; rfl, rfl, trivial⟩⟩ (by omega) (by omega)
        | false =>
          rw [he, if_neg (by simp), Nat.add_zero] at hst
          repeat' (first | refine VC_seq ?_ | refine VC_region ?_ | refine VL_nil ?_ | refine VC_block ?_ | refine VC_skip ?_ | ((first | apply VL_q | apply VG_q); (first | exact QS_indexAddr (k) (by rfl) (by rfl) (by omega) (by omega) | exact QS_indexAddr (j) (by rfl) (by rfl) (by omega) (by omega) | exact QS_mload1 (by rfl) (hcA 0 _ (by rfl)) | exact QS_mload1 (by rfl) (hcB 0 _ (by rfl)) | exact qmv (by rfl) | exact qas (by rfl) | exact qmf (by rfl) | exact qln (by rfl) | exact qcp (by rfl) | exact qad (by rfl)); rfl) | refine VG_nil ?_ | refine dQ ?_ | refine ctr ?_ | refine cfa ?_)
          exact forQ_next (Q := fun _ _ => True) [] (j + 1) ⟨rfl, rfl, trivial, ⟨rfl, rfl, rfl, by rw [hst]; rfl, rfl, trivial⟩⟩ (by omega) (by omega)
      · have hdj := dge hgj
        rw [List.take_of_length_le hgj]
        have hall := allG_step hlt (fun n : Nd => (cntQ n.slot (X.map (·.1)) : Int) == 1)
        have hstp := fun h => allG_stop hlt (p := fun n : Nd => (cntQ n.slot (X.map (·.1)) : Int) == 1) h
        generalize cntQ l[k].slot (X.map (·.1)) = cn at *
        cases h1 : ((cn : Int) != 1) with
        | true =>
          repeat' (first | refine VC_seq ?_ | refine VC_region ?_ | refine VL_nil ?_ | refine VC_ret ?_ | refine VC_exit ?_ | ((apply VL_q); (first | exact qmv (by rfl) | exact qas (by rfl) | exact qln (by rfl) | exact qcp (by rfl)); rfl) | refine ctr ?_ | refine cfa ?_)
          show Res _ _ _ _
          refine Res.one (by rfl) (ResV_tmp (by rfl) ?_)
          rw [hstp (by simpa using h1)]; rfl
        | false =>
          repeat' (first | refine VC_seq ?_ | refine VC_region ?_ | refine VL_nil ?_ | refine VC_exit ?_ | refine VC_skip ?_ | ((apply VL_q); (first | exact qmv (by rfl) | exact qas (by rfl) | exact qln (by rfl) | exact qcp (by rfl) | exact qad (by rfl)); rfl) | refine cfa ?_)
          exact forQ_next (Q := fun _ _ => True) [] (k + 1) ⟨rfl, rfl, trivial, ⟨rfl, rfl, rfl, trivial⟩⟩ ⟨by omega, by rw [hall, hr]; simpa using h1⟩ (by omega)
    · have hd := dge hge
      rw [List.take_of_length_le hge] at hr
      repeat' (first | refine VC_seq ?_ | refine VC_region ?_ | refine VL_nil ?_ | refine VC_ret ?_ | refine VC_exit ?_ | ((apply VL_q); (first | exact qmv (by rfl) | exact qas (by rfl) | exact qln (by rfl) | exact qcp (by rfl)); rfl) | refine cfa ?_)
      show Res _ _ _ _
      refine Res.one (by rfl) (ResV_tmp (by rfl) ?_)
      rw [hr]; rfl
theorem norm_meet (a b : Span) : norm (meet a b) = meet a b := norm_norm _
theorem within_eq (a b : Span) : within a b = eqv (meet a b) (norm a) := by unfold within same eqv; rw [norm_meet]
theorem ref_PlacedQ (x : Sq × Value) (w : World) (M : Mem) (hMw : M.le (Mem.of w)) (hx : SqOk M x) :
    Calls Try.prog 94 #[.agg (sqCells x).toArray] w fun e w' => e = .returned (.bool (placedQ x.1)) ∧ Below w.heap.size w w' := by
  obtain ⟨⟨⟨slot, level, pv, ps, kv, ks, high, top, right, seen, mv, ms, rv, rs⟩, sp, qs⟩, qv⟩ := x
  obtain ⟨⟨oP, oK, oM, oR⟩, big, inn, hlo, hhi, hms, hmz⟩ := hx
  dsimp only at oP oK oM oR hlo hhi hms hmz
  have bps : ∀ s ∈ ps, s.size ≤ 1000000 := big.ps
  have bms : ∀ m ∈ ms, m.key.size ≤ 1000000 ∧ m.hi.size ≤ 1000000 ∧ m.val.size ≤ 1000000 := big.ms
  have brs : ∀ p ∈ rs, p.key.size ≤ 1000000 ∧ p.val.size ≤ 1000000 := big.rs
  have bpn : ps.length ≤ 1000000 := big.psn
  have bmn : ms.length ≤ 1000000 := big.msn
  have brn : rs.length ≤ 1000000 := big.rsn
  clear big inn hms hmz
  obtain ⟨P, p, rfl, hp1, hp2, _⟩ := id oP
  obtain ⟨C, c, rfl, hc1, hc2, _⟩ := id oM
  obtain ⟨R, r, rfl, hr1, hr2, _⟩ := id oR
  unfold maxLen at hp2 hc2 hr2
  have cH : ∀ (k : ByteArray) (W : World), k.size ≤ 1000000 → Calls Try.prog 120 #[.agg #[.string sp.lo, .string sp.hi, .bool sp.opn], .string k] W fun e w' => e = .returned (.bool (has sp k)) ∧ Below W.heap.size W w' := fun k W hk => ref_Has sp k W (by unfold maxLen; omega) (by unfold maxLen; omega) (by unfold maxLen; omega)
  show Calls _ _ #[.agg #[.int .i64 slot, .int .i64 level, .slice P ps.length p, kv, .string high, .bool top, .int .i64 right, .int .i64 seen, .slice C ms.length c, .slice R rs.length r, .string sp.lo, .string sp.hi, .bool sp.opn, qv]] w _
  unfold placedQ
  dsimp only
  cases hq1 : (top == sp.opn) with
  | false =>
    have n1 : (!(top == sp.opn)) = true := by rw [hq1]; rfl
    refine V_flat (args := [.agg #[.int .i64 slot, .int .i64 level, .slice P ps.length p, kv, .string high, .bool top, .int .i64 right, .int .i64 seen, .slice C ms.length c, .slice R rs.length r, .string sp.lo, .string sp.hi, .bool sp.opn, qv]]) (M := M) Try.func94 rfl Try.ntmps94 (by rfl) (hMw) ?_
    repeat' (first | refine VC_seq ?_ | refine VC_region ?_ | refine VL_nil ?_ | refine VC_ret ?_ | refine kbox ?_ | ((apply VL_q); (first | exact qmv (by rfl) | exact qas (by rfl) | exact ql1 (by rfl) | exact qfa (by rfl) | exact qpt (by rfl) | exact qbn (by rfl)); rfl) | refine kno ?_ | refine ctr ?_)
    show Res _ _ _ _
    refine Res.one (by rfl) (ResV_tmp (by rfl) ?_)
    simp
  | true =>
    have n1 : (!(top == sp.opn)) = false := by rw [hq1]; rfl
    cases hq2 : decide (high = sp.hi) with
    | false =>
      have n2 : (!decide (high = sp.hi)) = true := by rw [hq2]; rfl
      refine V_flat (args := [.agg #[.int .i64 slot, .int .i64 level, .slice P ps.length p, kv, .string high, .bool top, .int .i64 right, .int .i64 seen, .slice C ms.length c, .slice R rs.length r, .string sp.lo, .string sp.hi, .bool sp.opn, qv]]) (M := M) Try.func94 rfl Try.ntmps94 (by rfl) (hMw) ?_
      repeat' (first | refine VC_seq ?_ | refine VC_region ?_ | refine VL_nil ?_ | refine VC_ret ?_ | refine kbox ?_ | ((apply VL_q); (first | exact qmv (by rfl) | exact qas (by rfl) | exact ql1 (by rfl) | exact qfa (by rfl) | exact qpf (by rfl) | exact qcp (by rfl) | exact qbn (by rfl)); rfl) | refine kyes ?_ | refine ctr ?_)
      show Res _ _ _ _
      refine Res.one (by rfl) (ResV_tmp (by rfl) ?_)
      simp
    | true =>
      have n2 : (!decide (high = sp.hi)) = false := by rw [hq2]; rfl
      refine V_flat (args := [.agg #[.int .i64 slot, .int .i64 level, .slice P ps.length p, kv, .string high, .bool top, .int .i64 right, .int .i64 seen, .slice C ms.length c, .slice R rs.length r, .string sp.lo, .string sp.hi, .bool sp.opn, qv]]) (M := M) Try.func94 rfl Try.ntmps94 (by rfl) (hMw) ?_
      repeat' (first | refine VC_seq ?_ | refine VC_region ?_ | refine VL_nil ?_ | refine VC_block ?_ | refine VC_skip ?_ | refine kbox ?_ | ((apply VL_q); (first | exact qmv (by rfl) | exact qas (by rfl) | exact ql1 (by rfl) | exact qfa (by rfl) | exact qpf (by rfl) | exact qcp (by rfl) | exact qbn (by rfl)); rfl) | refine kyes ?_ | refine cfa ?_)
      refine VC_for (fun k : Nat => ⟨M, [.blk 98 [.int .i64 slot, .int .i64 level, .slice P ps.length p, kv, .string high, .bool top, .int .i64 right, .int .i64 seen, .slice C ms.length c, .slice R rs.length r, .string sp.lo, .string sp.hi, .bool sp.opn, qv]], [(1, .p 0 0), (3, .v (.int .i64 k))]⟩) (fun k => k ≤ rs.length ∧ (rs.take k).all (fun p => has sp p.key) = true) (fun k => rs.length - k) [0] 0 ⟨rfl, rfl, ⟨rfl, trivial⟩, ⟨rfl, rfl, trivial⟩⟩ ⟨by omega, rfl⟩ ?_
      rintro k ⟨hk, hr⟩
      rcases Nat.lt_or_ge k rs.length with hlt | hge
      · have hd := dlt hlt
        obtain ⟨b, off, rfl, hcA⟩ := oR.get hlt
        have cA := fun W => cH rs[k].key W (brs _ (List.getElem_mem hlt)).1
        cases hq : has sp rs[k].key with
        | false =>
          rw [hq] at cA
          repeat' (first | refine VC_seq ?_ | refine VC_region ?_ | refine VL_nil ?_ | refine VC_ret ?_ | refine VC_block ?_ | refine VC_skip ?_ | ((first | apply VL_q | apply VG_q); (first | exact qlN (by rfl) | exact QS_indexAddr (k) (by rfl) (by rfl) (by omega) (by omega) | exact QS_mload1 (by rfl) (hcA 0 _ (by rfl)) | exact QS_call (by rfl) (fun W _ => cA W) | exact qmv (by rfl) | exact qas (by rfl) | exact ql1 (by rfl) | exact qfa (by rfl) | exact qmf (by rfl) | exact qno (by rfl) | exact qln (by rfl) | exact qcp (by rfl)); rfl) | refine VG_nil ?_ | refine dQ ?_ | refine ctr ?_)
          show Res _ _ _ _
          refine Res.one (by rfl) (ResV_tmp (by rfl) ?_)
          rw [allG_stop hlt (p := fun p => has sp p.key) hq]; simp
        | true =>
          rw [hq] at cA
          repeat' (first | refine VC_seq ?_ | refine VC_region ?_ | refine VL_nil ?_ | refine VC_block ?_ | refine VC_skip ?_ | ((first | apply VL_q | apply VG_q); (first | exact qlN (by rfl) | exact QS_indexAddr (k) (by rfl) (by rfl) (by omega) (by omega) | exact QS_mload1 (by rfl) (hcA 0 _ (by rfl)) | exact QS_call (by rfl) (fun W _ => cA W) | exact qmv (by rfl) | exact qas (by rfl) | exact ql1 (by rfl) | exact qfa (by rfl) | exact qmf (by rfl) | exact qno (by rfl) | exact qln (by rfl) | exact qcp (by rfl) | exact qad (by rfl)); rfl) | refine VG_nil ?_ | refine dQ ?_ | refine ctr ?_ | refine cfa ?_)
          exact forQ_next (Q := fun _ _ => True) [0] (k + 1) ⟨rfl, rfl, ⟨rfl, trivial⟩, ⟨rfl, rfl, trivial⟩⟩ ⟨by omega, by rw [allG_step hlt, hr, hq]; rfl⟩ (by omega)
      · have hd := dge hge
        rw [List.take_of_length_le hge] at hr
        rw [hr]
        repeat' (first | refine VC_seq ?_ | refine VC_region ?_ | refine VL_nil ?_ | refine VC_exit ?_ | refine VC_block ?_ | ((apply VL_q); (first | exact qmv (by rfl) | exact qas (by rfl) | exact ql1 (by rfl) | exact qfa (by rfl) | exact qln (by rfl) | exact qcp (by rfl)); rfl) | refine cfa ?_)
        refine VC_for (fun k : Nat => ⟨M, [.blk 98 [.int .i64 slot, .int .i64 level, .slice P ps.length p, kv, .string high, .bool top, .int .i64 right, .int .i64 seen, .slice C ms.length c, .slice R rs.length r, .string sp.lo, .string sp.hi, .bool sp.opn, qv]], [(1, .p 0 0), (4, .v (.int .i64 k))]⟩) (fun k => k ≤ ps.length ∧ (ps.take k).all (fun p => has sp p && !decide (p = sp.lo)) = true) (fun k => ps.length - k) [0] 0 ⟨rfl, rfl, ⟨rfl, trivial⟩, ⟨rfl, rfl, trivial⟩⟩ ⟨by omega, rfl⟩ ?_
        rintro k ⟨hk, hr⟩
        rcases Nat.lt_or_ge k ps.length with hlt | hge
        · have hd := dlt hlt
          obtain ⟨b, off, rfl, hcA⟩ := oP.get hlt
          have cA := fun W => cH ps[k] W (bps _ (List.getElem_mem hlt))
          have stp := fun h => allG_stop hlt (p := fun p => has sp p && !decide (p = sp.lo)) h
          have stn := allG_step hlt (fun p => has sp p && !decide (p = sp.lo))
          generalize ps[k] = pk at *
          cases hq : has sp pk with
          | false =>
            rw [hq] at cA stp
            repeat' (first | refine VC_seq ?_ | refine VC_region ?_ | refine VL_nil ?_ | refine VC_ret ?_ | refine VC_block ?_ | refine VC_skip ?_ | ((first | apply VL_q | apply VG_q); (first | exact qlN (by rfl) | exact QS_indexAddr (k) (by rfl) (by rfl) (by omega) (by omega) | exact QS_mload1 (by rfl) (hcA 0 _ (by rfl)) | exact QS_call (by rfl) (fun W _ => cA W) | exact qmv (by rfl) | exact qas (by rfl) | exact ql1 (by rfl) | exact qfa (by rfl) | exact qno (by rfl) | exact qln (by rfl) | exact qpt (by rfl) | exact qcp (by rfl)); rfl) | refine gno ?_ | refine VG_nil ?_ | refine dQ ?_ | refine ctr ?_)
            show Res _ _ _ _
            refine Res.one (by rfl) (ResV_tmp (by rfl) ?_)
            rw [stp rfl]; simp
          | true =>
            rw [hq] at cA stp stn
            cases hq3 : decide (pk = sp.lo) with
            | true =>
              rw [hq3] at stp
              repeat' (first | refine VC_seq ?_ | refine VC_region ?_ | refine VL_nil ?_ | refine VC_ret ?_ | refine VC_block ?_ | refine VC_skip ?_ | ((first | apply VL_q | apply VG_q); (first | exact qlN (by rfl) | exact QS_indexAddr (k) (by rfl) (by rfl) (by omega) (by omega) | exact QS_mload1 (by rfl) (hcA 0 _ (by rfl)) | exact QS_call (by rfl) (fun W _ => cA W) | exact qmv (by rfl) | exact qas (by rfl) | exact ql1 (by rfl) | exact qfa (by rfl) | exact qno (by rfl) | exact qln (by rfl) | exact qpf (by rfl) | exact qcp (by rfl)); rfl) | refine gyes ?_ | refine VG_nil ?_ | refine dQ ?_ | refine ctr ?_)
              show Res _ _ _ _
              refine Res.one (by rfl) (ResV_tmp (by rfl) ?_)
              rw [stp rfl]; simp
            | false =>
              rw [hq3] at stn
              repeat' (first | refine VC_seq ?_ | refine VC_region ?_ | refine VL_nil ?_ | refine VC_block ?_ | refine VC_skip ?_ | ((first | apply VL_q | apply VG_q); (first | exact qlN (by rfl) | exact QS_indexAddr (k) (by rfl) (by rfl) (by omega) (by omega) | exact QS_mload1 (by rfl) (hcA 0 _ (by rfl)) | exact QS_call (by rfl) (fun W _ => cA W) | exact qmv (by rfl) | exact qas (by rfl) | exact ql1 (by rfl) | exact qfa (by rfl) | exact qno (by rfl) | exact qln (by rfl) | exact qpf (by rfl) | exact qcp (by rfl) | exact qad (by rfl)); rfl) | refine gyes ?_ | refine VG_nil ?_ | refine dQ ?_ | refine ctr ?_ | refine cfa ?_)
              exact forQ_next (Q := fun _ _ => True) [0] (k + 1) ⟨rfl, rfl, ⟨rfl, trivial⟩, ⟨rfl, rfl, trivial⟩⟩ ⟨by omega, by rw [stn, hr]; rfl⟩ (by omega)
        · have hd := dge hge
          rw [List.take_of_length_le hge] at hr
          rw [hr]
          repeat' (first | refine VC_seq ?_ | refine VC_region ?_ | refine VL_nil ?_ | refine VC_exit ?_ | refine VC_block ?_ | ((apply VL_q); (first | exact qmv (by rfl) | exact qas (by rfl) | exact ql1 (by rfl) | exact qfa (by rfl) | exact qln (by rfl) | exact qcp (by rfl)); rfl) | refine cfa ?_)
          refine VC_for (fun k : Nat => ⟨M, [.blk 98 [.int .i64 slot, .int .i64 level, .slice P ps.length p, kv, .string high, .bool top, .int .i64 right, .int .i64 seen, .slice C ms.length c, .slice R rs.length r, .string sp.lo, .string sp.hi, .bool sp.opn, qv]], [(1, .p 0 0), (5, .v (.int .i64 k))]⟩) (fun k => k ≤ ms.length ∧ (ms.take k).all (fun m => within (spanM m) sp) = true) (fun k => ms.length - k) [0] 0 ⟨rfl, rfl, ⟨rfl, trivial⟩, ⟨rfl, rfl, trivial⟩⟩ ⟨by omega, rfl⟩ ?_
          rintro k ⟨hk, hr⟩
          rcases Nat.lt_or_ge k ms.length with hlt | hge
          · have hd := dlt hlt
            obtain ⟨b, off, rfl, hcA⟩ := oM.get hlt
            obtain ⟨z1, z2, z3⟩ := bms _ (List.getElem_mem hlt)
            have cS := fun W => ref_SpanM ms[k] W z1
            have hsz := spanM_size ms[k] (n := 1000001) (by omega) (by omega)
            have stp := fun h => allG_stop hlt (p := fun m => within (spanM m) sp) h
            have stn := allG_step hlt (fun m => within (spanM m) sp)
            generalize spanM ms[k] = sm at *
            have cM := fun W => ref_Meet sm sp W (by unfold maxLen; omega) (by unfold maxLen; omega) (by unfold maxLen; omega) (by unfold maxLen; omega)
            have cN := fun W => ref_Norm sm W (by unfold maxLen; omega) (by unfold maxLen; omega)
            rw [within_eq] at stp stn
            generalize meet sm sp = e1 at *
            generalize norm sm = e2 at *
            cases hq : eqv e1 e2 with
            | false =>
              rw [hq] at stp
              have n3 : (!eqv e1 e2) = true := by rw [hq]; rfl
              repeat' (first | refine VC_seq ?_ | refine VC_region ?_ | refine VL_nil ?_ | refine VC_ret ?_ | refine VC_block ?_ | refine VC_skip ?_ | refine kall ?_ | refine ksN ?_ | ((first | apply VL_q | apply VG_q); (first | exact qlN (by rfl) | exact QS_indexAddr (k) (by rfl) (by rfl) (by omega) (by omega) | exact QS_mloadN _ (by rfl) hcA _ (by rfl) | exact QS_call (by rfl) (fun W _ => cS W) | exact QS_call (by rfl) (fun W _ => cM W) | exact QS_call (by rfl) (fun W _ => cN W) | exact QS_bin (by rfl) (by rfl) spq_neq | exact qmv (by rfl) | exact qas (by rfl) | exact ql1 (by rfl) | exact qfa (by rfl) | exact qln (by rfl) | exact qcp (by rfl)); rfl) | refine VG_nil ?_ | refine dQ ?_ | refine ctr ?_)
              show Res _ _ _ _
              refine Res.one (by rfl) (ResV_tmp (by rfl) ?_)
              rw [stp rfl]; simp
            | true =>
              rw [hq] at stn
              have n3 : (!eqv e1 e2) = false := by rw [hq]; rfl
              repeat' (first | refine VC_seq ?_ | refine VC_region ?_ | refine VL_nil ?_ | refine VC_block ?_ | refine VC_skip ?_ | refine kall ?_ | refine ksN ?_ | ((first | apply VL_q | apply VG_q); (first | exact qlN (by rfl) | exact QS_indexAddr (k) (by rfl) (by rfl) (by omega) (by omega) | exact QS_mloadN _ (by rfl) hcA _ (by rfl) | exact QS_call (by rfl) (fun W _ => cS W) | exact QS_call (by rfl) (fun W _ => cM W) | exact QS_call (by rfl) (fun W _ => cN W) | exact QS_bin (by rfl) (by rfl) spq_neq | exact qmv (by rfl) | exact qas (by rfl) | exact ql1 (by rfl) | exact qfa (by rfl) | exact qln (by rfl) | exact qcp (by rfl) | exact qad (by rfl)); rfl) | refine VG_nil ?_ | refine dQ ?_ | refine ctr ?_ | refine cfa ?_)
              exact forQ_next (Q := fun _ _ => True) [0] (k + 1) ⟨rfl, rfl, ⟨rfl, trivial⟩, ⟨rfl, rfl, trivial⟩⟩ ⟨by omega, by rw [stn, hr]; rfl⟩ (by omega)
          · have hd := dge hge
            rw [List.take_of_length_le hge] at hr
            rw [hr]
            repeat' (first | refine VC_seq ?_ | refine VC_region ?_ | refine VL_nil ?_ | refine VC_ret ?_ | refine VC_exit ?_ | ((apply VL_q); (first | exact qmv (by rfl) | exact qas (by rfl) | exact ql1 (by rfl) | exact qfa (by rfl) | exact qln (by rfl) | exact qcp (by rfl)); rfl) | refine cfa ?_)
            show Res _ _ _ _
            refine Res.one (by rfl) (ResV_tmp (by rfl) ?_)
            rfl
end Go.Proofs.Ytclbmfepdlffnaa
