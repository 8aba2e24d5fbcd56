/- The code's linked, ordered, placed and once. -/
import Derived.Test.YtlapnbklbpeddaaGreatPSe7
namespace Go.Proofs.YtlapnbklbpeddaaGreat
open Go Go.RowKit
attribute [local irreducible] Calls
set_option linter.unusedVariables false
set_option maxRecDepth 20000
set_option linter.unusedSimpArgs false
set_option maxHeartbeats 8000000
instance : MapT Tryz.prog 116 3 35 := ⟨by kernel_rfl, by kernel_rfl⟩
instance : MapT Tryz.prog 118 3 4 := ⟨by kernel_rfl, by kernel_rfl⟩
/-- A place: a node, and what it is for. -/
abbrev plCells (x : Sq) : List Value := [.int .i64 x.n.slot, .int .i64 x.n.level, x.n.pv, x.n.kv, .string x.n.high, .bool x.n.top, .int .i64 x.n.right, .int .i64 x.n.seen, x.n.mv, x.n.rv, .string x.s.lo, .string x.s.hi, .bool x.s.opn]
structure PlOk (M : Mem) (x : Sq) : Prop where
  ok : x.n.Ok M
  big : x.n.Big
  inn : x.n.In
  lo : x.s.lo.size ≤ 1000000
  hi : x.s.hi.size ≤ 1000000
theorem PlOk.mono {M M' : Mem} {x : Sq} (h : PlOk M x) (hle : M.le M') : PlOk M' x := ⟨h.ok.mono hle, h.big, h.inn, h.lo, h.hi⟩
theorem pl_one {M : Mem} {x : Sq} (h : PlOk M x) : ((plCells x).toArray.toList.all (·.oneCell')) = true := by
  obtain ⟨⟨A, a, e1, _⟩, ⟨B, b, e2, _⟩, ⟨C, c, e3, _⟩, ⟨D, d, e4, _⟩⟩ := h.ok
  show (plCells x).all _ = true
  unfold plCells
  rw [e1, e2, e3, e4]; rfl
theorem sound_linkedW (v : Value) (X : List Sq) (w : World) (M : Mem) (hMw : M.le (Mem.of w)) (hl : SlM M 13 plCells v X) (hok : ∀ x ∈ X, PlOk M x) (hn : X.length ≤ 1000000000) :
    Calls Tryz.prog 82 #[v] w fun e w' => e = .returned (.bool (linkedW X)) ∧ Below w.heap.size w w' := by
  obtain ⟨A, c, rfl, hc1, hc2, _⟩ := id hl
  unfold maxLen at hc2
  refine V_flat (args := [.slice A X.length c]) (M := M) Tryz.func82 rfl Tryz.ntmps82 (by rfl) (hMw) ?_
  repeat' (first | refine VC_seq ?_ | refine VC_region ?_ | refine VL_nil ?_ | refine VC_block ?_ | ((apply VL_q); (first | exact qmv (by rfl) | exact qas (by rfl) | exact qln (by rfl)); rfl))
  refine VC_for (fun k : Nat => ⟨M, [], [(0, .v (.slice A X.length c)), (6, .v (.slice A X.length c)), (7, .v (.int .i64 X.length)), (8, .v (.int .i64 k))]⟩) (fun k => k ≤ X.length ∧ linkedW X = linkedW (X.drop k)) (fun k => X.length - k) [] 0 ⟨rfl, rfl, trivial, ⟨rfl, rfl, rfl, rfl, trivial⟩⟩ ⟨by omega, rfl⟩ ?_
  rintro k ⟨hk, hr⟩
  rcases Nat.lt_or_ge k X.length with hlt | hge
  · have hd := dlt hlt
    obtain ⟨b, off, rfl, hcA⟩ := hl.get hlt
    have hone := pl_one (hok X[k] (List.getElem_mem hlt))
    rw [List.drop_eq_getElem_cons hlt, linkedW] at hr
    by_cases h1 : k + 1 < X.length
    · have d1 : decide ((k : Int) + 1 < (X.length : Int)) = true := decide_eq_true (by omega)
      obtain ⟨b', off', he, hcB⟩ := hl.get h1
      injection he with he
      injection he with he1 he2
      subst he1 he2
      have hw0 : nextR (X.drop (k + 1)) = X[k + 1].n.slot := by rw [List.drop_eq_getElem_cons h1]; rfl
      rw [hw0] at hr
      cases hw : X[k].n.right != X[k + 1].n.slot with
      | true =>
        repeat' (first | refine ksN ?_ (hu := hone) | refine VC_seq ?_ | refine VC_region ?_ | refine VL_nil ?_ | refine VC_ret ?_ | refine VC_block ?_ | refine VC_skip ?_ | refine kall ?_ | ((apply VL_q); (first | exact QS_indexAddr (k) (by rfl) (by rfl) (by omega) (by omega) | exact QS_indexAddr (k + 1) (by rfl) (by rfl) (by omega) (by omega) | exact QS_mloadN _ (by rfl) hcA _ (by rfl) | exact QS_mload1 (by rfl) (hcB 0 _ (by rfl)) | exact qmv (by rfl) | exact qas (by rfl) | exact ql1 (by rfl) | exact qfa (by rfl) | exact qmf (by rfl) | exact qln (by rfl) | exact qcp (by rfl) | exact qad (by rfl)); rfl) | refine ctr ?_)
        show Res _ _ _ _
        refine Res.one (by rfl) (ResV_tmp (by rfl) ?_)
        rw [hr, show (X[k].n.right == X[k + 1].n.slot) = false by simpa using hw]; rfl
      | false =>
        repeat' (first | refine ksN ?_ (hu := hone) | refine VC_seq ?_ | refine VC_region ?_ | refine VL_nil ?_ | refine VC_block ?_ | refine VC_skip ?_ | refine kall ?_ | ((apply VL_q); (first | exact QS_indexAddr (k) (by rfl) (by rfl) (by omega) (by omega) | exact QS_indexAddr (k + 1) (by rfl) (by rfl) (by omega) (by omega) | exact QS_mloadN _ (by rfl) hcA _ (by rfl) | exact QS_mload1 (by rfl) (hcB 0 _ (by rfl)) | exact qmv (by rfl) | exact qas (by rfl) | exact ql1 (by rfl) | exact qfa (by rfl) | exact qmf (by rfl) | exact qln (by rfl) | exact qcp (by rfl) | exact qad (by rfl)); rfl) | refine ctr ?_ | refine cfa ?_)
        exact forQ_next (Q := fun _ _ => True) [] (k + 1) ⟨rfl, rfl, trivial, ⟨rfl, rfl, rfl, rfl, trivial⟩⟩ ⟨by omega, by rw [hr, show (X[k].n.right == X[k + 1].n.slot) = true by simpa using hw]; rfl⟩ (by omega)
    · have d1 : decide ((k : Int) + 1 < (X.length : Int)) = false := decide_eq_false (by omega)
      have hw0 : nextR (X.drop (k + 1)) = -1 := by rw [List.drop_eq_nil_of_le (by omega)]; rfl
      rw [hw0] at hr
      cases hw : X[k].n.right != -1 with
      | true =>
        repeat' (first | refine ksN ?_ (hu := hone) | refine VC_seq ?_ | refine VC_region ?_ | refine VL_nil ?_ | refine VC_ret ?_ | refine VC_block ?_ | refine VC_skip ?_ | refine kall ?_ | ((apply VL_q); (first | exact QS_indexAddr (k) (by rfl) (by rfl) (by omega) (by omega) | exact QS_mloadN _ (by rfl) hcA _ (by rfl) | exact qmv (by rfl) | exact qas (by rfl) | exact ql1 (by rfl) | exact qfa (by rfl) | exact qln (by rfl) | exact qcp (by rfl) | exact qad (by rfl)); rfl) | refine ctr ?_ | refine cfa ?_)
        show Res _ _ _ _
        refine Res.one (by rfl) (ResV_tmp (by rfl) ?_)
        rw [hr, show (X[k].n.right == -1) = false by simpa using hw]; rfl
      | false =>
        repeat' (first | refine ksN ?_ (hu := hone) | refine VC_seq ?_ | refine VC_region ?_ | refine VL_nil ?_ | refine VC_block ?_ | refine VC_skip ?_ | refine kall ?_ | ((apply VL_q); (first | exact QS_indexAddr (k) (by rfl) (by rfl) (by omega) (by omega) | exact QS_mloadN _ (by rfl) hcA _ (by rfl) | exact qmv (by rfl) | exact qas (by rfl) | exact ql1 (by rfl) | exact qfa (by rfl) | exact qln (by rfl) | exact qcp (by rfl) | exact qad (by rfl)); rfl) | refine ctr ?_ | refine cfa ?_)
        exact forQ_next (Q := fun _ _ => True) [] (k + 1) ⟨rfl, rfl, trivial, ⟨rfl, rfl, rfl, rfl, trivial⟩⟩ ⟨by omega, by rw [hr, show (X[k].n.right == -1) = true by simpa using hw]; rfl⟩ (by omega)
  · have hd := dge hge
    rw [List.drop_eq_nil_of_le hge] at hr
    repeat' (first | refine VC_seq ?_ | refine VC_region ?_ | refine VL_nil ?_ | refine VC_ret ?_ | refine VC_exit ?_ | ((apply VL_q); (first | exact qas (by rfl) | exact qcp (by rfl)); rfl) | refine cfa ?_)
    show Res _ _ _ _
    refine Res.one (by rfl) (ResV_tmp (by rfl) ?_)
    rw [hr]; rfl
theorem sound_ordered (x : Sq) (v : Value) (X : List Sq) (w : World) (M : Mem) (hMw : M.le (Mem.of w)) (hx : PlOk M x) (hl : SlM M 13 plCells v X) (hok : ∀ x ∈ X, PlOk M x) (hn : X.length ≤ 1000000000) :
    Calls Tryz.prog 83 #[.agg (plCells x).toArray, v] w fun e w' => e = .returned (.bool (ordQ x X)) ∧ Below w.heap.size w w' := by
  obtain ⟨A, c, rfl, hc1, hc2, _⟩ := id hl
  unfold maxLen at hc2
  obtain ⟨⟨slot, level, pv, ps, kv, ks, high, top, right, seen, mv, ms, rv, rs⟩, sp, qs⟩ := x
  obtain ⟨⟨oP, oK, oM, oR⟩, big, inn, hlo, hhi⟩ := hx
  dsimp only at oP oK oM oR hlo hhi
  have bms : ∀ m ∈ ms, m.key.size ≤ 1000000 ∧ m.hi.size ≤ 1000000 ∧ m.val.size ≤ 1000000 := big.ms
  have bmn : ms.length ≤ 1000000 := big.msn
  clear big inn
  obtain ⟨C, d, rfl, hd1, hd2, _⟩ := id oM
  unfold maxLen at hd2
  show Calls _ _ #[.agg #[.int .i64 slot, .int .i64 level, pv, kv, .string high, .bool top, .int .i64 right, .int .i64 seen, .slice C ms.length d, rv, .string sp.lo, .string sp.hi, .bool sp.opn], .slice A X.length c] w _
  unfold ordQ
  dsimp only
  refine V_flat (args := [.agg #[.int .i64 slot, .int .i64 level, pv, kv, .string high, .bool top, .int .i64 right, .int .i64 seen, .slice C ms.length d, rv, .string sp.lo, .string sp.hi, .bool sp.opn], .slice A X.length c]) (M := M) Tryz.func83 rfl Tryz.ntmps83 (by rfl) (hMw) ?_
  repeat' (first | refine VC_seq ?_ | refine VC_region ?_ | refine VL_nil ?_ | refine VC_block ?_ | refine kbox ?_ | ((apply VL_q); (first | exact qmv (by rfl) | exact qas (by rfl) | exact ql1 (by rfl) | exact qfa (by rfl) | exact qln (by rfl)); rfl))
  refine VC_for (fun k : Nat => ⟨M, [], [(1, .v (.slice A X.length c)), (11, .v (.slice C ms.length d)), (12, .v (.int .i64 ms.length)), (13, .v (.int .i64 k))]⟩) (fun k => k ≤ ms.length ∧ (ms.take k).all (fun m => X.all fun y => !(decide (m.stamp ≤ y.n.seen) && touch (spanM m) y.s)) = true) (fun k => ms.length - k) [] 0 ⟨rfl, rfl, trivial, ⟨rfl, rfl, rfl, rfl, trivial⟩⟩ ⟨by omega, rfl⟩ ?_
  rintro k ⟨hk, hr⟩
  rcases Nat.lt_or_ge k ms.length with hlt | hge
  · have hd := dlt hlt
    obtain ⟨b, off, rfl, hcA⟩ := oM.get hlt
    obtain ⟨z1, z2, z3⟩ := bms _ (List.getElem_mem hlt)
    have stp := fun h => allG_stop hlt (p := fun m => X.all fun y => !(decide (m.stamp ≤ y.n.seen) && touch (spanM m) y.s)) h
    have stn := allG_step hlt (fun m => X.all fun y => !(decide (m.stamp ≤ y.n.seen) && touch (spanM m) y.s))
    generalize ms[k] = m at *
    repeat' (first | refine VC_seq ?_ | refine VC_region ?_ | refine VL_nil ?_ | refine VC_block ?_ | refine VC_skip ?_ | refine kall ?_ | refine ksN ?_ | ((apply VL_q); (first | exact QS_indexAddr (k) (by rfl) (by rfl) (by omega) (by omega) | exact QS_mloadN _ (by rfl) hcA _ (by rfl) | exact qmv (by rfl) | exact qln (by rfl) | exact qcp (by rfl)); rfl) | refine ctr ?_)
    refine VC_for (fun j : Nat => ⟨M, [.blk 73 (msgCells m)], [(1, .v (.slice A X.length c)), (11, .v (.slice (some ⟨b, off, none⟩) ms.length d)), (12, .v (.int .i64 ms.length)), (13, .v (.int .i64 k)), (6, .p 0 0), (17, .v (.slice A X.length c)), (18, .v (.int .i64 X.length)), (19, .v (.int .i64 j))]⟩) (fun j => j ≤ X.length ∧ (X.take j).all (fun y => !(decide (m.stamp ≤ y.n.seen) && touch (spanM m) y.s)) = true) (fun j => X.length - j) [0] 0 ⟨rfl, rfl, ⟨rfl, trivial⟩, ⟨rfl, rfl, rfl, rfl, rfl, rfl, rfl, rfl, trivial⟩⟩ ⟨by omega, rfl⟩ ?_
    rintro j ⟨hj, hrj⟩
    rcases Nat.lt_or_ge j X.length with hlj | hgj
    · have hdj := dlt hlj
      obtain ⟨b2, off2, rfl, hcB⟩ := hl.get hlj
      have hone := pl_one (hok X[j] (List.getElem_mem hlj))
      have stp2 := fun h => allG_stop hlj (p := fun y : Sq => !(decide (m.stamp ≤ y.n.seen) && touch (spanM m) y.s)) h
      have stn2 := allG_step hlj (fun y : Sq => !(decide (m.stamp ≤ y.n.seen) && touch (spanM m) y.s))
      have cT := fun W => message_Touches m X[j].s W z1
      generalize X[j] = y at *
      cases q1 : decide (m.stamp ≤ y.n.seen) with
      | false =>
        rw [q1] at stn2
        repeat' (first | refine ksN ?_ (hu := hone) | refine VC_seq ?_ | refine VC_region ?_ | refine VL_nil ?_ | refine VC_block ?_ | refine VC_skip ?_ | refine kall ?_ | ((apply VL_q); (first | exact QS_indexAddr (j) (by rfl) (by rfl) (by omega) (by omega) | exact QS_mloadN _ (by rfl) hcB _ (by rfl) | exact qmv (by rfl) | exact ql1 (by rfl) | exact qfa (by rfl) | exact qpf (by rfl) | exact qcp (by rfl) | exact qad (by rfl)); rfl) | refine kno ?_ | refine ctr ?_ | refine cfa ?_)
        exact forQ_next (Q := fun _ _ => True) [0] (j + 1) ⟨rfl, rfl, ⟨rfl, trivial⟩, ⟨rfl, rfl, rfl, rfl, rfl, rfl, rfl, rfl, trivial⟩⟩ ⟨by omega, by rw [stn2, hrj]; rfl⟩ (by omega)
      | true =>
        cases q2 : touch (spanM m) y.s with
        | false =>
          rw [q2] at cT
          rw [q1, q2] at stn2
          repeat' (first | refine ksN ?_ (hu := hone) | refine VC_seq ?_ | refine VC_region ?_ | refine VL_nil ?_ | refine VC_block ?_ | refine VC_skip ?_ | refine kall ?_ | ((apply VL_q); (first | exact QS_indexAddr (j) (by rfl) (by rfl) (by omega) (by omega) | exact QS_mloadN _ (by rfl) hcB _ (by rfl) | exact qlN (by rfl) | exact QS_call (by rfl) (fun W _ => cT W) | exact qmv (by rfl) | exact ql1 (by rfl) | exact qfa (by rfl) | exact qpt (by rfl) | exact qcp (by rfl) | exact qad (by rfl)); rfl) | refine kyes ?_ | refine ctr ?_ | refine cfa ?_)
          exact forQ_next (Q := fun _ _ => True) [0] (j + 1) ⟨rfl, rfl, ⟨rfl, trivial⟩, ⟨rfl, rfl, rfl, rfl, rfl, rfl, rfl, rfl, trivial⟩⟩ ⟨by omega, by rw [stn2, hrj]; rfl⟩ (by omega)
        | true =>
          rw [q2] at cT
          rw [q1, q2] at stp2
          repeat' (first | refine ksN ?_ (hu := hone) | refine VC_seq ?_ | refine VC_region ?_ | refine VL_nil ?_ | refine VC_ret ?_ | refine VC_block ?_ | refine VC_skip ?_ | refine kall ?_ | ((apply VL_q); (first | exact QS_indexAddr (j) (by rfl) (by rfl) (by omega) (by omega) | exact QS_mloadN _ (by rfl) hcB _ (by rfl) | exact qlN (by rfl) | exact QS_call (by rfl) (fun W _ => cT W) | exact qmv (by rfl) | exact qas (by rfl) | exact ql1 (by rfl) | exact qfa (by rfl) | exact qpt (by rfl) | exact qcp (by rfl)); rfl) | refine kyes ?_ | refine ctr ?_)
          show Res _ _ _ _
          refine Res.one (by rfl) (ResV_tmp (by rfl) ?_)
          rw [stp (stp2 rfl)]
    · have hdj := dge hgj
      rw [List.take_of_length_le hgj] at hrj
      repeat' (first | refine VC_seq ?_ | refine VC_region ?_ | refine VL_nil ?_ | refine VC_exit ?_ | ((apply VL_q); (first | exact qmv (by rfl) | exact qcp (by rfl) | exact qad (by rfl)); rfl) | refine cfa ?_)
      exact forQ_next (Q := fun _ _ => True) [] (k + 1) ⟨rfl, rfl, trivial, ⟨rfl, rfl, rfl, rfl, trivial⟩⟩ ⟨by omega, by rw [stn, hr, hrj]; rfl⟩ (by omega)
  · have hd := dge hge
    rw [List.take_of_length_le hge] at hr
    repeat' (first | refine VC_seq ?_ | refine VC_region ?_ | refine VL_nil ?_ | refine VC_ret ?_ | refine VC_exit ?_ | ((apply VL_q); (first | exact qas (by rfl) | exact qcp (by rfl)); rfl) | refine cfa ?_)
    show Res _ _ _ _
    refine Res.one (by rfl) (ResV_tmp (by rfl) ?_)
    rw [hr]
theorem sound_placed (x : Sq) (w : World) (M : Mem) (hMw : M.le (Mem.of w)) (hx : PlOk M x) :
    Calls Tryz.prog 39 #[.agg (plCells x).toArray] w fun e w' => e = .returned (.bool (placedQ x)) ∧ Below w.heap.size w w' := by
  obtain ⟨⟨slot, level, pv, ps, kv, ks, high, top, right, seen, mv, ms, rv, rs⟩, sp, qs⟩ := x
  obtain ⟨⟨oP, oK, oM, oR⟩, big, inn, hlo, hhi⟩ := hx
  dsimp only at oP oK oM oR hlo hhi
  have bms : ∀ m ∈ ms, m.key.size ≤ 1000000 ∧ m.hi.size ≤ 1000000 ∧ m.val.size ≤ 1000000 := big.ms
  have bpn : ps.length ≤ 1000000 := big.psn
  have bmn : ms.length ≤ 1000000 := big.msn
  have brn : rs.length ≤ 1000000 := big.rsn
  clear big inn
  obtain ⟨P, p, rfl, hp1, hp2, _⟩ := id oP
  obtain ⟨C, c, rfl, hc1, hc2, _⟩ := id oM
  obtain ⟨R, r, rfl, hr1, hr2, _⟩ := id oR
  unfold maxLen at hp2 hc2 hr2
  have cH : ∀ (k : ByteArray) (W : World), Calls Tryz.prog 77 #[.agg #[.string sp.lo, .string sp.hi, .bool sp.opn], .string k] W fun e w' => e = .returned (.bool (has sp k)) ∧ Below W.heap.size W w' := fun k W => span_Has sp k W
  show Calls _ _ #[.agg #[.int .i64 slot, .int .i64 level, .slice P ps.length p, kv, .string high, .bool top, .int .i64 right, .int .i64 seen, .slice C ms.length c, .slice R rs.length r, .string sp.lo, .string sp.hi, .bool sp.opn]] w _
  unfold placedQ
  dsimp only
  cases hq1 : (top == sp.opn) with
  | false =>
    have n1 : (!(top == sp.opn)) = true := by rw [hq1]; rfl
    refine V_flat (args := [.agg #[.int .i64 slot, .int .i64 level, .slice P ps.length p, kv, .string high, .bool top, .int .i64 right, .int .i64 seen, .slice C ms.length c, .slice R rs.length r, .string sp.lo, .string sp.hi, .bool sp.opn]]) (M := M) Tryz.func39 rfl Tryz.ntmps39 (by rfl) (hMw) ?_
    repeat' (first | refine VC_seq ?_ | refine VC_region ?_ | refine VL_nil ?_ | refine VC_ret ?_ | refine kbox ?_ | ((apply VL_q); (first | exact qmv (by rfl) | exact qas (by rfl) | exact ql1 (by rfl) | exact qfa (by rfl) | exact qpt (by rfl) | exact qbn (by rfl)); rfl) | refine kno ?_ | refine ctr ?_)
    show Res _ _ _ _
    refine Res.one (by rfl) (ResV_tmp (by rfl) ?_)
    simp
  | true =>
    have n1 : (!(top == sp.opn)) = false := by rw [hq1]; rfl
    cases hq2 : decide (high = sp.hi) with
    | false =>
      have n2 : (!decide (high = sp.hi)) = true := by rw [hq2]; rfl
      refine V_flat (args := [.agg #[.int .i64 slot, .int .i64 level, .slice P ps.length p, kv, .string high, .bool top, .int .i64 right, .int .i64 seen, .slice C ms.length c, .slice R rs.length r, .string sp.lo, .string sp.hi, .bool sp.opn]]) (M := M) Tryz.func39 rfl Tryz.ntmps39 (by rfl) (hMw) ?_
      repeat' (first | refine VC_seq ?_ | refine VC_region ?_ | refine VL_nil ?_ | refine VC_ret ?_ | refine kbox ?_ | ((apply VL_q); (first | exact qmv (by rfl) | exact qas (by rfl) | exact ql1 (by rfl) | exact qfa (by rfl) | exact qpf (by rfl) | exact qcp (by rfl) | exact qbn (by rfl)); rfl) | refine kyes ?_ | refine ctr ?_)
      show Res _ _ _ _
      refine Res.one (by rfl) (ResV_tmp (by rfl) ?_)
      simp
    | true =>
      have n2 : (!decide (high = sp.hi)) = false := by rw [hq2]; rfl
      refine V_flat (args := [.agg #[.int .i64 slot, .int .i64 level, .slice P ps.length p, kv, .string high, .bool top, .int .i64 right, .int .i64 seen, .slice C ms.length c, .slice R rs.length r, .string sp.lo, .string sp.hi, .bool sp.opn]]) (M := M) Tryz.func39 rfl Tryz.ntmps39 (by rfl) (hMw) ?_
      repeat' (first | refine VC_seq ?_ | refine VC_region ?_ | refine VL_nil ?_ | refine VC_block ?_ | refine VC_skip ?_ | refine kbox ?_ | ((apply VL_q); (first | exact qmv (by rfl) | exact qas (by rfl) | exact ql1 (by rfl) | exact qfa (by rfl) | exact qln (by rfl) | exact qpf (by rfl) | exact qcp (by rfl) | exact qbn (by rfl)); rfl) | refine kyes ?_ | refine cfa ?_)
      refine VC_for (fun k : Nat => ⟨M, [.blk 93 [.int .i64 slot, .int .i64 level, .slice P ps.length p, kv, .string high, .bool top, .int .i64 right, .int .i64 seen, .slice C ms.length c, .slice R rs.length r, .string sp.lo, .string sp.hi, .bool sp.opn]], [(1, .p 0 0), (27, .v (.slice R rs.length r)), (28, .v (.int .i64 rs.length)), (29, .v (.int .i64 k))]⟩) (fun k => k ≤ rs.length ∧ (rs.take k).all (fun p => has sp p.key) = true) (fun k => rs.length - k) [0] 0 ⟨rfl, rfl, ⟨rfl, trivial⟩, ⟨rfl, rfl, rfl, rfl, trivial⟩⟩ ⟨by omega, rfl⟩ ?_
      rintro k ⟨hk, hr⟩
      rcases Nat.lt_or_ge k rs.length with hlt | hge
      · have hd := dlt hlt
        obtain ⟨b, off, rfl, hcA⟩ := oR.get hlt
        have cA := fun W => cH rs[k].key W
        cases hq : has sp rs[k].key with
        | false =>
          rw [hq] at cA
          repeat' (first | refine VC_seq ?_ | refine VC_region ?_ | refine VL_nil ?_ | refine VC_ret ?_ | refine VC_block ?_ | refine VC_skip ?_ | refine kall ?_ | refine ksN ?_ | ((apply VL_q); (first | exact qlN (by rfl) | exact QS_indexAddr (k) (by rfl) (by rfl) (by omega) (by omega) | exact QS_mloadN _ (by rfl) hcA _ (by rfl) | exact QS_call (by rfl) (fun W _ => cA W) | exact qas (by rfl) | exact ql1 (by rfl) | exact qfa (by rfl) | exact qno (by rfl) | exact qcp (by rfl)); rfl) | refine ctr ?_)
          show Res _ _ _ _
          refine Res.one (by rfl) (ResV_tmp (by rfl) ?_)
          rw [allG_stop hlt (p := fun p => has sp p.key) hq]; simp
        | true =>
          rw [hq] at cA
          repeat' (first | refine VC_seq ?_ | refine VC_region ?_ | refine VL_nil ?_ | refine VC_block ?_ | refine VC_skip ?_ | refine kall ?_ | refine ksN ?_ | ((apply VL_q); (first | exact qlN (by rfl) | exact QS_indexAddr (k) (by rfl) (by rfl) (by omega) (by omega) | exact QS_mloadN _ (by rfl) hcA _ (by rfl) | exact QS_call (by rfl) (fun W _ => cA W) | exact qmv (by rfl) | exact ql1 (by rfl) | exact qfa (by rfl) | exact qno (by rfl) | exact qcp (by rfl) | exact qad (by rfl)); rfl) | refine ctr ?_ | refine cfa ?_)
          exact forQ_next (Q := fun _ _ => True) [0] (k + 1) ⟨rfl, rfl, ⟨rfl, trivial⟩, ⟨rfl, rfl, rfl, rfl, trivial⟩⟩ ⟨by omega, by rw [allG_step hlt, hr, hq]; rfl⟩ (by omega)
      · have hd := dge hge
        rw [List.take_of_length_le hge] at hr
        rw [hr]
        repeat' (first | refine VC_seq ?_ | refine VC_region ?_ | refine VL_nil ?_ | refine VC_exit ?_ | refine VC_block ?_ | ((apply VL_q); (first | exact qmv (by rfl) | exact ql1 (by rfl) | exact qfa (by rfl) | exact qln (by rfl) | exact qcp (by rfl)); rfl) | refine cfa ?_)
        refine VC_for (fun k : Nat => ⟨M, [.blk 93 [.int .i64 slot, .int .i64 level, .slice P ps.length p, kv, .string high, .bool top, .int .i64 right, .int .i64 seen, .slice C ms.length c, .slice R rs.length r, .string sp.lo, .string sp.hi, .bool sp.opn]], [(1, .p 0 0), (42, .v (.slice P ps.length p)), (43, .v (.int .i64 ps.length)), (44, .v (.int .i64 k))]⟩) (fun k => k ≤ ps.length ∧ (ps.take k).all (fun p => has sp p && !decide (p = sp.lo)) = true) (fun k => ps.length - k) [0] 0 ⟨rfl, rfl, ⟨rfl, trivial⟩, ⟨rfl, rfl, rfl, rfl, trivial⟩⟩ ⟨by omega, rfl⟩ ?_
        rintro k ⟨hk, hr⟩
        rcases Nat.lt_or_ge k ps.length with hlt | hge
        · have hd := dlt hlt
          obtain ⟨b, off, rfl, hcA⟩ := oP.get hlt
          have cA := fun W => cH ps[k] W
          have stp := fun h => allG_stop hlt (p := fun p => has sp p && !decide (p = sp.lo)) h
          have stn := allG_step hlt (fun p => has sp p && !decide (p = sp.lo))
          generalize ps[k] = pk at *
          cases hq : has sp pk with
          | false =>
            rw [hq] at cA stp
            repeat' (first | refine VC_seq ?_ | refine VC_region ?_ | refine VL_nil ?_ | refine VC_ret ?_ | refine VC_block ?_ | refine VC_skip ?_ | ((apply VL_q); (first | exact qlN (by rfl) | exact QS_indexAddr (k) (by rfl) (by rfl) (by omega) (by omega) | exact QS_mload1 (by rfl) (hcA 0 _ (by rfl)) | exact QS_call (by rfl) (fun W _ => cA W) | exact qmv (by rfl) | exact qas (by rfl) | exact qfa (by rfl) | exact qno (by rfl) | exact qpt (by rfl) | exact qcp (by rfl)); rfl) | refine kno ?_ | refine ctr ?_)
            show Res _ _ _ _
            refine Res.one (by rfl) (ResV_tmp (by rfl) ?_)
            rw [stp rfl]; simp
          | true =>
            rw [hq] at cA stp stn
            cases hq3 : decide (pk = sp.lo) with
            | true =>
              rw [hq3] at stp
              repeat' (first | refine VC_seq ?_ | refine VC_region ?_ | refine VL_nil ?_ | refine VC_ret ?_ | refine VC_block ?_ | refine VC_skip ?_ | ((apply VL_q); (first | exact qlN (by rfl) | exact QS_indexAddr (k) (by rfl) (by rfl) (by omega) (by omega) | exact QS_mload1 (by rfl) (hcA 0 _ (by rfl)) | exact QS_call (by rfl) (fun W _ => cA W) | exact qmv (by rfl) | exact qas (by rfl) | exact ql1 (by rfl) | exact qfa (by rfl) | exact qno (by rfl) | exact qpf (by rfl) | exact qcp (by rfl)); rfl) | refine kyes ?_ | refine ctr ?_)
              show Res _ _ _ _
              refine Res.one (by rfl) (ResV_tmp (by rfl) ?_)
              rw [stp rfl]; simp
            | false =>
              rw [hq3] at stn
              repeat' (first | refine VC_seq ?_ | refine VC_region ?_ | refine VL_nil ?_ | refine VC_block ?_ | refine VC_skip ?_ | ((apply VL_q); (first | exact qlN (by rfl) | exact QS_indexAddr (k) (by rfl) (by rfl) (by omega) (by omega) | exact QS_mload1 (by rfl) (hcA 0 _ (by rfl)) | exact QS_call (by rfl) (fun W _ => cA W) | exact qmv (by rfl) | exact qas (by rfl) | exact ql1 (by rfl) | exact qfa (by rfl) | exact qno (by rfl) | exact qpf (by rfl) | exact qcp (by rfl) | exact qad (by rfl)); rfl) | refine kyes ?_ | refine ctr ?_ | refine cfa ?_)
              exact forQ_next (Q := fun _ _ => True) [0] (k + 1) ⟨rfl, rfl, ⟨rfl, trivial⟩, ⟨rfl, rfl, rfl, rfl, trivial⟩⟩ ⟨by omega, by rw [stn, hr]; rfl⟩ (by omega)
        · have hd := dge hge
          rw [List.take_of_length_le hge] at hr
          rw [hr]
          repeat' (first | refine VC_seq ?_ | refine VC_region ?_ | refine VL_nil ?_ | refine VC_exit ?_ | refine VC_block ?_ | ((apply VL_q); (first | exact qmv (by rfl) | exact ql1 (by rfl) | exact qfa (by rfl) | exact qln (by rfl) | exact qcp (by rfl)); rfl) | refine cfa ?_)
          refine VC_for (fun k : Nat => ⟨M, [.blk 93 [.int .i64 slot, .int .i64 level, .slice P ps.length p, kv, .string high, .bool top, .int .i64 right, .int .i64 seen, .slice C ms.length c, .slice R rs.length r, .string sp.lo, .string sp.hi, .bool sp.opn]], [(1, .p 0 0), (63, .v (.slice C ms.length c)), (64, .v (.int .i64 ms.length)), (65, .v (.int .i64 k))]⟩) (fun k => k ≤ ms.length ∧ (ms.take k).all (fun m => within (spanM m) sp) = true) (fun k => ms.length - k) [0] 0 ⟨rfl, rfl, ⟨rfl, trivial⟩, ⟨rfl, rfl, rfl, rfl, trivial⟩⟩ ⟨by omega, rfl⟩ ?_
          rintro k ⟨hk, hr⟩
          rcases Nat.lt_or_ge k ms.length with hlt | hge
          · have hd := dlt hlt
            obtain ⟨b, off, rfl, hcA⟩ := oM.get hlt
            obtain ⟨z1, z2, z3⟩ := bms _ (List.getElem_mem hlt)
            have cS := fun W => message_Span ms[k] W z1
            have stp := fun h => allG_stop hlt (p := fun m => within (spanM m) sp) h
            have stn := allG_step hlt (fun m => within (spanM m) sp)
            generalize spanM ms[k] = sm at *
            have cM := fun W => span_Within sm sp W
            cases hq : within sm sp with
            | false =>
              rw [hq] at stp cM
              repeat' (first | refine VC_seq ?_ | refine VC_region ?_ | refine VL_nil ?_ | refine VC_ret ?_ | refine VC_block ?_ | refine VC_skip ?_ | refine kall ?_ | refine ksN ?_ | ((first | apply VL_q | apply VG_q); (first | exact qlN (by rfl) | exact QS_indexAddr (k) (by rfl) (by rfl) (by omega) (by omega) | exact QS_mloadN _ (by rfl) hcA _ (by rfl) | exact QS_call (by rfl) (fun W _ => cS W) | exact QS_call (by rfl) (fun W _ => cM W) | exact qas (by rfl) | exact qfa (by rfl) | exact qno (by rfl) | exact qcp (by rfl)); rfl) | refine VG_nil ?_ | refine dQ ?_ | refine ctr ?_)
              show Res _ _ _ _
              refine Res.one (by rfl) (ResV_tmp (by rfl) ?_)
              rw [stp rfl]; simp
            | true =>
              rw [hq] at stn cM
              repeat' (first | refine VC_seq ?_ | refine VC_region ?_ | refine VL_nil ?_ | refine VC_block ?_ | refine VC_skip ?_ | refine kall ?_ | refine ksN ?_ | ((first | apply VL_q | apply VG_q); (first | exact qlN (by rfl) | exact QS_indexAddr (k) (by rfl) (by rfl) (by omega) (by omega) | exact QS_mloadN _ (by rfl) hcA _ (by rfl) | exact QS_call (by rfl) (fun W _ => cS W) | exact QS_call (by rfl) (fun W _ => cM W) | exact qmv (by rfl) | exact qfa (by rfl) | exact qno (by rfl) | exact qcp (by rfl) | exact qad (by rfl)); rfl) | refine VG_nil ?_ | refine dQ ?_ | refine ctr ?_ | refine cfa ?_)
              exact forQ_next (Q := fun _ _ => True) [0] (k + 1) ⟨rfl, rfl, ⟨rfl, trivial⟩, ⟨rfl, rfl, rfl, rfl, trivial⟩⟩ ⟨by omega, by rw [stn, hr]; rfl⟩ (by omega)
          · have hd := dge hge
            rw [List.take_of_length_le hge] at hr
            rw [hr]
            repeat' (first | refine VC_seq ?_ | refine VC_region ?_ | refine VL_nil ?_ | refine VC_ret ?_ | refine VC_exit ?_ | ((apply VL_q); (first | exact qas (by rfl) | exact qcp (by rfl)); rfl) | refine cfa ?_)
            show Res _ _ _ _
            refine Res.one (by rfl) (ResV_tmp (by rfl) ?_)
            rfl
end Go.Proofs.YtlapnbklbpeddaaGreat
