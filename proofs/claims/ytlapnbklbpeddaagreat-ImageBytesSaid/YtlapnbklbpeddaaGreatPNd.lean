/- The walks of the equalities of lists, of the node layer's Span, Has, Free, Full, Leaf, Same and of the document's answers. -/
import Derived.Test.YtlapnbklbpeddaaGreatPFr
import Derived.Test.YtlapnbklbpeddaaGreatPLg3
namespace Go.Proofs.YtlapnbklbpeddaaGreat
open Go Go.RowKit
set_option linter.unusedVariables false
set_option maxRecDepth 20000
set_option linter.unusedSimpArgs false
set_option maxHeartbeats 2000000
attribute [local irreducible] Calls
abbrev intCells (n : Int) : List Value := [.int .i64 n]
theorem ref_SameS (v u : Value) (l m : List ByteArray) (w : World) (hl : Sl w 1 strCells v l) (hm : Sl w 1 strCells u m) :
    Calls Tryz.prog 63 #[v, u] w fun e w' => e = .returned (.bool (decide (l = m))) ∧ Below w.heap.size w w' := by
  obtain ⟨A, c, rfl, hc1, hc2, _⟩ := id hl
  obtain ⟨B, c', rfl, hd1, hd2, _⟩ := id hm
  have hM := hl.toM
  have hN := hm.toM
  unfold maxLen at hc2 hd2
  by_cases hlen : l.length = m.length
  · have hne : ((l.length : Int) != (m.length : Int)) = false := by rw [hlen]; simp
    refine V_flat (args := [.slice A l.length c, .slice B m.length c']) (M := Mem.of w) Tryz.func63 rfl Tryz.ntmps63 (by rfl) (Mem.le_refl _) ?_
    repeat' (first | refine VC_seq ?_ | refine VC_region ?_ | refine VL_nil ?_ | refine VC_block ?_ | refine VC_skip ?_ | ((apply VL_q); (first | exact qmv (by rfl) | exact qas (by rfl) | exact qln (by rfl) | exact qcp (by rfl)); rfl) | refine cfa ?_)
    refine VC_for (fun k : Nat => ⟨Mem.of w, [], [(0, .v (.slice A l.length c)), (1, .v (.slice B m.length c')), (5, .v (.int .i64 k))]⟩) (fun k => k ≤ l.length ∧ l.take k = m.take k) (fun k => l.length - k) [] 0 ⟨rfl, rfl, trivial, ⟨rfl, rfl, rfl, trivial⟩⟩ ⟨by omega, rfl⟩ ?_
    rintro k ⟨hk, he⟩
    rcases Nat.lt_or_ge k l.length with hlt | hge
    · have hd := dlt hlt
      have hlt' : k < m.length := by omega
      obtain ⟨b, off, rfl, hcA⟩ := hM.get hlt
      obtain ⟨b', off', rfl, hcB⟩ := hN.get hlt'
      by_cases hq : l[k] = m[k]
      · have hq' : (!decide (l[k] = m[k])) = false := by rw [hq]; first | (unfold eqv; simp) | simp
        repeat' (first | refine VC_seq ?_ | refine VC_region ?_ | refine VL_nil ?_ | refine VC_block ?_ | refine VC_skip ?_ | ((first | apply VL_q | apply VG_q); (first | exact QS_indexAddr (k) (by rfl) (by rfl) (by omega) (by omega) | exact QS_mload1 (by rfl) (hcA 0 _ (by rfl)) | exact QS_mload1 (by rfl) (hcB 0 _ (by rfl)) | exact qmv (by rfl) | exact qas (by rfl) | exact qln (by rfl) | exact qcp (by rfl) | exact qad (by rfl)); rfl) | refine VG_nil ?_ | refine dQ ?_ | refine ctr ?_ | refine cfa ?_)
        exact forQ_next (Q := fun _ _ => True) [] (k + 1) ⟨rfl, rfl, trivial, ⟨rfl, rfl, rfl, trivial⟩⟩ ⟨by omega, by rw [List.take_succ_eq_append_getElem hlt, List.take_succ_eq_append_getElem hlt', he, hq]⟩ (by omega)
      · have hq' : (!decide (l[k] = m[k])) = true := by first | (unfold eqv; simp [hq]) | simp [hq]
        repeat' (first | refine VC_seq ?_ | refine VC_region ?_ | refine VL_nil ?_ | refine VC_ret ?_ | refine VC_block ?_ | refine VC_skip ?_ | ((first | apply VL_q | apply VG_q); (first | exact QS_indexAddr (k) (by rfl) (by rfl) (by omega) (by omega) | exact QS_mload1 (by rfl) (hcA 0 _ (by rfl)) | exact QS_mload1 (by rfl) (hcB 0 _ (by rfl)) | exact qmv (by rfl) | exact qas (by rfl) | exact qln (by rfl) | exact qcp (by rfl)); rfl) | refine VG_nil ?_ | refine dQ ?_ | refine ctr ?_)
        show Res _ _ _ _
        refine Res.one (by rfl) (ResV_tmp (by rfl) ?_)
        refine congrArg Value.bool ?_
        refine (decide_eq_false fun e => ?_).symm
        subst e
        exact hq rfl
    · have hd := dge hge
      have h1 : k = l.length := by omega
      repeat' (first | refine VC_seq ?_ | refine VC_region ?_ | refine VL_nil ?_ | refine VC_ret ?_ | refine VC_exit ?_ | ((apply VL_q); (first | exact qmv (by rfl) | exact qas (by rfl) | exact qln (by rfl) | exact qcp (by rfl)); rfl) | refine cfa ?_)
      show Res _ _ _ _
      refine Res.one (by rfl) (ResV_tmp (by rfl) ?_)
      refine congrArg Value.bool ?_
      refine (decide_eq_true ?_).symm
      rw [h1, List.take_length, hlen, List.take_length] at he
      exact he
  · have hne : ((l.length : Int) != (m.length : Int)) = true := by
      rw [bne_iff_ne]; omega
    refine V_flat (args := [.slice A l.length c, .slice B m.length c']) (M := Mem.of w) Tryz.func63 rfl Tryz.ntmps63 (by rfl) (Mem.le_refl _) ?_
    repeat' (first | refine VC_seq ?_ | refine VC_region ?_ | refine VL_nil ?_ | refine VC_ret ?_ | ((apply VL_q); (first | exact qmv (by rfl) | exact qas (by rfl) | exact qln (by rfl) | exact qcp (by rfl)); rfl) | refine ctr ?_)
    show Res _ _ _ _
    refine Res.one (by rfl) (ResV_tmp (by rfl) ?_)
    refine congrArg Value.bool ?_
    exact (decide_eq_false fun e => hlen (by rw [e])).symm
theorem ref_Ints (v u : Value) (l m : List Int) (w : World) (hl : Sl w 1 intCells v l) (hm : Sl w 1 intCells u m) :
    Calls Tryz.prog 64 #[v, u] w fun e w' => e = .returned (.bool (decide (l = m))) ∧ Below w.heap.size w w' := by
  obtain ⟨A, c, rfl, hc1, hc2, _⟩ := id hl
  obtain ⟨B, c', rfl, hd1, hd2, _⟩ := id hm
  have hM := hl.toM
  have hN := hm.toM
  unfold maxLen at hc2 hd2
  by_cases hlen : l.length = m.length
  · have hne : ((l.length : Int) != (m.length : Int)) = false := by rw [hlen]; simp
    refine V_flat (args := [.slice A l.length c, .slice B m.length c']) (M := Mem.of w) Tryz.func64 rfl Tryz.ntmps64 (by rfl) (Mem.le_refl _) ?_
    repeat' (first | refine VC_seq ?_ | refine VC_region ?_ | refine VL_nil ?_ | refine VC_block ?_ | refine VC_skip ?_ | ((apply VL_q); (first | exact qmv (by rfl) | exact qas (by rfl) | exact qln (by rfl) | exact qcp (by rfl)); rfl) | refine cfa ?_)
    refine VC_for (fun k : Nat => ⟨Mem.of w, [], [(0, .v (.slice A l.length c)), (1, .v (.slice B m.length c')), (5, .v (.int .i64 k))]⟩) (fun k => k ≤ l.length ∧ l.take k = m.take k) (fun k => l.length - k) [] 0 ⟨rfl, rfl, trivial, ⟨rfl, rfl, rfl, trivial⟩⟩ ⟨by omega, rfl⟩ ?_
    rintro k ⟨hk, he⟩
    rcases Nat.lt_or_ge k l.length with hlt | hge
    · have hd := dlt hlt
      have hlt' : k < m.length := by omega
      obtain ⟨b, off, rfl, hcA⟩ := hM.get hlt
      obtain ⟨b', off', rfl, hcB⟩ := hN.get hlt'
      by_cases hq : l[k] = m[k]
      · have hq' : (l[k] != m[k]) = false := by rw [hq]; first | (unfold eqv; simp) | simp
        repeat' (first | refine VC_seq ?_ | refine VC_region ?_ | refine VL_nil ?_ | refine VC_block ?_ | refine VC_skip ?_ | ((first | apply VL_q | apply VG_q); (first | exact QS_indexAddr (k) (by rfl) (by rfl) (by omega) (by omega) | exact QS_mload1 (by rfl) (hcA 0 _ (by rfl)) | exact QS_mload1 (by rfl) (hcB 0 _ (by rfl)) | exact qmv (by rfl) | exact qas (by rfl) | exact qln (by rfl) | exact qcp (by rfl) | exact qad (by rfl)); rfl) | refine VG_nil ?_ | refine dQ ?_ | refine ctr ?_ | refine cfa ?_)
        exact forQ_next (Q := fun _ _ => True) [] (k + 1) ⟨rfl, rfl, trivial, ⟨rfl, rfl, rfl, trivial⟩⟩ ⟨by omega, by rw [List.take_succ_eq_append_getElem hlt, List.take_succ_eq_append_getElem hlt', he, hq]⟩ (by omega)
      · have hq' : (l[k] != m[k]) = true := by first | (unfold eqv; simp [hq]) | simp [hq]
        repeat' (first | refine VC_seq ?_ | refine VC_region ?_ | refine VL_nil ?_ | refine VC_ret ?_ | refine VC_block ?_ | refine VC_skip ?_ | ((first | apply VL_q | apply VG_q); (first | exact QS_indexAddr (k) (by rfl) (by rfl) (by omega) (by omega) | exact QS_mload1 (by rfl) (hcA 0 _ (by rfl)) | exact QS_mload1 (by rfl) (hcB 0 _ (by rfl)) | exact qmv (by rfl) | exact qas (by rfl) | exact qln (by rfl) | exact qcp (by rfl)); rfl) | refine VG_nil ?_ | refine dQ ?_ | refine ctr ?_)
        show Res _ _ _ _
        refine Res.one (by rfl) (ResV_tmp (by rfl) ?_)
        refine congrArg Value.bool ?_
        refine (decide_eq_false fun e => ?_).symm
        subst e
        exact hq rfl
    · have hd := dge hge
      have h1 : k = l.length := by omega
      repeat' (first | refine VC_seq ?_ | refine VC_region ?_ | refine VL_nil ?_ | refine VC_ret ?_ | refine VC_exit ?_ | ((apply VL_q); (first | exact qmv (by rfl) | exact qas (by rfl) | exact qln (by rfl) | exact qcp (by rfl)); rfl) | refine cfa ?_)
      show Res _ _ _ _
      refine Res.one (by rfl) (ResV_tmp (by rfl) ?_)
      refine congrArg Value.bool ?_
      refine (decide_eq_true ?_).symm
      rw [h1, List.take_length, hlen, List.take_length] at he
      exact he
  · have hne : ((l.length : Int) != (m.length : Int)) = true := by
      rw [bne_iff_ne]; omega
    refine V_flat (args := [.slice A l.length c, .slice B m.length c']) (M := Mem.of w) Tryz.func64 rfl Tryz.ntmps64 (by rfl) (Mem.le_refl _) ?_
    repeat' (first | refine VC_seq ?_ | refine VC_region ?_ | refine VL_nil ?_ | refine VC_ret ?_ | ((apply VL_q); (first | exact qmv (by rfl) | exact qas (by rfl) | exact qln (by rfl) | exact qcp (by rfl)); rfl) | refine ctr ?_)
    show Res _ _ _ _
    refine Res.one (by rfl) (ResV_tmp (by rfl) ?_)
    refine congrArg Value.bool ?_
    exact (decide_eq_false fun e => hlen (by rw [e])).symm
theorem ref_SameP (v u : Value) (l m : List Pair) (w : World) (hl : Sl w 2 pairCells v l) (hm : Sl w 2 pairCells u m) :
    Calls Tryz.prog 66 #[v, u] w fun e w' => e = .returned (.bool (decide (l = m))) ∧ Below w.heap.size w w' := by
  obtain ⟨A, c, rfl, hc1, hc2, _⟩ := id hl
  obtain ⟨B, c', rfl, hd1, hd2, _⟩ := id hm
  have hM := hl.toM
  have hN := hm.toM
  unfold maxLen at hc2 hd2
  by_cases hlen : l.length = m.length
  · have hne : ((l.length : Int) != (m.length : Int)) = false := by rw [hlen]; simp
    refine V_flat (args := [.slice A l.length c, .slice B m.length c']) (M := Mem.of w) Tryz.func66 rfl Tryz.ntmps66 (by rfl) (Mem.le_refl _) ?_
    repeat' (first | refine VC_seq ?_ | refine VC_region ?_ | refine VL_nil ?_ | refine VC_block ?_ | refine VC_skip ?_ | ((apply VL_q); (first | exact qmv (by rfl) | exact qas (by rfl) | exact qln (by rfl) | exact qcp (by rfl)); rfl) | refine cfa ?_)
    refine VC_for (fun k : Nat => ⟨Mem.of w, [], [(0, .v (.slice A l.length c)), (1, .v (.slice B m.length c')), (5, .v (.int .i64 k))]⟩) (fun k => k ≤ l.length ∧ l.take k = m.take k) (fun k => l.length - k) [] 0 ⟨rfl, rfl, trivial, ⟨rfl, rfl, rfl, trivial⟩⟩ ⟨by omega, rfl⟩ ?_
    rintro k ⟨hk, he⟩
    rcases Nat.lt_or_ge k l.length with hlt | hge
    · have hd := dlt hlt
      have hlt' : k < m.length := by omega
      obtain ⟨b, off, rfl, hcA⟩ := hM.get hlt
      obtain ⟨b', off', rfl, hcB⟩ := hN.get hlt'
      by_cases hq : l[k] = m[k]
      · have hq' : (!eqv l[k] m[k]) = false := by rw [hq]; first | (unfold eqv; simp) | simp
        repeat' (first | refine VC_seq ?_ | refine VC_region ?_ | refine VL_nil ?_ | refine VC_block ?_ | refine VC_skip ?_ | ((first | apply VL_q | apply VG_q); (first | exact QS_indexAddr (k) (by rfl) (by rfl) (by omega) (by omega) | exact QS_mloadN _ (by rfl) hcA _ (by rfl) | exact QS_mloadN _ (by rfl) hcB _ (by rfl) | exact qmv (by rfl) | exact qas (by rfl) | exact qln (by rfl) | exact qcp (by rfl) | exact qad (by rfl) | exact QS_bin (by rfl) (by rfl) (by exact Bq_neq_Pair)); rfl) | refine VG_nil ?_ | refine dQ ?_ | refine ctr ?_ | refine cfa ?_)
        exact forQ_next (Q := fun _ _ => True) [] (k + 1) ⟨rfl, rfl, trivial, ⟨rfl, rfl, rfl, trivial⟩⟩ ⟨by omega, by rw [List.take_succ_eq_append_getElem hlt, List.take_succ_eq_append_getElem hlt', he, hq]⟩ (by omega)
      · have hq' : (!eqv l[k] m[k]) = true := by first | (unfold eqv; simp [hq]) | simp [hq]
        repeat' (first | refine VC_seq ?_ | refine VC_region ?_ | refine VL_nil ?_ | refine VC_ret ?_ | refine VC_block ?_ | refine VC_skip ?_ | ((first | apply VL_q | apply VG_q); (first | exact QS_indexAddr (k) (by rfl) (by rfl) (by omega) (by omega) | exact QS_mloadN _ (by rfl) hcA _ (by rfl) | exact QS_mloadN _ (by rfl) hcB _ (by rfl) | exact qmv (by rfl) | exact qas (by rfl) | exact qln (by rfl) | exact qcp (by rfl) | exact QS_bin (by rfl) (by rfl) (by exact Bq_neq_Pair)); rfl) | refine VG_nil ?_ | refine dQ ?_ | refine ctr ?_)
        show Res _ _ _ _
        refine Res.one (by rfl) (ResV_tmp (by rfl) ?_)
        refine congrArg Value.bool ?_
        refine (decide_eq_false fun e => ?_).symm
        subst e
        exact hq rfl
    · have hd := dge hge
      have h1 : k = l.length := by omega
      repeat' (first | refine VC_seq ?_ | refine VC_region ?_ | refine VL_nil ?_ | refine VC_ret ?_ | refine VC_exit ?_ | ((apply VL_q); (first | exact qmv (by rfl) | exact qas (by rfl) | exact qln (by rfl) | exact qcp (by rfl)); rfl) | refine cfa ?_)
      show Res _ _ _ _
      refine Res.one (by rfl) (ResV_tmp (by rfl) ?_)
      refine congrArg Value.bool ?_
      refine (decide_eq_true ?_).symm
      rw [h1, List.take_length, hlen, List.take_length] at he
      exact he
  · have hne : ((l.length : Int) != (m.length : Int)) = true := by
      rw [bne_iff_ne]; omega
    refine V_flat (args := [.slice A l.length c, .slice B m.length c']) (M := Mem.of w) Tryz.func66 rfl Tryz.ntmps66 (by rfl) (Mem.le_refl _) ?_
    repeat' (first | refine VC_seq ?_ | refine VC_region ?_ | refine VL_nil ?_ | refine VC_ret ?_ | ((apply VL_q); (first | exact qmv (by rfl) | exact qas (by rfl) | exact qln (by rfl) | exact qcp (by rfl)); rfl) | refine ctr ?_)
    show Res _ _ _ _
    refine Res.one (by rfl) (ResV_tmp (by rfl) ?_)
    refine congrArg Value.bool ?_
    exact (decide_eq_false fun e => hlen (by rw [e])).symm
/-- A node: its cells, and what its slices read as. -/
structure Nd where
  slot : Int
  level : Int
  pv : Value
  ps : List ByteArray
  kv : Value
  ks : List Int
  high : ByteArray
  top : Bool
  right : Int
  seen : Int
  mv : Value
  ms : List Msg
  rv : Value
  rs : List Pair
def Nd.Ok (M : Mem) (n : Nd) : Prop := SlM M 1 strCells n.pv n.ps ∧ SlM M 1 intCells n.kv n.ks ∧ SlM M 6 msgCells n.mv n.ms ∧ SlM M 2 pairCells n.rv n.rs
theorem Nd.Ok.mono {M M' : Mem} {n : Nd} (h : n.Ok M) (hle : M.le M') : n.Ok M' := ⟨h.1.mono hle, h.2.1.mono hle, h.2.2.1.mono hle, h.2.2.2.mono hle⟩
def spanN (n : Nd) : Span := if n.top = true then all else norm ⟨em, n.high, false⟩
def hasN (n : Nd) (k : ByteArray) : Bool := n.top || lt k n.high
theorem has_spanN (n : Nd) (k : ByteArray) : has (spanN n) k = hasN n k := by
  unfold spanN hasN
  cases n.top with
  | true => rw [if_pos rfl, has_all]; rfl
  | false =>
    rw [if_neg (by simp), has_norm]
    unfold has
    rw [lt_em]; rfl
theorem node_Span (n : Nd) (w : World) : Calls Tryz.prog 99 #[.agg #[.int .i64 n.slot, .int .i64 n.level, n.pv, n.kv, .string n.high, .bool n.top, .int .i64 n.right, .int .i64 n.seen, n.mv, n.rv]] w fun e w' => e = .returned (.agg #[.string (spanN n).lo, .string (spanN n).hi, .bool (spanN n).opn]) ∧ Below w.heap.size w w' := by
  have cA := fun W => span_All W
  have cN := fun W => span_Norm ⟨em, n.high, false⟩ W
  unfold spanN
  rcases Bool.eq_false_or_eq_true n.top with ht | ht
  · rw [if_pos ht]
    refine V_flat (args := [.agg #[.int .i64 n.slot, .int .i64 n.level, n.pv, n.kv, .string n.high, .bool n.top, .int .i64 n.right, .int .i64 n.seen, n.mv, n.rv]]) (M := Mem.no) Tryz.func99 rfl Tryz.ntmps99 (by rfl) (Mem.no_le _) ?_
    repeat' (first | refine VC_seq ?_ | refine VC_region ?_ | refine VL_nil ?_ | refine VC_ret ?_ | refine kbox ?_ | refine kall ?_ | refine ksN ?_ | ((apply VL_q); (first | exact QS_call (by rfl) (fun W _ => cA W) | exact ql1 (by rfl) | exact qfa (by rfl)); rfl) | refine ctr ?_)
    show Res _ _ _ _
    refine Res.one (by rfl) (ResV_agg (by rfl) (by rfl) _ (by rfl) ?_)
    rfl
  · rw [if_neg (by rw [ht]; simp)]
    refine V_flat (args := [.agg #[.int .i64 n.slot, .int .i64 n.level, n.pv, n.kv, .string n.high, .bool n.top, .int .i64 n.right, .int .i64 n.seen, n.mv, n.rv]]) (M := Mem.no) Tryz.func99 rfl Tryz.ntmps99 (by rfl) (Mem.no_le _) ?_
    repeat' (first | refine VC_seq ?_ | refine VC_region ?_ | refine VL_nil ?_ | refine VC_ret ?_ | refine VC_skip ?_ | refine kbox ?_ | refine kall ?_ | refine ksN ?_ | ((apply VL_q); (first | exact QS_call (by rfl) (fun W _ => cN W) | exact ql1 (by rfl) | exact qfa (by rfl) | exact qbd (by rfl)); rfl) | refine cfa ?_)
    show Res _ _ _ _
    refine Res.one (by rfl) (ResV_agg (by rfl) (by rfl) _ (by rfl) ?_)
    rfl
theorem node_Has (n : Nd) (k : ByteArray) (w : World) : Calls Tryz.prog 73 #[.agg #[.int .i64 n.slot, .int .i64 n.level, n.pv, n.kv, .string n.high, .bool n.top, .int .i64 n.right, .int .i64 n.seen, n.mv, n.rv], .string k] w fun e w' => e = .returned (.bool (hasN n k)) ∧ Below w.heap.size w w' := by
  have c1 := fun W => node_Span n W
  have c2 := fun W => span_Has (spanN n) k W
  refine V_flat (args := [.agg #[.int .i64 n.slot, .int .i64 n.level, n.pv, n.kv, .string n.high, .bool n.top, .int .i64 n.right, .int .i64 n.seen, n.mv, n.rv], .string k]) (M := Mem.no) Tryz.func73 rfl Tryz.ntmps73 (by rfl) (Mem.no_le _) ?_
  repeat' (first | refine VC_seq ?_ | refine VC_region ?_ | refine VL_nil ?_ | refine VC_ret ?_ | refine kbox ?_ | ((apply VL_q); (first | exact QS_call (by rfl) (fun W _ => c1 W) | exact QS_call (by rfl) (fun W _ => c2 W) | exact qmv (by rfl) | exact qas (by rfl) | exact qlA (by rfl)); rfl))
  show Res _ _ _ _
  refine Res.one (by rfl) (ResV_tmp (by rfl) ?_)
  rw [has_spanN]
theorem ref_HasN (n : Nd) (k : ByteArray) (w : World) (hz : n.high.size ≤ 1000000) (hk : k.size ≤ 1000000) : Calls Tryz.prog 90 #[.agg #[.int .i64 n.slot, .int .i64 n.level, n.pv, n.kv, .string n.high, .bool n.top, .int .i64 n.right, .int .i64 n.seen, n.mv, n.rv], .string k] w fun e w' => e = .returned (.bool (hasN n k)) ∧ Below w.heap.size w w' := by
  have c1 : ∀ W, Calls Tryz.prog 87 #[.string k, .string n.high] W fun e w' => e = .returned (.bool (lt k n.high)) ∧ Below W.heap.size W w' := fun W => ref_Less k n.high (by unfold maxLen; omega) (by unfold maxLen; omega) W
  unfold hasN
  rcases Bool.eq_false_or_eq_true n.top with ht | ht
  · skip
    refine V_flat (args := [.agg #[.int .i64 n.slot, .int .i64 n.level, n.pv, n.kv, .string n.high, .bool n.top, .int .i64 n.right, .int .i64 n.seen, n.mv, n.rv], .string k]) (M := Mem.no) Tryz.func90 rfl Tryz.ntmps90 (by rfl) (Mem.no_le _) ?_
    repeat' (first | refine VC_seq ?_ | refine VC_region ?_ | refine VL_nil ?_ | refine VC_ret ?_ | refine kbox ?_ | ((apply VL_q); (first | exact qmv (by rfl) | exact qas (by rfl) | exact ql1 (by rfl) | exact qfa (by rfl) | exact qpt (by rfl)); rfl) | refine kno ?_)
    show Res _ _ _ _
    refine Res.one (by rfl) (ResV_tmp (by rfl) ?_)
    rw [ht]; rfl
  · skip
    refine V_flat (args := [.agg #[.int .i64 n.slot, .int .i64 n.level, n.pv, n.kv, .string n.high, .bool n.top, .int .i64 n.right, .int .i64 n.seen, n.mv, n.rv], .string k]) (M := Mem.no) Tryz.func90 rfl Tryz.ntmps90 (by rfl) (Mem.no_le _) ?_
    repeat' (first | refine VC_seq ?_ | refine VC_region ?_ | refine VL_nil ?_ | refine VC_ret ?_ | refine kbox ?_ | ((apply VL_q); (first | exact QS_call (by rfl) (fun W _ => c1 W) | exact qmv (by rfl) | exact qas (by rfl) | exact ql1 (by rfl) | exact qfa (by rfl) | exact qpf (by rfl)); rfl) | refine kyes ?_)
    show Res _ _ _ _
    refine Res.one (by rfl) (ResV_tmp (by rfl) ?_)
    rw [ht]; rfl
def headN (a b : Nd) : Bool := (a.slot == b.slot) && (a.level == b.level) && decide (a.high = b.high) && (a.top == b.top) && (a.right == b.right) && (a.seen == b.seen)
def sameN (a b : Nd) : Bool := headN a b && decide (a.ps = b.ps) && decide (a.ks = b.ks) && decide (a.ms = b.ms) && decide (a.rs = b.rs)
theorem ref_SameN (a b : Nd) (w : World) (ha : a.Ok (Mem.of w)) (hb : b.Ok (Mem.of w)) : Calls Tryz.prog 34 #[.agg #[.int .i64 a.slot, .int .i64 a.level, a.pv, a.kv, .string a.high, .bool a.top, .int .i64 a.right, .int .i64 a.seen, a.mv, a.rv], .agg #[.int .i64 b.slot, .int .i64 b.level, b.pv, b.kv, .string b.high, .bool b.top, .int .i64 b.right, .int .i64 b.seen, b.mv, b.rv]] w fun e w' => e = .returned (.bool (sameN a b)) ∧ Below w.heap.size w w' := by
  have c1 := fun W hW => ref_SameS a.pv b.pv a.ps b.ps W (ha.1.toSl hW) (hb.1.toSl hW)
  have c2 := fun W hW => ref_Ints a.kv b.kv a.ks b.ks W (ha.2.1.toSl hW) (hb.2.1.toSl hW)
  have c3 := fun W hW => ref_SameM a.mv b.mv a.ms b.ms W (ha.2.2.1.toSl hW) (hb.2.2.1.toSl hW)
  have c4 := fun W hW => ref_SameP a.rv b.rv a.rs b.rs W (ha.2.2.2.toSl hW) (hb.2.2.2.toSl hW)
  refine V_flat (args := [.agg #[.int .i64 a.slot, .int .i64 a.level, a.pv, a.kv, .string a.high, .bool a.top, .int .i64 a.right, .int .i64 a.seen, a.mv, a.rv], .agg #[.int .i64 b.slot, .int .i64 b.level, b.pv, b.kv, .string b.high, .bool b.top, .int .i64 b.right, .int .i64 b.seen, b.mv, b.rv]]) (M := Mem.of w) Tryz.func34 rfl Tryz.ntmps34 (by rfl) (Mem.le_refl _) ?_
  repeat' (first | refine VC_seq ?_ | refine VC_region ?_ | refine VL_nil ?_ | refine VC_ret ?_ | refine VC_skip ?_ | refine kbox ?_ | ((apply VL_q); (first | exact QS_call (by rfl) c1 | exact QS_call (by rfl) c2 | exact QS_call (by rfl) c3 | exact QS_call (by rfl) c4 | exact qmv (by rfl) | exact qas (by rfl) | exact ql1 (by rfl) | exact qfa (by rfl) | exact qpt (by rfl) | exact qpf (by rfl) | exact qcp (by rfl) | exact qbn (by rfl)); rfl) | refine kyes ?_ | refine kno ?_ | refine ctr ?_ | refine kdec (fun hq => ?_) (fun hq => ?_) | refine cco (fun hq => ?_) (fun hq => ?_))
  all_goals
    show Res _ _ _ _
    refine Res.one (by rfl) (ResV_tmp (by rfl) ?_)
    refine congrArg Value.bool ?_
    unfold sameN headN
    simp_all [bne]
end Go.Proofs.YtlapnbklbpeddaaGreat
