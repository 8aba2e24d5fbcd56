/- The walks of the equalities of lists, of the node layer's Span, Has, Free, Full, Leaf, Same and of the document's answers. -/
import Derived.Test.YtlapnbklbpeddaaGreatPFr
import Derived.Test.YtlapnbklbpeddaaGreatPLg3
namespace Go.Proofs.YtlapnbklbpeddaaGreat
open Go Go.RowKit
set_option linter.unusedVariables false
set_option maxRecDepth 20000
set_option linter.unusedSimpArgs false
set_option maxHeartbeats 2000000
attribute [local irreducible] Calls
abbrev intCells (n : Int) : List Value := [.int .i64 n]
/-- A node: its cells, and what its slices read as. -/
structure Nd where
  slot : Int
  level : Int
  pv : Value
  ps : List ByteArray
  kv : Value
  ks : List Int
  high : ByteArray
  top : Bool
  right : Int
  seen : Int
  mv : Value
  ms : List Msg
  rv : Value
  rs : List Pair
def Nd.Ok (M : Mem) (n : Nd) : Prop := SlM M 1 strCells n.pv n.ps ∧ SlM M 1 intCells n.kv n.ks ∧ SlM M 6 msgCells n.mv n.ms ∧ SlM M 2 pairCells n.rv n.rs
theorem Nd.Ok.mono {M M' : Mem} {n : Nd} (h : n.Ok M) (hle : M.le M') : n.Ok M' := ⟨h.1.mono hle, h.2.1.mono hle, h.2.2.1.mono hle, h.2.2.2.mono hle⟩
def spanN (n : Nd) : Span := if n.top = true then all else norm ⟨em, n.high, false⟩
def hasN (n : Nd) (k : ByteArray) : Bool := n.top || lt k n.high
theorem has_spanN (n : Nd) (k : ByteArray) : has (spanN n) k = hasN n k := by
  unfold spanN hasN
  cases n.top with
  | true => rw [if_pos rfl, has_all]; rfl
  | false =>
    rw [if_neg (by simp), has_norm]
    unfold has
    rw [lt_em]; rfl
theorem node_Span (n : Nd) (w : World) : Calls Tryz.prog 99 #[.agg #[.int .i64 n.slot, .int .i64 n.level, n.pv, n.kv, .string n.high, .bool n.top, .int .i64 n.right, .int .i64 n.seen, n.mv, n.rv]] w fun e w' => e = .returned (.agg #[.string (spanN n).lo, .string (spanN n).hi, .bool (spanN n).opn]) ∧ Below w.heap.size w w' := by
  have cA := fun W => span_All W
  have cN := fun W => span_Norm ⟨em, n.high, false⟩ W
  unfold spanN
  rcases Bool.eq_false_or_eq_true n.top with ht | ht
  · rw [if_pos ht]
    refine V_flat (args := [.agg #[.int .i64 n.slot, .int .i64 n.level, n.pv, n.kv, .string n.high, .bool n.top, .int .i64 n.right, .int .i64 n.seen, n.mv, n.rv]]) (M := Mem.no) Tryz.func99 rfl Tryz.ntmps99 (by rfl) (Mem.no_le _) ?_
    repeat' (first | refine VC_seq ?_ | refine VC_region ?_ | refine VL_nil ?_ | refine VC_ret ?_ | refine kbox ?_ | refine kall ?_ | refine ksN ?_ | ((apply VL_q); (first | exact QS_call (by rfl) (fun W _ => cA W) | exact ql1 (by rfl) | exact qfa (by rfl)); rfl) | refine ctr ?_)
    show Res _ _ _ _
    refine Res.one (by rfl) (ResV_agg (by rfl) (by rfl) _ (by rfl) ?_)
    rfl
  · rw [if_neg (by rw [ht]; simp)]
    refine V_flat (args := [.agg #[.int .i64 n.slot, .int .i64 n.level, n.pv, n.kv, .string n.high, .bool n.top, .int .i64 n.right, .int .i64 n.seen, n.mv, n.rv]]) (M := Mem.no) Tryz.func99 rfl Tryz.ntmps99 (by rfl) (Mem.no_le _) ?_
    repeat' (first | refine VC_seq ?_ | refine VC_region ?_ | refine VL_nil ?_ | refine VC_ret ?_ | refine VC_skip ?_ | refine kbox ?_ | refine kall ?_ | refine ksN ?_ | ((apply VL_q); (first | exact QS_call (by rfl) (fun W _ => cN W) | exact ql1 (by rfl) | exact qfa (by rfl) | exact qbd (by rfl)); rfl) | refine cfa ?_)
    show Res _ _ _ _
    refine Res.one (by rfl) (ResV_agg (by rfl) (by rfl) _ (by rfl) ?_)
    rfl
theorem node_Has (n : Nd) (k : ByteArray) (w : World) : Calls Tryz.prog 73 #[.agg #[.int .i64 n.slot, .int .i64 n.level, n.pv, n.kv, .string n.high, .bool n.top, .int .i64 n.right, .int .i64 n.seen, n.mv, n.rv], .string k] w fun e w' => e = .returned (.bool (hasN n k)) ∧ Below w.heap.size w w' := by
  have c1 := fun W => node_Span n W
  have c2 := fun W => span_Has (spanN n) k W
  refine V_flat (args := [.agg #[.int .i64 n.slot, .int .i64 n.level, n.pv, n.kv, .string n.high, .bool n.top, .int .i64 n.right, .int .i64 n.seen, n.mv, n.rv], .string k]) (M := Mem.no) Tryz.func73 rfl Tryz.ntmps73 (by rfl) (Mem.no_le _) ?_
  repeat' (first | refine VC_seq ?_ | refine VC_region ?_ | refine VL_nil ?_ | refine VC_ret ?_ | refine kbox ?_ | ((apply VL_q); (first | exact QS_call (by rfl) (fun W _ => c1 W) | exact QS_call (by rfl) (fun W _ => c2 W) | exact qmv (by rfl) | exact qas (by rfl) | exact qlA (by rfl)); rfl))
  show Res _ _ _ _
  refine Res.one (by rfl) (ResV_tmp (by rfl) ?_)
  rw [has_spanN]
theorem ref_HasN (n : Nd) (k : ByteArray) (w : World) (hz : n.high.size ≤ 1000000) (hk : k.size ≤ 1000000) : Calls Tryz.prog 90 #[.agg #[.int .i64 n.slot, .int .i64 n.level, n.pv, n.kv, .string n.high, .bool n.top, .int .i64 n.right, .int .i64 n.seen, n.mv, n.rv], .string k] w fun e w' => e = .returned (.bool (hasN n k)) ∧ Below w.heap.size w w' := by
  have c1 : ∀ W, Calls Tryz.prog 87 #[.string k, .string n.high] W fun e w' => e = .returned (.bool (lt k n.high)) ∧ Below W.heap.size W w' := fun W => ref_Less k n.high (by unfold maxLen; omega) (by unfold maxLen; omega) W
  unfold hasN
  rcases Bool.eq_false_or_eq_true n.top with ht | ht
  · skip
    refine V_flat (args := [.agg #[.int .i64 n.slot, .int .i64 n.level, n.pv, n.kv, .string n.high, .bool n.top, .int .i64 n.right, .int .i64 n.seen, n.mv, n.rv], .string k]) (M := Mem.no) Tryz.func90 rfl Tryz.ntmps90 (by rfl) (Mem.no_le _) ?_
    repeat' (first | refine VC_seq ?_ | refine VC_region ?_ | refine VL_nil ?_ | refine VC_ret ?_ | refine kbox ?_ | ((apply VL_q); (first | exact qmv (by rfl) | exact qas (by rfl) | exact ql1 (by rfl) | exact qfa (by rfl) | exact qpt (by rfl)); rfl) | refine kno ?_)
    show Res _ _ _ _
    refine Res.one (by rfl) (ResV_tmp (by rfl) ?_)
    rw [ht]; rfl
  · skip
    refine V_flat (args := [.agg #[.int .i64 n.slot, .int .i64 n.level, n.pv, n.kv, .string n.high, .bool n.top, .int .i64 n.right, .int .i64 n.seen, n.mv, n.rv], .string k]) (M := Mem.no) Tryz.func90 rfl Tryz.ntmps90 (by rfl) (Mem.no_le _) ?_
    repeat' (first | refine VC_seq ?_ | refine VC_region ?_ | refine VL_nil ?_ | refine VC_ret ?_ | refine kbox ?_ | ((apply VL_q); (first | exact QS_call (by rfl) (fun W _ => c1 W) | exact qmv (by rfl) | exact qas (by rfl) | exact ql1 (by rfl) | exact qfa (by rfl) | exact qpf (by rfl)); rfl) | refine kyes ?_)
    show Res _ _ _ _
    refine Res.one (by rfl) (ResV_tmp (by rfl) ?_)
    rw [ht]; rfl
end Go.Proofs.YtlapnbklbpeddaaGreat
