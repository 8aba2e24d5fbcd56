/- Whether a configuration may be. -/
import Derived.Test.YtlapnbklbpeddaaGreatPFd
import Derived.Test.YtlapnbklbpeddaaGreatPNd6
namespace Go.Proofs.YtlapnbklbpeddaaGreat
open Go Go.RowKit
attribute [local irreducible] Calls
set_option linter.unusedVariables false
set_option maxRecDepth 20000
set_option linter.unusedSimpArgs false
set_option maxHeartbeats 4000000
def amongB (n a b : Int) : Bool := decide (a ≤ n) && decide (n ≤ b)
theorem store_among (n a b : Int) (w : World) : Calls Tryz.prog 35 #[.int .i64 n, .int .i64 a, .int .i64 b] w fun e w' => e = .returned (.bool (amongB n a b)) ∧ Below w.heap.size w w' := by
  unfold amongB
  refine V_flat (args := [.int .i64 n, .int .i64 a, .int .i64 b]) (M := Mem.no) Tryz.func35 rfl Tryz.ntmps35 (by rfl) (Mem.no_le _) ?_
  repeat' (first | refine VC_seq ?_ | refine VC_region ?_ | refine VL_nil ?_ | refine VC_ret ?_ | ((apply VL_q); (first | exact qmv (by rfl) | exact qas (by rfl) | exact qpt (by rfl) | exact qpf (by rfl) | exact qcp (by rfl)); rfl) | refine kyes ?_ | refine kno ?_ | refine kdec (fun hq => ?_) (fun hq => ?_))
  all_goals
    show Res _ _ _ _
    refine Res.one (by rfl) (ResV_tmp (by rfl) ?_)
    simp_all
    try (intros; omega)
def okC (c : Cfg) : Bool := amongB c.fanout 4 64 && (amongB c.leaf 2 64 && (amongB c.budget 36 4096 && (amongB c.slots 1 4096 && amongB c.restarts 0 100)))
theorem store_RightC (c : Cfg) (w : World) : Calls Tryz.prog 17 #[.agg #[.int .i64 c.fanout, .int .i64 c.leaf, .int .i64 c.budget, .int .i64 c.slots, .int .i64 c.restarts]] w fun e w' => e = .returned (.bool (okC c)) ∧ Below w.heap.size w w' := by
  unfold okC
  have cA := fun n a b W => store_among n a b W
  cases h1 : amongB c.fanout 4 64
  all_goals cases h2 : amongB c.leaf 2 64
  all_goals cases h3 : amongB c.budget 36 4096
  all_goals cases h4 : amongB c.slots 1 4096
  all_goals
    have c1 := fun W => cA c.fanout 4 64 W
    have c2 := fun W => cA c.leaf 2 64 W
    have c3 := fun W => cA c.budget 36 4096 W
    have c4 := fun W => cA c.slots 1 4096 W
    have c5 := fun W => cA c.restarts 0 100 W
    rw [h1] at c1
    rw [h2] at c2
    rw [h3] at c3
    rw [h4] at c4
    refine V_flat (args := [.agg #[.int .i64 c.fanout, .int .i64 c.leaf, .int .i64 c.budget, .int .i64 c.slots, .int .i64 c.restarts]]) (M := Mem.no) Tryz.func17 rfl Tryz.ntmps17 (by rfl) (Mem.no_le _) ?_
    repeat' (first | refine VC_seq ?_ | refine VC_region ?_ | refine VL_nil ?_ | refine VC_ret ?_ | refine kbox ?_ | ((apply VL_q); (first | exact QS_call (by rfl) (fun W _ => c1 W) | exact QS_call (by rfl) (fun W _ => c2 W) | exact QS_call (by rfl) (fun W _ => c3 W) | exact QS_call (by rfl) (fun W _ => c4 W) | exact QS_call (by rfl) (fun W _ => c5 W) | exact qmv (by rfl) | exact qas (by rfl) | exact ql1 (by rfl) | exact qfa (by rfl) | exact qpt (by rfl) | exact qpf (by rfl)); rfl) | refine kyes ?_ | refine kno ?_)
    show Res _ _ _ _
    refine Res.one (by rfl) (ResV_tmp (by rfl) ?_)
    first | rfl | simp
theorem ref_RightC (c : Cfg) (w : World) : Calls Tryz.prog 8 #[.agg #[.int .i64 c.fanout, .int .i64 c.leaf, .int .i64 c.budget, .int .i64 c.slots, .int .i64 c.restarts]] w fun e w' => e = .returned (.bool (okC c)) ∧ Below w.heap.size w w' := by
  refine V_flat (args := [.agg #[.int .i64 c.fanout, .int .i64 c.leaf, .int .i64 c.budget, .int .i64 c.slots, .int .i64 c.restarts]]) (M := Mem.no) Tryz.func8 rfl Tryz.ntmps8 (by rfl) (Mem.no_le _) ?_
  repeat' (first | refine VC_seq ?_ | refine VC_region ?_ | refine VL_nil ?_ | refine VC_ret ?_ | refine kbox ?_ | ((apply VL_q); (first | exact qmv (by rfl) | exact qas (by rfl) | exact ql1 (by rfl) | exact qfa (by rfl) | exact qpt (by rfl) | exact qpf (by rfl) | exact qcp (by rfl)); rfl) | refine kyes ?_ | refine kno ?_ | refine kdec (fun hq => ?_) (fun hq => ?_))
  all_goals
    show Res _ _ _ _
    refine Res.one (by rfl) (ResV_tmp (by rfl) ?_)
    refine congrArg Value.bool ?_
    unfold okC amongB
    simp_all
    try (intros; omega)
end Go.Proofs.YtlapnbklbpeddaaGreat
