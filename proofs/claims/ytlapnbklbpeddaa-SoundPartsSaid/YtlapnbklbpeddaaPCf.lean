/- Whether a configuration may be. -/
import Derived.Test.YtlapnbklbpeddaaPFd
import Derived.Test.YtlapnbklbpeddaaPNd6
namespace Go.Proofs.Ytlapnbklbpeddaa
open Go Go.RowKit
attribute [local irreducible] Calls
set_option linter.unusedVariables false
set_option maxRecDepth 20000
set_option linter.unusedSimpArgs false
set_option maxHeartbeats 4000000
def amongB (n a b : Int) : Bool := decide (a ≤ n) && decide (n ≤ b)
def okC (c : Cfg) : Bool := amongB c.fanout 4 64 && (amongB c.leaf 2 64 && (amongB c.budget 36 4096 && (amongB c.slots 1 4096 && amongB c.restarts 0 100)))
theorem ref_RightC (c : Cfg) (w : World) : Calls Try.prog 24 #[.agg #[.int .i64 c.fanout, .int .i64 c.leaf, .int .i64 c.budget, .int .i64 c.slots, .int .i64 c.restarts]] w fun e w' => e = .returned (.bool (okC c)) ∧ Below w.heap.size w w' := by
  refine V_flat (args := [.agg #[.int .i64 c.fanout, .int .i64 c.leaf, .int .i64 c.budget, .int .i64 c.slots, .int .i64 c.restarts]]) (M := Mem.no) Try.func24 rfl Try.ntmps24 (by rfl) (Mem.no_le _) ?_
  repeat' (first | refine VC_seq ?_ | refine VC_region ?_ | refine VL_nil ?_ | refine VC_ret ?_ | refine kbox ?_ | ((apply VL_q); (first | exact qmv (by rfl) | exact qas (by rfl) | exact ql1 (by rfl) | exact qfa (by rfl) | exact qpt (by rfl) | exact qpf (by rfl) | exact qcp (by rfl)); rfl) | refine kyes ?_ | refine kno ?_ | refine kdec (fun hq => ?_) (fun hq => ?_))
  all_goals
    show Res _ _ _ _
    refine Res.one (by rfl) (ResV_tmp (by rfl) ?_)
    refine congrArg Value.bool ?_
    unfold okC amongB
    simp_all
    try (intros; omega)
end Go.Proofs.Ytlapnbklbpeddaa
