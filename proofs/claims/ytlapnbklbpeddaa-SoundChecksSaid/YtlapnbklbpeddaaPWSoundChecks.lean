/- The walk of SoundChecks. -/
import Derived.Test.YtlapnbklbpeddaaPSnA
namespace Go.Proofs.Ytlapnbklbpeddaa.lawSoundChecks
open Go Go.RowKit
set_option linter.unusedVariables false
set_option maxRecDepth 20000
set_option linter.unusedSimpArgs false
set_option maxHeartbeats 4000000
attribute [local irreducible] Calls
theorem walk (c : Cfg) (v : Value) (l : List Nd) (w : World) (hl : Sl w 10 ndCells v l) (hn : ∀ a ∈ l, a.Ok (Mem.of w) ∧ a.In) (hlen : l.length * 152 ≤ 140737488351232) :
    Calls Try.prog 3 #[.agg #[.int .i64 c.fanout, .int .i64 c.leaf, .int .i64 c.budget, .int .i64 c.slots, .int .i64 c.restarts], v] w fun e w' => e = .returned (.bool true) ∧ Below w.heap.size w w' := by
  have hM := hl.toM
  have cA := fun W => sound_awake W
  have c1 := fun W (hW : (Mem.of w).le (Mem.of W)) => ref_LightN v l 60 1000 W (Mem.of w) hW hM (fun a ha => (hn a ha).1) (fun a ha => (hn a ha).2) (by omega) (by omega) (by omega)
  cases hL : lightL 60 1000 l with
  | false =>
    rw [hL] at c1
    refine V_flat (args := [.agg #[.int .i64 c.fanout, .int .i64 c.leaf, .int .i64 c.budget, .int .i64 c.slots, .int .i64 c.restarts], v]) (M := Mem.of w) Try.func3 rfl Try.ntmps3 (by rfl) (Mem.le_refl _) ?_
    repeat' (first | refine VC_seq ?_ | refine VC_region ?_ | refine VL_nil ?_ | refine VC_ret ?_ | refine kbox ?_ | ((apply VL_q); (first | exact QS_call (by rfl) c1 | exact QS_call (by rfl) (fun W _ => cA W) | exact qmv (by rfl) | exact qas (by rfl) | exact qno (by rfl)); rfl) | refine ctr ?_)
    show Res _ _ _ _
    refine Res.one (by rfl) (ResV_tmp (by rfl) ?_)
    rfl
  | true =>
    rw [hL] at c1
    have hN := light_nds (M := Mem.of w) (fun a ha => (hn a ha).1) (fun a ha => (hn a ha).2) (by omega) (by omega) hL
    have c2 := fun W (hW : (Mem.of w).le (Mem.of W)) => sound_Check c v l W (Mem.of w) hW hM hN
    have c3 := fun W (hW : (Mem.of w).le (Mem.of W)) => ref_Sound c v l W (Mem.of w) hW hM hN
    rw [sound_eq] at c2
    have q : (soundR c l == soundR c l) = true := by simp
    generalize soundR c l = b at *
    refine V_flat (args := [.agg #[.int .i64 c.fanout, .int .i64 c.leaf, .int .i64 c.budget, .int .i64 c.slots, .int .i64 c.restarts], v]) (M := Mem.of w) Try.func3 rfl Try.ntmps3 (by rfl) (Mem.le_refl _) ?_
    repeat' (first | refine VC_seq ?_ | refine VC_region ?_ | refine VL_nil ?_ | refine VC_ret ?_ | refine VC_skip ?_ | refine kbox ?_ | ((first | apply VL_q | apply VG_q); (first | exact QS_call (by rfl) c1 | exact QS_call (by rfl) c2 | exact QS_call (by rfl) c3 | exact QS_call (by rfl) (fun W _ => cA W) | exact qmv (by rfl) | exact qas (by rfl) | exact qlA (by rfl) | exact qno (by rfl) | exact qpt (by rfl) | exact qbe (by rfl)); rfl) | refine gyes ?_ | refine VG_nil ?_ | refine dQ ?_ | refine cfa ?_)
    show Res _ _ _ _
    refine Res.one (by rfl) (ResV_tmp (by rfl) ?_)
    rfl
end Go.Proofs.Ytlapnbklbpeddaa.lawSoundChecks
