/- The bulk layer: how many nodes each level has: plain Lean and walks. -/
import Derived.Test.YtclbmfepdlffnaaPBk1
namespace Go.Proofs.Ytclbmfepdlffnaa
open Go Go.RowKit
attribute [local irreducible] Calls
set_option linter.unusedVariables false
set_option maxRecDepth 20000
set_option linter.unusedSimpArgs false
set_option maxHeartbeats 4000000
def amongB (n a b : Int) : Bool := decide (a ≤ n) && decide (n ≤ b)
theorem store_among (n a b : Int) (w : World) : Calls Try.prog 114 #[.int .i64 n, .int .i64 a, .int .i64 b] w fun e w' => e = .returned (.bool (amongB n a b)) ∧ Below w.heap.size w w' := by
  unfold amongB
  refine V_flat (args := [.int .i64 n, .int .i64 a, .int .i64 b]) (M := Mem.no) Try.func114 rfl Try.ntmps114 (by rfl) (Mem.no_le _) ?_
  repeat' (first
    | refine VC_seq ?_
    | refine VC_region ?_
    | refine VL_nil ?_
    | refine VC_ret ?_
    | refine VC_exit ?_
    | refine VC_block ?_
    | refine VC_skip ?_
    | refine kbox ?_
    | refine kall ?_
    | refine kst ?_
    | refine ksN ?_
    | refine klt ?_
    | refine kl1 ?_
    | refine klK ?_
    | refine kap ?_
    | ((first | apply VL_q | apply VG_q | apply VS_q2); (first  | exact qmv (by rfl) | exact qas (by rfl) | exact ql1 (by rfl) | exact qlA (by rfl) | exact qfa (by rfl) | exact qmf (by rfl) | exact qfd (by rfl) | exact qm1 (by rfl) | exact qbd (by rfl) | exact qno (by rfl) | exact qex (by rfl) | exact qln (by rfl) | exact qls (by rfl) | exact qlr (by rfl) | exact qpt (by rfl) | exact qpf (by rfl) | exact qcp (by rfl) | exact qbe (by rfl) | exact qbn (by rfl) | exact qsn (by rfl) | exact qad (by rfl) | exact qsa (by rfl) | exact qsu (by rfl) | exact QS_bin (by rfl) (by rfl) (by first | exact B_slnil | exact Bq_eql_Msg | exact Bq_neq_Msg | exact Bq_eql_Pair | exact Bq_neq_Pair | exact Bq_eql_Op | exact Bq_neq_Op | exact Bq_eql_Cfg | exact Bq_neq_Cfg)); rfl)
    | refine sst ?_
    | refine VS_nil ?_
    | refine eeq ?_
    | refine ees ?_ (by first | exact es1 (by rfl) | exact esN (by rfl))
    | refine VE_nil ?_
    | refine kyes ?_
    | refine kno ?_
    | refine gyes ?_
    | refine gno ?_
    | refine knoU ?_
    | refine gnoU ?_
    | refine VG_nil ⟨by rfl, ?_⟩
    | refine VG_nil ?_
    | refine dT ?_
    | refine d1 ?_
    | refine dQ ?_
    | refine ctr ?_
    | refine cfa ?_
    | refine kdec (fun hq => ?_) (fun hq => ?_)
    | refine gdec (fun hq => ?_) (fun hq => ?_)
    | refine cco (fun hq => ?_) (fun hq => ?_))
  all_goals
    show Res _ _ _ _
    refine Res.one (by rfl) (ResV_tmp (by rfl) ?_)
    simp_all
    try (intros; omega)
def okC (c : Cfg) : Bool := amongB c.fanout 4 64 && (amongB c.leaf 2 64 && (amongB c.budget 36 4096 && (amongB c.slots 1 4096 && amongB c.restarts 0 100)))
theorem store_RightC (c : Cfg) (w : World) : Calls Try.prog 82 #[.agg #[.int .i64 c.fanout, .int .i64 c.leaf, .int .i64 c.budget, .int .i64 c.slots, .int .i64 c.restarts]] w fun e w' => e = .returned (.bool (okC c)) ∧ Below w.heap.size w w' := by
  unfold okC
  have cA := fun n a b W => store_among n a b W
  cases h1 : amongB c.fanout 4 64
  all_goals cases h2 : amongB c.leaf 2 64
  all_goals cases h3 : amongB c.budget 36 4096
  all_goals cases h4 : amongB c.slots 1 4096
  all_goals
    have c1 := fun W => cA c.fanout 4 64 W
    have c2 := fun W => cA c.leaf 2 64 W
    have c3 := fun W => cA c.budget 36 4096 W
    have c4 := fun W => cA c.slots 1 4096 W
    have c5 := fun W => cA c.restarts 0 100 W
    rw [h1] at c1
    rw [h2] at c2
    rw [h3] at c3
    rw [h4] at c4
    refine V_flat (args := [.agg #[.int .i64 c.fanout, .int .i64 c.leaf, .int .i64 c.budget, .int .i64 c.slots, .int .i64 c.restarts]]) (M := Mem.no) Try.func82 rfl Try.ntmps82 (by rfl) (Mem.no_le _) ?_
    repeat' (first
      | refine VC_seq ?_
      | refine VC_region ?_
      | refine VL_nil ?_
      | refine VC_ret ?_
      | refine VC_exit ?_
      | refine VC_block ?_
      | refine VC_skip ?_
      | refine kbox ?_
      | refine kall ?_
      | refine kst ?_
      | refine ksN ?_
      | refine klt ?_
      | refine kl1 ?_
      | refine klK ?_
      | refine kap ?_
      | ((first | apply VL_q | apply VG_q | apply VS_q2); (first | exact QS_call (by rfl) (fun W _ => c1 W) | exact QS_call (by rfl) (fun W _ => c2 W) | exact QS_call (by rfl) (fun W _ => c3 W) | exact QS_call (by rfl) (fun W _ => c4 W) | exact QS_call (by rfl) (fun W _ => c5 W) | exact qmv (by rfl) | exact qas (by rfl) | exact ql1 (by rfl) | exact qlA (by rfl) | exact qfa (by rfl) | exact qmf (by rfl) | exact qfd (by rfl) | exact qm1 (by rfl) | exact qbd (by rfl) | exact qno (by rfl) | exact qex (by rfl) | exact qln (by rfl) | exact qls (by rfl) | exact qlr (by rfl) | exact qpt (by rfl) | exact qpf (by rfl) | exact qcp (by rfl) | exact qbe (by rfl) | exact qbn (by rfl) | exact qsn (by rfl) | exact qad (by rfl) | exact qsa (by rfl) | exact qsu (by rfl) | exact QS_bin (by rfl) (by rfl) (by first | exact B_slnil | exact Bq_eql_Msg | exact Bq_neq_Msg | exact Bq_eql_Pair | exact Bq_neq_Pair | exact Bq_eql_Op | exact Bq_neq_Op | exact Bq_eql_Cfg | exact Bq_neq_Cfg)); rfl)
      | refine sst ?_
      | refine VS_nil ?_
      | refine eeq ?_
      | refine ees ?_ (by first | exact es1 (by rfl) | exact esN (by rfl))
      | refine VE_nil ?_
      | refine kyes ?_
      | refine kno ?_
      | refine gyes ?_
      | refine gno ?_
      | refine knoU ?_
      | refine gnoU ?_
      | refine VG_nil ⟨by rfl, ?_⟩
      | refine VG_nil ?_
      | refine dT ?_
      | refine d1 ?_
      | refine dQ ?_
      | refine ctr ?_
      | refine cfa ?_
      | refine kdec (fun hq => ?_) (fun hq => ?_)
      | refine gdec (fun hq => ?_) (fun hq => ?_)
      | refine cco (fun hq => ?_) (fun hq => ?_))
    show Res _ _ _ _
    refine Res.one (by rfl) (ResV_tmp (by rfl) ?_)
    first | rfl | simp
theorem ref_RightC (c : Cfg) (w : World) : Calls Try.prog 43 #[.agg #[.int .i64 c.fanout, .int .i64 c.leaf, .int .i64 c.budget, .int .i64 c.slots, .int .i64 c.restarts]] w fun e w' => e = .returned (.bool (okC c)) ∧ Below w.heap.size w w' := by
  refine V_flat (args := [.agg #[.int .i64 c.fanout, .int .i64 c.leaf, .int .i64 c.budget, .int .i64 c.slots, .int .i64 c.restarts]]) (M := Mem.no) Try.func43 rfl Try.ntmps43 (by rfl) (Mem.no_le _) ?_
  repeat' (first
    | refine VC_seq ?_
    | refine VC_region ?_
    | refine VL_nil ?_
    | refine VC_ret ?_
    | refine VC_exit ?_
    | refine VC_block ?_
    | refine VC_skip ?_
    | refine kbox ?_
    | refine kall ?_
    | refine kst ?_
    | refine ksN ?_
    | refine klt ?_
    | refine kl1 ?_
    | refine klK ?_
    | refine kap ?_
    | ((first | apply VL_q | apply VG_q | apply VS_q2); (first  | exact qmv (by rfl) | exact qas (by rfl) | exact ql1 (by rfl) | exact qlA (by rfl) | exact qfa (by rfl) | exact qmf (by rfl) | exact qfd (by rfl) | exact qm1 (by rfl) | exact qbd (by rfl) | exact qno (by rfl) | exact qex (by rfl) | exact qln (by rfl) | exact qls (by rfl) | exact qlr (by rfl) | exact qpt (by rfl) | exact qpf (by rfl) | exact qcp (by rfl) | exact qbe (by rfl) | exact qbn (by rfl) | exact qsn (by rfl) | exact qad (by rfl) | exact qsa (by rfl) | exact qsu (by rfl) | exact QS_bin (by rfl) (by rfl) (by first | exact B_slnil | exact Bq_eql_Msg | exact Bq_neq_Msg | exact Bq_eql_Pair | exact Bq_neq_Pair | exact Bq_eql_Op | exact Bq_neq_Op | exact Bq_eql_Cfg | exact Bq_neq_Cfg)); rfl)
    | refine sst ?_
    | refine VS_nil ?_
    | refine eeq ?_
    | refine ees ?_ (by first | exact es1 (by rfl) | exact esN (by rfl))
    | refine VE_nil ?_
    | refine kyes ?_
    | refine kno ?_
    | refine gyes ?_
    | refine gno ?_
    | refine knoU ?_
    | refine gnoU ?_
    | refine VG_nil ⟨by rfl, ?_⟩
    | refine VG_nil ?_
    | refine dT ?_
    | refine d1 ?_
    | refine dQ ?_
    | refine ctr ?_
    | refine cfa ?_
    | refine kdec (fun hq => ?_) (fun hq => ?_)
    | refine gdec (fun hq => ?_) (fun hq => ?_)
    | refine cco (fun hq => ?_) (fun hq => ?_))
  all_goals
    show Res _ _ _ _
    refine Res.one (by rfl) (ResV_tmp (by rfl) ?_)
    refine congrArg Value.bool ?_
    unfold okC amongB
    simp_all
    try (intros; omega)
def fewN (n r : Nat) : Nat := max 1 ((n + r - 1) / r)
theorem fewN_pos (n r : Nat) : 1 ≤ fewN n r := by unfold fewN; omega
theorem fewN_lt {n r : Nat} (hn : 1 < n) (hr : 2 ≤ r) : fewN n r < n := by
  unfold fewN
  have h : (n + r - 1) / r < n := by
    rw [Nat.div_lt_iff_lt_mul (by omega)]
    have h1 : n * r ≥ n * 2 := Nat.mul_le_mul_left n hr
    have h2 : n * r ≥ 2 * r := Nat.mul_le_mul_right r hn
    omega
  omega
theorem fewN_ge {n r : Nat} (hr : 1 ≤ r) : n ≤ fewN n r * r := by
  unfold fewN
  have h1 := Nat.div_add_mod (n + r - 1) r
  have h2 := Nat.mod_lt (n + r - 1) (show r > 0 by omega)
  have h3 : (n + r - 1) / r * r ≤ max 1 ((n + r - 1) / r) * r := Nat.mul_le_mul_right r (Nat.le_max_right _ _)
  rw [Nat.mul_comm r] at h1
  omega
theorem fewN_le {n r : Nat} (hr : 1 ≤ r) (h : 1 < fewN n r) : (fewN n r - 1) * r < n := by
  unfold fewN at h ⊢
  have h0 : max 1 ((n + r - 1) / r) = (n + r - 1) / r := by omega
  rw [h0] at h ⊢
  have h1 := Nat.div_mul_le_self (n + r - 1) r
  rw [Nat.sub_mul, Nat.one_mul]
  have h2 : 1 * r ≤ (n + r - 1) / r * r := Nat.mul_le_mul_right r (by omega)
  omega
theorem fewN_bound {n r : Nat} (hr : 1 ≤ r) : fewN n r ≤ n + 1 := by
  unfold fewN
  have : (n + r - 1) / r ≤ n := by
    rw [Nat.div_le_iff_le_mul (by omega)]
    have := Nat.mul_le_mul_left n hr
    omega
  omega
theorem bulk_few (n r : Nat) (w : World) (hn : n ≤ 1000000000) (hr : 1 ≤ r) (hr2 : r ≤ 1000000000) : Calls Try.prog 83 #[.int .i64 n, .int .i64 r] w fun e w' => e = .returned (.int .i64 ((fewN n r : Nat) : Int)) ∧ Below w.heap.size w w' := by
  have hq : ((n : Int) + (r : Int) - 1) / (r : Int) = (((n + r - 1) / r : Nat) : Int) := by
    rw [show (n : Int) + (r : Int) - 1 = ((n + r - 1 : Nat) : Int) by omega]; simp
  have hm : (if ((((n + r - 1) / r : Nat) : Int)) > 1 then (((n + r - 1) / r : Nat) : Int) else 1) = ((fewN n r : Nat) : Int) := by
    unfold fewN
    split <;> omega
  rw [← hq] at hm
  rw [← hm]
  refine V_flat (args := [.int .i64 n, .int .i64 r]) (M := Mem.no) Try.func83 rfl Try.ntmps83 (by rfl) (Mem.no_le _) ?_
  repeat' (first
    | refine VC_seq ?_
    | refine VC_region ?_
    | refine VL_nil ?_
    | refine VC_ret ?_
    | refine VC_exit ?_
    | refine VC_block ?_
    | refine VC_skip ?_
    | refine kbox ?_
    | refine kall ?_
    | refine kst ?_
    | refine ksN ?_
    | refine klt ?_
    | refine kl1 ?_
    | refine klK ?_
    | refine kap ?_
    | ((first | apply VL_q | apply VG_q | apply VS_q2); (first | exact QS_bin (by rfl) (by rfl) (B_quo (by omega) (by omega) (by omega)) | exact QS_max (by rfl) (by rfl) (fun W => run_max_int2 W _ _ _ _ _ _) | exact qmv (by rfl) | exact qas (by rfl) | exact ql1 (by rfl) | exact qlA (by rfl) | exact qfa (by rfl) | exact qmf (by rfl) | exact qfd (by rfl) | exact qm1 (by rfl) | exact qbd (by rfl) | exact qno (by rfl) | exact qex (by rfl) | exact qln (by rfl) | exact qls (by rfl) | exact qlr (by rfl) | exact qpt (by rfl) | exact qpf (by rfl) | exact qcp (by rfl) | exact qbe (by rfl) | exact qbn (by rfl) | exact qsn (by rfl) | exact qad (by rfl) | exact qsa (by rfl) | exact qsu (by rfl) | exact QS_bin (by rfl) (by rfl) (by first | exact B_slnil | exact Bq_eql_Msg | exact Bq_neq_Msg | exact Bq_eql_Pair | exact Bq_neq_Pair | exact Bq_eql_Op | exact Bq_neq_Op | exact Bq_eql_Cfg | exact Bq_neq_Cfg)); rfl)
    | refine sst ?_
    | refine VS_nil ?_
    | refine eeq ?_
    | refine ees ?_ (by first | exact es1 (by rfl) | exact esN (by rfl))
    | refine VE_nil ?_
    | refine kyes ?_
    | refine kno ?_
    | refine gyes ?_
    | refine gno ?_
    | refine knoU ?_
    | refine gnoU ?_
    | refine VG_nil ⟨by rfl, ?_⟩
    | refine VG_nil ?_
    | refine dT ?_
    | refine d1 ?_
    | refine dQ ?_
    | refine ctr ?_
    | refine cfa ?_
    | refine kdec (fun hq => ?_) (fun hq => ?_)
    | refine gdec (fun hq => ?_) (fun hq => ?_)
    | refine cco (fun hq => ?_) (fun hq => ?_))
  show Res _ _ _ _
  refine Res.one (by rfl) (ResV_tmp (by rfl) ?_)
  rfl
/-- How many nodes each level has, from n on. -/
def lvlL (F n : Nat) : List Nat := if h : 1 < n ∧ 2 ≤ F then n :: lvlL F (fewN n F) else [n]
termination_by n
decreasing_by exact fewN_lt h.1 h.2
theorem lvlL_more {F n : Nat} (hn : 1 < n) (hF : 2 ≤ F) : lvlL F n = n :: lvlL F (fewN n F) := by rw [lvlL, dif_pos ⟨hn, hF⟩]
theorem lvlL_one {F n : Nat} (hn : ¬ 1 < n) : lvlL F n = [n] := by rw [lvlL, dif_neg (fun h => hn h.1)]
abbrev natK (n : Nat) : List Value := [.int .i64 (n : Int)]
def levelsC (c : Cfg) (pairs : Int) : List Nat := if okC c = false ∨ pairs < 0 ∨ 1048576 < pairs then [] else lvlL c.fanout.toNat (fewN pairs.toNat c.leaf.toNat)
theorem okC_parts {c : Cfg} (h : okC c = true) : 4 ≤ c.fanout ∧ c.fanout ≤ 64 ∧ 2 ≤ c.leaf ∧ c.leaf ≤ 64 ∧ 1 ≤ c.slots ∧ c.slots ≤ 4096 := by
  unfold okC amongB at h
  simp only [Bool.and_eq_true, decide_eq_true_eq] at h
  omega
theorem bulk_Levels (c : Cfg) (pairs : Int) (w : World) : Calls Try.prog 42 #[.agg #[.int .i64 c.fanout, .int .i64 c.leaf, .int .i64 c.budget, .int .i64 c.slots, .int .i64 c.restarts], .int .i64 pairs] w (RetRow 3 1 (levelsC c pairs).length ((levelsC c pairs).flatMap natK) w) := by
  have cR := fun W => store_RightC c W
  refine V_rowN (args := [.agg #[.int .i64 c.fanout, .int .i64 c.leaf, .int .i64 c.budget, .int .i64 c.slots, .int .i64 c.restarts], .int .i64 pairs]) (M := Mem.of w) Try.func42 rfl Try.ntmps42 (by rfl) (Mem.le_refl _) rfl ?_
  by_cases hx : okC c = false ∨ pairs < 0 ∨ 1048576 < pairs
  · have he : levelsC c pairs = [] := by unfold levelsC; rw [if_pos hx]
    rw [he]
    cases hc : okC c with
    | false =>
      rw [hc] at cR
      repeat' (first
        | refine VC_seq ?_
        | refine VC_region ?_
        | refine VL_nil ?_
        | refine VC_ret ?_
        | refine VC_exit ?_
        | refine VC_block ?_
        | refine VC_skip ?_
        | refine kbox ?_
        | refine kall ?_
        | refine kst ?_
        | refine ksN ?_
        | refine klt ?_
        | refine kl1 ?_
        | refine klK ?_
        | refine kap ?_
        | ((first | apply VL_q | apply VG_q | apply VS_q2); (first | exact QS_call (by rfl) (fun W _ => cR W) | exact qmv (by rfl) | exact qas (by rfl) | exact ql1 (by rfl) | exact qlA (by rfl) | exact qfa (by rfl) | exact qmf (by rfl) | exact qfd (by rfl) | exact qm1 (by rfl) | exact qbd (by rfl) | exact qno (by rfl) | exact qex (by rfl) | exact qln (by rfl) | exact qls (by rfl) | exact qlr (by rfl) | exact qpt (by rfl) | exact qpf (by rfl) | exact qcp (by rfl) | exact qbe (by rfl) | exact qbn (by rfl) | exact qsn (by rfl) | exact qad (by rfl) | exact qsa (by rfl) | exact qsu (by rfl) | exact QS_bin (by rfl) (by rfl) (by first | exact B_slnil | exact Bq_eql_Msg | exact Bq_neq_Msg | exact Bq_eql_Pair | exact Bq_neq_Pair | exact Bq_eql_Op | exact Bq_neq_Op | exact Bq_eql_Cfg | exact Bq_neq_Cfg)); rfl)
        | refine sst ?_
        | refine VS_nil ?_
        | refine eeq ?_
        | refine ees ?_ (by first | exact es1 (by rfl) | exact esN (by rfl))
        | refine VE_nil ?_
        | refine kyes ?_
        | refine kno ?_
        | refine gyes ?_
        | refine gno ?_
        | refine knoU ?_
        | refine gnoU ?_
        | refine VG_nil ⟨by rfl, ?_⟩
        | refine VG_nil ?_
        | refine dT ?_
        | refine d1 ?_
        | refine dQ ?_
        | refine ctr ?_
        | refine cfa ?_
        | refine kdec (fun hq => ?_) (fun hq => ?_)
        | refine gdec (fun hq => ?_) (fun hq => ?_)
        | refine cco (fun hq => ?_) (fun hq => ?_))
      exact .inr ⟨rfl, rfl, rfl⟩
    | true =>
      rw [hc] at cR hx
      by_cases h1 : pairs < 0
      · have d1 : decide (pairs < 0) = true := decide_eq_true h1
        repeat' (first
          | refine VC_seq ?_
          | refine VC_region ?_
          | refine VL_nil ?_
          | refine VC_ret ?_
          | refine VC_exit ?_
          | refine VC_block ?_
          | refine VC_skip ?_
          | refine kbox ?_
          | refine kall ?_
          | refine kst ?_
          | refine ksN ?_
          | refine klt ?_
          | refine kl1 ?_
          | refine klK ?_
          | refine kap ?_
          | ((first | apply VL_q | apply VG_q | apply VS_q2); (first | exact QS_call (by rfl) (fun W _ => cR W) | exact qmv (by rfl) | exact qas (by rfl) | exact ql1 (by rfl) | exact qlA (by rfl) | exact qfa (by rfl) | exact qmf (by rfl) | exact qfd (by rfl) | exact qm1 (by rfl) | exact qbd (by rfl) | exact qno (by rfl) | exact qex (by rfl) | exact qln (by rfl) | exact qls (by rfl) | exact qlr (by rfl) | exact qpt (by rfl) | exact qpf (by rfl) | exact qcp (by rfl) | exact qbe (by rfl) | exact qbn (by rfl) | exact qsn (by rfl) | exact qad (by rfl) | exact qsa (by rfl) | exact qsu (by rfl) | exact QS_bin (by rfl) (by rfl) (by first | exact B_slnil | exact Bq_eql_Msg | exact Bq_neq_Msg | exact Bq_eql_Pair | exact Bq_neq_Pair | exact Bq_eql_Op | exact Bq_neq_Op | exact Bq_eql_Cfg | exact Bq_neq_Cfg)); rfl)
          | refine sst ?_
          | refine VS_nil ?_
          | refine eeq ?_
          | refine ees ?_ (by first | exact es1 (by rfl) | exact esN (by rfl))
          | refine VE_nil ?_
          | refine kyes ?_
          | refine kno ?_
          | refine gyes ?_
          | refine gno ?_
          | refine knoU ?_
          | refine gnoU ?_
          | refine VG_nil ⟨by rfl, ?_⟩
          | refine VG_nil ?_
          | refine dT ?_
          | refine d1 ?_
          | refine dQ ?_
          | refine ctr ?_
          | refine cfa ?_
          | refine kdec (fun hq => ?_) (fun hq => ?_)
          | refine gdec (fun hq => ?_) (fun hq => ?_)
          | refine cco (fun hq => ?_) (fun hq => ?_))
        exact .inr ⟨rfl, rfl, rfl⟩
      · have d1 : decide (pairs < 0) = false := decide_eq_false h1
        have d2 : decide (1048576 < pairs) = true := decide_eq_true (by simp at hx; omega)
        repeat' (first
          | refine VC_seq ?_
          | refine VC_region ?_
          | refine VL_nil ?_
          | refine VC_ret ?_
          | refine VC_exit ?_
          | refine VC_block ?_
          | refine VC_skip ?_
          | refine kbox ?_
          | refine kall ?_
          | refine kst ?_
          | refine ksN ?_
          | refine klt ?_
          | refine kl1 ?_
          | refine klK ?_
          | refine kap ?_
          | ((first | apply VL_q | apply VG_q | apply VS_q2); (first | exact QS_call (by rfl) (fun W _ => cR W) | exact qmv (by rfl) | exact qas (by rfl) | exact ql1 (by rfl) | exact qlA (by rfl) | exact qfa (by rfl) | exact qmf (by rfl) | exact qfd (by rfl) | exact qm1 (by rfl) | exact qbd (by rfl) | exact qno (by rfl) | exact qex (by rfl) | exact qln (by rfl) | exact qls (by rfl) | exact qlr (by rfl) | exact qpt (by rfl) | exact qpf (by rfl) | exact qcp (by rfl) | exact qbe (by rfl) | exact qbn (by rfl) | exact qsn (by rfl) | exact qad (by rfl) | exact qsa (by rfl) | exact qsu (by rfl) | exact QS_bin (by rfl) (by rfl) (by first | exact B_slnil | exact Bq_eql_Msg | exact Bq_neq_Msg | exact Bq_eql_Pair | exact Bq_neq_Pair | exact Bq_eql_Op | exact Bq_neq_Op | exact Bq_eql_Cfg | exact Bq_neq_Cfg)); rfl)
          | refine sst ?_
          | refine VS_nil ?_
          | refine eeq ?_
          | refine ees ?_ (by first | exact es1 (by rfl) | exact esN (by rfl))
          | refine VE_nil ?_
          | refine kyes ?_
          | refine kno ?_
          | refine gyes ?_
          | refine gno ?_
          | refine knoU ?_
          | refine gnoU ?_
          | refine VG_nil ⟨by rfl, ?_⟩
          | refine VG_nil ?_
          | refine dT ?_
          | refine d1 ?_
          | refine dQ ?_
          | refine ctr ?_
          | refine cfa ?_
          | refine kdec (fun hq => ?_) (fun hq => ?_)
          | refine gdec (fun hq => ?_) (fun hq => ?_)
          | refine cco (fun hq => ?_) (fun hq => ?_))
        exact .inr ⟨rfl, rfl, rfl⟩
  · have hc : okC c = true := by cases h : okC c <;> simp [h] at hx ⊢
    have he : levelsC c pairs = lvlL c.fanout.toNat (fewN pairs.toNat c.leaf.toNat) := by unfold levelsC; rw [if_neg hx]
    rw [he]
    rw [hc] at cR
    have d1 : decide (pairs < 0) = false := decide_eq_false (by omega)
    have d2 : decide (1048576 < pairs) = false := decide_eq_false (by omega)
    obtain ⟨f1, f2, l1, l2, _, _⟩ := okC_parts hc
    obtain ⟨fanout, leaf, budget, slots, restarts⟩ := c
    dsimp only at *
    obtain ⟨F, rfl⟩ : ∃ F : Nat, fanout = (F : Int) := ⟨fanout.toNat, by omega⟩
    obtain ⟨L, rfl⟩ : ∃ L : Nat, leaf = (L : Int) := ⟨leaf.toNat, by omega⟩
    obtain ⟨m, rfl⟩ : ∃ m : Nat, pairs = (m : Int) := ⟨pairs.toNat, by omega⟩
    rw [Int.toNat_natCast, Int.toNat_natCast, Int.toNat_natCast]
    have hb := fewN_bound (n := m) (show 1 ≤ L by omega)
    have cF := fun W => bulk_few m L W (by omega) (by omega) (by omega)
    generalize hn0 : fewN m L = n0 at *
    repeat' (first
      | refine VC_seq ?_
      | refine VC_region ?_
      | refine VL_nil ?_
      | refine VC_ret ?_
      | refine VC_exit ?_
      | refine VC_block ?_
      | refine VC_skip ?_
      | refine kbox ?_
      | refine kall ?_
      | refine kst ?_
      | refine ksN ?_
      | refine klt ?_
      | refine kl1 ?_
      | refine klK ?_
      | refine kap ?_
      | ((first | apply VL_q | apply VG_q | apply VS_q2); (first | exact QS_call (by rfl) (fun W _ => cR W) | exact QS_call (by rfl) (fun W _ => cF W) | exact QS_indexRow 0 (by rfl) (by rfl) (by rfl) rfl (by omega) | exact QS_loadR1 (by rfl) (by rfl) (by rfl) | exact qmv (by rfl) | exact qas (by rfl) | exact ql1 (by rfl) | exact qlA (by rfl) | exact qfa (by rfl) | exact qmf (by rfl) | exact qfd (by rfl) | exact qm1 (by rfl) | exact qbd (by rfl) | exact qno (by rfl) | exact qex (by rfl) | exact qln (by rfl) | exact qls (by rfl) | exact qlr (by rfl) | exact qpt (by rfl) | exact qpf (by rfl) | exact qcp (by rfl) | exact qbe (by rfl) | exact qbn (by rfl) | exact qsn (by rfl) | exact qad (by rfl) | exact qsa (by rfl) | exact qsu (by rfl) | exact QS_bin (by rfl) (by rfl) (by first | exact B_slnil | exact Bq_eql_Msg | exact Bq_neq_Msg | exact Bq_eql_Pair | exact Bq_neq_Pair | exact Bq_eql_Op | exact Bq_neq_Op | exact Bq_eql_Cfg | exact Bq_neq_Cfg)); rfl)
      | refine sst ?_
      | refine VS_nil ?_
      | refine eeq ?_
      | refine ees ?_ (by first | exact es1 (by rfl) | exact esN (by rfl))
      | refine VE_nil ?_
      | refine kyes ?_
      | refine kno ?_
      | refine gyes ?_
      | refine gno ?_
      | refine knoU ?_
      | refine gnoU ?_
      | refine VG_nil ⟨by rfl, ?_⟩
      | refine VG_nil ?_
      | refine dT ?_
      | refine d1 ?_
      | refine dQ ?_
      | refine ctr ?_
      | refine cfa ?_
      | refine kdec (fun hq => ?_) (fun hq => ?_)
      | refine gdec (fun hq => ?_) (fun hq => ?_)
      | refine cco (fun hq => ?_) (fun hq => ?_))
    refine VC_for (fun x : List Nat × Nat => ⟨Mem.of w, [.blk 74 [.int .i64 F, .int .i64 L, .int .i64 budget, .int .i64 slots, .int .i64 restarts], .row 3 1 (x.1 ++ [x.2]).length ((x.1 ++ [x.2]).flatMap natK)], [(2, .p 0 0), (5, .r 1), (6, .v (.int .i64 x.2))]⟩) (fun x => lvlL F n0 = x.1 ++ lvlL F x.2 ∧ x.1.length + x.2 ≤ n0) (fun x => x.2) [0, 1] ([], n0) ⟨rfl, rfl, ⟨rfl, rfl, trivial⟩, ⟨rfl, rfl, rfl, trivial⟩⟩ ⟨rfl, by simp⟩ ?_
    rintro ⟨acc, n⟩ ⟨e1, hz⟩
    dsimp only at e1 hz ⊢
    have hal : (acc ++ [n]).length ≤ 1048580 := by rw [List.length_append]; show acc.length + 1 ≤ _; omega
    by_cases hn : 1 < n
    · have d3 : decide ((1 : Int) < (n : Int)) = true := decide_eq_true (by omega)
      have hlt := fewN_lt hn (show 2 ≤ F by omega)
      have cG := fun W => bulk_few n F W (by omega) (by omega) (by omega)
      rw [lvlL_more hn (by omega)] at e1
      generalize hn2 : fewN n F = n2 at *
      generalize hrow : acc ++ [n] = row at *
      repeat' (first
        | refine VC_seq ?_
        | refine VC_region ?_
        | refine VL_nil ?_
        | refine VC_ret ?_
        | refine VC_exit ?_
        | refine VC_block ?_
        | refine VC_skip ?_
        | refine kbox ?_
        | refine kall ?_
        | refine kst ?_
        | refine ksN ?_
        | refine klt ?_
        | refine kl1 ?_
        | refine klK ?_
        | refine kap ?_
        | ((first | apply VL_q | apply VG_q | apply VS_q2); (first | exact QS_call (by rfl) (fun W _ => cG W) | exact qmv (by rfl) | exact qas (by rfl) | exact ql1 (by rfl) | exact qlA (by rfl) | exact qfa (by rfl) | exact qmf (by rfl) | exact qfd (by rfl) | exact qm1 (by rfl) | exact qbd (by rfl) | exact qno (by rfl) | exact qex (by rfl) | exact qln (by rfl) | exact qls (by rfl) | exact qlr (by rfl) | exact qpt (by rfl) | exact qpf (by rfl) | exact qcp (by rfl) | exact qbe (by rfl) | exact qbn (by rfl) | exact qsn (by rfl) | exact qad (by rfl) | exact qsa (by rfl) | exact qsu (by rfl) | exact QS_bin (by rfl) (by rfl) (by first | exact B_slnil | exact Bq_eql_Msg | exact Bq_neq_Msg | exact Bq_eql_Pair | exact Bq_neq_Pair | exact Bq_eql_Op | exact Bq_neq_Op | exact Bq_eql_Cfg | exact Bq_neq_Cfg)); rfl)
        | refine sst ?_
        | refine VS_nil ?_
        | refine eeq ?_
        | refine ees ?_ (by first | exact es1 (by rfl) | exact esN (by rfl))
        | refine VE_nil ?_
        | refine kyes ?_
        | refine kno ?_
        | refine gyes ?_
        | refine gno ?_
        | refine knoU ?_
        | refine gnoU ?_
        | refine VG_nil ⟨by rfl, ?_⟩
        | refine VG_nil ?_
        | refine dT ?_
        | refine d1 ?_
        | refine dQ ?_
        | refine ctr ?_
        | refine cfa ?_
        | refine kdec (fun hq => ?_) (fun hq => ?_)
        | refine gdec (fun hq => ?_) (fun hq => ?_)
        | refine cco (fun hq => ?_) (fun hq => ?_))
      refine forQ_next (Q := fun _ _ => True) [0, 3] (row, n2) ⟨rfl, rfl, ⟨rfl, ?_, trivial⟩, ⟨rfl, rfl, rfl, trivial⟩⟩ ⟨?_, ?_⟩ hlt
      · show _ = some (Ob.row _ 1 (row ++ [n2]).length ((row ++ [n2]).flatMap natK))
        have e5 : (row ++ [n2]).length = row.length + 1 := by rw [List.length_append]; rfl
        have e6 : (row ++ [n2]).flatMap natK = row.flatMap natK ++ [.int .i64 (n2 : Int)] := by rw [List.flatMap_append]; rfl
        rw [e5, e6]; rfl
      · rw [e1, ← hrow, List.append_assoc]; rfl
      · show row.length + n2 ≤ n0
        rw [← hrow, List.length_append]
        show acc.length + 1 + n2 ≤ n0
        omega
    · have d3 : decide ((1 : Int) < (n : Int)) = false := decide_eq_false (by omega)
      rw [lvlL_one hn] at e1
      repeat' (first
        | refine VC_seq ?_
        | refine VC_region ?_
        | refine VL_nil ?_
        | refine VC_ret ?_
        | refine VC_exit ?_
        | refine VC_block ?_
        | refine VC_skip ?_
        | refine kbox ?_
        | refine kall ?_
        | refine kst ?_
        | refine ksN ?_
        | refine klt ?_
        | refine kl1 ?_
        | refine klK ?_
        | refine kap ?_
        | ((first | apply VL_q | apply VG_q | apply VS_q2); (first  | exact qmv (by rfl) | exact qas (by rfl) | exact ql1 (by rfl) | exact qlA (by rfl) | exact qfa (by rfl) | exact qmf (by rfl) | exact qfd (by rfl) | exact qm1 (by rfl) | exact qbd (by rfl) | exact qno (by rfl) | exact qex (by rfl) | exact qln (by rfl) | exact qls (by rfl) | exact qlr (by rfl) | exact qpt (by rfl) | exact qpf (by rfl) | exact qcp (by rfl) | exact qbe (by rfl) | exact qbn (by rfl) | exact qsn (by rfl) | exact qad (by rfl) | exact qsa (by rfl) | exact qsu (by rfl) | exact QS_bin (by rfl) (by rfl) (by first | exact B_slnil | exact Bq_eql_Msg | exact Bq_neq_Msg | exact Bq_eql_Pair | exact Bq_neq_Pair | exact Bq_eql_Op | exact Bq_neq_Op | exact Bq_eql_Cfg | exact Bq_neq_Cfg)); rfl)
        | refine sst ?_
        | refine VS_nil ?_
        | refine eeq ?_
        | refine ees ?_ (by first | exact es1 (by rfl) | exact esN (by rfl))
        | refine VE_nil ?_
        | refine kyes ?_
        | refine kno ?_
        | refine gyes ?_
        | refine gno ?_
        | refine knoU ?_
        | refine gnoU ?_
        | refine VG_nil ⟨by rfl, ?_⟩
        | refine VG_nil ?_
        | refine dT ?_
        | refine d1 ?_
        | refine dQ ?_
        | refine ctr ?_
        | refine cfa ?_
        | refine kdec (fun hq => ?_) (fun hq => ?_)
        | refine gdec (fun hq => ?_) (fun hq => ?_)
        | refine cco (fun hq => ?_) (fun hq => ?_))
      exact .inl ⟨1, rfl, by rw [e1]; rfl⟩
theorem lvlL_props {F : Nat} (hF : 2 ≤ F) : ∀ (b n : Nat), n ≤ b → (lvlL F n) ≠ [] ∧ (lvlL F n)[0]? = some n ∧ (1 ≤ n → (lvlL F n).getLast? = some 1) ∧ ∀ i x y, (lvlL F n)[i]? = some x → (lvlL F n)[i + 1]? = some y → 1 < x ∧ y = fewN x F
  | 0, n, h => by
    rw [lvlL_one (by omega)]
    exact ⟨by simp, rfl, fun h => by omega, fun i x y h1 h2 => by cases i <;> simp at h2⟩
  | b + 1, n, h => by
    by_cases hn : 1 < n
    · rw [lvlL_more hn hF]
      obtain ⟨i1, i2, i3, i4⟩ := lvlL_props hF b (fewN n F) (by have := fewN_lt hn hF; omega)
      refine ⟨by simp, rfl, fun _ => ?_, fun i x y h1 h2 => ?_⟩
      · rw [List.getLast?_cons, i3 (fewN_pos _ _)]; rfl
      · cases i with
        | zero =>
          have h1 : n = x := by simpa using h1
          have h2 : (lvlL F (fewN n F))[0]? = some y := h2
          rw [i2] at h2
          subst h1
          exact ⟨hn, (Option.some.inj h2).symm⟩
        | succ i => exact i4 i x y h1 h2
    · rw [lvlL_one hn]
      exact ⟨by simp, rfl, fun h => by rw [show n = 1 by omega]; rfl, fun i x y h1 h2 => by cases i <;> simp at h2⟩
end Go.Proofs.Ytclbmfepdlffnaa
