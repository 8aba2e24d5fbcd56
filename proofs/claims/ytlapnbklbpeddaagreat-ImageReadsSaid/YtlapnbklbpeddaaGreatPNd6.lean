/- Nodes among the arguments; how light they are; what the two answers to whether a node may be have in common. -/
import Derived.Test.YtlapnbklbpeddaaGreatPNd5
namespace Go.Proofs.YtlapnbklbpeddaaGreat
open Go Go.RowKit
set_option linter.unusedVariables false
set_option maxRecDepth 20000
set_option linter.unusedSimpArgs false
set_option maxHeartbeats 4000000
attribute [local irreducible] Calls
abbrev ndCells (n : Nd) : List Value := [.int .i64 n.slot, .int .i64 n.level, n.pv, n.kv, .string n.high, .bool n.top, .int .i64 n.right, .int .i64 n.seen, n.mv, n.rv]
/-- The sizes of what an argument is. -/
structure Nd.In (n : Nd) : Prop where
  slot : I64 n.slot
  level : I64 n.level
  right : I64 n.right
  seen : I64 n.seen
  high : Sz n.high
  ps : ∀ s ∈ n.ps, Sz s
  ks : ∀ k ∈ n.ks, I64 k
  ms : ∀ m ∈ n.ms, m.In
  rs : ∀ p ∈ n.rs, p.In
theorem inM_eq {n : Nd} {m : Msg} (hr : rightM m = true) : inM n m = inM' n m := by
  unfold inM inM'
  congr 1
  cases ht : n.top with
  | true =>
    rw [Bool.true_or]
    have : spanN n = all := by unfold spanN; rw [if_pos ht]
    rw [this]
    have h1 := within_ends (spanM m) all em
    rw [← h1]
    refine List.all_eq_true.2 fun x _ => ?_
    rw [has_all, Bool.or_true]
  | false =>
    rw [Bool.false_or]
    have hN : spanN n = norm ⟨em, n.high, false⟩ := by unfold spanN; rw [if_neg (by rw [ht]; simp)]
    have hb : ∀ x, has (spanN n) x = lt x n.high := fun x => by rw [has_spanN]; unfold hasN; rw [ht]; rfl
    have ho := has_own hr
    have hsz : ∀ x, has (spanM m) x = (!lt x (spanM m).lo && ((spanM m).opn || lt x (spanM m).hi)) := fun x => rfl
    rw [← within_ends (spanM m) (spanN n) n.high]
    have hne : empty (spanM m) = false := by
      cases he : empty (spanM m) with
      | false => rfl
      | true => rw [has_empty he] at ho; cases ho
    have hlo : has (spanM m) (spanM m).lo = true := by rw [empty_iff] at hne; simpa using hne
    cases hc : (!(spanM m).opn && !lt n.high (spanM m).hi) with
    | true =>
      simp only [Bool.and_eq_true, Bool.not_eq_true'] at hc
      refine List.all_eq_true.2 fun x _ => ?_
      cases hx : has (spanM m) x with
      | false => rfl
      | true =>
        rw [hsz, hc.1, Bool.false_or, Bool.and_eq_true] at hx
        rw [hb]
        have := lt_le hx.2 hc.2
        rw [this]; rfl
    | false =>
      cases hall : (ends (spanM m) (spanN n) n.high).all (fun x => !has (spanM m) x || has (spanN n) x) with
      | false => rfl
      | true =>
        exfalso
        have hat := fun x (hx : x ∈ ends (spanM m) (spanN n) n.high) => List.all_eq_true.1 hall x hx
        have h1 := hat (spanM m).lo (by unfold ends; simp)
        rw [hlo, hb] at h1
        simp at h1
        have h2 := hat n.high (by unfold ends; simp)
        rw [hb, lt_irr, Bool.or_false] at h2
        rw [hsz, lt_asy h1] at h2
        cases hop : (spanM m).opn with
        | true => rw [hop] at h2; simp at h2
        | false =>
          rw [hop] at h2 hc
          simp at h2 hc
          rw [h2] at hc; cases hc
theorem all_eqR (l : List Msg) : l.all refRightM = l.all rightM := by
  have : refRightM = rightM := funext refRightM_eq
  rw [this]
theorem inr_eq (c : Cfg) (n : Nd) : inrN c n = (refInr c n && refAll n) := by
  unfold inrN refInr refAll innN rightL allB
  rw [all_eqR]
  cases hm : n.ms.all rightM with
  | false => simp
  | true =>
    have key : ∀ l : List Msg, l.all rightM = true → l.all (inM n) = l.all (inM' n) := by
      intro l
      induction l with
      | nil => intro _; rfl
      | cons a l ih =>
        intro h
        simp only [List.all_cons, Bool.and_eq_true] at h
        rw [List.all_cons, List.all_cons, inM_eq h.1, ih h.2]
    have : n.ms.all (inM n) = n.ms.all (inM' n) := key n.ms hm
    rw [this]
    cases ((n.rs.length : Int) == 0) <;> cases decide (2 ≤ (n.ks.length : Int)) <;> cases decide ((n.ks.length : Int) ≤ c.fanout) <;> cases rightK n.ps n.ks <;> cases riseB n.ms <;> cases decide (sizeL n.ms ≤ c.budget) <;> simp
theorem ref_RightN (c : Cfg) (n : Nd) (w : World) (hn : n.Ok (Mem.of w)) (hz : n.Big) : Calls Tryz.prog 26 #[.agg #[.int .i64 c.fanout, .int .i64 c.leaf, .int .i64 c.budget, .int .i64 c.slots, .int .i64 c.restarts], .agg #[.int .i64 n.slot, .int .i64 n.level, n.pv, n.kv, .string n.high, .bool n.top, .int .i64 n.right, .int .i64 n.seen, n.mv, n.rv]] w fun e w' => e = .returned (.bool (rightN c n)) ∧ Below w.heap.size w w' := by
  have cL := fun W hW => ref_leafN c n W (hn.mono hW) hz
  have cI := fun W hW => ref_innerN c n W (hn.mono hW) hz
  have t1 := dgt (n.high.size : Int) 16
  have t2 := dltn n.right 0
  unfold rightN
  rw [inr_eq]
  cases hh : headOk n with
  | false =>
    rw [Bool.false_and]
    unfold headOk endN at hh
    refine V_flat (args := [.agg #[.int .i64 c.fanout, .int .i64 c.leaf, .int .i64 c.budget, .int .i64 c.slots, .int .i64 c.restarts], .agg #[.int .i64 n.slot, .int .i64 n.level, n.pv, n.kv, .string n.high, .bool n.top, .int .i64 n.right, .int .i64 n.seen, n.mv, n.rv]]) (M := Mem.of w) Tryz.func26 rfl Tryz.ntmps26 (by rfl) (Mem.le_refl _) ?_
    repeat' (first | refine VC_seq ?_ | refine VC_region ?_ | refine VL_nil ?_ | refine VC_ret ?_ | refine VC_skip ?_ | refine kbox ?_ | ((apply VL_q); (first | exact QS_call (by rfl) cL | exact QS_call (by rfl) cI | exact qmv (by rfl) | exact qas (by rfl) | exact ql1 (by rfl) | exact qlA (by rfl) | exact qfa (by rfl) | exact qno (by rfl) | exact qls (by rfl) | exact qpt (by rfl) | exact qpf (by rfl) | exact qcp (by rfl)); rfl) | refine kyes ?_ | refine kno ?_ | refine knoU ?_ | refine ctr ?_ | refine cfa ?_ | refine kdec (fun hq => ?_) (fun hq => ?_) | refine cco (fun hq => ?_) (fun hq => ?_))
    all_goals first
      | (refine Res.one (by rfl) (ResV_tmp (by rfl) rfl))
      | (exfalso; simp_all [em, bne] <;> omega)
  | true =>
    rw [Bool.true_and]
    unfold headOk endN at hh
    cases hl : (n.level == 0) with
    | true =>
      refine V_flat (args := [.agg #[.int .i64 c.fanout, .int .i64 c.leaf, .int .i64 c.budget, .int .i64 c.slots, .int .i64 c.restarts], .agg #[.int .i64 n.slot, .int .i64 n.level, n.pv, n.kv, .string n.high, .bool n.top, .int .i64 n.right, .int .i64 n.seen, n.mv, n.rv]]) (M := Mem.of w) Tryz.func26 rfl Tryz.ntmps26 (by rfl) (Mem.le_refl _) ?_
      repeat' (first | refine VC_seq ?_ | refine VC_region ?_ | refine VL_nil ?_ | refine VC_ret ?_ | refine VC_skip ?_ | refine kbox ?_ | ((apply VL_q); (first | exact QS_call (by rfl) cL | exact qmv (by rfl) | exact qas (by rfl) | exact ql1 (by rfl) | exact qlA (by rfl) | exact qfa (by rfl) | exact qno (by rfl) | exact qls (by rfl) | exact qpt (by rfl) | exact qpf (by rfl) | exact qcp (by rfl)); rfl) | refine kyes ?_ | refine kno ?_ | refine knoU ?_ | refine ctr ?_ | refine cfa ?_ | refine kdec (fun hq => ?_) (fun hq => ?_) | refine cco (fun hq => ?_) (fun hq => ?_))
      all_goals first
        | exact Res.one (by rfl) (ResV_tmp (by rfl) (congrArg Value.bool (if_pos rfl).symm))
        | (exfalso; simp_all [em, bne] <;> omega)
    | false =>
      refine V_flat (args := [.agg #[.int .i64 c.fanout, .int .i64 c.leaf, .int .i64 c.budget, .int .i64 c.slots, .int .i64 c.restarts], .agg #[.int .i64 n.slot, .int .i64 n.level, n.pv, n.kv, .string n.high, .bool n.top, .int .i64 n.right, .int .i64 n.seen, n.mv, n.rv]]) (M := Mem.of w) Tryz.func26 rfl Tryz.ntmps26 (by rfl) (Mem.le_refl _) ?_
      repeat' (first | refine VC_seq ?_ | refine VC_region ?_ | refine VL_nil ?_ | refine VC_ret ?_ | refine VC_skip ?_ | refine kbox ?_ | ((apply VL_q); (first | exact QS_call (by rfl) cI | exact qmv (by rfl) | exact qas (by rfl) | exact ql1 (by rfl) | exact qlA (by rfl) | exact qfa (by rfl) | exact qno (by rfl) | exact qls (by rfl) | exact qpt (by rfl) | exact qpf (by rfl) | exact qcp (by rfl)); rfl) | refine kyes ?_ | refine kno ?_ | refine knoU ?_ | refine ctr ?_ | refine cfa ?_ | refine kdec (fun hq => ?_) (fun hq => ?_) | refine cco (fun hq => ?_) (fun hq => ?_))
      all_goals first
        | exact Res.one (by rfl) (ResV_tmp (by rfl) (congrArg Value.bool (if_neg (by simp)).symm))
        | (exfalso; simp_all [em, bne] <;> omega)
def leaf0 (slot : Int) : Nd := ⟨slot, 0, .slice none 0 0, [], .slice none 0 0, [], em, true, -1, 0, .slice none 0 0, [], .slice none 0 0, []⟩
def zero0 : Nd := ⟨0, 0, .slice none 0 0, [], .slice none 0 0, [], em, false, 0, 0, .slice none 0 0, [], .slice none 0 0, []⟩
theorem leaf0_ok (M : Mem) (slot : Int) : (leaf0 slot).Ok M := ⟨SlM.nil _ _ _, SlM.nil _ _ _, SlM.nil _ _ _, SlM.nil _ _ _⟩
theorem zero0_ok (M : Mem) : zero0.Ok M := ⟨SlM.nil _ _ _, SlM.nil _ _ _, SlM.nil _ _ _, SlM.nil _ _ _⟩
theorem leaf0_big (slot : Int) : (leaf0 slot).Big where
  high := by show em.size ≤ _; decide
  ps := fun s hs => nomatch hs
  psn := Nat.zero_le _
  ksn := Nat.zero_le _
  ms := fun s hs => nomatch hs
  msn := Nat.zero_le _
  rs := fun s hs => nomatch hs
  rsn := Nat.zero_le _
  min := fun s hs => nomatch hs
end Go.Proofs.YtlapnbklbpeddaaGreat
