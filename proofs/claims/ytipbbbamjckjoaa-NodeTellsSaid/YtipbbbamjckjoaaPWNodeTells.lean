/- The walk of NodeTells. -/
import Derived.Test.YtipbbbamjckjoaaPNdArgs
namespace Go.Proofs.Ytipbbbamjckjoaa.lawNodeTells
open Go Go.RowKit
set_option linter.unusedVariables false
set_option maxRecDepth 20000
set_option linter.unusedSimpArgs false
set_option maxHeartbeats 4000000
attribute [local irreducible] Calls
theorem walk (c : Cfg) (n m : Nd) (k : ByteArray) (w : World) (hn : n.Ok (Mem.of w)) (hm : m.Ok (Mem.of w)) (hni : n.In) (hmi : m.In) (hk : Sz k) :
    Calls Try.prog 10 #[.agg #[.int .i64 c.fanout, .int .i64 c.leaf, .int .i64 c.budget, .int .i64 c.slots, .int .i64 c.restarts], .agg #[.int .i64 n.slot, .int .i64 n.level, n.pv, n.kv, .string n.high, .bool n.top, .int .i64 n.right, .int .i64 n.seen, n.mv, n.rv], .agg #[.int .i64 m.slot, .int .i64 m.level, m.pv, m.kv, .string m.high, .bool m.top, .int .i64 m.right, .int .i64 m.seen, m.mv, m.rv], .string k] w fun e w' => e = .returned (.bool true) ∧ Below w.heap.size w w' := by
  have hlight := fun (v : Value) (M : Mem) (hM : (Mem.of w).le M) (hv : SlM M 10 ndCells v [n, m]) (W : World) (hW : M.le (Mem.of W)) => ref_Light v [n, m] 2 2000 W M hW hv (fun a ha => by
    rcases List.mem_cons.1 ha with e | ha
    · rw [e]; exact hn.mono hM
    · rw [List.mem_singleton.1 ha]; exact hm.mono hM) (fun a ha => by
    rcases List.mem_cons.1 ha with e | ha
    · rw [e]; exact hni
    · rw [List.mem_singleton.1 ha]; exact hmi) (by omega) (by omega) (by show 2 ≤ _; omega)
  have cA := fun W => node_awake W
  cases hL : lightL 2 2000 [n, m] with
  | false =>
    refine V_flat (args := [.agg #[.int .i64 c.fanout, .int .i64 c.leaf, .int .i64 c.budget, .int .i64 c.slots, .int .i64 c.restarts], .agg #[.int .i64 n.slot, .int .i64 n.level, n.pv, n.kv, .string n.high, .bool n.top, .int .i64 n.right, .int .i64 n.seen, n.mv, n.rv], .agg #[.int .i64 m.slot, .int .i64 m.level, m.pv, m.kv, .string m.high, .bool m.top, .int .i64 m.right, .int .i64 m.seen, m.mv, m.rv], .string k]) (M := Mem.of w) Try.func10 rfl Try.ntmps10 (by rfl) (Mem.le_refl _) ?_
    repeat' (first
      | refine VC_seq ?_
      | refine VC_region ?_
      | refine VL_nil ?_
      | refine VC_ret ?_
      | refine VC_exit ?_
      | refine VC_block ?_
      | refine VC_skip ?_
      | refine kbox ?_
      | refine kall ?_
      | refine kst ?_
      | refine ksN ?_
      | refine klt ?_
      | refine kl1 ?_
      | refine klK ?_
      | refine kap ?_
      | ((first | apply VL_q | apply VG_q | apply VS_q2); (first  | exact qmv (by rfl) | exact qas (by rfl) | exact ql1 (by rfl) | exact qlA (by rfl) | exact qfa (by rfl) | exact qmf (by rfl) | exact qfd (by rfl) | exact qm1 (by rfl) | exact qbd (by rfl) | exact qno (by rfl) | exact qex (by rfl) | exact qln (by rfl) | exact qls (by rfl) | exact qlr (by rfl) | exact qpt (by rfl) | exact qpf (by rfl) | exact qcp (by rfl) | exact qbe (by rfl) | exact qbn (by rfl) | exact qsn (by rfl) | exact qad (by rfl) | exact qsa (by rfl) | exact qsu (by rfl) | exact QS_bin (by rfl) (by rfl) (by first | exact B_slnil | exact Bq_eql_Span | exact Bq_neq_Span | exact Bq_eql_Eff | exact Bq_neq_Eff | exact Bq_eql_Msg | exact Bq_neq_Msg | exact Bq_eql_Pair | exact Bq_neq_Pair)); rfl)
      | refine sst ?_
      | refine VS_nil ?_
      | refine eeq ?_
      | refine ees ?_ (by first | exact es1 (by rfl) | exact esN (by rfl))
      | refine VE_nil ?_
      | refine kyes ?_
      | refine kno ?_
      | refine gyes ?_
      | refine gno ?_
      | refine knoU ?_
      | refine gnoU ?_
      | refine VG_nil ⟨by rfl, ?_⟩
      | refine VG_nil ?_
      | refine dT ?_
      | refine d1 ?_
      | refine dQ ?_
      | refine ctr ?_
      | refine cfa ?_
      | refine kdec (fun hq => ?_) (fun hq => ?_)
      | refine gdec (fun hq => ?_) (fun hq => ?_)
      | refine cco (fun hq => ?_) (fun hq => ?_))
    refine VL_frz 3 (by rfl) (fun v M2 hle2 hv => ?_)
    have hS : SlM M2 10 ndCells v [n, m] := hv.slM (l := [n, m]) (fun _ _ => rfl)
    have c1 := fun W hW => hlight v M2 hle2 hS W hW
    rw [hL] at c1
    repeat' (first
      | refine VC_seq ?_
      | refine VC_region ?_
      | refine VL_nil ?_
      | refine VC_ret ?_
      | refine VC_exit ?_
      | refine VC_block ?_
      | refine VC_skip ?_
      | refine kbox ?_
      | refine kall ?_
      | refine kst ?_
      | refine ksN ?_
      | refine klt ?_
      | refine kl1 ?_
      | refine klK ?_
      | refine kap ?_
      | ((first | apply VL_q | apply VG_q | apply VS_q2); (first | exact QS_call (by rfl) c1 | exact QS_call (by rfl) (fun W _ => cA W) | exact qmv (by rfl) | exact qas (by rfl) | exact ql1 (by rfl) | exact qlA (by rfl) | exact qfa (by rfl) | exact qmf (by rfl) | exact qfd (by rfl) | exact qm1 (by rfl) | exact qbd (by rfl) | exact qno (by rfl) | exact qex (by rfl) | exact qln (by rfl) | exact qls (by rfl) | exact qlr (by rfl) | exact qpt (by rfl) | exact qpf (by rfl) | exact qcp (by rfl) | exact qbe (by rfl) | exact qbn (by rfl) | exact qsn (by rfl) | exact qad (by rfl) | exact qsa (by rfl) | exact qsu (by rfl) | exact QS_bin (by rfl) (by rfl) (by first | exact B_slnil | exact Bq_eql_Span | exact Bq_neq_Span | exact Bq_eql_Eff | exact Bq_neq_Eff | exact Bq_eql_Msg | exact Bq_neq_Msg | exact Bq_eql_Pair | exact Bq_neq_Pair)); rfl)
      | refine sst ?_
      | refine VS_nil ?_
      | refine eeq ?_
      | refine ees ?_ (by first | exact es1 (by rfl) | exact esN (by rfl))
      | refine VE_nil ?_
      | refine kyes ?_
      | refine kno ?_
      | refine gyes ?_
      | refine gno ?_
      | refine knoU ?_
      | refine gnoU ?_
      | refine VG_nil ⟨by rfl, ?_⟩
      | refine VG_nil ?_
      | refine dT ?_
      | refine d1 ?_
      | refine dQ ?_
      | refine ctr ?_
      | refine cfa ?_
      | refine kdec (fun hq => ?_) (fun hq => ?_)
      | refine gdec (fun hq => ?_) (fun hq => ?_)
      | refine cco (fun hq => ?_) (fun hq => ?_))
    show Res _ _ _ _
    refine Res.one (by rfl) (ResV_tmp (by rfl) ?_)
    rfl
  | true =>
    cases hkk : decide ((300 : Int) < (k.size : Int)) with
    | true =>
      refine V_flat (args := [.agg #[.int .i64 c.fanout, .int .i64 c.leaf, .int .i64 c.budget, .int .i64 c.slots, .int .i64 c.restarts], .agg #[.int .i64 n.slot, .int .i64 n.level, n.pv, n.kv, .string n.high, .bool n.top, .int .i64 n.right, .int .i64 n.seen, n.mv, n.rv], .agg #[.int .i64 m.slot, .int .i64 m.level, m.pv, m.kv, .string m.high, .bool m.top, .int .i64 m.right, .int .i64 m.seen, m.mv, m.rv], .string k]) (M := Mem.of w) Try.func10 rfl Try.ntmps10 (by rfl) (Mem.le_refl _) ?_
      repeat' (first
        | refine VC_seq ?_
        | refine VC_region ?_
        | refine VL_nil ?_
        | refine VC_ret ?_
        | refine VC_exit ?_
        | refine VC_block ?_
        | refine VC_skip ?_
        | refine kbox ?_
        | refine kall ?_
        | refine kst ?_
        | refine ksN ?_
        | refine klt ?_
        | refine kl1 ?_
        | refine klK ?_
        | refine kap ?_
        | ((first | apply VL_q | apply VG_q | apply VS_q2); (first  | exact qmv (by rfl) | exact qas (by rfl) | exact ql1 (by rfl) | exact qlA (by rfl) | exact qfa (by rfl) | exact qmf (by rfl) | exact qfd (by rfl) | exact qm1 (by rfl) | exact qbd (by rfl) | exact qno (by rfl) | exact qex (by rfl) | exact qln (by rfl) | exact qls (by rfl) | exact qlr (by rfl) | exact qpt (by rfl) | exact qpf (by rfl) | exact qcp (by rfl) | exact qbe (by rfl) | exact qbn (by rfl) | exact qsn (by rfl) | exact qad (by rfl) | exact qsa (by rfl) | exact qsu (by rfl) | exact QS_bin (by rfl) (by rfl) (by first | exact B_slnil | exact Bq_eql_Span | exact Bq_neq_Span | exact Bq_eql_Eff | exact Bq_neq_Eff | exact Bq_eql_Msg | exact Bq_neq_Msg | exact Bq_eql_Pair | exact Bq_neq_Pair)); rfl)
        | refine sst ?_
        | refine VS_nil ?_
        | refine eeq ?_
        | refine ees ?_ (by first | exact es1 (by rfl) | exact esN (by rfl))
        | refine VE_nil ?_
        | refine kyes ?_
        | refine kno ?_
        | refine gyes ?_
        | refine gno ?_
        | refine knoU ?_
        | refine gnoU ?_
        | refine VG_nil ⟨by rfl, ?_⟩
        | refine VG_nil ?_
        | refine dT ?_
        | refine d1 ?_
        | refine dQ ?_
        | refine ctr ?_
        | refine cfa ?_
        | refine kdec (fun hq => ?_) (fun hq => ?_)
        | refine gdec (fun hq => ?_) (fun hq => ?_)
        | refine cco (fun hq => ?_) (fun hq => ?_))
      refine VL_frz 3 (by rfl) (fun v M2 hle2 hv => ?_)
      have hS : SlM M2 10 ndCells v [n, m] := hv.slM (l := [n, m]) (fun _ _ => rfl)
      have c1 := fun W hW => hlight v M2 hle2 hS W hW
      rw [hL] at c1
      repeat' (first
        | refine VC_seq ?_
        | refine VC_region ?_
        | refine VL_nil ?_
        | refine VC_ret ?_
        | refine VC_exit ?_
        | refine VC_block ?_
        | refine VC_skip ?_
        | refine kbox ?_
        | refine kall ?_
        | refine kst ?_
        | refine ksN ?_
        | refine klt ?_
        | refine kl1 ?_
        | refine klK ?_
        | refine kap ?_
        | ((first | apply VL_q | apply VG_q | apply VS_q2); (first | exact QS_call (by rfl) c1 | exact QS_call (by rfl) (fun W _ => cA W) | exact qmv (by rfl) | exact qas (by rfl) | exact ql1 (by rfl) | exact qlA (by rfl) | exact qfa (by rfl) | exact qmf (by rfl) | exact qfd (by rfl) | exact qm1 (by rfl) | exact qbd (by rfl) | exact qno (by rfl) | exact qex (by rfl) | exact qln (by rfl) | exact qls (by rfl) | exact qlr (by rfl) | exact qpt (by rfl) | exact qpf (by rfl) | exact qcp (by rfl) | exact qbe (by rfl) | exact qbn (by rfl) | exact qsn (by rfl) | exact qad (by rfl) | exact qsa (by rfl) | exact qsu (by rfl) | exact QS_bin (by rfl) (by rfl) (by first | exact B_slnil | exact Bq_eql_Span | exact Bq_neq_Span | exact Bq_eql_Eff | exact Bq_neq_Eff | exact Bq_eql_Msg | exact Bq_neq_Msg | exact Bq_eql_Pair | exact Bq_neq_Pair)); rfl)
        | refine sst ?_
        | refine VS_nil ?_
        | refine eeq ?_
        | refine ees ?_ (by first | exact es1 (by rfl) | exact esN (by rfl))
        | refine VE_nil ?_
        | refine kyes ?_
        | refine kno ?_
        | refine gyes ?_
        | refine gno ?_
        | refine knoU ?_
        | refine gnoU ?_
        | refine VG_nil ⟨by rfl, ?_⟩
        | refine VG_nil ?_
        | refine dT ?_
        | refine d1 ?_
        | refine dQ ?_
        | refine ctr ?_
        | refine cfa ?_
        | refine kdec (fun hq => ?_) (fun hq => ?_)
        | refine gdec (fun hq => ?_) (fun hq => ?_)
        | refine cco (fun hq => ?_) (fun hq => ?_))
      show Res _ _ _ _
      refine Res.one (by rfl) (ResV_tmp (by rfl) ?_)
      rfl
    | false =>
      have hk3 : k.size ≤ 300 := by
        simp only [decide_eq_false_iff_not] at hkk; omega
      have hbig : ∀ a, a ∈ [n, m] → lightN 2000 a = true := by
        unfold lightL at hL
        simp only [Bool.and_eq_true] at hL
        exact fun a ha => List.all_eq_true.1 hL.2 a ha
      have hnb := light_big hni (hbig n (by simp))
      have hmb := light_big hmi (hbig m (by simp))
      have q1 : (!(rightN c n == rightN c n)) = false := by simp
      have q2 : (!(fullN c n == fullN c n)) = false := by simp
      have q3 : (!(hasN n k == hasN n k)) = false := by simp
      have q4 : (!eqv (spanN n) (spanN n)) = false := by rw [eqv_self]; rfl
      have q5 : (((n.ms.length : Int) == 0) == ((n.ms.length : Int) == 0)) = true := by simp
      have q6 : (sameN n m == sameN n m) = true := by simp
      have q7 := sameN_self n
      have b1 := fun (M : Mem) (hM : (Mem.of w).le M) W (hW : M.le (Mem.of W)) => node_Right c n W ((hn.mono hM).mono hW) hnb
      have b2 := fun (M : Mem) (hM : (Mem.of w).le M) W (hW : M.le (Mem.of W)) => ref_RightN c n W ((hn.mono hM).mono hW) hnb
      have b3 := fun (M : Mem) (hM : (Mem.of w).le M) W (hW : M.le (Mem.of W)) => node_Full c n W ((hn.mono hM).mono hW)
      have b4 := fun (M : Mem) (hM : (Mem.of w).le M) W (hW : M.le (Mem.of W)) => ref_FullN c n W ((hn.mono hM).mono hW)
      have b5 := fun W => node_Has n k W
      have b6 := fun W => ref_HasN n k W hnb.high (by omega)
      have b7 := fun W => node_Span n W
      have b8 := fun W => ref_SpanN n W hnb.high
      have b9 := fun (M : Mem) (hM : (Mem.of w).le M) W (hW : M.le (Mem.of W)) => node_Free n W ((hn.mono hM).mono hW)
      have b10 := fun (M : Mem) (hM : (Mem.of w).le M) W (hW : M.le (Mem.of W)) => node_Same n m W ((hn.mono hM).mono hW) ((hm.mono hM).mono hW)
      have b11 := fun (M : Mem) (hM : (Mem.of w).le M) W (hW : M.le (Mem.of W)) => ref_SameN n m W ((hn.mono hM).mono hW) ((hm.mono hM).mono hW)
      have b12 := fun (M : Mem) (hM : (Mem.of w).le M) W (hW : M.le (Mem.of W)) => node_Same n n W ((hn.mono hM).mono hW) ((hn.mono hM).mono hW)
      obtain ⟨A, d, hmv, _⟩ := id hn.2.2.1
      rw [q7] at b12
      generalize hr : rightN c n = r1 at *
      generalize hf : fullN c n = r2 at *
      generalize hh : hasN n k = r3 at *
      generalize hs : spanN n = r4 at *
      generalize hsm : sameN n m = r5 at *
      clear hlight
      have hlight := fun (v : Value) (M : Mem) (hM : (Mem.of w).le M) (hv : SlM M 10 ndCells v [n, m]) (W : World) (hW : M.le (Mem.of W)) => ref_Light v [n, m] 2 2000 W M hW hv (fun a ha => by
        rcases List.mem_cons.1 ha with e | ha
        · rw [e]; exact hn.mono hM
        · rw [List.mem_singleton.1 ha]; exact hm.mono hM) (fun a ha => by
        rcases List.mem_cons.1 ha with e | ha
        · rw [e]; exact hni
        · rw [List.mem_singleton.1 ha]; exact hmi) (by omega) (by omega) (by show 2 ≤ _; omega)
      refine V_flat (args := [.agg #[.int .i64 c.fanout, .int .i64 c.leaf, .int .i64 c.budget, .int .i64 c.slots, .int .i64 c.restarts], .agg #[.int .i64 n.slot, .int .i64 n.level, n.pv, n.kv, .string n.high, .bool n.top, .int .i64 n.right, .int .i64 n.seen, n.mv, n.rv], .agg #[.int .i64 m.slot, .int .i64 m.level, m.pv, m.kv, .string m.high, .bool m.top, .int .i64 m.right, .int .i64 m.seen, m.mv, m.rv], .string k]) (M := Mem.of w) Try.func10 rfl Try.ntmps10 (by rfl) (Mem.le_refl _) ?_
      repeat' (first
        | refine VC_seq ?_
        | refine VC_region ?_
        | refine VL_nil ?_
        | refine VC_ret ?_
        | refine VC_exit ?_
        | refine VC_block ?_
        | refine VC_skip ?_
        | refine kbox ?_
        | refine kall ?_
        | refine kst ?_
        | refine ksN ?_
        | refine klt ?_
        | refine kl1 ?_
        | refine klK ?_
        | refine kap ?_
        | ((first | apply VL_q | apply VG_q | apply VS_q2); (first  | exact qmv (by rfl) | exact qas (by rfl) | exact ql1 (by rfl) | exact qlA (by rfl) | exact qfa (by rfl) | exact qmf (by rfl) | exact qfd (by rfl) | exact qm1 (by rfl) | exact qbd (by rfl) | exact qno (by rfl) | exact qex (by rfl) | exact qln (by rfl) | exact qls (by rfl) | exact qlr (by rfl) | exact qpt (by rfl) | exact qpf (by rfl) | exact qcp (by rfl) | exact qbe (by rfl) | exact qbn (by rfl) | exact qsn (by rfl) | exact qad (by rfl) | exact qsa (by rfl) | exact qsu (by rfl) | exact QS_bin (by rfl) (by rfl) (by first | exact B_slnil | exact Bq_eql_Span | exact Bq_neq_Span | exact Bq_eql_Eff | exact Bq_neq_Eff | exact Bq_eql_Msg | exact Bq_neq_Msg | exact Bq_eql_Pair | exact Bq_neq_Pair)); rfl)
        | refine sst ?_
        | refine VS_nil ?_
        | refine eeq ?_
        | refine ees ?_ (by first | exact es1 (by rfl) | exact esN (by rfl))
        | refine VE_nil ?_
        | refine kyes ?_
        | refine kno ?_
        | refine gyes ?_
        | refine gno ?_
        | refine knoU ?_
        | refine gnoU ?_
        | refine VG_nil ⟨by rfl, ?_⟩
        | refine VG_nil ?_
        | refine dT ?_
        | refine d1 ?_
        | refine dQ ?_
        | refine ctr ?_
        | refine cfa ?_
        | refine kdec (fun hq => ?_) (fun hq => ?_)
        | refine gdec (fun hq => ?_) (fun hq => ?_)
        | refine cco (fun hq => ?_) (fun hq => ?_))
      refine VL_frz 3 (by rfl) (fun v M2 hle2 hv => ?_)
      have hS : SlM M2 10 ndCells v [n, m] := hv.slM (l := [n, m]) (fun _ _ => rfl)
      have c1 := fun W hW => hlight v M2 hle2 hS W hW
      rw [hL] at c1
      have d1 := b1 M2 hle2
      have d2 := b2 M2 hle2
      have d3 := b3 M2 hle2
      have d4 := b4 M2 hle2
      have d9 := b9 M2 hle2
      have d10 := b10 M2 hle2
      have d11 := b11 M2 hle2
      have d12 := b12 M2 hle2
      rw [hmv] at *
      repeat' (first
        | refine VC_seq ?_
        | refine VC_region ?_
        | refine VL_nil ?_
        | refine VC_ret ?_
        | refine VC_exit ?_
        | refine VC_block ?_
        | refine VC_skip ?_
        | refine kbox ?_
        | refine kall ?_
        | refine kst ?_
        | refine ksN ?_
        | refine klt ?_
        | refine kl1 ?_
        | refine klK ?_
        | refine kap ?_
        | ((first | apply VL_q | apply VG_q | apply VS_q2); (first | exact QS_call (by rfl) c1 | exact QS_call (by rfl) d1 | exact QS_call (by rfl) d2 | exact QS_call (by rfl) d3 | exact QS_call (by rfl) d4 | exact QS_call (by rfl) d9 | exact QS_call (by rfl) d10 | exact QS_call (by rfl) d11 | exact QS_call (by rfl) d12 | exact QS_call (by rfl) (fun W _ => b5 W) | exact QS_call (by rfl) (fun W _ => b6 W) | exact QS_call (by rfl) (fun W _ => b7 W) | exact QS_call (by rfl) (fun W _ => b8 W) | exact QS_call (by rfl) (fun W _ => cA W) | exact qmv (by rfl) | exact qas (by rfl) | exact ql1 (by rfl) | exact qlA (by rfl) | exact qfa (by rfl) | exact qmf (by rfl) | exact qfd (by rfl) | exact qm1 (by rfl) | exact qbd (by rfl) | exact qno (by rfl) | exact qex (by rfl) | exact qln (by rfl) | exact qls (by rfl) | exact qlr (by rfl) | exact qpt (by rfl) | exact qpf (by rfl) | exact qcp (by rfl) | exact qbe (by rfl) | exact qbn (by rfl) | exact qsn (by rfl) | exact qad (by rfl) | exact qsa (by rfl) | exact qsu (by rfl) | exact QS_bin (by rfl) (by rfl) (by first | exact B_slnil | exact Bq_eql_Span | exact Bq_neq_Span | exact Bq_eql_Eff | exact Bq_neq_Eff | exact Bq_eql_Msg | exact Bq_neq_Msg | exact Bq_eql_Pair | exact Bq_neq_Pair)); rfl)
        | refine sst ?_
        | refine VS_nil ?_
        | refine eeq ?_
        | refine ees ?_ (by first | exact es1 (by rfl) | exact esN (by rfl))
        | refine VE_nil ?_
        | refine kyes ?_
        | refine kno ?_
        | refine gyes ?_
        | refine gno ?_
        | refine knoU ?_
        | refine gnoU ?_
        | refine VG_nil ⟨by rfl, ?_⟩
        | refine VG_nil ?_
        | refine dT ?_
        | refine d1 ?_
        | refine dQ ?_
        | refine ctr ?_
        | refine cfa ?_
        | refine kdec (fun hq => ?_) (fun hq => ?_)
        | refine gdec (fun hq => ?_) (fun hq => ?_)
        | refine cco (fun hq => ?_) (fun hq => ?_))
      show Res _ _ _ _
      refine Res.one (by rfl) (ResV_tmp (by rfl) ?_)
      rfl
end Go.Proofs.Ytipbbbamjckjoaa.lawNodeTells
