/- The walk of NodeCopies. -/
import Derived.Test.YtipbbbamjckjoaaPNdCopy
namespace Go.Proofs.Ytipbbbamjckjoaa.lawNodeCopies
open Go Go.RowKit
set_option linter.unusedVariables false
set_option maxRecDepth 20000
set_option linter.unusedSimpArgs false
set_option maxHeartbeats 4000000
attribute [local irreducible] Calls
theorem B_subw {P : Program} {t : TypeId} {x y : Operand} {a b : Int} : Bin P .sub t x y (.int .i64 a) (.int .i64 b) (.int .i64 (IntKind.i64.wrap (a - b))) := .mk fun W => by simp [go_sem]
theorem nsh_open {v : Value} {n : Nat} (h : NSh v n) : ∃ A c, v = .slice A n c ∧ n ≤ c ∧ c ≤ maxLen ∧ (0 < n → ∃ b, A = some ⟨b, 0, none⟩) := by
  rcases h with ⟨rfl, rfl⟩ | ⟨b, c, rfl, h1, h2⟩
  · exact ⟨none, 0, rfl, Nat.le_refl _, Nat.zero_le _, fun h => by omega⟩
  · exact ⟨_, c, rfl, h1, h2, fun _ => ⟨b, rfl⟩⟩
theorem flat_set {α : Type} {w : Nat} (cells : α → List Value) : ∀ (L : List α) (k j : Nat) (h : k < L.length) (a' : α) (u : Value), (∀ a, (cells a).length = w) → j < w → cells a' = (cells L[k]).set j u → (L.flatMap cells).set (k * w + j) u = (L.set k a').flatMap cells
  | a :: L, 0, j, h, a', u, hw, hj, he => by
    rw [Nat.zero_mul, Nat.zero_add, List.flatMap_cons, List.set_append_left _ _ (by rw [hw]; exact hj), List.set_cons_zero, List.flatMap_cons, he]; rfl
  | a :: L, k + 1, j, h, a', u, hw, hj, he => by
    rw [List.flatMap_cons, List.set_append_right _ _ (by rw [hw, Nat.succ_mul]; omega), hw, List.set_cons_succ, List.flatMap_cons]
    congr 1
    rw [show (k + 1) * w + j - w = k * w + j by rw [Nat.succ_mul]; omega]
    exact flat_set cells L k j (by simpa using h) a' u hw hj (by simpa using he)
theorem flat_at {α : Type} {w : Nat} (cells : α → List Value) (L : List α) (k j : Nat) (h : k < L.length) (hw : ∀ a, (cells a).length = w) (hj : j < w) : (L.flatMap cells)[k * w + j]? = (cells L[k])[j]? := flat_get L k j h (fun a _ => hw a) hj
theorem flat_l {α : Type} {w : Nat} (cells : α → List Value) (hw : ∀ a, (cells a).length = w) : ∀ L : List α, (L.flatMap cells).length = L.length * w
  | [] => by simp
  | a :: L => by rw [List.flatMap_cons, List.length_append, hw, flat_l cells hw L, List.length_cons, Nat.succ_mul]; omega
def nodeOf (n : Nd) (pv kv mv rv : Value) : Nd := ⟨n.slot, n.level, pv, n.ps, kv, n.ks, n.high, n.top, n.right, n.seen, mv, n.ms, rv, n.rs⟩
theorem same_of (n : Nd) (pv kv mv rv : Value) : sameN (nodeOf n pv kv mv rv) n = true := by unfold sameN headN nodeOf; simp
theorem main (n : Nd) (slot : Int) (w : World) (hn : n.Ok (Mem.of w)) (hni : n.In) (hL : lightL 1 2000 [n] = true) :
    Calls Try.prog 9 #[.agg #[.int .i64 n.slot, .int .i64 n.level, n.pv, n.kv, .string n.high, .bool n.top, .int .i64 n.right, .int .i64 n.seen, n.mv, n.rv], .int .i64 slot] w fun e w' => e = .returned (.bool true) ∧ Below w.heap.size w w' := by
  have hb : lightN 2000 n = true := by
    unfold lightL at hL
    simp only [Bool.and_eq_true] at hL
    exact List.all_eq_true.1 hL.2 n (by simp)
  have hnb := light_big hni hb
  have cA := fun W => node_awake W
  have c0 := fun W => node_Leaf slot W
  have q7 := sameN_self (leaf0 slot)
  have cL := fun (M : Mem) W (hW : M.le (Mem.of W)) => ref_SameN (leaf0 slot) (leaf0 slot) W (leaf0_ok _ slot) (leaf0_ok _ slot)
  rw [q7] at cL
  have o1 : n.pv.oneCell' = true := by obtain ⟨A, c, h, _⟩ := hn.1; rw [h]; rfl
  have o2 : n.kv.oneCell' = true := by obtain ⟨A, c, h, _⟩ := hn.2.1; rw [h]; rfl
  have o3 : n.mv.oneCell' = true := by obtain ⟨A, c, h, _⟩ := hn.2.2.1; rw [h]; rfl
  have o4 : n.rv.oneCell' = true := by obtain ⟨A, c, h, _⟩ := hn.2.2.2; rw [h]; rfl
  refine V_flat (args := [.agg #[.int .i64 n.slot, .int .i64 n.level, n.pv, n.kv, .string n.high, .bool n.top, .int .i64 n.right, .int .i64 n.seen, n.mv, n.rv], .int .i64 slot]) (M := Mem.of w) Try.func9 rfl Try.ntmps9 (by rfl) (Mem.le_refl _) ?_
  repeat' (first
    | refine VC_seq ?_
    | refine VC_region ?_
    | refine VL_nil ?_
    | refine VC_ret ?_
    | refine VC_exit ?_
    | refine VC_block ?_
    | refine VC_skip ?_
    | refine kbox ?_
    | refine kall ?_
    | refine kst ?_
    | refine ksN ?_
    | refine klt ?_
    | refine kl1 ?_
    | refine klK ?_
    | refine kap ?_
    | ((first | apply VL_q | apply VG_q | apply VS_q2); (first  | exact qmv (by rfl) | exact qas (by rfl) | exact ql1 (by rfl) | exact qlA (by rfl) | exact qfa (by rfl) | exact qmf (by rfl) | exact qfd (by rfl) | exact qm1 (by rfl) | exact qbd (by rfl) | exact qno (by rfl) | exact qex (by rfl) | exact qln (by rfl) | exact qls (by rfl) | exact qlr (by rfl) | exact qpt (by rfl) | exact qpf (by rfl) | exact qcp (by rfl) | exact qbe (by rfl) | exact qbn (by rfl) | exact qsn (by rfl) | exact qad (by rfl) | exact qsa (by rfl) | exact qsu (by rfl) | exact QS_bin (by rfl) (by rfl) (by first | exact B_slnil | exact Bq_eql_Span | exact Bq_neq_Span | exact Bq_eql_Eff | exact Bq_neq_Eff | exact Bq_eql_Msg | exact Bq_neq_Msg | exact Bq_eql_Pair | exact Bq_neq_Pair)); rfl)
    | refine sst ?_
    | refine VS_nil ?_
    | refine eeq ?_
    | refine ees ?_ (by first | exact es1 (by rfl) | exact esN (by rfl))
    | refine VE_nil ?_
    | refine kyes ?_
    | refine kno ?_
    | refine gyes ?_
    | refine gno ?_
    | refine knoU ?_
    | refine gnoU ?_
    | refine VG_nil ⟨by rfl, ?_⟩
    | refine VG_nil ?_
    | refine dT ?_
    | refine d1 ?_
    | refine dQ ?_
    | refine ctr ?_
    | refine cfa ?_
    | refine kdec (fun hq => ?_) (fun hq => ?_)
    | refine gdec (fun hq => ?_) (fun hq => ?_)
    | refine cco (fun hq => ?_) (fun hq => ?_))
  refine VL_frz 1 (by rfl) (fun v M2 hle2 hv => ?_)
  have hS : SlM M2 10 ndCells v [n] := hv.slM (l := [n]) (fun _ _ => rfl)
  have c1 : ∀ W, M2.le (Mem.of W) → Calls Try.prog 52 #[v, .int .i64 1, .int .i64 2000] W fun e w' => e = .returned (.bool true) ∧ Below W.heap.size W w' := fun W hW => by
    have := ref_Light v [n] 1 2000 W M2 hW hS (fun a ha => by rw [List.mem_singleton.1 ha]; exact hn.mono hle2) (fun a ha => by rw [List.mem_singleton.1 ha]; exact hni) (by omega) (by omega) (by show 1 ≤ _; omega)
    rw [hL] at this
    exact this
  repeat' (first
    | refine VC_seq ?_
    | refine VC_region ?_
    | refine VL_nil ?_
    | refine VC_ret ?_
    | refine VC_exit ?_
    | refine VC_block ?_
    | refine VC_skip ?_
    | refine kbox ?_
    | refine kall ?_
    | refine kst ?_
    | refine ksN ?_
    | refine klt ?_
    | refine kl1 ?_
    | refine klK ?_
    | refine kap ?_
    | ((first | apply VL_q | apply VG_q | apply VS_q2); (first | exact QS_call (by rfl) c1 | exact qmv (by rfl) | exact qas (by rfl) | exact ql1 (by rfl) | exact qlA (by rfl) | exact qfa (by rfl) | exact qmf (by rfl) | exact qfd (by rfl) | exact qm1 (by rfl) | exact qbd (by rfl) | exact qno (by rfl) | exact qex (by rfl) | exact qln (by rfl) | exact qls (by rfl) | exact qlr (by rfl) | exact qpt (by rfl) | exact qpf (by rfl) | exact qcp (by rfl) | exact qbe (by rfl) | exact qbn (by rfl) | exact qsn (by rfl) | exact qad (by rfl) | exact qsa (by rfl) | exact qsu (by rfl) | exact QS_bin (by rfl) (by rfl) (by first | exact B_slnil | exact Bq_eql_Span | exact Bq_neq_Span | exact Bq_eql_Eff | exact Bq_neq_Eff | exact Bq_eql_Msg | exact Bq_neq_Msg | exact Bq_eql_Pair | exact Bq_neq_Pair)); rfl)
    | refine sst ?_
    | refine VS_nil ?_
    | refine eeq ?_
    | refine ees ?_ (by first | exact es1 (by rfl) | exact esN (by rfl))
    | refine VE_nil ?_
    | refine kyes ?_
    | refine kno ?_
    | refine gyes ?_
    | refine gno ?_
    | refine knoU ?_
    | refine gnoU ?_
    | refine VG_nil ⟨by rfl, ?_⟩
    | refine VG_nil ?_
    | refine dT ?_
    | refine d1 ?_
    | refine dQ ?_
    | refine ctr ?_
    | refine cfa ?_
    | refine kdec (fun hq => ?_) (fun hq => ?_)
    | refine gdec (fun hq => ?_) (fun hq => ?_)
    | refine cco (fun hq => ?_) (fun hq => ?_))
  refine VL_callX (own1 := []) (Post := CopyPost n) [] (by rfl) (by rfl) trivial (fun M' hM' => node_Copy n M' ((hn.mono hle2).mono hM') hnb) (by rfl) (by rfl) (fun r obs hp => ?_)
  obtain ⟨pv, kv, mv, rv, hpv, hkv, hmv, hrv, rfl, rfl⟩ := hp
  have e1 := nsh_one hpv
  have e2 := nsh_one hkv
  have e3 := nsh_one hmv
  have e4 := nsh_one hrv
  refine VL_frzN 2 (by rfl) (fun M3 hle3 h3 => ?_)
  refine VL_frzN 3 (by rfl) (fun M4 hle4 h4 => ?_)
  refine VL_frzN 4 (by rfl) (fun M5 hle5 h5 => ?_)
  refine VL_frzN 5 (by rfl) (fun M6 hle6 h6 => ?_)
  have hna : (nodeOf n pv kv mv rv).Ok M6 := ⟨(((RowM.slM (k := 1) (cells := strCells) (l := n.ps) (fun _ _ => rfl) h3).mono hle4).mono hle5).mono hle6, ((RowM.slM (k := 1) (cells := intCells) (l := n.ks) (fun _ _ => rfl) h4).mono hle5).mono hle6, (RowM.slM (k := 6) (cells := msgCells) (l := n.ms) (fun _ _ => rfl) h5).mono hle6, RowM.slM (k := 2) (cells := pairCells) (l := n.rs) (fun _ _ => rfl) h6⟩
  have hnab : (nodeOf n pv kv mv rv).Big := ⟨hnb.high, hnb.ps, hnb.psn, hnb.ksn, hnb.ms, hnb.msn, hnb.rs, hnb.rsn, hnb.min⟩
  have hn6 : n.Ok M6 := ((((hn.mono hle2).mono hle3).mono hle4).mono hle5).mono hle6
  repeat' (first
    | refine VC_seq ?_
    | refine VC_region ?_
    | refine VL_nil ?_
    | refine VC_ret ?_
    | refine VC_exit ?_
    | refine VC_block ?_
    | refine VC_skip ?_
    | refine kbox ?_
    | refine kall ?_
    | refine kst ?_
    | refine ksN ?_
    | refine klt ?_
    | refine kl1 ?_
    | refine klK ?_
    | refine kap ?_
    | ((first | apply VL_q | apply VG_q | apply VS_q2); (first  | exact qmv (by rfl) | exact qas (by rfl) | exact ql1 (by rfl) | exact qlA (by rfl) | exact qfa (by rfl) | exact qmf (by rfl) | exact qfd (by rfl) | exact qm1 (by rfl) | exact qbd (by rfl) | exact qno (by rfl) | exact qex (by rfl) | exact qln (by rfl) | exact qls (by rfl) | exact qlr (by rfl) | exact qpt (by rfl) | exact qpf (by rfl) | exact qcp (by rfl) | exact qbe (by rfl) | exact qbn (by rfl) | exact qsn (by rfl) | exact qad (by rfl) | exact qsa (by rfl) | exact qsu (by rfl) | exact QS_bin (by rfl) (by rfl) (by first | exact B_slnil | exact Bq_eql_Span | exact Bq_neq_Span | exact Bq_eql_Eff | exact Bq_neq_Eff | exact Bq_eql_Msg | exact Bq_neq_Msg | exact Bq_eql_Pair | exact Bq_neq_Pair)); rfl)
    | refine sst ?_
    | refine VS_nil ?_
    | refine eeq ?_
    | refine ees ?_ (by first | exact es1 (by rfl) | exact esN (by rfl))
    | refine VE_nil ?_
    | refine kyes ?_
    | refine kno ?_
    | refine gyes ?_
    | refine gno ?_
    | refine knoU ?_
    | refine gnoU ?_
    | refine VG_nil ⟨by rfl, ?_⟩
    | refine VG_nil ?_
    | refine dT ?_
    | refine d1 ?_
    | refine dQ ?_
    | refine ctr ?_
    | refine cfa ?_
    | refine kdec (fun hq => ?_) (fun hq => ?_)
    | refine gdec (fun hq => ?_) (fun hq => ?_)
    | refine cco (fun hq => ?_) (fun hq => ?_))
  refine VL_storeN (by rfl) (by rfl) (by rfl) (by rfl) (by show List.all [.int .i64 n.slot, .int .i64 n.level, pv, kv, .string n.high, .bool n.top, .int .i64 n.right, .int .i64 n.seen, mv, rv] (·.oneCell') = true; simp [e1, e2, e3, e4, oc_int, oc_str, oc_bool]) _ (by rfl) (by rfl) ?_
  repeat' (first
    | refine VC_seq ?_
    | refine VC_region ?_
    | refine VL_nil ?_
    | refine VC_ret ?_
    | refine VC_exit ?_
    | refine VC_block ?_
    | refine VC_skip ?_
    | refine kbox ?_
    | refine kall ?_
    | refine kst ?_
    | refine ksN ?_
    | refine klt ?_
    | refine kl1 ?_
    | refine klK ?_
    | refine kap ?_
    | ((first | apply VL_q | apply VG_q | apply VS_q2); (first  | exact qmv (by rfl) | exact qas (by rfl) | exact ql1 (by rfl) | exact qlA (by rfl) | exact qfa (by rfl) | exact qmf (by rfl) | exact qfd (by rfl) | exact qm1 (by rfl) | exact qbd (by rfl) | exact qno (by rfl) | exact qex (by rfl) | exact qln (by rfl) | exact qls (by rfl) | exact qlr (by rfl) | exact qpt (by rfl) | exact qpf (by rfl) | exact qcp (by rfl) | exact qbe (by rfl) | exact qbn (by rfl) | exact qsn (by rfl) | exact qad (by rfl) | exact qsa (by rfl) | exact qsu (by rfl) | exact QS_bin (by rfl) (by rfl) (by first | exact B_slnil | exact Bq_eql_Span | exact Bq_neq_Span | exact Bq_eql_Eff | exact Bq_neq_Eff | exact Bq_eql_Msg | exact Bq_neq_Msg | exact Bq_eql_Pair | exact Bq_neq_Pair)); rfl)
    | refine sst ?_
    | refine VS_nil ?_
    | refine eeq ?_
    | refine ees ?_ (by first | exact es1 (by rfl) | exact esN (by rfl))
    | refine VE_nil ?_
    | refine kyes ?_
    | refine kno ?_
    | refine gyes ?_
    | refine gno ?_
    | refine knoU ?_
    | refine gnoU ?_
    | refine VG_nil ⟨by rfl, ?_⟩
    | refine VG_nil ?_
    | refine dT ?_
    | refine d1 ?_
    | refine dQ ?_
    | refine ctr ?_
    | refine cfa ?_
    | refine kdec (fun hq => ?_) (fun hq => ?_)
    | refine gdec (fun hq => ?_) (fun hq => ?_)
    | refine cco (fun hq => ?_) (fun hq => ?_))
  refine VL_callX (own1 := []) (Post := CopyPost (nodeOf n pv kv mv rv)) [] (by rfl) (by rfl) trivial (fun M' hM' => node_Copy (nodeOf n pv kv mv rv) M' (hna.mono hM') hnab) (by rfl) (by rfl) (fun r obs hp => ?_)
  obtain ⟨pv2, kv2, mv2, rv2, hpv2, hkv2, hmv2, hrv2, rfl, rfl⟩ := hp
  have e5 := nsh_one hpv2
  have e6 := nsh_one hkv2
  have e7 := nsh_one hmv2
  have e8 := nsh_one hrv2
  have cS : ∀ W, M6.le (Mem.of W) → Calls Try.prog 55 #[.agg #[.int .i64 (nodeOf n pv kv mv rv).slot, .int .i64 (nodeOf n pv kv mv rv).level, (nodeOf n pv kv mv rv).pv, (nodeOf n pv kv mv rv).kv, .string (nodeOf n pv kv mv rv).high, .bool (nodeOf n pv kv mv rv).top, .int .i64 (nodeOf n pv kv mv rv).right, .int .i64 (nodeOf n pv kv mv rv).seen, (nodeOf n pv kv mv rv).mv, (nodeOf n pv kv mv rv).rv], .agg #[.int .i64 n.slot, .int .i64 n.level, n.pv, n.kv, .string n.high, .bool n.top, .int .i64 n.right, .int .i64 n.seen, n.mv, n.rv]] W fun e w' => e = .returned (.bool true) ∧ Below W.heap.size W w' := fun W hW => by
    have := ref_SameN (nodeOf n pv kv mv rv) n W (hna.mono hW) (hn6.mono hW)
    rw [same_of] at this
    exact this
  have cL6 := cL M6
  repeat' (first
    | refine VC_seq ?_
    | refine VC_region ?_
    | refine VL_nil ?_
    | refine VC_ret ?_
    | refine VC_exit ?_
    | refine VC_block ?_
    | refine VC_skip ?_
    | refine kbox ?_
    | refine kall ?_
    | refine kst ?_
    | refine ksN ?_
    | refine klt ?_
    | refine kl1 ?_
    | refine klK ?_
    | refine kap ?_
    | ((first | apply VL_q | apply VG_q | apply VS_q2); (first  | exact qmv (by rfl) | exact qas (by rfl) | exact ql1 (by rfl) | exact qlA (by rfl) | exact qfa (by rfl) | exact qmf (by rfl) | exact qfd (by rfl) | exact qm1 (by rfl) | exact qbd (by rfl) | exact qno (by rfl) | exact qex (by rfl) | exact qln (by rfl) | exact qls (by rfl) | exact qlr (by rfl) | exact qpt (by rfl) | exact qpf (by rfl) | exact qcp (by rfl) | exact qbe (by rfl) | exact qbn (by rfl) | exact qsn (by rfl) | exact qad (by rfl) | exact qsa (by rfl) | exact qsu (by rfl) | exact QS_bin (by rfl) (by rfl) (by first | exact B_slnil | exact Bq_eql_Span | exact Bq_neq_Span | exact Bq_eql_Eff | exact Bq_neq_Eff | exact Bq_eql_Msg | exact Bq_neq_Msg | exact Bq_eql_Pair | exact Bq_neq_Pair)); rfl)
    | refine sst ?_
    | refine VS_nil ?_
    | refine eeq ?_
    | refine ees ?_ (by first | exact es1 (by rfl) | exact esN (by rfl))
    | refine VE_nil ?_
    | refine kyes ?_
    | refine kno ?_
    | refine gyes ?_
    | refine gno ?_
    | refine knoU ?_
    | refine gnoU ?_
    | refine VG_nil ⟨by rfl, ?_⟩
    | refine VG_nil ?_
    | refine dT ?_
    | refine d1 ?_
    | refine dQ ?_
    | refine ctr ?_
    | refine cfa ?_
    | refine kdec (fun hq => ?_) (fun hq => ?_)
    | refine gdec (fun hq => ?_) (fun hq => ?_)
    | refine cco (fun hq => ?_) (fun hq => ?_))
  refine VL_storeN (by rfl) (by rfl) (by rfl) (by rfl) (by show List.all [.int .i64 n.slot, .int .i64 n.level, pv2, kv2, .string n.high, .bool n.top, .int .i64 n.right, .int .i64 n.seen, mv2, rv2] (·.oneCell') = true; simp [e5, e6, e7, e8, oc_int, oc_str, oc_bool]) _ (by rfl) (by rfl) ?_
  obtain ⟨A1, d1, rfl, g1, k1, b1⟩ := nsh_open hpv2
  obtain ⟨A2, d2, rfl, g2, k2, b2⟩ := nsh_open hkv2
  obtain ⟨A3, d3, rfl, g3, k3, b3⟩ := nsh_open hmv2
  obtain ⟨A4, d4, rfl, g4, k4, b4⟩ := nsh_open hrv2
  unfold maxLen at k1 k2 k3 k4
  repeat' (first
    | refine VC_seq ?_
    | refine VC_region ?_
    | refine VL_nil ?_
    | refine VC_ret ?_
    | refine VC_exit ?_
    | refine VC_block ?_
    | refine VC_skip ?_
    | refine kbox ?_
    | refine kall ?_
    | refine kst ?_
    | refine ksN ?_
    | refine klt ?_
    | refine kl1 ?_
    | refine klK ?_
    | refine kap ?_
    | ((first | apply VL_q | apply VG_q | apply VS_q2); (first | exact QS_call (by rfl) cS | exact QS_call (by rfl) cL6 | exact QS_call (by rfl) (fun W _ => c0 W) | exact qmv (by rfl) | exact qas (by rfl) | exact ql1 (by rfl) | exact qlA (by rfl) | exact qfa (by rfl) | exact qmf (by rfl) | exact qfd (by rfl) | exact qm1 (by rfl) | exact qbd (by rfl) | exact qno (by rfl) | exact qex (by rfl) | exact qln (by rfl) | exact qls (by rfl) | exact qlr (by rfl) | exact qpt (by rfl) | exact qpf (by rfl) | exact qcp (by rfl) | exact qbe (by rfl) | exact qbn (by rfl) | exact qsn (by rfl) | exact qad (by rfl) | exact qsa (by rfl) | exact qsu (by rfl) | exact QS_bin (by rfl) (by rfl) (by first | exact B_slnil | exact Bq_eql_Span | exact Bq_neq_Span | exact Bq_eql_Eff | exact Bq_neq_Eff | exact Bq_eql_Msg | exact Bq_neq_Msg | exact Bq_eql_Pair | exact Bq_neq_Pair)); rfl)
    | refine sst ?_
    | refine VS_nil ?_
    | refine eeq ?_
    | refine ees ?_ (by first | exact es1 (by rfl) | exact esN (by rfl))
    | refine VE_nil ?_
    | refine kyes ?_
    | refine kno ?_
    | refine gyes ?_
    | refine gno ?_
    | refine knoU ?_
    | refine gnoU ?_
    | refine VG_nil ⟨by rfl, ?_⟩
    | refine VG_nil ?_
    | refine dT ?_
    | refine d1 ?_
    | refine dQ ?_
    | refine ctr ?_
    | refine cfa ?_
    | refine kdec (fun hq => ?_) (fun hq => ?_)
    | refine gdec (fun hq => ?_) (fun hq => ?_)
    | refine cco (fun hq => ?_) (fun hq => ?_))
  have hzp := hnb.ps
  have hzr := hnb.rs
  have hl1 := hnb.psn
  have hl2 := hnb.ksn
  have hl3 := hnb.msn
  have hl4 := hnb.rsn
  have g1' : n.ps.length ≤ d1 := g1
  have g2' : n.ks.length ≤ d2 := g2
  have g3' : n.ms.length ≤ d3 := g3
  have g4' : n.rs.length ≤ d4 := g4
  have b1' : 0 < n.ps.length → ∃ b, A1 = some ⟨b, 0, none⟩ := b1
  have b2' : 0 < n.ks.length → ∃ b, A2 = some ⟨b, 0, none⟩ := b2
  have b3' : 0 < n.ms.length → ∃ b, A3 = some ⟨b, 0, none⟩ := b3
  have b4' : 0 < n.rs.length → ∃ b, A4 = some ⟨b, 0, none⟩ := b4
  clear g1 g2 g3 g4 b1 b2 b3 b4 hpv2 hkv2 hmv2 hrv2 e5 e6 e7 e8
  refine VC_for (fun x : Nat × List ByteArray => ⟨M6, [.blk 66 [.int .i64 n.slot, .int .i64 n.level, n.pv, n.kv, .string n.high, .bool n.top, .int .i64 n.right, .int .i64 n.seen, n.mv, n.rv], .blk 66 [.int .i64 n.slot, .int .i64 n.level, pv, kv, .string n.high, .bool n.top, .int .i64 n.right, .int .i64 n.seen, mv, rv], .blk 66 [.int .i64 n.slot, .int .i64 n.level, .slice A1 n.ps.length d1, .slice A2 n.ks.length d2, .string n.high, .bool n.top, .int .i64 n.right, .int .i64 n.seen, .slice A3 n.ms.length d3, .slice A4 n.rs.length d4], .nrow (.slice A1 n.ps.length d1) 9 1 n.ps.length (x.2.flatMap strCells), .nrow (.slice A2 n.ks.length d2) 3 1 n.ks.length (n.ks.flatMap intCells), .nrow (.slice A3 n.ms.length d3) 25 6 n.ms.length (n.ms.flatMap msgCells), .nrow (.slice A4 n.rs.length d4) 73 2 n.rs.length (n.rs.flatMap pairCells)], [(1, .v (.int .i64 slot)), (2, .p 0 0), (5, .p 1 0), (6, .p 2 0), (33, .v (.slice A1 n.ps.length d1)), (34, .v (.int .i64 n.ps.length)), (35, .v (.int .i64 x.1))]⟩) (fun x => x.1 ≤ n.ps.length ∧ x.2.length = n.ps.length ∧ ∀ (j : Nat) (s : ByteArray), x.2[j]? = some s → s.size ≤ 1000001 ∧ (x.1 ≤ j → s.size ≤ 1000000)) (fun x => n.ps.length - x.1) [0, 6, 11, 7, 8, 9, 10] (0, n.ps) ⟨rfl, rfl, ⟨rfl, rfl, rfl, rfl, rfl, rfl, rfl, trivial⟩, ⟨rfl, rfl, rfl, rfl, rfl, rfl, rfl, trivial⟩⟩ ⟨Nat.zero_le _, rfl, fun j s hs => by have := hzp s (List.mem_of_getElem? hs); exact ⟨by omega, fun _ => this⟩⟩ ?_
  rintro ⟨k, L⟩ ⟨hk, hLl, hLz⟩
  simp only at hk hLl hLz
  rcases Nat.lt_or_ge k n.ps.length with hlt | hge
  · have hd := dlt hlt
    obtain ⟨b, rfl⟩ := b1' (by omega)
    have hkL : k < L.length := by omega
    have z := (hLz k L[k] (List.getElem?_eq_getElem hkL)).2 (Nat.le_refl _)
    have hat : (L.flatMap strCells)[0 + k * 1]? = some (.string L[k]) := by
      have := flat_at (w := 1) strCells L k 0 hkL (fun _ => rfl) (by omega)
      rw [show 0 + k * 1 = k * 1 + 0 by omega, this]; rfl
    have hset : (L.flatMap strCells).set (0 + k * 1) (.string (L[k] ++ ⟨#[120]⟩)) = (L.set k (L[k] ++ ⟨#[120]⟩)).flatMap strCells := by
      rw [show 0 + k * 1 = k * 1 + 0 by omega]
      exact flat_set (w := 1) strCells L k 0 hkL _ _ (fun _ => rfl) (by omega) rfl
    have hoff : 0 + k * 1 < (L.flatMap strCells).length := by rw [flat_l (w := 1) strCells (fun _ => rfl) L]; omega
    have hsz : (L[k] ++ (⟨#[120]⟩ : ByteArray)).size ≤ maxLen := by
      rw [size_app]
      have : (⟨#[120]⟩ : ByteArray).size = 1 := rfl
      unfold maxLen; omega
    repeat' (first
      | refine VC_seq ?_
      | refine VC_region ?_
      | refine VL_nil ?_
      | refine VC_ret ?_
      | refine VC_exit ?_
      | refine VC_block ?_
      | refine VC_skip ?_
      | refine kbox ?_
      | refine kall ?_
      | refine kst ?_
      | refine ksN ?_
      | refine klt ?_
      | refine kl1 ?_
      | refine klK ?_
      | refine kap ?_
      | ((first | apply VL_q | apply VG_q | apply VS_q2); (first | exact QS_indexAddr (k) (by rfl) (by rfl) (by omega) (by omega) | exact QS_nload1 3 (by rfl) (by rfl) (by rfl) hat | exact qmv (by rfl) | exact qas (by rfl) | exact ql1 (by rfl) | exact qlA (by rfl) | exact qfa (by rfl) | exact qmf (by rfl) | exact qfd (by rfl) | exact qm1 (by rfl) | exact qbd (by rfl) | exact qno (by rfl) | exact qex (by rfl) | exact qln (by rfl) | exact qls (by rfl) | exact qlr (by rfl) | exact qpt (by rfl) | exact qpf (by rfl) | exact qcp (by rfl) | exact qbe (by rfl) | exact qbn (by rfl) | exact qsn (by rfl) | exact qad (by rfl) | exact qsa (by rfl) | exact qsu (by rfl) | exact QS_bin (by rfl) (by rfl) (by first | exact B_slnil | exact Bq_eql_Span | exact Bq_neq_Span | exact Bq_eql_Eff | exact Bq_neq_Eff | exact Bq_eql_Msg | exact Bq_neq_Msg | exact Bq_eql_Pair | exact Bq_neq_Pair)); rfl)
      | refine sst ?_
      | refine VS_nil ?_
      | refine eeq ?_
      | refine ees ?_ (by first | exact es1 (by rfl) | exact esN (by rfl))
      | refine VE_nil ?_
      | refine kyes ?_
      | refine kno ?_
      | refine gyes ?_
      | refine gno ?_
      | refine knoU ?_
      | refine gnoU ?_
      | refine VG_nil ⟨by rfl, ?_⟩
      | refine VG_nil ?_
      | refine dT ?_
      | refine d1 ?_
      | refine dQ ?_
      | refine ctr ?_
      | refine cfa ?_
      | refine kdec (fun hq => ?_) (fun hq => ?_)
      | refine gdec (fun hq => ?_) (fun hq => ?_)
      | refine cco (fun hq => ?_) (fun hq => ?_))
    refine VL_e _ _ (EF_st (ES_nrow1 3 (by rfl) (by rfl) (by rfl) (by rfl) hoff (by rfl)) (by rfl)) (by rfl) (by rfl) ?_
    repeat' (first
      | refine VC_seq ?_
      | refine VC_region ?_
      | refine VL_nil ?_
      | refine VC_ret ?_
      | refine VC_exit ?_
      | refine VC_block ?_
      | refine VC_skip ?_
      | refine kbox ?_
      | refine kall ?_
      | refine kst ?_
      | refine ksN ?_
      | refine klt ?_
      | refine kl1 ?_
      | refine klK ?_
      | refine kap ?_
      | ((first | apply VL_q | apply VG_q | apply VS_q2); (first  | exact qmv (by rfl) | exact qas (by rfl) | exact ql1 (by rfl) | exact qlA (by rfl) | exact qfa (by rfl) | exact qmf (by rfl) | exact qfd (by rfl) | exact qm1 (by rfl) | exact qbd (by rfl) | exact qno (by rfl) | exact qex (by rfl) | exact qln (by rfl) | exact qls (by rfl) | exact qlr (by rfl) | exact qpt (by rfl) | exact qpf (by rfl) | exact qcp (by rfl) | exact qbe (by rfl) | exact qbn (by rfl) | exact qsn (by rfl) | exact qad (by rfl) | exact qsa (by rfl) | exact qsu (by rfl) | exact QS_bin (by rfl) (by rfl) (by first | exact B_slnil | exact Bq_eql_Span | exact Bq_neq_Span | exact Bq_eql_Eff | exact Bq_neq_Eff | exact Bq_eql_Msg | exact Bq_neq_Msg | exact Bq_eql_Pair | exact Bq_neq_Pair)); rfl)
      | refine sst ?_
      | refine VS_nil ?_
      | refine eeq ?_
      | refine ees ?_ (by first | exact es1 (by rfl) | exact esN (by rfl))
      | refine VE_nil ?_
      | refine kyes ?_
      | refine kno ?_
      | refine gyes ?_
      | refine gno ?_
      | refine knoU ?_
      | refine gnoU ?_
      | refine VG_nil ⟨by rfl, ?_⟩
      | refine VG_nil ?_
      | refine dT ?_
      | refine d1 ?_
      | refine dQ ?_
      | refine ctr ?_
      | refine cfa ?_
      | refine kdec (fun hq => ?_) (fun hq => ?_)
      | refine gdec (fun hq => ?_) (fun hq => ?_)
      | refine cco (fun hq => ?_) (fun hq => ?_))
    refine forQ_next (Q := fun _ _ => True) [0, 1, 2, 3, 4, 5, 6] (k + 1, L.set k (L[k] ++ ⟨#[120]⟩)) ⟨rfl, rfl, ⟨rfl, rfl, rfl, ?_, rfl, rfl, rfl, trivial⟩, ⟨rfl, rfl, rfl, rfl, rfl, rfl, rfl, trivial⟩⟩ ⟨by simp only; omega, by simp only [List.length_set]; exact hLl, fun j s hs => ?_⟩ (by simp only; omega)
    · simp only; rw [← hset]; rfl
    · simp only at hs
      rw [List.getElem?_set] at hs
      split at hs
      · rename_i hkj
        have : s = L[k] ++ ⟨#[120]⟩ := (Option.some.inj hs).symm
        rw [this, size_app]
        have h1 : (⟨#[120]⟩ : ByteArray).size = 1 := rfl
        exact ⟨by omega, fun h => by simp only at h; omega⟩
      · have := hLz j s hs
        exact ⟨this.1, fun h => this.2 (by simp only at h; omega)⟩
  have hd := dge hge
  repeat' (first
    | refine VC_seq ?_
    | refine VC_region ?_
    | refine VL_nil ?_
    | refine VC_ret ?_
    | refine VC_exit ?_
    | refine VC_block ?_
    | refine VC_skip ?_
    | refine kbox ?_
    | refine kall ?_
    | refine kst ?_
    | refine ksN ?_
    | refine klt ?_
    | refine kl1 ?_
    | refine klK ?_
    | refine kap ?_
    | ((first | apply VL_q | apply VG_q | apply VS_q2); (first  | exact qmv (by rfl) | exact qas (by rfl) | exact ql1 (by rfl) | exact qlA (by rfl) | exact qfa (by rfl) | exact qmf (by rfl) | exact qfd (by rfl) | exact qm1 (by rfl) | exact qbd (by rfl) | exact qno (by rfl) | exact qex (by rfl) | exact qln (by rfl) | exact qls (by rfl) | exact qlr (by rfl) | exact qpt (by rfl) | exact qpf (by rfl) | exact qcp (by rfl) | exact qbe (by rfl) | exact qbn (by rfl) | exact qsn (by rfl) | exact qad (by rfl) | exact qsa (by rfl) | exact qsu (by rfl) | exact QS_bin (by rfl) (by rfl) (by first | exact B_slnil | exact Bq_eql_Span | exact Bq_neq_Span | exact Bq_eql_Eff | exact Bq_neq_Eff | exact Bq_eql_Msg | exact Bq_neq_Msg | exact Bq_eql_Pair | exact Bq_neq_Pair)); rfl)
    | refine sst ?_
    | refine VS_nil ?_
    | refine eeq ?_
    | refine ees ?_ (by first | exact es1 (by rfl) | exact esN (by rfl))
    | refine VE_nil ?_
    | refine kyes ?_
    | refine kno ?_
    | refine gyes ?_
    | refine gno ?_
    | refine knoU ?_
    | refine gnoU ?_
    | refine VG_nil ⟨by rfl, ?_⟩
    | refine VG_nil ?_
    | refine dT ?_
    | refine d1 ?_
    | refine dQ ?_
    | refine ctr ?_
    | refine cfa ?_
    | refine kdec (fun hq => ?_) (fun hq => ?_)
    | refine gdec (fun hq => ?_) (fun hq => ?_)
    | refine cco (fun hq => ?_) (fun hq => ?_))
  refine VC_for (fun x : Nat × List Int => ⟨M6, [.blk 66 [.int .i64 n.slot, .int .i64 n.level, n.pv, n.kv, .string n.high, .bool n.top, .int .i64 n.right, .int .i64 n.seen, n.mv, n.rv], .blk 66 [.int .i64 n.slot, .int .i64 n.level, pv, kv, .string n.high, .bool n.top, .int .i64 n.right, .int .i64 n.seen, mv, rv], .blk 66 [.int .i64 n.slot, .int .i64 n.level, .slice A1 n.ps.length d1, .slice A2 n.ks.length d2, .string n.high, .bool n.top, .int .i64 n.right, .int .i64 n.seen, .slice A3 n.ms.length d3, .slice A4 n.rs.length d4], .nrow (.slice A1 n.ps.length d1) 9 1 n.ps.length (L.flatMap strCells), .nrow (.slice A2 n.ks.length d2) 3 1 n.ks.length (x.2.flatMap intCells), .nrow (.slice A3 n.ms.length d3) 25 6 n.ms.length (n.ms.flatMap msgCells), .nrow (.slice A4 n.rs.length d4) 73 2 n.rs.length (n.rs.flatMap pairCells)], [(1, .v (.int .i64 slot)), (2, .p 0 0), (5, .p 1 0), (6, .p 2 0), (47, .v (.slice A2 n.ks.length d2)), (48, .v (.int .i64 n.ks.length)), (49, .v (.int .i64 x.1))]⟩) (fun x => x.1 ≤ n.ks.length ∧ x.2.length = n.ks.length) (fun x => n.ks.length - x.1) [0, 1, 2, 3, 4, 5, 6] (0, n.ks) ⟨rfl, rfl, ⟨rfl, rfl, rfl, rfl, rfl, rfl, rfl, trivial⟩, ⟨rfl, rfl, rfl, rfl, rfl, rfl, rfl, trivial⟩⟩ ⟨Nat.zero_le _, rfl⟩ ?_
  rintro ⟨k2, K⟩ ⟨hk2, hKl⟩
  simp only at hk2 hKl
  rcases Nat.lt_or_ge k2 n.ks.length with hlt | hge
  · have hd := dlt hlt
    obtain ⟨b, rfl⟩ := b2' (by omega)
    have hkL : k2 < K.length := by omega
    have hat : (K.flatMap intCells)[0 + k2 * 1]? = some (.int .i64 K[k2]) := by
      have := flat_at (w := 1) intCells K k2 0 hkL (fun _ => rfl) (by omega)
      rw [show 0 + k2 * 1 = k2 * 1 + 0 by omega, this]; rfl
    have hset : (K.flatMap intCells).set (0 + k2 * 1) (.int .i64 (IntKind.i64.wrap (K[k2] - 1))) = (K.set k2 (IntKind.i64.wrap (K[k2] - 1))).flatMap intCells := by
      rw [show 0 + k2 * 1 = k2 * 1 + 0 by omega]
      exact flat_set (w := 1) intCells K k2 0 hkL _ _ (fun _ => rfl) (by omega) rfl
    have hoff : 0 + k2 * 1 < (K.flatMap intCells).length := by rw [flat_l (w := 1) intCells (fun _ => rfl) K]; omega
    repeat' (first
      | refine VC_seq ?_
      | refine VC_region ?_
      | refine VL_nil ?_
      | refine VC_ret ?_
      | refine VC_exit ?_
      | refine VC_block ?_
      | refine VC_skip ?_
      | refine kbox ?_
      | refine kall ?_
      | refine kst ?_
      | refine ksN ?_
      | refine klt ?_
      | refine kl1 ?_
      | refine klK ?_
      | refine kap ?_
      | ((first | apply VL_q | apply VG_q | apply VS_q2); (first | exact QS_indexAddr (k2) (by rfl) (by rfl) (by omega) (by omega) | exact QS_nload1 4 (by rfl) (by rfl) (by rfl) hat | exact QS_bin (by rfl) (by rfl) B_subw | exact qmv (by rfl) | exact qas (by rfl) | exact ql1 (by rfl) | exact qlA (by rfl) | exact qfa (by rfl) | exact qmf (by rfl) | exact qfd (by rfl) | exact qm1 (by rfl) | exact qbd (by rfl) | exact qno (by rfl) | exact qex (by rfl) | exact qln (by rfl) | exact qls (by rfl) | exact qlr (by rfl) | exact qpt (by rfl) | exact qpf (by rfl) | exact qcp (by rfl) | exact qbe (by rfl) | exact qbn (by rfl) | exact qsn (by rfl) | exact qad (by rfl) | exact qsa (by rfl) | exact qsu (by rfl) | exact QS_bin (by rfl) (by rfl) (by first | exact B_slnil | exact Bq_eql_Span | exact Bq_neq_Span | exact Bq_eql_Eff | exact Bq_neq_Eff | exact Bq_eql_Msg | exact Bq_neq_Msg | exact Bq_eql_Pair | exact Bq_neq_Pair)); rfl)
      | refine sst ?_
      | refine VS_nil ?_
      | refine eeq ?_
      | refine ees ?_ (by first | exact es1 (by rfl) | exact esN (by rfl))
      | refine VE_nil ?_
      | refine kyes ?_
      | refine kno ?_
      | refine gyes ?_
      | refine gno ?_
      | refine knoU ?_
      | refine gnoU ?_
      | refine VG_nil ⟨by rfl, ?_⟩
      | refine VG_nil ?_
      | refine dT ?_
      | refine d1 ?_
      | refine dQ ?_
      | refine ctr ?_
      | refine cfa ?_
      | refine kdec (fun hq => ?_) (fun hq => ?_)
      | refine gdec (fun hq => ?_) (fun hq => ?_)
      | refine cco (fun hq => ?_) (fun hq => ?_))
    refine VL_e _ _ (EF_st (ES_nrow1 4 (by rfl) (by rfl) (by rfl) (by rfl) hoff (by rfl)) (by rfl)) (by rfl) (by rfl) ?_
    repeat' (first
      | refine VC_seq ?_
      | refine VC_region ?_
      | refine VL_nil ?_
      | refine VC_ret ?_
      | refine VC_exit ?_
      | refine VC_block ?_
      | refine VC_skip ?_
      | refine kbox ?_
      | refine kall ?_
      | refine kst ?_
      | refine ksN ?_
      | refine klt ?_
      | refine kl1 ?_
      | refine klK ?_
      | refine kap ?_
      | ((first | apply VL_q | apply VG_q | apply VS_q2); (first  | exact qmv (by rfl) | exact qas (by rfl) | exact ql1 (by rfl) | exact qlA (by rfl) | exact qfa (by rfl) | exact qmf (by rfl) | exact qfd (by rfl) | exact qm1 (by rfl) | exact qbd (by rfl) | exact qno (by rfl) | exact qex (by rfl) | exact qln (by rfl) | exact qls (by rfl) | exact qlr (by rfl) | exact qpt (by rfl) | exact qpf (by rfl) | exact qcp (by rfl) | exact qbe (by rfl) | exact qbn (by rfl) | exact qsn (by rfl) | exact qad (by rfl) | exact qsa (by rfl) | exact qsu (by rfl) | exact QS_bin (by rfl) (by rfl) (by first | exact B_slnil | exact Bq_eql_Span | exact Bq_neq_Span | exact Bq_eql_Eff | exact Bq_neq_Eff | exact Bq_eql_Msg | exact Bq_neq_Msg | exact Bq_eql_Pair | exact Bq_neq_Pair)); rfl)
      | refine sst ?_
      | refine VS_nil ?_
      | refine eeq ?_
      | refine ees ?_ (by first | exact es1 (by rfl) | exact esN (by rfl))
      | refine VE_nil ?_
      | refine kyes ?_
      | refine kno ?_
      | refine gyes ?_
      | refine gno ?_
      | refine knoU ?_
      | refine gnoU ?_
      | refine VG_nil ⟨by rfl, ?_⟩
      | refine VG_nil ?_
      | refine dT ?_
      | refine d1 ?_
      | refine dQ ?_
      | refine ctr ?_
      | refine cfa ?_
      | refine kdec (fun hq => ?_) (fun hq => ?_)
      | refine gdec (fun hq => ?_) (fun hq => ?_)
      | refine cco (fun hq => ?_) (fun hq => ?_))
    refine forQ_next (Q := fun _ _ => True) [0, 1, 2, 3, 4, 5, 6] (k2 + 1, K.set k2 (IntKind.i64.wrap (K[k2] - 1))) ⟨rfl, rfl, ⟨rfl, rfl, rfl, rfl, ?_, rfl, rfl, trivial⟩, ⟨rfl, rfl, rfl, rfl, rfl, rfl, rfl, trivial⟩⟩ ⟨by simp only; omega, by simp only [List.length_set]; exact hKl⟩ (by simp only; omega)
    simp only; rw [← hset]; rfl
  have hd := dge hge
  repeat' (first
    | refine VC_seq ?_
    | refine VC_region ?_
    | refine VL_nil ?_
    | refine VC_ret ?_
    | refine VC_exit ?_
    | refine VC_block ?_
    | refine VC_skip ?_
    | refine kbox ?_
    | refine kall ?_
    | refine kst ?_
    | refine ksN ?_
    | refine klt ?_
    | refine kl1 ?_
    | refine klK ?_
    | refine kap ?_
    | ((first | apply VL_q | apply VG_q | apply VS_q2); (first  | exact qmv (by rfl) | exact qas (by rfl) | exact ql1 (by rfl) | exact qlA (by rfl) | exact qfa (by rfl) | exact qmf (by rfl) | exact qfd (by rfl) | exact qm1 (by rfl) | exact qbd (by rfl) | exact qno (by rfl) | exact qex (by rfl) | exact qln (by rfl) | exact qls (by rfl) | exact qlr (by rfl) | exact qpt (by rfl) | exact qpf (by rfl) | exact qcp (by rfl) | exact qbe (by rfl) | exact qbn (by rfl) | exact qsn (by rfl) | exact qad (by rfl) | exact qsa (by rfl) | exact qsu (by rfl) | exact QS_bin (by rfl) (by rfl) (by first | exact B_slnil | exact Bq_eql_Span | exact Bq_neq_Span | exact Bq_eql_Eff | exact Bq_neq_Eff | exact Bq_eql_Msg | exact Bq_neq_Msg | exact Bq_eql_Pair | exact Bq_neq_Pair)); rfl)
    | refine sst ?_
    | refine VS_nil ?_
    | refine eeq ?_
    | refine ees ?_ (by first | exact es1 (by rfl) | exact esN (by rfl))
    | refine VE_nil ?_
    | refine kyes ?_
    | refine kno ?_
    | refine gyes ?_
    | refine gno ?_
    | refine knoU ?_
    | refine gnoU ?_
    | refine VG_nil ⟨by rfl, ?_⟩
    | refine VG_nil ?_
    | refine dT ?_
    | refine d1 ?_
    | refine dQ ?_
    | refine ctr ?_
    | refine cfa ?_
    | refine kdec (fun hq => ?_) (fun hq => ?_)
    | refine gdec (fun hq => ?_) (fun hq => ?_)
    | refine cco (fun hq => ?_) (fun hq => ?_))
  refine VC_for (fun x : Nat × List Value => ⟨M6, [.blk 66 [.int .i64 n.slot, .int .i64 n.level, n.pv, n.kv, .string n.high, .bool n.top, .int .i64 n.right, .int .i64 n.seen, n.mv, n.rv], .blk 66 [.int .i64 n.slot, .int .i64 n.level, pv, kv, .string n.high, .bool n.top, .int .i64 n.right, .int .i64 n.seen, mv, rv], .blk 66 [.int .i64 n.slot, .int .i64 n.level, .slice A1 n.ps.length d1, .slice A2 n.ks.length d2, .string n.high, .bool n.top, .int .i64 n.right, .int .i64 n.seen, .slice A3 n.ms.length d3, .slice A4 n.rs.length d4], .nrow (.slice A1 n.ps.length d1) 9 1 n.ps.length (L.flatMap strCells), .nrow (.slice A2 n.ks.length d2) 3 1 n.ks.length (K.flatMap intCells), .nrow (.slice A3 n.ms.length d3) 25 6 n.ms.length (x.2), .nrow (.slice A4 n.rs.length d4) 73 2 n.rs.length (n.rs.flatMap pairCells)], [(1, .v (.int .i64 slot)), (2, .p 0 0), (5, .p 1 0), (6, .p 2 0), (61, .v (.slice A3 n.ms.length d3)), (62, .v (.int .i64 n.ms.length)), (63, .v (.int .i64 x.1))]⟩) (fun x => x.1 ≤ n.ms.length ∧ x.2.length = n.ms.length * 6) (fun x => n.ms.length - x.1) [0, 1, 2, 3, 4, 5, 6] (0, n.ms.flatMap msgCells) ⟨rfl, rfl, ⟨rfl, rfl, rfl, rfl, rfl, rfl, rfl, trivial⟩, ⟨rfl, rfl, rfl, rfl, rfl, rfl, rfl, trivial⟩⟩ ⟨Nat.zero_le _, flat_l msgCells (fun _ => rfl) n.ms⟩ ?_
  rintro ⟨k3, C⟩ ⟨hk3, hCl⟩
  simp only at hk3 hCl
  rcases Nat.lt_or_ge k3 n.ms.length with hlt | hge
  · have hd := dlt hlt
    obtain ⟨b, rfl⟩ := b3' (by omega)
    have hoff : 0 + k3 * 6 + 0 < C.length := by omega
    repeat' (first
      | refine VC_seq ?_
      | refine VC_region ?_
      | refine VL_nil ?_
      | refine VC_ret ?_
      | refine VC_exit ?_
      | refine VC_block ?_
      | refine VC_skip ?_
      | refine kbox ?_
      | refine kall ?_
      | refine kst ?_
      | refine ksN ?_
      | refine klt ?_
      | refine kl1 ?_
      | refine klK ?_
      | refine kap ?_
      | ((first | apply VL_q | apply VG_q | apply VS_q2); (first | exact QS_indexAddr (k3) (by rfl) (by rfl) (by omega) (by omega) | exact qmv (by rfl) | exact qas (by rfl) | exact ql1 (by rfl) | exact qlA (by rfl) | exact qfa (by rfl) | exact qmf (by rfl) | exact qfd (by rfl) | exact qm1 (by rfl) | exact qbd (by rfl) | exact qno (by rfl) | exact qex (by rfl) | exact qln (by rfl) | exact qls (by rfl) | exact qlr (by rfl) | exact qpt (by rfl) | exact qpf (by rfl) | exact qcp (by rfl) | exact qbe (by rfl) | exact qbn (by rfl) | exact qsn (by rfl) | exact qad (by rfl) | exact qsa (by rfl) | exact qsu (by rfl) | exact QS_bin (by rfl) (by rfl) (by first | exact B_slnil | exact Bq_eql_Span | exact Bq_neq_Span | exact Bq_eql_Eff | exact Bq_neq_Eff | exact Bq_eql_Msg | exact Bq_neq_Msg | exact Bq_eql_Pair | exact Bq_neq_Pair)); rfl)
      | refine sst ?_
      | refine VS_nil ?_
      | refine eeq ?_
      | refine ees ?_ (by first | exact es1 (by rfl) | exact esN (by rfl))
      | refine VE_nil ?_
      | refine kyes ?_
      | refine kno ?_
      | refine gyes ?_
      | refine gno ?_
      | refine knoU ?_
      | refine gnoU ?_
      | refine VG_nil ⟨by rfl, ?_⟩
      | refine VG_nil ?_
      | refine dT ?_
      | refine d1 ?_
      | refine dQ ?_
      | refine ctr ?_
      | refine cfa ?_
      | refine kdec (fun hq => ?_) (fun hq => ?_)
      | refine gdec (fun hq => ?_) (fun hq => ?_)
      | refine cco (fun hq => ?_) (fun hq => ?_))
    refine VL_e _ _ (EF_st (ES_nrow1 5 (by rfl) (by rfl) (by rfl) (by rfl) hoff (by rfl)) (by rfl)) (by rfl) (by rfl) ?_
    repeat' (first
      | refine VC_seq ?_
      | refine VC_region ?_
      | refine VL_nil ?_
      | refine VC_ret ?_
      | refine VC_exit ?_
      | refine VC_block ?_
      | refine VC_skip ?_
      | refine kbox ?_
      | refine kall ?_
      | refine kst ?_
      | refine ksN ?_
      | refine klt ?_
      | refine kl1 ?_
      | refine klK ?_
      | refine kap ?_
      | ((first | apply VL_q | apply VG_q | apply VS_q2); (first  | exact qmv (by rfl) | exact qas (by rfl) | exact ql1 (by rfl) | exact qlA (by rfl) | exact qfa (by rfl) | exact qmf (by rfl) | exact qfd (by rfl) | exact qm1 (by rfl) | exact qbd (by rfl) | exact qno (by rfl) | exact qex (by rfl) | exact qln (by rfl) | exact qls (by rfl) | exact qlr (by rfl) | exact qpt (by rfl) | exact qpf (by rfl) | exact qcp (by rfl) | exact qbe (by rfl) | exact qbn (by rfl) | exact qsn (by rfl) | exact qad (by rfl) | exact qsa (by rfl) | exact qsu (by rfl) | exact QS_bin (by rfl) (by rfl) (by first | exact B_slnil | exact Bq_eql_Span | exact Bq_neq_Span | exact Bq_eql_Eff | exact Bq_neq_Eff | exact Bq_eql_Msg | exact Bq_neq_Msg | exact Bq_eql_Pair | exact Bq_neq_Pair)); rfl)
      | refine sst ?_
      | refine VS_nil ?_
      | refine eeq ?_
      | refine ees ?_ (by first | exact es1 (by rfl) | exact esN (by rfl))
      | refine VE_nil ?_
      | refine kyes ?_
      | refine kno ?_
      | refine gyes ?_
      | refine gno ?_
      | refine knoU ?_
      | refine gnoU ?_
      | refine VG_nil ⟨by rfl, ?_⟩
      | refine VG_nil ?_
      | refine dT ?_
      | refine d1 ?_
      | refine dQ ?_
      | refine ctr ?_
      | refine cfa ?_
      | refine kdec (fun hq => ?_) (fun hq => ?_)
      | refine gdec (fun hq => ?_) (fun hq => ?_)
      | refine cco (fun hq => ?_) (fun hq => ?_))
    refine forQ_next (Q := fun _ _ => True) [0, 1, 2, 3, 4, 5, 6] (k3 + 1, C.set (0 + k3 * 6 + 0) (.int .i64 0)) ⟨rfl, rfl, ⟨rfl, rfl, rfl, rfl, rfl, rfl, rfl, trivial⟩, ⟨rfl, rfl, rfl, rfl, rfl, rfl, rfl, trivial⟩⟩ ⟨by simp only; omega, by simp only [List.length_set]; exact hCl⟩ (by simp only; omega)
  have hd := dge hge
  repeat' (first
    | refine VC_seq ?_
    | refine VC_region ?_
    | refine VL_nil ?_
    | refine VC_ret ?_
    | refine VC_exit ?_
    | refine VC_block ?_
    | refine VC_skip ?_
    | refine kbox ?_
    | refine kall ?_
    | refine kst ?_
    | refine ksN ?_
    | refine klt ?_
    | refine kl1 ?_
    | refine klK ?_
    | refine kap ?_
    | ((first | apply VL_q | apply VG_q | apply VS_q2); (first  | exact qmv (by rfl) | exact qas (by rfl) | exact ql1 (by rfl) | exact qlA (by rfl) | exact qfa (by rfl) | exact qmf (by rfl) | exact qfd (by rfl) | exact qm1 (by rfl) | exact qbd (by rfl) | exact qno (by rfl) | exact qex (by rfl) | exact qln (by rfl) | exact qls (by rfl) | exact qlr (by rfl) | exact qpt (by rfl) | exact qpf (by rfl) | exact qcp (by rfl) | exact qbe (by rfl) | exact qbn (by rfl) | exact qsn (by rfl) | exact qad (by rfl) | exact qsa (by rfl) | exact qsu (by rfl) | exact QS_bin (by rfl) (by rfl) (by first | exact B_slnil | exact Bq_eql_Span | exact Bq_neq_Span | exact Bq_eql_Eff | exact Bq_neq_Eff | exact Bq_eql_Msg | exact Bq_neq_Msg | exact Bq_eql_Pair | exact Bq_neq_Pair)); rfl)
    | refine sst ?_
    | refine VS_nil ?_
    | refine eeq ?_
    | refine ees ?_ (by first | exact es1 (by rfl) | exact esN (by rfl))
    | refine VE_nil ?_
    | refine kyes ?_
    | refine kno ?_
    | refine gyes ?_
    | refine gno ?_
    | refine knoU ?_
    | refine gnoU ?_
    | refine VG_nil ⟨by rfl, ?_⟩
    | refine VG_nil ?_
    | refine dT ?_
    | refine d1 ?_
    | refine dQ ?_
    | refine ctr ?_
    | refine cfa ?_
    | refine kdec (fun hq => ?_) (fun hq => ?_)
    | refine gdec (fun hq => ?_) (fun hq => ?_)
    | refine cco (fun hq => ?_) (fun hq => ?_))
  refine VC_for (fun x : Nat × List Pair => ⟨M6, [.blk 66 [.int .i64 n.slot, .int .i64 n.level, n.pv, n.kv, .string n.high, .bool n.top, .int .i64 n.right, .int .i64 n.seen, n.mv, n.rv], .blk 66 [.int .i64 n.slot, .int .i64 n.level, pv, kv, .string n.high, .bool n.top, .int .i64 n.right, .int .i64 n.seen, mv, rv], .blk 66 [.int .i64 n.slot, .int .i64 n.level, .slice A1 n.ps.length d1, .slice A2 n.ks.length d2, .string n.high, .bool n.top, .int .i64 n.right, .int .i64 n.seen, .slice A3 n.ms.length d3, .slice A4 n.rs.length d4], .nrow (.slice A1 n.ps.length d1) 9 1 n.ps.length (L.flatMap strCells), .nrow (.slice A2 n.ks.length d2) 3 1 n.ks.length (K.flatMap intCells), .nrow (.slice A3 n.ms.length d3) 25 6 n.ms.length (C), .nrow (.slice A4 n.rs.length d4) 73 2 n.rs.length (x.2.flatMap pairCells)], [(1, .v (.int .i64 slot)), (2, .p 0 0), (5, .p 1 0), (6, .p 2 0), (73, .v (.slice A4 n.rs.length d4)), (74, .v (.int .i64 n.rs.length)), (75, .v (.int .i64 x.1))]⟩) (fun x => x.1 ≤ n.rs.length ∧ x.2.length = n.rs.length ∧ ∀ (j : Nat) (s : Pair), x.2[j]? = some s → x.1 ≤ j → s.val.size ≤ 1000000) (fun x => n.rs.length - x.1) [0, 1, 2, 3, 4, 5, 6] (0, n.rs) ⟨rfl, rfl, ⟨rfl, rfl, rfl, rfl, rfl, rfl, rfl, trivial⟩, ⟨rfl, rfl, rfl, rfl, rfl, rfl, rfl, trivial⟩⟩ ⟨Nat.zero_le _, rfl, fun j s hs _ => (hzr s (List.mem_of_getElem? hs)).2⟩ ?_
  rintro ⟨k4, R⟩ ⟨hk4, hRl, hRz⟩
  simp only at hk4 hRl hRz
  rcases Nat.lt_or_ge k4 n.rs.length with hlt | hge
  · have hd := dlt hlt
    obtain ⟨b, rfl⟩ := b4' (by omega)
    have hkL : k4 < R.length := by omega
    have z := hRz k4 R[k4] (List.getElem?_eq_getElem hkL) (Nat.le_refl _)
    have hat : (R.flatMap pairCells)[0 + k4 * 2 + 1]? = some (.string R[k4].val) := by
      have := flat_at (w := 2) pairCells R k4 1 hkL (fun _ => rfl) (by omega)
      rw [show 0 + k4 * 2 + 1 = k4 * 2 + 1 by omega, this]; rfl
    have hset : (R.flatMap pairCells).set (0 + k4 * 2 + 1) (.string (R[k4].val ++ ⟨#[120]⟩)) = (R.set k4 ⟨R[k4].key, R[k4].val ++ ⟨#[120]⟩⟩).flatMap pairCells := by
      rw [show 0 + k4 * 2 + 1 = k4 * 2 + 1 by omega]
      exact flat_set (w := 2) pairCells R k4 1 hkL _ _ (fun _ => rfl) (by omega) rfl
    have hoff : 0 + k4 * 2 + 1 < (R.flatMap pairCells).length := by rw [flat_l (w := 2) pairCells (fun _ => rfl) R]; omega
    have hsz : (R[k4].val ++ (⟨#[120]⟩ : ByteArray)).size ≤ maxLen := by
      rw [size_app]
      have : (⟨#[120]⟩ : ByteArray).size = 1 := rfl
      unfold maxLen; omega
    repeat' (first
      | refine VC_seq ?_
      | refine VC_region ?_
      | refine VL_nil ?_
      | refine VC_ret ?_
      | refine VC_exit ?_
      | refine VC_block ?_
      | refine VC_skip ?_
      | refine kbox ?_
      | refine kall ?_
      | refine kst ?_
      | refine ksN ?_
      | refine klt ?_
      | refine kl1 ?_
      | refine klK ?_
      | refine kap ?_
      | ((first | apply VL_q | apply VG_q | apply VS_q2); (first | exact QS_indexAddr (k4) (by rfl) (by rfl) (by omega) (by omega) | exact QS_nload1 6 (by rfl) (by rfl) (by rfl) hat | exact qmv (by rfl) | exact qas (by rfl) | exact ql1 (by rfl) | exact qlA (by rfl) | exact qfa (by rfl) | exact qmf (by rfl) | exact qfd (by rfl) | exact qm1 (by rfl) | exact qbd (by rfl) | exact qno (by rfl) | exact qex (by rfl) | exact qln (by rfl) | exact qls (by rfl) | exact qlr (by rfl) | exact qpt (by rfl) | exact qpf (by rfl) | exact qcp (by rfl) | exact qbe (by rfl) | exact qbn (by rfl) | exact qsn (by rfl) | exact qad (by rfl) | exact qsa (by rfl) | exact qsu (by rfl) | exact QS_bin (by rfl) (by rfl) (by first | exact B_slnil | exact Bq_eql_Span | exact Bq_neq_Span | exact Bq_eql_Eff | exact Bq_neq_Eff | exact Bq_eql_Msg | exact Bq_neq_Msg | exact Bq_eql_Pair | exact Bq_neq_Pair)); rfl)
      | refine sst ?_
      | refine VS_nil ?_
      | refine eeq ?_
      | refine ees ?_ (by first | exact es1 (by rfl) | exact esN (by rfl))
      | refine VE_nil ?_
      | refine kyes ?_
      | refine kno ?_
      | refine gyes ?_
      | refine gno ?_
      | refine knoU ?_
      | refine gnoU ?_
      | refine VG_nil ⟨by rfl, ?_⟩
      | refine VG_nil ?_
      | refine dT ?_
      | refine d1 ?_
      | refine dQ ?_
      | refine ctr ?_
      | refine cfa ?_
      | refine kdec (fun hq => ?_) (fun hq => ?_)
      | refine gdec (fun hq => ?_) (fun hq => ?_)
      | refine cco (fun hq => ?_) (fun hq => ?_))
    refine VL_e _ _ (EF_st (ES_nrow1 6 (by rfl) (by rfl) (by rfl) (by rfl) hoff (by rfl)) (by rfl)) (by rfl) (by rfl) ?_
    repeat' (first
      | refine VC_seq ?_
      | refine VC_region ?_
      | refine VL_nil ?_
      | refine VC_ret ?_
      | refine VC_exit ?_
      | refine VC_block ?_
      | refine VC_skip ?_
      | refine kbox ?_
      | refine kall ?_
      | refine kst ?_
      | refine ksN ?_
      | refine klt ?_
      | refine kl1 ?_
      | refine klK ?_
      | refine kap ?_
      | ((first | apply VL_q | apply VG_q | apply VS_q2); (first  | exact qmv (by rfl) | exact qas (by rfl) | exact ql1 (by rfl) | exact qlA (by rfl) | exact qfa (by rfl) | exact qmf (by rfl) | exact qfd (by rfl) | exact qm1 (by rfl) | exact qbd (by rfl) | exact qno (by rfl) | exact qex (by rfl) | exact qln (by rfl) | exact qls (by rfl) | exact qlr (by rfl) | exact qpt (by rfl) | exact qpf (by rfl) | exact qcp (by rfl) | exact qbe (by rfl) | exact qbn (by rfl) | exact qsn (by rfl) | exact qad (by rfl) | exact qsa (by rfl) | exact qsu (by rfl) | exact QS_bin (by rfl) (by rfl) (by first | exact B_slnil | exact Bq_eql_Span | exact Bq_neq_Span | exact Bq_eql_Eff | exact Bq_neq_Eff | exact Bq_eql_Msg | exact Bq_neq_Msg | exact Bq_eql_Pair | exact Bq_neq_Pair)); rfl)
      | refine sst ?_
      | refine VS_nil ?_
      | refine eeq ?_
      | refine ees ?_ (by first | exact es1 (by rfl) | exact esN (by rfl))
      | refine VE_nil ?_
      | refine kyes ?_
      | refine kno ?_
      | refine gyes ?_
      | refine gno ?_
      | refine knoU ?_
      | refine gnoU ?_
      | refine VG_nil ⟨by rfl, ?_⟩
      | refine VG_nil ?_
      | refine dT ?_
      | refine d1 ?_
      | refine dQ ?_
      | refine ctr ?_
      | refine cfa ?_
      | refine kdec (fun hq => ?_) (fun hq => ?_)
      | refine gdec (fun hq => ?_) (fun hq => ?_)
      | refine cco (fun hq => ?_) (fun hq => ?_))
    refine forQ_next (Q := fun _ _ => True) [0, 1, 2, 3, 4, 5, 6] (k4 + 1, R.set k4 ⟨R[k4].key, R[k4].val ++ ⟨#[120]⟩⟩) ⟨rfl, rfl, ⟨rfl, rfl, rfl, rfl, rfl, rfl, ?_, trivial⟩, ⟨rfl, rfl, rfl, rfl, rfl, rfl, rfl, trivial⟩⟩ ⟨by simp only; omega, by simp only [List.length_set]; exact hRl, fun j s hs hj => ?_⟩ (by simp only; omega)
    · simp only; rw [← hset]; rfl
    · simp only at hs hj
      rw [List.getElem?_set_ne (by omega)] at hs
      exact hRz j s hs (by omega)
  have hd := dge hge
  repeat' (first
    | refine VC_seq ?_
    | refine VC_region ?_
    | refine VL_nil ?_
    | refine VC_ret ?_
    | refine VC_exit ?_
    | refine VC_block ?_
    | refine VC_skip ?_
    | refine kbox ?_
    | refine kall ?_
    | refine kst ?_
    | refine ksN ?_
    | refine klt ?_
    | refine kl1 ?_
    | refine klK ?_
    | refine kap ?_
    | ((first | apply VL_q | apply VG_q | apply VS_q2); (first | exact QS_call (by rfl) cS | exact QS_call (by rfl) (fun W _ => cA W) | exact qmv (by rfl) | exact qas (by rfl) | exact ql1 (by rfl) | exact qlA (by rfl) | exact qfa (by rfl) | exact qmf (by rfl) | exact qfd (by rfl) | exact qm1 (by rfl) | exact qbd (by rfl) | exact qno (by rfl) | exact qex (by rfl) | exact qln (by rfl) | exact qls (by rfl) | exact qlr (by rfl) | exact qpt (by rfl) | exact qpf (by rfl) | exact qcp (by rfl) | exact qbe (by rfl) | exact qbn (by rfl) | exact qsn (by rfl) | exact qad (by rfl) | exact qsa (by rfl) | exact qsu (by rfl) | exact QS_bin (by rfl) (by rfl) (by first | exact B_slnil | exact Bq_eql_Span | exact Bq_neq_Span | exact Bq_eql_Eff | exact Bq_neq_Eff | exact Bq_eql_Msg | exact Bq_neq_Msg | exact Bq_eql_Pair | exact Bq_neq_Pair)); rfl)
    | refine sst ?_
    | refine VS_nil ?_
    | refine eeq ?_
    | refine ees ?_ (by first | exact es1 (by rfl) | exact esN (by rfl))
    | refine VE_nil ?_
    | refine kyes ?_
    | refine kno ?_
    | refine gyes ?_
    | refine gno ?_
    | refine knoU ?_
    | refine gnoU ?_
    | refine VG_nil ⟨by rfl, ?_⟩
    | refine VG_nil ?_
    | refine dT ?_
    | refine d1 ?_
    | refine dQ ?_
    | refine ctr ?_
    | refine cfa ?_
    | refine kdec (fun hq => ?_) (fun hq => ?_)
    | refine gdec (fun hq => ?_) (fun hq => ?_)
    | refine cco (fun hq => ?_) (fun hq => ?_))
  show Res _ _ _ _
  refine Res.one (by rfl) (ResV_tmp (by rfl) ?_)
  rfl
theorem walk (n : Nd) (slot : Int) (w : World) (hn : n.Ok (Mem.of w)) (hni : n.In) :
    Calls Try.prog 9 #[.agg #[.int .i64 n.slot, .int .i64 n.level, n.pv, n.kv, .string n.high, .bool n.top, .int .i64 n.right, .int .i64 n.seen, n.mv, n.rv], .int .i64 slot] w fun e w' => e = .returned (.bool true) ∧ Below w.heap.size w w' := by
  cases hL : lightL 1 2000 [n] with
  | true => exact main n slot w hn hni hL
  | false =>
    have cA := fun W => node_awake W
    refine V_flat (args := [.agg #[.int .i64 n.slot, .int .i64 n.level, n.pv, n.kv, .string n.high, .bool n.top, .int .i64 n.right, .int .i64 n.seen, n.mv, n.rv], .int .i64 slot]) (M := Mem.of w) Try.func9 rfl Try.ntmps9 (by rfl) (Mem.le_refl _) ?_
    repeat' (first
      | refine VC_seq ?_
      | refine VC_region ?_
      | refine VL_nil ?_
      | refine VC_ret ?_
      | refine VC_exit ?_
      | refine VC_block ?_
      | refine VC_skip ?_
      | refine kbox ?_
      | refine kall ?_
      | refine kst ?_
      | refine ksN ?_
      | refine klt ?_
      | refine kl1 ?_
      | refine klK ?_
      | refine kap ?_
      | ((first | apply VL_q | apply VG_q | apply VS_q2); (first  | exact qmv (by rfl) | exact qas (by rfl) | exact ql1 (by rfl) | exact qlA (by rfl) | exact qfa (by rfl) | exact qmf (by rfl) | exact qfd (by rfl) | exact qm1 (by rfl) | exact qbd (by rfl) | exact qno (by rfl) | exact qex (by rfl) | exact qln (by rfl) | exact qls (by rfl) | exact qlr (by rfl) | exact qpt (by rfl) | exact qpf (by rfl) | exact qcp (by rfl) | exact qbe (by rfl) | exact qbn (by rfl) | exact qsn (by rfl) | exact qad (by rfl) | exact qsa (by rfl) | exact qsu (by rfl) | exact QS_bin (by rfl) (by rfl) (by first | exact B_slnil | exact Bq_eql_Span | exact Bq_neq_Span | exact Bq_eql_Eff | exact Bq_neq_Eff | exact Bq_eql_Msg | exact Bq_neq_Msg | exact Bq_eql_Pair | exact Bq_neq_Pair)); rfl)
      | refine sst ?_
      | refine VS_nil ?_
      | refine eeq ?_
      | refine ees ?_ (by first | exact es1 (by rfl) | exact esN (by rfl))
      | refine VE_nil ?_
      | refine kyes ?_
      | refine kno ?_
      | refine gyes ?_
      | refine gno ?_
      | refine knoU ?_
      | refine gnoU ?_
      | refine VG_nil ⟨by rfl, ?_⟩
      | refine VG_nil ?_
      | refine dT ?_
      | refine d1 ?_
      | refine dQ ?_
      | refine ctr ?_
      | refine cfa ?_
      | refine kdec (fun hq => ?_) (fun hq => ?_)
      | refine gdec (fun hq => ?_) (fun hq => ?_)
      | refine cco (fun hq => ?_) (fun hq => ?_))
    refine VL_frz 1 (by rfl) (fun v M2 hle2 hv => ?_)
    have hS : SlM M2 10 ndCells v [n] := hv.slM (l := [n]) (fun _ _ => rfl)
    have c1 : ∀ W, M2.le (Mem.of W) → Calls Try.prog 52 #[v, .int .i64 1, .int .i64 2000] W fun e w' => e = .returned (.bool false) ∧ Below W.heap.size W w' := fun W hW => by
      have := ref_Light v [n] 1 2000 W M2 hW hS (fun a ha => by rw [List.mem_singleton.1 ha]; exact hn.mono hle2) (fun a ha => by rw [List.mem_singleton.1 ha]; exact hni) (by omega) (by omega) (by show 1 ≤ _; omega)
      rw [hL] at this
      exact this
    repeat' (first
      | refine VC_seq ?_
      | refine VC_region ?_
      | refine VL_nil ?_
      | refine VC_ret ?_
      | refine VC_exit ?_
      | refine VC_block ?_
      | refine VC_skip ?_
      | refine kbox ?_
      | refine kall ?_
      | refine kst ?_
      | refine ksN ?_
      | refine klt ?_
      | refine kl1 ?_
      | refine klK ?_
      | refine kap ?_
      | ((first | apply VL_q | apply VG_q | apply VS_q2); (first | exact QS_call (by rfl) c1 | exact QS_call (by rfl) (fun W _ => cA W) | exact qmv (by rfl) | exact qas (by rfl) | exact ql1 (by rfl) | exact qlA (by rfl) | exact qfa (by rfl) | exact qmf (by rfl) | exact qfd (by rfl) | exact qm1 (by rfl) | exact qbd (by rfl) | exact qno (by rfl) | exact qex (by rfl) | exact qln (by rfl) | exact qls (by rfl) | exact qlr (by rfl) | exact qpt (by rfl) | exact qpf (by rfl) | exact qcp (by rfl) | exact qbe (by rfl) | exact qbn (by rfl) | exact qsn (by rfl) | exact qad (by rfl) | exact qsa (by rfl) | exact qsu (by rfl) | exact QS_bin (by rfl) (by rfl) (by first | exact B_slnil | exact Bq_eql_Span | exact Bq_neq_Span | exact Bq_eql_Eff | exact Bq_neq_Eff | exact Bq_eql_Msg | exact Bq_neq_Msg | exact Bq_eql_Pair | exact Bq_neq_Pair)); rfl)
      | refine sst ?_
      | refine VS_nil ?_
      | refine eeq ?_
      | refine ees ?_ (by first | exact es1 (by rfl) | exact esN (by rfl))
      | refine VE_nil ?_
      | refine kyes ?_
      | refine kno ?_
      | refine gyes ?_
      | refine gno ?_
      | refine knoU ?_
      | refine gnoU ?_
      | refine VG_nil ⟨by rfl, ?_⟩
      | refine VG_nil ?_
      | refine dT ?_
      | refine d1 ?_
      | refine dQ ?_
      | refine ctr ?_
      | refine cfa ?_
      | refine kdec (fun hq => ?_) (fun hq => ?_)
      | refine gdec (fun hq => ?_) (fun hq => ?_)
      | refine cco (fun hq => ?_) (fun hq => ?_))
    show Res _ _ _ _
    refine Res.one (by rfl) (ResV_tmp (by rfl) ?_)
    rfl
end Go.Proofs.Ytipbbbamjckjoaa.lawNodeCopies
