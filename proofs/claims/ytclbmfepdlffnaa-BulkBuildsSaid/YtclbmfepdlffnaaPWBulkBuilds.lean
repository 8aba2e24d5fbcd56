/- The walk of BulkBuilds. -/
import Derived.Test.YtclbmfepdlffnaaPBxB
namespace Go.Proofs.Ytclbmfepdlffnaa.lawBulkBuilds
open Go Go.RowKit
set_option linter.unusedVariables false
set_option maxRecDepth 20000
set_option linter.unusedSimpArgs false
set_option maxHeartbeats 8000000
attribute [local irreducible] Calls
theorem key_em {l : List Pair} (hk : KeysUp l) (h : 0 < l.length) : lt em (pkAt l 0) = true ∨ pkAt l 0 = em := by
  cases h1 : lt em (pkAt l 0) with
  | true => exact .inl rfl
  | false => exact .inr (lt_tot (lt_em _) h1)
theorem VC_seqS {P : Program} {w : World} {M0 : Mem} {N : Nat} {x y : Code} {s : St} {Q : Post} (R : St → Prop) (h1 : Unit → VC P w M0 N x s (fun e s' => e = .normal ∧ R s')) (h2 : ∀ s', R s' → VC P w M0 N y s' Q) : VC P w M0 N (.seq x y) s Q :=
  VC_seq (VC_mono (h1 ()) (fun e s' ⟨he, hr⟩ => by subst he; exact h2 s' hr))
theorem VC_stopAt (n : Nat) {P : Program} {w : World} {M0 : Mem} {N : Nat} {ops : Array Oper} {b : Bool} {x y : Code} {s : St} {Q : Post} (R : St → Prop) (h1 : Unit → VC P w M0 N (.seq (.region n ops b) x) s (fun e s' => e = .normal ∧ R s')) (h2 : ∀ s', R s' → VC P w M0 N y s' Q) : VC P w M0 N (.seq (.seq (.region n ops b) x) y) s Q := VC_seqS R h1 h2
theorem walk_no (c : Cfg) (v : Value) (l : List Pair) (w : World) (hl : Sl w 2 pairCells v l) (hn : l.length ≤ 300) (hlong : longP 20000 l = true) (hin : ∀ a ∈ l, a.In) (hno : okC c = false ∨ rightP l = false) :
    Calls Try.prog 10 #[.agg #[.int .i64 c.fanout, .int .i64 c.leaf, .int .i64 c.budget, .int .i64 c.slots, .int .i64 c.restarts], v] w fun e w' => e = .returned (.bool true) ∧ Below w.heap.size w w' := by
  have hM := hl.toM
  obtain ⟨A, c1, rfl, hc1, hc2, _⟩ := id hM
  have hz := (longP_bounds hlong).2
  have cA := fun W => bulk_awake W
  have cF := fun W (hW : (Mem.of w).le (Mem.of W)) => ref_LongP (.slice A l.length c1) l 20000 W (hM.toSl hW) hin (by omega) (by omega)
  rw [hlong] at cF
  have d0 : decide ((300 : Int) < (l.length : Int)) = false := decide_eq_false (by omega)
  have hlv : levelsC c (l.length : Int) = [] ∨ rightP l = false := by
    rcases hno with h | h
    · left; unfold levelsC; rw [if_pos (.inl h)]
    · exact .inr h
  have cB := fun W (hW : (Mem.of w).le (Mem.of W)) => bulk_BuildNo c (.slice A l.length c1) l W (Mem.of w) hW hM (by omega) (fun p hp => by have := hz p hp; omega) hlv
  have cR := fun W => ref_RightC c W
  have cP := fun W (hW : (Mem.of w).le (Mem.of W)) => ref_RightP (.slice A l.length c1) l W (hM.toSl hW) (fun p hp => by have := hz p hp; unfold maxLen; omega) (by omega)
  have q0 : (((0 : Nat) : Int) == 0) = true := by decide
  clear hlv
  cases h1 : okC c with
  | false =>
    rw [h1] at cR
    refine V_flat (args := [.agg #[.int .i64 c.fanout, .int .i64 c.leaf, .int .i64 c.budget, .int .i64 c.slots, .int .i64 c.restarts], .slice A l.length c1]) (M := Mem.of w) Try.func10 rfl Try.ntmps10 (by rfl) (Mem.le_refl _) ?_
    repeat' (first
      | refine VC_seq ?_
      | refine VC_region ?_
      | refine VL_nil ?_
      | refine VC_ret ?_
      | refine VC_exit ?_
      | refine VC_block ?_
      | refine VC_skip ?_
      | refine kbox ?_
      | refine kall ?_
      | refine kst ?_
      | refine ksN ?_
      | refine klt ?_
      | refine kl1 ?_
      | refine klK ?_
      | refine kap ?_
      | ((first | apply VL_q | apply VG_q | apply VS_q2); (first | exact QS_call (by rfl) cF | exact QS_call (by rfl) cB | exact QS_call (by rfl) (fun W _ => cR W) | exact QS_call (by rfl) cP | exact QS_call (by rfl) (fun W _ => cA W) | exact qmv (by rfl) | exact qas (by rfl) | exact ql1 (by rfl) | exact qlA (by rfl) | exact qfa (by rfl) | exact qmf (by rfl) | exact qfd (by rfl) | exact qm1 (by rfl) | exact qbd (by rfl) | exact qno (by rfl) | exact qex (by rfl) | exact qln (by rfl) | exact qls (by rfl) | exact qlr (by rfl) | exact qpt (by rfl) | exact qpf (by rfl) | exact qcp (by rfl) | exact qbe (by rfl) | exact qbn (by rfl) | exact qsn (by rfl) | exact qad (by rfl) | exact qsa (by rfl) | exact qsu (by rfl) | exact QS_bin (by rfl) (by rfl) (by first | exact B_slnil | exact Bq_eql_Msg | exact Bq_neq_Msg | exact Bq_eql_Pair | exact Bq_neq_Pair | exact Bq_eql_Op | exact Bq_neq_Op | exact Bq_eql_Cfg | exact Bq_neq_Cfg)); rfl)
      | refine sst ?_
      | refine VS_nil ?_
      | refine eeq ?_
      | refine ees ?_ (by first | exact es1 (by rfl) | exact esN (by rfl))
      | refine VE_nil ?_
      | refine kyes ?_
      | refine kno ?_
      | refine gyes ?_
      | refine gno ?_
      | refine knoU ?_
      | refine gnoU ?_
      | refine VG_nil ⟨by rfl, ?_⟩
      | refine VG_nil ?_
      | refine dT ?_
      | refine d1 ?_
      | refine dQ ?_
      | refine ctr ?_
      | refine cfa ?_
      | refine kdec (fun hq => ?_) (fun hq => ?_)
      | refine gdec (fun hq => ?_) (fun hq => ?_)
      | refine cco (fun hq => ?_) (fun hq => ?_))
    show Res _ _ _ _
    refine Res.one (by rfl) (ResV_tmp (by rfl) ?_)
    rfl
  | true =>
    have h2 : rightP l = false := by
      rcases hno with h | h
      · rw [h] at h1; cases h1
      · exact h
    rw [h1] at cR
    rw [h2] at cP
    clear hno
    refine V_flat (args := [.agg #[.int .i64 c.fanout, .int .i64 c.leaf, .int .i64 c.budget, .int .i64 c.slots, .int .i64 c.restarts], .slice A l.length c1]) (M := Mem.of w) Try.func10 rfl Try.ntmps10 (by rfl) (Mem.le_refl _) ?_
    repeat' (first
      | refine VC_seq ?_
      | refine VC_region ?_
      | refine VL_nil ?_
      | refine VC_ret ?_
      | refine VC_exit ?_
      | refine VC_block ?_
      | refine VC_skip ?_
      | refine kbox ?_
      | refine kall ?_
      | refine kst ?_
      | refine ksN ?_
      | refine klt ?_
      | refine kl1 ?_
      | refine klK ?_
      | refine kap ?_
      | ((first | apply VL_q | apply VG_q | apply VS_q2); (first | exact QS_call (by rfl) cF | exact QS_call (by rfl) cB | exact QS_call (by rfl) (fun W _ => cR W) | exact QS_call (by rfl) cP | exact QS_call (by rfl) (fun W _ => cA W) | exact qmv (by rfl) | exact qas (by rfl) | exact ql1 (by rfl) | exact qlA (by rfl) | exact qfa (by rfl) | exact qmf (by rfl) | exact qfd (by rfl) | exact qm1 (by rfl) | exact qbd (by rfl) | exact qno (by rfl) | exact qex (by rfl) | exact qln (by rfl) | exact qls (by rfl) | exact qlr (by rfl) | exact qpt (by rfl) | exact qpf (by rfl) | exact qcp (by rfl) | exact qbe (by rfl) | exact qbn (by rfl) | exact qsn (by rfl) | exact qad (by rfl) | exact qsa (by rfl) | exact qsu (by rfl) | exact QS_bin (by rfl) (by rfl) (by first | exact B_slnil | exact Bq_eql_Msg | exact Bq_neq_Msg | exact Bq_eql_Pair | exact Bq_neq_Pair | exact Bq_eql_Op | exact Bq_neq_Op | exact Bq_eql_Cfg | exact Bq_neq_Cfg)); rfl)
      | refine sst ?_
      | refine VS_nil ?_
      | refine eeq ?_
      | refine ees ?_ (by first | exact es1 (by rfl) | exact esN (by rfl))
      | refine VE_nil ?_
      | refine kyes ?_
      | refine kno ?_
      | refine gyes ?_
      | refine gno ?_
      | refine knoU ?_
      | refine gnoU ?_
      | refine VG_nil ⟨by rfl, ?_⟩
      | refine VG_nil ?_
      | refine dT ?_
      | refine d1 ?_
      | refine dQ ?_
      | refine ctr ?_
      | refine cfa ?_
      | refine kdec (fun hq => ?_) (fun hq => ?_)
      | refine gdec (fun hq => ?_) (fun hq => ?_)
      | refine cco (fun hq => ?_) (fun hq => ?_))
    show Res _ _ _ _
    refine Res.one (by rfl) (ResV_tmp (by rfl) ?_)
    rfl
theorem walk_full (c : Cfg) (v : Value) (l : List Pair) (L : List Nat) (w : World) (hl : Sl w 2 pairCells v l) (hn : l.length ≤ 300) (hlong : longP 20000 l = true) (hin : ∀ a ∈ l, a.In) (hc : okC c = true) (hr : rightP l = true) (hL : levelsC c (l.length : Int) = L) (h0 : 0 < L.length) (hsum : L.sum ≤ 1000000) (hLn : L.length ≤ 1000000) (hslots : c.slots < (L.sum : Int)) :
    Calls Try.prog 10 #[.agg #[.int .i64 c.fanout, .int .i64 c.leaf, .int .i64 c.budget, .int .i64 c.slots, .int .i64 c.restarts], v] w fun e w' => e = .returned (.bool true) ∧ Below w.heap.size w w' := by
  have hM := hl.toM
  obtain ⟨A, c1, rfl, hc1, hc2, _⟩ := id hM
  have hz := (longP_bounds hlong).2
  have cA := fun W => bulk_awake W
  have cF := fun W (hW : (Mem.of w).le (Mem.of W)) => ref_LongP (.slice A l.length c1) l 20000 W (hM.toSl hW) hin (by omega) (by omega)
  rw [hlong] at cF
  have d0 : decide ((300 : Int) < (l.length : Int)) = false := decide_eq_false (by omega)
  have cB := fun W (hW : (Mem.of w).le (Mem.of W)) => bulk_BuildFull c (.slice A l.length c1) l L W (Mem.of w) hW hM hL (by omega) h0 hLn hr (by omega) hslots
  have cR := fun W => ref_RightC c W
  rw [hc] at cR
  have cP := fun W (hW : (Mem.of w).le (Mem.of W)) => ref_RightP (.slice A l.length c1) l W (hM.toSl hW) (fun p hp => by have := hz p hp; unfold maxLen; omega) (by omega)
  rw [hr] at cP
  have cL := fun W => bulk_Levels c (l.length : Int) W
  rw [hL] at cL
  have q0 : (((0 : Nat) : Int) == 0) = true := by decide
  refine V_flat (args := [.agg #[.int .i64 c.fanout, .int .i64 c.leaf, .int .i64 c.budget, .int .i64 c.slots, .int .i64 c.restarts], .slice A l.length c1]) (M := Mem.of w) Try.func10 rfl Try.ntmps10 (by rfl) (Mem.le_refl _) ?_
  repeat' (first
    | refine VC_seq ?_
    | refine VC_region ?_
    | refine VL_nil ?_
    | refine VC_ret ?_
    | refine VC_exit ?_
    | refine VC_block ?_
    | refine VC_skip ?_
    | refine kbox ?_
    | refine kall ?_
    | refine kst ?_
    | refine ksN ?_
    | refine klt ?_
    | refine kl1 ?_
    | refine klK ?_
    | refine kap ?_
    | ((first | apply VL_q | apply VG_q | apply VS_q2); (first | exact QS_call (by rfl) cF | exact QS_call (by rfl) cB | exact QS_call (by rfl) (fun W _ => cR W) | exact QS_call (by rfl) cP | exact QS_call (by rfl) (fun W _ => cA W) | exact qmv (by rfl) | exact qas (by rfl) | exact ql1 (by rfl) | exact qlA (by rfl) | exact qfa (by rfl) | exact qmf (by rfl) | exact qfd (by rfl) | exact qm1 (by rfl) | exact qbd (by rfl) | exact qno (by rfl) | exact qex (by rfl) | exact qln (by rfl) | exact qls (by rfl) | exact qlr (by rfl) | exact qpt (by rfl) | exact qpf (by rfl) | exact qcp (by rfl) | exact qbe (by rfl) | exact qbn (by rfl) | exact qsn (by rfl) | exact qad (by rfl) | exact qsa (by rfl) | exact qsu (by rfl) | exact QS_bin (by rfl) (by rfl) (by first | exact B_slnil | exact Bq_eql_Msg | exact Bq_neq_Msg | exact Bq_eql_Pair | exact Bq_neq_Pair | exact Bq_eql_Op | exact Bq_neq_Op | exact Bq_eql_Cfg | exact Bq_neq_Cfg)); rfl)
    | refine sst ?_
    | refine VS_nil ?_
    | refine eeq ?_
    | refine ees ?_ (by first | exact es1 (by rfl) | exact esN (by rfl))
    | refine VE_nil ?_
    | refine kyes ?_
    | refine kno ?_
    | refine gyes ?_
    | refine gno ?_
    | refine knoU ?_
    | refine gnoU ?_
    | refine VG_nil ⟨by rfl, ?_⟩
    | refine VG_nil ?_
    | refine dT ?_
    | refine d1 ?_
    | refine dQ ?_
    | refine ctr ?_
    | refine cfa ?_
    | refine kdec (fun hq => ?_) (fun hq => ?_)
    | refine gdec (fun hq => ?_) (fun hq => ?_)
    | refine cco (fun hq => ?_) (fun hq => ?_))
  refine VL_callO (by rfl) (fun W _ => cL W) (by rfl) (by rfl) ?_
  refine VL_frz 1 (by rfl) (fun us M1 hle1 hus => ?_)
  have hS : SlM M1 1 natK us L := hus.slM (fun _ _ => rfl)
  obtain ⟨B, cb, hus', hd1, hd2, _⟩ := id hS
  subst hus'
  repeat' (first
    | refine VC_seq ?_
    | refine VC_region ?_
    | refine VL_nil ?_
    | refine VC_ret ?_
    | refine VC_exit ?_
    | refine VC_block ?_
    | refine VC_skip ?_
    | refine kbox ?_
    | refine kall ?_
    | refine kst ?_
    | refine ksN ?_
    | refine klt ?_
    | refine kl1 ?_
    | refine klK ?_
    | refine kap ?_
    | ((first | apply VL_q | apply VG_q | apply VS_q2); (first  | exact qmv (by rfl) | exact qas (by rfl) | exact ql1 (by rfl) | exact qlA (by rfl) | exact qfa (by rfl) | exact qmf (by rfl) | exact qfd (by rfl) | exact qm1 (by rfl) | exact qbd (by rfl) | exact qno (by rfl) | exact qex (by rfl) | exact qln (by rfl) | exact qls (by rfl) | exact qlr (by rfl) | exact qpt (by rfl) | exact qpf (by rfl) | exact qcp (by rfl) | exact qbe (by rfl) | exact qbn (by rfl) | exact qsn (by rfl) | exact qad (by rfl) | exact qsa (by rfl) | exact qsu (by rfl) | exact QS_bin (by rfl) (by rfl) (by first | exact B_slnil | exact Bq_eql_Msg | exact Bq_neq_Msg | exact Bq_eql_Pair | exact Bq_neq_Pair | exact Bq_eql_Op | exact Bq_neq_Op | exact Bq_eql_Cfg | exact Bq_neq_Cfg)); rfl)
    | refine sst ?_
    | refine VS_nil ?_
    | refine eeq ?_
    | refine ees ?_ (by first | exact es1 (by rfl) | exact esN (by rfl))
    | refine VE_nil ?_
    | refine kyes ?_
    | refine kno ?_
    | refine gyes ?_
    | refine gno ?_
    | refine knoU ?_
    | refine gnoU ?_
    | refine VG_nil ⟨by rfl, ?_⟩
    | refine VG_nil ?_
    | refine dT ?_
    | refine d1 ?_
    | refine dQ ?_
    | refine ctr ?_
    | refine cfa ?_
    | refine kdec (fun hq => ?_) (fun hq => ?_)
    | refine gdec (fun hq => ?_) (fun hq => ?_)
    | refine cco (fun hq => ?_) (fun hq => ?_))
  refine VC_for (fun k : Nat => ⟨M1, [.blk 74 [.int .i64 c.fanout, .int .i64 c.leaf, .int .i64 c.budget, .int .i64 c.slots, .int .i64 c.restarts]], [(1, .v (.slice A l.length c1)), (2, .p 0 0), (5, .v (.slice none 0 0)), (6, .v (.int .i64 4)), (7, .v (.slice B L.length cb)), (8, .v (.int .i64 ((L.take k).sum : Nat))), (60, .v (.slice B L.length cb)), (61, .v (.int .i64 L.length)), (62, .v (.int .i64 k))]⟩) (fun k => k ≤ L.length) (fun k => L.length - k) [0] 0 ⟨rfl, rfl, ⟨rfl, trivial⟩, ⟨rfl, rfl, rfl, rfl, rfl, rfl, rfl, rfl, rfl, trivial⟩⟩ (by omega) ?_
  intro k hk
  rcases Nat.lt_or_ge k L.length with hlt | hge
  · have hd := dlt hlt
    obtain ⟨b, off, rfl, hcA⟩ := hS.get hlt
    have hst := sum_step hlt
    have hsl := sum_le hlt
    generalize L[k] = lk at *
    generalize (L.take k).sum = sk at *
    repeat' (first
      | refine VC_seq ?_
      | refine VC_region ?_
      | refine VL_nil ?_
      | refine VC_ret ?_
      | refine VC_exit ?_
      | refine VC_block ?_
      | refine VC_skip ?_
      | refine kbox ?_
      | refine kall ?_
      | refine kst ?_
      | refine ksN ?_
      | refine klt ?_
      | refine kl1 ?_
      | refine klK ?_
      | refine kap ?_
      | ((first | apply VL_q | apply VG_q | apply VS_q2); (first | exact QS_indexAddr (k) (by rfl) (by rfl) (by omega) (by omega) | exact QS_mload1 (by rfl) (hcA 0 _ (by rfl)) | exact QS_mload1 (by rfl) (hcA _ _ (by rfl)) | exact QS_mloadN _ (by rfl) hcA _ (by rfl) | exact qmv (by rfl) | exact qas (by rfl) | exact ql1 (by rfl) | exact qlA (by rfl) | exact qfa (by rfl) | exact qmf (by rfl) | exact qfd (by rfl) | exact qm1 (by rfl) | exact qbd (by rfl) | exact qno (by rfl) | exact qex (by rfl) | exact qln (by rfl) | exact qls (by rfl) | exact qlr (by rfl) | exact qpt (by rfl) | exact qpf (by rfl) | exact qcp (by rfl) | exact qbe (by rfl) | exact qbn (by rfl) | exact qsn (by rfl) | exact qad (by rfl) | exact qsa (by rfl) | exact qsu (by rfl) | exact QS_bin (by rfl) (by rfl) (by first | exact B_slnil | exact Bq_eql_Msg | exact Bq_neq_Msg | exact Bq_eql_Pair | exact Bq_neq_Pair | exact Bq_eql_Op | exact Bq_neq_Op | exact Bq_eql_Cfg | exact Bq_neq_Cfg)); rfl)
      | refine sst ?_
      | refine VS_nil ?_
      | refine eeq ?_
      | refine ees ?_ (by first | exact es1 (by rfl) | exact esN (by rfl))
      | refine VE_nil ?_
      | refine kyes ?_
      | refine kno ?_
      | refine gyes ?_
      | refine gno ?_
      | refine knoU ?_
      | refine gnoU ?_
      | refine VG_nil ⟨by rfl, ?_⟩
      | refine VG_nil ?_
      | refine dT ?_
      | refine d1 ?_
      | refine dQ ?_
      | refine ctr ?_
      | refine cfa ?_
      | refine kdec (fun hq => ?_) (fun hq => ?_)
      | refine gdec (fun hq => ?_) (fun hq => ?_)
      | refine cco (fun hq => ?_) (fun hq => ?_))
    exact forQ_next (Q := fun _ _ => True) [0] (k + 1) ⟨rfl, rfl, ⟨rfl, trivial⟩, ⟨rfl, rfl, rfl, rfl, rfl, by rw [hst]; rfl, rfl, rfl, rfl, trivial⟩⟩ (by omega) (by omega)
  have hd := dge hge
  obtain rfl : k = L.length := by omega
  rw [List.take_length]
  have g2 : decide (c.slots < (L.sum : Int)) = true := decide_eq_true (by omega)
  repeat' (first
    | refine VC_seq ?_
    | refine VC_region ?_
    | refine VL_nil ?_
    | refine VC_ret ?_
    | refine VC_exit ?_
    | refine VC_block ?_
    | refine VC_skip ?_
    | refine kbox ?_
    | refine kall ?_
    | refine kst ?_
    | refine ksN ?_
    | refine klt ?_
    | refine kl1 ?_
    | refine klK ?_
    | refine kap ?_
    | ((first | apply VL_q | apply VG_q | apply VS_q2); (first | exact QS_call (by rfl) (fun W _ => cA W) | exact qmv (by rfl) | exact qas (by rfl) | exact ql1 (by rfl) | exact qlA (by rfl) | exact qfa (by rfl) | exact qmf (by rfl) | exact qfd (by rfl) | exact qm1 (by rfl) | exact qbd (by rfl) | exact qno (by rfl) | exact qex (by rfl) | exact qln (by rfl) | exact qls (by rfl) | exact qlr (by rfl) | exact qpt (by rfl) | exact qpf (by rfl) | exact qcp (by rfl) | exact qbe (by rfl) | exact qbn (by rfl) | exact qsn (by rfl) | exact qad (by rfl) | exact qsa (by rfl) | exact qsu (by rfl) | exact QS_bin (by rfl) (by rfl) (by first | exact B_slnil | exact Bq_eql_Msg | exact Bq_neq_Msg | exact Bq_eql_Pair | exact Bq_neq_Pair | exact Bq_eql_Op | exact Bq_neq_Op | exact Bq_eql_Cfg | exact Bq_neq_Cfg)); rfl)
    | refine sst ?_
    | refine VS_nil ?_
    | refine eeq ?_
    | refine ees ?_ (by first | exact es1 (by rfl) | exact esN (by rfl))
    | refine VE_nil ?_
    | refine kyes ?_
    | refine kno ?_
    | refine gyes ?_
    | refine gno ?_
    | refine knoU ?_
    | refine gnoU ?_
    | refine VG_nil ⟨by rfl, ?_⟩
    | refine VG_nil ?_
    | refine dT ?_
    | refine d1 ?_
    | refine dQ ?_
    | refine ctr ?_
    | refine cfa ?_
    | refine kdec (fun hq => ?_) (fun hq => ?_)
    | refine gdec (fun hq => ?_) (fun hq => ?_)
    | refine cco (fun hq => ?_) (fun hq => ?_))
  show Res _ _ _ _
  refine Res.one (by rfl) (ResV_tmp (by rfl) ?_)
  rfl
theorem walk_ok (c : Cfg) (v : Value) (l : List Pair) (L : List Nat) (w : World) (hl : Sl w 2 pairCells v l) (hn : l.length ≤ 300) (hlong : longP 20000 l = true) (hin : ∀ a ∈ l, a.In) (hc : okC c = true) (hr : rightP l = true) (hL : levelsC c (l.length : Int) = L) (hS : Shape l L) (hF : TreeFit c l L) (hH : ∀ i k, i + 1 < L.length → k < L.getD (i + 1) 0 → 1 < L.getD (i + 1) 0 → c.fanout / 2 ≤ ((parF l L (i + 1) k : Nat) : Int)) (hsum : L.sum ≤ 1000000) (hLn : L.length ≤ 1000000) :
    Calls Try.prog 10 #[.agg #[.int .i64 c.fanout, .int .i64 c.leaf, .int .i64 c.budget, .int .i64 c.slots, .int .i64 c.restarts], v] w fun e w' => e = .returned (.bool true) ∧ Below w.heap.size w w' := by
  have hM := hl.toM
  obtain ⟨A, c1, rfl, hc1, hc2, _⟩ := id hM
  have hz := (longP_bounds hlong).2
  have hkeys := rightP_up hr
  have hslots := hF.slots
  have hcb := okC_parts hc
  have cA := fun W => bulk_awake W
  have cF := fun W (hW : (Mem.of w).le (Mem.of W)) => ref_LongP (.slice A l.length c1) l 20000 W (hM.toSl hW) hin (by omega) (by omega)
  rw [hlong] at cF
  have d0 : decide ((300 : Int) < (l.length : Int)) = false := decide_eq_false (by omega)
  have cB := fun W (hW : (Mem.of w).le (Mem.of W)) => bulk_Build c (.slice A l.length c1) l L W (Mem.of w) hW hM hL (by omega) hS hr (fun p hp => by have := hz p hp; omega) hsum hslots
  have cR := fun W => ref_RightC c W
  rw [hc] at cR
  have cL := fun W => bulk_Levels c (l.length : Int) W
  rw [hL] at cL
  refine V_flat (args := [.agg #[.int .i64 c.fanout, .int .i64 c.leaf, .int .i64 c.budget, .int .i64 c.slots, .int .i64 c.restarts], .slice A l.length c1]) (M := Mem.of w) Try.func10 rfl Try.ntmps10 (by rfl) (Mem.le_refl _) ?_
  repeat' (first
    | refine VC_seq ?_
    | refine VC_region ?_
    | refine VL_nil ?_
    | refine VC_ret ?_
    | refine VC_exit ?_
    | refine VC_block ?_
    | refine VC_skip ?_
    | refine kbox ?_
    | refine kall ?_
    | refine kst ?_
    | refine ksN ?_
    | refine klt ?_
    | refine kl1 ?_
    | refine klK ?_
    | refine kap ?_
    | ((first | apply VL_q | apply VG_q | apply VS_q2); (first | exact QS_call (by rfl) cF | exact qmv (by rfl) | exact qas (by rfl) | exact ql1 (by rfl) | exact qlA (by rfl) | exact qfa (by rfl) | exact qmf (by rfl) | exact qfd (by rfl) | exact qm1 (by rfl) | exact qbd (by rfl) | exact qno (by rfl) | exact qex (by rfl) | exact qln (by rfl) | exact qls (by rfl) | exact qlr (by rfl) | exact qpt (by rfl) | exact qpf (by rfl) | exact qcp (by rfl) | exact qbe (by rfl) | exact qbn (by rfl) | exact qsn (by rfl) | exact qad (by rfl) | exact qsa (by rfl) | exact qsu (by rfl) | exact QS_bin (by rfl) (by rfl) (by first | exact B_slnil | exact Bq_eql_Msg | exact Bq_neq_Msg | exact Bq_eql_Pair | exact Bq_neq_Pair | exact Bq_eql_Op | exact Bq_neq_Op | exact Bq_eql_Cfg | exact Bq_neq_Cfg)); rfl)
    | refine sst ?_
    | refine VS_nil ?_
    | refine eeq ?_
    | refine ees ?_ (by first | exact es1 (by rfl) | exact esN (by rfl))
    | refine VE_nil ?_
    | refine kyes ?_
    | refine kno ?_
    | refine gyes ?_
    | refine gno ?_
    | refine knoU ?_
    | refine gnoU ?_
    | refine VG_nil ⟨by rfl, ?_⟩
    | refine VG_nil ?_
    | refine dT ?_
    | refine d1 ?_
    | refine dQ ?_
    | refine ctr ?_
    | refine cfa ?_
    | refine kdec (fun hq => ?_) (fun hq => ?_)
    | refine gdec (fun hq => ?_) (fun hq => ?_)
    | refine cco (fun hq => ?_) (fun hq => ?_))
  refine VL_callM (by rfl) cB (by rfl) (fun u M1 hle1 hpost => ?_)
  obtain ⟨xv, N, rfl, hN, hNok, hNs⟩ := hpost
  have hNb : ∀ a ∈ N, a.Big ∧ a.In := fun a ha => by
    have h1 : strip a ∈ buildF l L := by rw [← hNs]; exact List.mem_map_of_mem ha
    exact big_strip (b := strip a) rfl (build_big hS hkeys (by omega) hsum h1)
  have hNl : N.length = L.sum := by have := congrArg List.length hNs; rwa [List.length_map, build_len] at this
  have hNds : NdsOk M1 N := ⟨hNok, fun a ha => (hNb a ha).1, fun a ha => (hNb a ha).2, by have := hcb; omega⟩
  have hsd : soundR c N = true := by rw [← soundR_strip, hNs]; exact build_sound hS hkeys hF
  have hms : ∀ a ∈ N, a.ms = [] := fun a ha => by
    have h1 : strip a ∈ buildF l L := by rw [← hNs]; exact List.mem_map_of_mem ha
    obtain ⟨i, k, _, _, e⟩ := build_mem h1
    exact congrArg Nd.ms e
  obtain ⟨ss, hss, hssq⟩ : ∃ ss, seatsL N = some ss ∧ ss.map stripQ = (rowsF l L).flatten := by
    have h1 := seatsL_strip N
    rw [hNs, build_seats hS hkeys] at h1
    cases h2 : seatsL N with
    | none => rw [h2] at h1; cases h1
    | some ss => rw [h2] at h1; exact ⟨ss, rfl, (Option.some.inj h1).symm⟩
  have hssl : ss.length = L.sum := by
    have h1 := congrArg List.length hssq
    have h2 := congrArg List.length (rows_nodes (l := l) (L := L))
    rw [List.length_map] at h1 h2
    rw [h1, h2, build_len]
  have hpairs : ss.flatMap lfQ = l := by
    have h1 : ss.flatMap lfQ = (ss.map stripQ).flatMap lfQ := by rw [List.flatMap_map]; rfl
    rw [h1, hssq]; exact rows_pairs hS
  have hseat : ∀ s (h : s < ss.length), ∃ i k, i < L.length ∧ k < L.getD i 0 ∧ s = fromF L i + k ∧ stripQ ss[s] = seatF l L i k := fun s h => by
    have h1 : s < (rowsF l L).flatten.length := by rw [← hssq, List.length_map]; exact h
    obtain ⟨i, k, a1, a2, a3, a4⟩ := seat_at h1
    refine ⟨i, k, a1, a2, a3, ?_⟩
    rw [← a4]
    simp only [← hssq, List.getElem_map]
  have hslot : ∀ s (h : s < N.length), (N[s]).slot = (s : Int) := fun s h => by
    have h1 : s < (buildF l L).length := by rw [← hNs, List.length_map]; exact h
    have h2 := build_slot s h1
    simp only [← hNs, List.getElem_map] at h2
    exact h2
  have hmapq : ∀ x ∈ ss, (x.n.level == 0) = true → x.ms = [] ∧ x.n.rs.length ≤ 1000000 ∧ ∀ p ∈ x.n.rs, p.key.size ≤ 1000000 ∧ has x.s p.key = true := fun x hx hlv => by
    obtain ⟨s, hs, rfl⟩ := List.getElem_of_mem hx
    obtain ⟨i, k, a1, a2, a3, a4⟩ := hseat s hs
    generalize ss[s] = x at *
    have e1 : x.ms = [] := congrArg Sq.ms a4
    have e2 : x.n.rs = rsF l L i k := congrArg (fun q : Sq => q.n.rs) a4
    have e3 : x.s = loSpan (loF l L i) (L.getD i 0) k := congrArg Sq.s a4
    have e4 : x.n.level = (i : Int) := congrArg (fun q : Sq => q.n.level) a4
    have e5 := seat_placed hS hkeys a1 a2
    rw [← a4] at e5
    unfold placedQ at e5
    simp only [Bool.and_eq_true] at e5
    have e6 := e5.1.1.2
    refine ⟨e1, ?_, fun p hp => ⟨?_, List.all_eq_true.1 e6 p hp⟩⟩
    · rw [e2]
      unfold rsF
      split
      · rw [List.length_take, List.length_drop]; omega
      · exact Nat.zero_le _
    · rw [e2] at hp
      unfold rsF at hp
      split at hp
      · have := (hkeys.sz p (List.mem_of_mem_drop (List.mem_of_mem_take hp))).1; omega
      · cases hp
  obtain ⟨AN, cN, rfl, _⟩ := id hN
  have hM1 := hM.mono hle1
  have cP := fun W (hW : M1.le (Mem.of W)) => ref_RightP (.slice A l.length c1) l W (hM1.toSl hW) (fun p hp => by have := hz p hp; unfold maxLen; omega) (by omega)
  rw [hr] at cP
  repeat' (first
    | refine VC_seq ?_
    | refine VC_region ?_
    | refine VL_nil ?_
    | refine VC_ret ?_
    | refine VC_exit ?_
    | refine VC_block ?_
    | refine VC_skip ?_
    | refine kbox ?_
    | refine kall ?_
    | refine kst ?_
    | refine ksN ?_
    | refine klt ?_
    | refine kl1 ?_
    | refine klK ?_
    | refine kap ?_
    | ((first | apply VL_q | apply VG_q | apply VS_q2); (first | exact QS_call (by rfl) (fun W _ => cR W) | exact QS_call (by rfl) cP | exact qmv (by rfl) | exact qas (by rfl) | exact ql1 (by rfl) | exact qlA (by rfl) | exact qfa (by rfl) | exact qmf (by rfl) | exact qfd (by rfl) | exact qm1 (by rfl) | exact qbd (by rfl) | exact qno (by rfl) | exact qex (by rfl) | exact qln (by rfl) | exact qls (by rfl) | exact qlr (by rfl) | exact qpt (by rfl) | exact qpf (by rfl) | exact qcp (by rfl) | exact qbe (by rfl) | exact qbn (by rfl) | exact qsn (by rfl) | exact qad (by rfl) | exact qsa (by rfl) | exact qsu (by rfl) | exact QS_bin (by rfl) (by rfl) (by first | exact B_slnil | exact Bq_eql_Msg | exact Bq_neq_Msg | exact Bq_eql_Pair | exact Bq_neq_Pair | exact Bq_eql_Op | exact Bq_neq_Op | exact Bq_eql_Cfg | exact Bq_neq_Cfg)); rfl)
    | refine sst ?_
    | refine VS_nil ?_
    | refine eeq ?_
    | refine ees ?_ (by first | exact es1 (by rfl) | exact esN (by rfl))
    | refine VE_nil ?_
    | refine kyes ?_
    | refine kno ?_
    | refine gyes ?_
    | refine gno ?_
    | refine knoU ?_
    | refine gnoU ?_
    | refine VG_nil ⟨by rfl, ?_⟩
    | refine VG_nil ?_
    | refine dT ?_
    | refine d1 ?_
    | refine dQ ?_
    | refine ctr ?_
    | refine cfa ?_
    | refine kdec (fun hq => ?_) (fun hq => ?_)
    | refine gdec (fun hq => ?_) (fun hq => ?_)
    | refine cco (fun hq => ?_) (fun hq => ?_))
  refine VL_callO (by rfl) (fun W _ => cL W) (by rfl) (by rfl) ?_
  refine VL_frz 1 (by rfl) (fun us M2 hle2 hus => ?_)
  have hSz : SlM M2 1 natK us L := hus.slM (fun _ _ => rfl)
  obtain ⟨B, cb, hus', hd1, hd2, _⟩ := id hSz
  subst hus'
  repeat' (first
    | refine VC_seq ?_
    | refine VC_region ?_
    | refine VL_nil ?_
    | refine VC_ret ?_
    | refine VC_exit ?_
    | refine VC_block ?_
    | refine VC_skip ?_
    | refine kbox ?_
    | refine kall ?_
    | refine kst ?_
    | refine ksN ?_
    | refine klt ?_
    | refine kl1 ?_
    | refine klK ?_
    | refine kap ?_
    | ((first | apply VL_q | apply VG_q | apply VS_q2); (first  | exact qmv (by rfl) | exact qas (by rfl) | exact ql1 (by rfl) | exact qlA (by rfl) | exact qfa (by rfl) | exact qmf (by rfl) | exact qfd (by rfl) | exact qm1 (by rfl) | exact qbd (by rfl) | exact qno (by rfl) | exact qex (by rfl) | exact qln (by rfl) | exact qls (by rfl) | exact qlr (by rfl) | exact qpt (by rfl) | exact qpf (by rfl) | exact qcp (by rfl) | exact qbe (by rfl) | exact qbn (by rfl) | exact qsn (by rfl) | exact qad (by rfl) | exact qsa (by rfl) | exact qsu (by rfl) | exact QS_bin (by rfl) (by rfl) (by first | exact B_slnil | exact Bq_eql_Msg | exact Bq_neq_Msg | exact Bq_eql_Pair | exact Bq_neq_Pair | exact Bq_eql_Op | exact Bq_neq_Op | exact Bq_eql_Cfg | exact Bq_neq_Cfg)); rfl)
    | refine sst ?_
    | refine VS_nil ?_
    | refine eeq ?_
    | refine ees ?_ (by first | exact es1 (by rfl) | exact esN (by rfl))
    | refine VE_nil ?_
    | refine kyes ?_
    | refine kno ?_
    | refine gyes ?_
    | refine gno ?_
    | refine knoU ?_
    | refine gnoU ?_
    | refine VG_nil ⟨by rfl, ?_⟩
    | refine VG_nil ?_
    | refine dT ?_
    | refine d1 ?_
    | refine dQ ?_
    | refine ctr ?_
    | refine cfa ?_
    | refine kdec (fun hq => ?_) (fun hq => ?_)
    | refine gdec (fun hq => ?_) (fun hq => ?_)
    | refine cco (fun hq => ?_) (fun hq => ?_))
  refine VC_for (fun k : Nat => ⟨M2, [.blk 74 [.int .i64 c.fanout, .int .i64 c.leaf, .int .i64 c.budget, .int .i64 c.slots, .int .i64 c.restarts]], [(1, .v (.slice A l.length c1)), (2, .p 0 0), (5, .v (.slice AN N.length cN)), (6, .v (.int .i64 0)), (7, .v (.slice B L.length cb)), (8, .v (.int .i64 ((L.take k).sum : Nat))), (60, .v (.slice B L.length cb)), (61, .v (.int .i64 L.length)), (62, .v (.int .i64 k))]⟩) (fun k => k ≤ L.length) (fun k => L.length - k) [0] 0 ⟨rfl, rfl, ⟨rfl, trivial⟩, ⟨rfl, rfl, rfl, rfl, rfl, rfl, rfl, rfl, rfl, trivial⟩⟩ (by omega) ?_
  intro k hk
  rcases Nat.lt_or_ge k L.length with hlt | hge
  · have hd := dlt hlt
    obtain ⟨b, off, rfl, hcA⟩ := hSz.get hlt
    have hst := sum_step hlt
    have hsl := sum_le hlt
    generalize L[k] = lk at *
    generalize (L.take k).sum = sk at *
    repeat' (first
      | refine VC_seq ?_
      | refine VC_region ?_
      | refine VL_nil ?_
      | refine VC_ret ?_
      | refine VC_exit ?_
      | refine VC_block ?_
      | refine VC_skip ?_
      | refine kbox ?_
      | refine kall ?_
      | refine kst ?_
      | refine ksN ?_
      | refine klt ?_
      | refine kl1 ?_
      | refine klK ?_
      | refine kap ?_
      | ((first | apply VL_q | apply VG_q | apply VS_q2); (first | exact QS_indexAddr (k) (by rfl) (by rfl) (by omega) (by omega) | exact QS_mload1 (by rfl) (hcA 0 _ (by rfl)) | exact QS_mload1 (by rfl) (hcA _ _ (by rfl)) | exact QS_mloadN _ (by rfl) hcA _ (by rfl) | exact qmv (by rfl) | exact qas (by rfl) | exact ql1 (by rfl) | exact qlA (by rfl) | exact qfa (by rfl) | exact qmf (by rfl) | exact qfd (by rfl) | exact qm1 (by rfl) | exact qbd (by rfl) | exact qno (by rfl) | exact qex (by rfl) | exact qln (by rfl) | exact qls (by rfl) | exact qlr (by rfl) | exact qpt (by rfl) | exact qpf (by rfl) | exact qcp (by rfl) | exact qbe (by rfl) | exact qbn (by rfl) | exact qsn (by rfl) | exact qad (by rfl) | exact qsa (by rfl) | exact qsu (by rfl) | exact QS_bin (by rfl) (by rfl) (by first | exact B_slnil | exact Bq_eql_Msg | exact Bq_neq_Msg | exact Bq_eql_Pair | exact Bq_neq_Pair | exact Bq_eql_Op | exact Bq_neq_Op | exact Bq_eql_Cfg | exact Bq_neq_Cfg)); rfl)
      | refine sst ?_
      | refine VS_nil ?_
      | refine eeq ?_
      | refine ees ?_ (by first | exact es1 (by rfl) | exact esN (by rfl))
      | refine VE_nil ?_
      | refine kyes ?_
      | refine kno ?_
      | refine gyes ?_
      | refine gno ?_
      | refine knoU ?_
      | refine gnoU ?_
      | refine VG_nil ⟨by rfl, ?_⟩
      | refine VG_nil ?_
      | refine dT ?_
      | refine d1 ?_
      | refine dQ ?_
      | refine ctr ?_
      | refine cfa ?_
      | refine kdec (fun hq => ?_) (fun hq => ?_)
      | refine gdec (fun hq => ?_) (fun hq => ?_)
      | refine cco (fun hq => ?_) (fun hq => ?_))
    exact forQ_next (Q := fun _ _ => True) [0] (k + 1) ⟨rfl, rfl, ⟨rfl, trivial⟩, ⟨rfl, rfl, rfl, rfl, rfl, by rw [hst]; rfl, rfl, rfl, rfl, trivial⟩⟩ (by omega) (by omega)
  have hd := dge hge
  obtain rfl : k = L.length := by omega
  rw [List.take_length]
  have g2 : decide (c.slots < (L.sum : Int)) = false := decide_eq_false (by omega)
  have g3 : ((N.length : Int) != (L.sum : Int)) = false := by rw [hNl]; simp
  have hN2 := hN.mono hle2
  have hNds2 := hNds.mono hle2
  have cS := fun W (hW : M2.le (Mem.of W)) => ref_Sound c _ N W M2 hW hN2 hNds2
  rw [hsd] at cS
  have cQ := fun W (hW : M2.le (Mem.of W)) => ref_Quiet0 _ N W M2 hW hN2 hNds2.ok hms (by omega)
  have cM := fun W (hW : M2.le (Mem.of W)) => ref_MapB _ N ss W M2 hW hN2 hNds2 hss hmapq (by rw [hpairs]; omega) (by omega)
  rw [hpairs] at cM
  repeat' (first
    | refine VC_seq ?_
    | refine VC_region ?_
    | refine VL_nil ?_
    | refine VC_ret ?_
    | refine VC_exit ?_
    | refine VC_block ?_
    | refine VC_skip ?_
    | refine kbox ?_
    | refine kall ?_
    | refine kst ?_
    | refine ksN ?_
    | refine klt ?_
    | refine kl1 ?_
    | refine klK ?_
    | refine kap ?_
    | ((first | apply VL_q | apply VG_q | apply VS_q2); (first | exact QS_call (by rfl) cS | exact QS_call (by rfl) cQ | exact qmv (by rfl) | exact qas (by rfl) | exact ql1 (by rfl) | exact qlA (by rfl) | exact qfa (by rfl) | exact qmf (by rfl) | exact qfd (by rfl) | exact qm1 (by rfl) | exact qbd (by rfl) | exact qno (by rfl) | exact qex (by rfl) | exact qln (by rfl) | exact qls (by rfl) | exact qlr (by rfl) | exact qpt (by rfl) | exact qpf (by rfl) | exact qcp (by rfl) | exact qbe (by rfl) | exact qbn (by rfl) | exact qsn (by rfl) | exact qad (by rfl) | exact qsa (by rfl) | exact qsu (by rfl) | exact QS_bin (by rfl) (by rfl) (by first | exact B_slnil | exact Bq_eql_Msg | exact Bq_neq_Msg | exact Bq_eql_Pair | exact Bq_neq_Pair | exact Bq_eql_Op | exact Bq_neq_Op | exact Bq_eql_Cfg | exact Bq_neq_Cfg)); rfl)
    | refine sst ?_
    | refine VS_nil ?_
    | refine eeq ?_
    | refine ees ?_ (by first | exact es1 (by rfl) | exact esN (by rfl))
    | refine VE_nil ?_
    | refine kyes ?_
    | refine kno ?_
    | refine gyes ?_
    | refine gno ?_
    | refine knoU ?_
    | refine gnoU ?_
    | refine VG_nil ⟨by rfl, ?_⟩
    | refine VG_nil ?_
    | refine dT ?_
    | refine d1 ?_
    | refine dQ ?_
    | refine ctr ?_
    | refine cfa ?_
    | refine kdec (fun hq => ?_) (fun hq => ?_)
    | refine gdec (fun hq => ?_) (fun hq => ?_)
    | refine cco (fun hq => ?_) (fun hq => ?_))
  refine VL_callM (by rfl) cM (by rfl) (fun um M3 hle3 hum => ?_)
  have hM3 := (hM1.mono hle2).mono hle3
  have hl1 : decide (l = l) = true := decide_eq_true rfl
  have cE := fun W (hW : M3.le (Mem.of W)) => ref_SameP um (.slice A l.length c1) l l W (hum.toSl hW) (hM3.toSl hW)
  rw [hl1] at cE
  have hN3 := hN2.mono hle3
  have hNds3 := hNds2.mono hle3
  have cT := fun W (hW : M3.le (Mem.of W)) => ref_Seats _ N W M3 hW hN3 hNds3
  repeat' (first
    | refine VC_seq ?_
    | refine VC_region ?_
    | refine VL_nil ?_
    | refine VC_ret ?_
    | refine VC_exit ?_
    | refine VC_block ?_
    | refine VC_skip ?_
    | refine kbox ?_
    | refine kall ?_
    | refine kst ?_
    | refine ksN ?_
    | refine klt ?_
    | refine kl1 ?_
    | refine klK ?_
    | refine kap ?_
    | ((first | apply VL_q | apply VG_q | apply VS_q2); (first | exact QS_call (by rfl) cE | exact qmv (by rfl) | exact qas (by rfl) | exact ql1 (by rfl) | exact qlA (by rfl) | exact qfa (by rfl) | exact qmf (by rfl) | exact qfd (by rfl) | exact qm1 (by rfl) | exact qbd (by rfl) | exact qno (by rfl) | exact qex (by rfl) | exact qln (by rfl) | exact qls (by rfl) | exact qlr (by rfl) | exact qpt (by rfl) | exact qpf (by rfl) | exact qcp (by rfl) | exact qbe (by rfl) | exact qbn (by rfl) | exact qsn (by rfl) | exact qad (by rfl) | exact qsa (by rfl) | exact qsu (by rfl) | exact QS_bin (by rfl) (by rfl) (by first | exact B_slnil | exact Bq_eql_Msg | exact Bq_neq_Msg | exact Bq_eql_Pair | exact Bq_neq_Pair | exact Bq_eql_Op | exact Bq_neq_Op | exact Bq_eql_Cfg | exact Bq_neq_Cfg)); rfl)
    | refine sst ?_
    | refine VS_nil ?_
    | refine eeq ?_
    | refine ees ?_ (by first | exact es1 (by rfl) | exact esN (by rfl))
    | refine VE_nil ?_
    | refine kyes ?_
    | refine kno ?_
    | refine gyes ?_
    | refine gno ?_
    | refine knoU ?_
    | refine gnoU ?_
    | refine VG_nil ⟨by rfl, ?_⟩
    | refine VG_nil ?_
    | refine dT ?_
    | refine d1 ?_
    | refine dQ ?_
    | refine ctr ?_
    | refine cfa ?_
    | refine kdec (fun hq => ?_) (fun hq => ?_)
    | refine gdec (fun hq => ?_) (fun hq => ?_)
    | refine cco (fun hq => ?_) (fun hq => ?_))
  refine VL_callM (by rfl) cT (by rfl) (fun ut M4 hle4 hut => ?_)
  obtain ⟨xv, bb, rfl, hb1, hb2⟩ := hut
  cases bb with
  | false => rw [hss] at hb2; exact absurd (hb2 rfl) (by simp)
  | true =>
  obtain ⟨X, hX, hXs, hXok⟩ := hb1 rfl
  rw [hss] at hXs
  have hXe := Option.some.inj hXs
  have hXl : X.length = L.sum := by rw [← hssl, hXe, List.length_map]
  have hseatX : ∀ s (h : s < X.length), ∃ i k, i < L.length ∧ k < L.getD i 0 ∧ s = fromF L i + k ∧ stripQ X[s].1 = seatF l L i k := fun s h => by
    have h1 : s < ss.length := by rw [hssl, ← hXl]; exact h
    obtain ⟨i, k, a1, a2, a3, a4⟩ := hseat s h1
    refine ⟨i, k, a1, a2, a3, ?_⟩
    rw [← a4]
    simp only [hXe, List.getElem_map]
  clear hb1 hb2 hXs hss hssq hseat hmapq cB cF cP cE cT cM cQ cS cR
  obtain ⟨AX, cX, rfl, _⟩ := id hX
  repeat' (first
    | refine VC_seq ?_
    | refine VC_region ?_
    | refine VL_nil ?_
    | refine VC_ret ?_
    | refine VC_exit ?_
    | refine VC_block ?_
    | refine VC_skip ?_
    | refine kbox ?_
    | refine kall ?_
    | refine kst ?_
    | refine ksN ?_
    | refine klt ?_
    | refine kl1 ?_
    | refine klK ?_
    | refine kap ?_
    | ((first | apply VL_q | apply VG_q | apply VS_q2); (first  | exact qmv (by rfl) | exact qas (by rfl) | exact ql1 (by rfl) | exact qlA (by rfl) | exact qfa (by rfl) | exact qmf (by rfl) | exact qfd (by rfl) | exact qm1 (by rfl) | exact qbd (by rfl) | exact qno (by rfl) | exact qex (by rfl) | exact qln (by rfl) | exact qls (by rfl) | exact qlr (by rfl) | exact qpt (by rfl) | exact qpf (by rfl) | exact qcp (by rfl) | exact qbe (by rfl) | exact qbn (by rfl) | exact qsn (by rfl) | exact qad (by rfl) | exact qsa (by rfl) | exact qsu (by rfl) | exact QS_bin (by rfl) (by rfl) (by first | exact B_slnil | exact Bq_eql_Msg | exact Bq_neq_Msg | exact Bq_eql_Pair | exact Bq_neq_Pair | exact Bq_eql_Op | exact Bq_neq_Op | exact Bq_eql_Cfg | exact Bq_neq_Cfg)); rfl)
    | refine sst ?_
    | refine VS_nil ?_
    | refine eeq ?_
    | refine ees ?_ (by first | exact es1 (by rfl) | exact esN (by rfl))
    | refine VE_nil ?_
    | refine kyes ?_
    | refine kno ?_
    | refine gyes ?_
    | refine gno ?_
    | refine knoU ?_
    | refine gnoU ?_
    | refine VG_nil ⟨by rfl, ?_⟩
    | refine VG_nil ?_
    | refine dT ?_
    | refine d1 ?_
    | refine dQ ?_
    | refine ctr ?_
    | refine cfa ?_
    | refine kdec (fun hq => ?_) (fun hq => ?_)
    | refine gdec (fun hq => ?_) (fun hq => ?_)
    | refine cco (fun hq => ?_) (fun hq => ?_))
  refine VL_e _ _ (EF_make L.length (List.replicate L.length (.slice none 0 0)) (by rfl) (by rfl) rfl rfl (madeCells_one _ _ rfl) (by unfold maxLen; omega) (by omega)) (by rfl) (by rfl) ?_
  repeat' (first
    | refine VC_seq ?_
    | refine VC_region ?_
    | refine VL_nil ?_
    | refine VC_ret ?_
    | refine VC_exit ?_
    | refine VC_block ?_
    | refine VC_skip ?_
    | refine kbox ?_
    | refine kall ?_
    | refine kst ?_
    | refine ksN ?_
    | refine klt ?_
    | refine kl1 ?_
    | refine klK ?_
    | refine kap ?_
    | ((first | apply VL_q | apply VG_q | apply VS_q2); (first  | exact qmv (by rfl) | exact qas (by rfl) | exact ql1 (by rfl) | exact qlA (by rfl) | exact qfa (by rfl) | exact qmf (by rfl) | exact qfd (by rfl) | exact qm1 (by rfl) | exact qbd (by rfl) | exact qno (by rfl) | exact qex (by rfl) | exact qln (by rfl) | exact qls (by rfl) | exact qlr (by rfl) | exact qpt (by rfl) | exact qpf (by rfl) | exact qcp (by rfl) | exact qbe (by rfl) | exact qbn (by rfl) | exact qsn (by rfl) | exact qad (by rfl) | exact qsa (by rfl) | exact qsu (by rfl) | exact QS_bin (by rfl) (by rfl) (by first | exact B_slnil | exact Bq_eql_Msg | exact Bq_neq_Msg | exact Bq_eql_Pair | exact Bq_neq_Pair | exact Bq_eql_Op | exact Bq_neq_Op | exact Bq_eql_Cfg | exact Bq_neq_Cfg)); rfl)
    | refine sst ?_
    | refine VS_nil ?_
    | refine eeq ?_
    | refine ees ?_ (by first | exact es1 (by rfl) | exact esN (by rfl))
    | refine VE_nil ?_
    | refine kyes ?_
    | refine kno ?_
    | refine gyes ?_
    | refine gno ?_
    | refine knoU ?_
    | refine gnoU ?_
    | refine VG_nil ⟨by rfl, ?_⟩
    | refine VG_nil ?_
    | refine dT ?_
    | refine d1 ?_
    | refine dQ ?_
    | refine ctr ?_
    | refine cfa ?_
    | refine kdec (fun hq => ?_) (fun hq => ?_)
    | refine gdec (fun hq => ?_) (fun hq => ?_)
    | refine cco (fun hq => ?_) (fun hq => ?_))
  refine VC_nil0 3 1 (by rfl) ?_
  have hN4 := hN3.mono hle4
  have hSz4 := (hSz.mono hle3).mono hle4
  have hM4 := hM3.mono hle4
  refine VC_for (fun x : Nat × List Value × Value × List Int × Mem => ⟨x.2.2.2.2, [.blk 74 [.int .i64 c.fanout, .int .i64 c.leaf, .int .i64 c.budget, .int .i64 c.slots, .int .i64 c.restarts], .row 31 1 x.2.1.length x.2.1, .nrow x.2.2.1 3 1 x.2.2.2.1.length (x.2.2.2.1.flatMap intK)], [(1, .v (.slice A l.length c1)), (2, .p 0 0), (5, .v (.slice AN N.length cN)), (7, .v (.slice B L.length cb)), (11, .v (.slice AX X.length cX)), (13, .r 1), (14, .v (.string (lastK l L x.1))), (118, .v (.slice AX X.length cX)), (119, .v (.int .i64 X.length)), (120, .v (.int .i64 x.1))]⟩)
    (fun x => x.1 ≤ X.length ∧ M4.le x.2.2.2.2 ∧ PInv l L x.1 x.2.1 x.2.2.1 x.2.2.2.1 x.2.2.2.2 ∧ x.2.2.2.1.length ≤ 2000000) (fun x => X.length - x.1) [0, 1, 2] (0, List.replicate L.length (.slice none 0 0), .slice none 0 0, [], M4) ⟨rfl, rfl, ⟨rfl, (by show some (Ob.row _ 1 L.length (List.replicate L.length (Value.slice none 0 0))) = some (Ob.row _ 1 (List.replicate L.length (Value.slice none 0 0)).length (List.replicate L.length (Value.slice none 0 0))); rw [List.length_replicate]), rfl, trivial⟩, ⟨rfl, rfl, rfl, rfl, rfl, rfl, (by show _ = some (SV.v (.string (lastK l L 0))); unfold lastK; rw [if_neg (by omega)]; rfl), rfl, rfl, rfl, trivial⟩⟩ ⟨Nat.zero_le _, Mem.le_refl _, PInv.zero _, Nat.zero_le _⟩ ?_
  rintro ⟨s, pv, u0, cs0, Mx⟩ ⟨hsX, hMx, hP, hcs0⟩
  dsimp only at hsX hMx hP hcs0 ⊢
  rcases Nat.lt_or_ge s X.length with hlt | hge2
  · have hds := dlt hlt
    obtain ⟨i, k, hi, hkL, hse, hst⟩ := hseatX s hlt
    refine VC_suff (fun s' => ∃ (u : Value) (cs : List Int) (M' : Mem), M4.le M' ∧ PRdy l L i k pv u cs M' ∧ cs.length ≤ 1000000 ∧ s' = ⟨M', [.blk 74 [.int .i64 c.fanout, .int .i64 c.leaf, .int .i64 c.budget, .int .i64 c.slots, .int .i64 c.restarts], .row 31 1 pv.length pv, .nrow u 3 1 cs.length (cs.flatMap intK)], [(1, .v (.slice A l.length c1)), (2, .p 0 0), (5, .v (.slice AN N.length cN)), (7, .v (.slice B L.length cb)), (11, .v (.slice AX X.length cX)), (13, .r 1), (14, .v (.string (lastK l L s))), (118, .v (.slice AX X.length cX)), (119, .v (.int .i64 X.length)), (120, .v (.int .i64 s))]⟩) ?_ (fun hgo => ?_)
    rotate_left
    · have hcsl : ∀ cs : List Int, cs = (evenJ l L i).take k → cs.length ≤ 1000000 := fun cs e => by
        rw [e, List.length_take, evenJ_len]
        have := from_sum hi
        omega
      rcases Nat.eq_zero_or_pos k with hk0 | hk0
      · subst hk0
        subst hse
        refine VC_frzN 2 (by rfl) (fun M' hle' hrow => ?_)
        have hu : SlM M' 1 intK u0 cs0 := hrow.slM (fun _ _ => rfl)
        have hR := PInv.fresh hS hi hP hle' hu
        refine VC_nil0 3 1 (by rfl) ?_
        refine VC_sub [0, 1, 3] ⟨M', [.blk 74 [.int .i64 c.fanout, .int .i64 c.leaf, .int .i64 c.budget, .int .i64 c.slots, .int .i64 c.restarts], .row 31 1 pv.length pv, .nrow (.slice none 0 0) 3 1 0 []], [(1, .v (.slice A l.length c1)), (2, .p 0 0), (5, .v (.slice AN N.length cN)), (7, .v (.slice B L.length cb)), (11, .v (.slice AX X.length cX)), (13, .r 1), (14, .v (.string (lastK l L (fromF L i + 0)))), (118, .v (.slice AX X.length cX)), (119, .v (.int .i64 X.length)), (120, .v (.int .i64 ((fromF L i + 0 : Nat) : Int)))]⟩ ⟨rfl, rfl, ⟨rfl, rfl, rfl, trivial⟩, ⟨rfl, rfl, rfl, rfl, rfl, rfl, rfl, rfl, rfl, rfl, trivial⟩⟩ ?_
        exact hgo _ ⟨.slice none 0 0, [], M', hMx.trans hle', hR, Nat.zero_le _, rfl⟩
      · subst hse
        have hR := PInv.more hS hi hkL hk0 hP
        exact hgo _ ⟨u0, cs0, Mx, hMx, hR, hcsl _ hR.cse, rfl⟩
    clear hP hcs0
    rintro _ ⟨u, cs, M', hMx', hR, hcsl, rfl⟩
    have hnext := fun (gP kP : Nat) => PRdy.next hS hi hkL hR (A := some ⟨gP, 0, none⟩) (c := kP) (n := cs.length + 1) rfl (x := ((parF l L i k : Nat) : Int)) rfl
    rw [← hse] at hnext
    have hcsn : (cs ++ [((parF l L i k : Nat) : Int)]).length ≤ 2000000 := by rw [List.length_append]; show cs.length + 1 ≤ _; omega
    have hip : i < pv.length := by rw [hR.len]; exact hi
    have hoff : i * 1 < pv.length := by omega
    have hpv : pv[i * 1]? = some u := by rw [Nat.mul_one]; exact hR.at_
    obtain ⟨Au, cu, hue⟩ := hR.sh
    have hsN : s < N.length := by omega
    obtain ⟨bX, offX, hAX, hcA⟩ := (hX.mono hMx').get hlt
    subst hAX
    obtain ⟨bN, offN, hAN, hcN0⟩ := (hN4.mono hMx').get hsN
    subst hAN
    have hcN : M'.cell bN (offN + s * 10 + 0) = some (.int .i64 (s : Int)) := hcN0 0 _ (by show some (Value.int .i64 (N[s]).slot) = _; rw [hslot s hsN])
    have hxo := (hXok _ (List.getElem_mem hlt)).mono (hMx')
    have e1 : X[s].1.n.slot = (s : Int) := (congrArg (fun q : Sq => q.n.slot) hst).trans (by show ((fromF L i + k : Nat) : Int) = (s : Int); rw [hse])
    have e2 : X[s].1.n.level = (i : Int) := congrArg (fun q : Sq => q.n.level) hst
    have e3 : X[s].1.n.seen = 0 := congrArg (fun q : Sq => q.n.seen) hst
    have e4 : X[s].1.n.ks = ksF l L i k := congrArg (fun q : Sq => q.n.ks) hst
    have e5 : X[s].1.n.rs = rsF l L i k := congrArg (fun q : Sq => q.n.rs) hst
    have e6 : X[s].1.s.lo = loF l L i k := congrArg (fun q : Sq => q.s.lo) hst
    have hro := hxo.ok
    have hmso := hxo.ms
    clear hst hN4 hcN0
    generalize X[s] = x at *
    obtain ⟨⟨⟨slot, level, pvx, ps, kv, ks, high, top, right, seen, mv, ms, rv, rs⟩, ⟨lo, hi2, opn⟩, qs⟩, qv⟩ := x
    dsimp only at e1 e2 e3 e4 e5 e6
    subst e1 e2 e3 e4 e5 e6
    obtain ⟨⟨A1, k1, h1, _⟩, ⟨A2, k2, h2, _⟩, ⟨A3, k3, h3, _⟩, hrv⟩ := id hro
    obtain ⟨A4, k4, h4, _⟩ := id hrv
    obtain ⟨A5, k5, h5, _⟩ := id hmso
    dsimp only at h1 h2 h3 h4 h5 hrv
    subst h1 h2 h3 h4 h5
    have q1 : (((s : Nat) : Int) != ((s : Nat) : Int)) = false := by simp
    have q2 : decide ((L.length : Int) ≤ ((i : Nat) : Int)) = false := decide_eq_false (by omega)
    have hpb := par_le hS hi hkL
    have hpb2 := cnt_bound (l := l) hi (by omega) hsum
    have hkr : (((ksF l L i k).length : Nat) : Int) + (((rsF l L i k).length : Nat) : Int) = ((parF l L i k : Nat) : Int) := by
      cases i with
      | zero =>
        have e1 : (ksF l L 0 k).length = 0 := by unfold ksF; rw [if_pos rfl]; rfl
        rw [rs_len hS hkL, e1]; omega
      | succ i =>
        have e1 : (rsF l L (i + 1) k).length = 0 := by unfold rsF; rw [if_neg (by omega)]; rfl
        rw [ks_len, e1]; omega
    have hksn : (ksF l L i k).length ≤ 1000000 := by omega
    have hrsn : (rsF l L i k).length ≤ 1000000 := by omega
    have hhalf : 0 < s → 0 < i → decide ((((ksF l L i k).length : Nat) : Int) < c.fanout / 2) = false := fun h0 hi0 => by
      cases i with
      | zero => omega
      | succ i =>
        refine decide_eq_false ?_
        rw [ks_len]
        have h1 : 1 < L.getD (i + 1) 0 := by
          rcases Nat.lt_or_ge (i + 1 + 1) L.length with h | h
          · have := (lvl_next_few' hL hc hi h); omega
          · have e : i + 1 = L.length - 1 := by omega
            have h7 := hS.top
            rw [← e] at h7
            have h8 := from_top (L := L) hS.h
            rw [← e] at h8
            omega
        have := hH i k hi hkL h1
        omega
    have hap1 : 0 < 1 := by decide
    have hap2 : cs.length + 1 ≤ maxLen := by unfold maxLen; omega
    have hap3 : (cs.length + 1) * 8 ≤ 140737488355328 := by omega
    have hf0 : 0 ≤ c.fanout := by omega
    have hf1 : (0 : Int) < 2 := by decide
    have hf2 : c.fanout ≤ 9223372036854775807 := by omega
    have hrsE : Unit → rsF l L i k = rsF l L i k := fun _ => rfl
    have hloE : Unit → loF l L i k = loF l L i k := fun _ => rfl
    clear hX hXok hseatX hslot hpairs hms hsd hNb hNds3 hNds2 hNds
    generalize hks' : ksF l L i k = ks at *
    generalize hrs' : rsF l L i k = rs at hksn hrsn hhalf hkr hro hcA hrv ⊢
    clear hks'
    have hrs : Unit → rsF l L i k = rs := fun _ => hrs'
    clear hrs' hrsE
    generalize hlo' : loF l L i k = lo at hcA ⊢
    have hlo : Unit → loF l L i k = lo := fun _ => hlo'
    clear hlo' hloE
    repeat' (first
      | refine VC_stopAt 24 (fun s' => ∃ ρ, Sub ρ s' ⟨M', [.blk 74 [.int .i64 c.fanout, .int .i64 c.leaf, .int .i64 c.budget, .int .i64 c.slots, .int .i64 c.restarts], .row 31 1 pv.length pv, .nrow u 3 1 cs.length (cs.flatMap intK), .blk 98 [.int .i64 (s : Int), .int .i64 ((i : Nat) : Int), .slice A1 ps.length k1, .slice A2 ks.length k2, .string high, .bool top, .int .i64 right, .int .i64 0, .slice A3 ms.length k3, .slice A4 rs.length k4, .string lo, .string hi2, .bool opn, .slice A5 qs.length k5], .blk 94 [.int .i64 (s : Int), .int .i64 ((i : Nat) : Int), .slice A1 ps.length k1, .slice A2 ks.length k2, .string high, .bool top, .int .i64 right, .int .i64 0, .slice A3 ms.length k3, .slice A4 rs.length k4]], [(1, .v (.slice A l.length c1)), (2, .p 0 0), (5, .v (.slice (some ⟨bN, offN, none⟩) N.length cN)), (7, .v (.slice B L.length cb)), (11, .v (.slice (some ⟨bX, offX, none⟩) X.length cX)), (13, .r 1), (14, .v (.string (lastK l L s))), (16, .p 3 0), (17, .p 4 0), (118, .v (.slice (some ⟨bX, offX, none⟩) X.length cX)), (119, .v (.int .i64 X.length)), (120, .v (.int .i64 s))]⟩) ?_ ?_
      | refine VC_seq ?_
      | refine VC_region ?_
      | refine VL_nil ?_
      | refine VC_ret ?_
      | refine VC_exit ?_
      | refine VC_block ?_
      | refine VC_skip ?_
      | refine kbox ?_
      | refine kall ?_
      | refine kst ?_
      | refine ksN ?_
      | refine klt ?_
      | refine kl1 ?_
      | refine klK ?_
      | refine kap ?_
      | ((first | apply VL_q | apply VG_q | apply VS_q2); (first | exact QS_indexAddr s (by rfl) (by rfl) rfl hlt | exact QS_indexAddr s (by rfl) (by rfl) rfl hsN | exact QS_mload1 (by rfl) hcN | exact QS_mload1 (by rfl) (hcA 0 _ (by rfl)) | exact QS_mload1 (by rfl) (hcA _ _ (by rfl)) | exact QS_mloadN _ (by rfl) hcA _ (by rfl) | exact qlN (by rfl) | exact QS_bin (by rfl) (by rfl) (B_quo hf0 hf1 hf2) | exact qmv (by rfl) | exact qas (by rfl) | exact ql1 (by rfl) | exact qlA (by rfl) | exact qfa (by rfl) | exact qmf (by rfl) | exact qfd (by rfl) | exact qm1 (by rfl) | exact qbd (by rfl) | exact qno (by rfl) | exact qex (by rfl) | exact qln (by rfl) | exact qls (by rfl) | exact qlr (by rfl) | exact qpt (by rfl) | exact qpf (by rfl) | exact qcp (by rfl) | exact qbe (by rfl) | exact qbn (by rfl) | exact qsn (by rfl) | exact qad (by rfl) | exact qsa (by rfl) | exact qsu (by rfl) | exact QS_bin (by rfl) (by rfl) (by first | exact B_slnil | exact Bq_eql_Msg | exact Bq_neq_Msg | exact Bq_eql_Pair | exact Bq_neq_Pair | exact Bq_eql_Op | exact Bq_neq_Op | exact Bq_eql_Cfg | exact Bq_neq_Cfg)); rfl)
      | refine sst ?_
      | refine VS_nil ?_
      | refine eeq ?_
      | refine ees ?_ (by first | exact es1 (by rfl) | exact esN (by rfl))
      | refine VE_nil ?_
      | refine kyes ?_
      | refine kno ?_
      | refine gyes ?_
      | refine gno ?_
      | refine knoU ?_
      | refine gnoU ?_
      | refine VG_nil ⟨by rfl, ?_⟩
      | refine VG_nil ?_
      | refine ctr ?_
      | refine cfa ?_
      | refine kdec (fun hq => ?_) (fun hq => ?_)
      | refine gdec (fun hq => ?_) (fun hq => ?_)
      | refine cco (fun hq => ?_) (fun hq => ?_))
    · intro _
      rcases Nat.eq_zero_or_pos s with hs0 | hs0
      · have q5 : decide ((0 : Int) < ((s : Nat) : Int)) = false := decide_eq_false (by omega)
        repeat' (first
          
          | refine VC_seq ?_
          | refine VC_region ?_
          | refine VL_nil ?_
          | refine VC_ret ?_
          | refine VC_exit ?_
          | refine VC_block ?_
          | refine VC_skip ?_
          | refine kbox ?_
          | refine kall ?_
          | refine kst ?_
          | refine ksN ?_
          | refine klt ?_
          | refine kl1 ?_
          | refine klK ?_
          | refine kap ?_
          | ((first | apply VL_q | apply VG_q | apply VS_q2); (first | exact QS_indexAddr s (by rfl) (by rfl) rfl hlt | exact QS_indexAddr s (by rfl) (by rfl) rfl hsN | exact QS_mload1 (by rfl) hcN | exact QS_mload1 (by rfl) (hcA 0 _ (by rfl)) | exact QS_mload1 (by rfl) (hcA _ _ (by rfl)) | exact QS_mloadN _ (by rfl) hcA _ (by rfl) | exact qlN (by rfl) | exact QS_bin (by rfl) (by rfl) (B_quo hf0 hf1 hf2) | exact qmv (by rfl) | exact qas (by rfl) | exact ql1 (by rfl) | exact qlA (by rfl) | exact qfa (by rfl) | exact qmf (by rfl) | exact qfd (by rfl) | exact qm1 (by rfl) | exact qbd (by rfl) | exact qno (by rfl) | exact qex (by rfl) | exact qln (by rfl) | exact qls (by rfl) | exact qlr (by rfl) | exact qpt (by rfl) | exact qpf (by rfl) | exact qcp (by rfl) | exact qbe (by rfl) | exact qbn (by rfl) | exact qsn (by rfl) | exact qad (by rfl) | exact qsa (by rfl) | exact qsu (by rfl) | exact QS_bin (by rfl) (by rfl) (by first | exact B_slnil | exact Bq_eql_Msg | exact Bq_neq_Msg | exact Bq_eql_Pair | exact Bq_neq_Pair | exact Bq_eql_Op | exact Bq_neq_Op | exact Bq_eql_Cfg | exact Bq_neq_Cfg)); rfl)
          | refine sst ?_
          | refine VS_nil ?_
          | refine eeq ?_
          | refine ees ?_ (by first | exact es1 (by rfl) | exact esN (by rfl))
          | refine VE_nil ?_
          | refine kyes ?_
          | refine kno ?_
          | refine gyes ?_
          | refine gno ?_
          | refine knoU ?_
          | refine gnoU ?_
          | refine VG_nil ⟨by rfl, ?_⟩
          | refine VG_nil ?_
          | refine ctr ?_
          | refine cfa ?_
          | refine kdec (fun hq => ?_) (fun hq => ?_)
          | refine gdec (fun hq => ?_) (fun hq => ?_)
          | refine cco (fun hq => ?_) (fun hq => ?_))
        exact ⟨rfl, [0, 1, 2, 3, 4], ⟨rfl, rfl, ⟨rfl, rfl, rfl, rfl, rfl, trivial⟩, ⟨rfl, rfl, rfl, rfl, rfl, rfl, rfl, rfl, rfl, rfl, rfl, rfl, trivial⟩⟩⟩
      · have q5 : decide ((0 : Int) < ((s : Nat) : Int)) = true := decide_eq_true (by omega)
        rcases Nat.eq_zero_or_pos i with hi0 | hi0
        · have q3 : decide ((0 : Int) < ((i : Nat) : Int)) = false := decide_eq_false (by omega)
          repeat' (first
            
            | refine VC_seq ?_
            | refine VC_region ?_
            | refine VL_nil ?_
            | refine VC_ret ?_
            | refine VC_exit ?_
            | refine VC_block ?_
            | refine VC_skip ?_
            | refine kbox ?_
            | refine kall ?_
            | refine kst ?_
            | refine ksN ?_
            | refine klt ?_
            | refine kl1 ?_
            | refine klK ?_
            | refine kap ?_
            | ((first | apply VL_q | apply VG_q | apply VS_q2); (first | exact QS_indexAddr s (by rfl) (by rfl) rfl hlt | exact QS_indexAddr s (by rfl) (by rfl) rfl hsN | exact QS_mload1 (by rfl) hcN | exact QS_mload1 (by rfl) (hcA 0 _ (by rfl)) | exact QS_mload1 (by rfl) (hcA _ _ (by rfl)) | exact QS_mloadN _ (by rfl) hcA _ (by rfl) | exact qlN (by rfl) | exact QS_bin (by rfl) (by rfl) (B_quo hf0 hf1 hf2) | exact qmv (by rfl) | exact qas (by rfl) | exact ql1 (by rfl) | exact qlA (by rfl) | exact qfa (by rfl) | exact qmf (by rfl) | exact qfd (by rfl) | exact qm1 (by rfl) | exact qbd (by rfl) | exact qno (by rfl) | exact qex (by rfl) | exact qln (by rfl) | exact qls (by rfl) | exact qlr (by rfl) | exact qpt (by rfl) | exact qpf (by rfl) | exact qcp (by rfl) | exact qbe (by rfl) | exact qbn (by rfl) | exact qsn (by rfl) | exact qad (by rfl) | exact qsa (by rfl) | exact qsu (by rfl) | exact QS_bin (by rfl) (by rfl) (by first | exact B_slnil | exact Bq_eql_Msg | exact Bq_neq_Msg | exact Bq_eql_Pair | exact Bq_neq_Pair | exact Bq_eql_Op | exact Bq_neq_Op | exact Bq_eql_Cfg | exact Bq_neq_Cfg)); rfl)
            | refine sst ?_
            | refine VS_nil ?_
            | refine eeq ?_
            | refine ees ?_ (by first | exact es1 (by rfl) | exact esN (by rfl))
            | refine VE_nil ?_
            | refine kyes ?_
            | refine kno ?_
            | refine gyes ?_
            | refine gno ?_
            | refine knoU ?_
            | refine gnoU ?_
            | refine VG_nil ⟨by rfl, ?_⟩
            | refine VG_nil ?_
            | refine ctr ?_
            | refine cfa ?_
            | refine kdec (fun hq => ?_) (fun hq => ?_)
            | refine gdec (fun hq => ?_) (fun hq => ?_)
            | refine cco (fun hq => ?_) (fun hq => ?_))
          exact ⟨rfl, [0, 1, 2, 3, 4], ⟨rfl, rfl, ⟨rfl, rfl, rfl, rfl, rfl, trivial⟩, ⟨rfl, rfl, rfl, rfl, rfl, rfl, rfl, rfl, rfl, rfl, rfl, rfl, trivial⟩⟩⟩
        · have q3 : decide ((0 : Int) < ((i : Nat) : Int)) = true := decide_eq_true (by omega)
          have q6 := hhalf hs0 hi0
          repeat' (first
            
            | refine VC_seq ?_
            | refine VC_region ?_
            | refine VL_nil ?_
            | refine VC_ret ?_
            | refine VC_exit ?_
            | refine VC_block ?_
            | refine VC_skip ?_
            | refine kbox ?_
            | refine kall ?_
            | refine kst ?_
            | refine ksN ?_
            | refine klt ?_
            | refine kl1 ?_
            | refine klK ?_
            | refine kap ?_
            | ((first | apply VL_q | apply VG_q | apply VS_q2); (first | exact QS_indexAddr s (by rfl) (by rfl) rfl hlt | exact QS_indexAddr s (by rfl) (by rfl) rfl hsN | exact QS_mload1 (by rfl) hcN | exact QS_mload1 (by rfl) (hcA 0 _ (by rfl)) | exact QS_mload1 (by rfl) (hcA _ _ (by rfl)) | exact QS_mloadN _ (by rfl) hcA _ (by rfl) | exact qlN (by rfl) | exact QS_bin (by rfl) (by rfl) (B_quo hf0 hf1 hf2) | exact qmv (by rfl) | exact qas (by rfl) | exact ql1 (by rfl) | exact qlA (by rfl) | exact qfa (by rfl) | exact qmf (by rfl) | exact qfd (by rfl) | exact qm1 (by rfl) | exact qbd (by rfl) | exact qno (by rfl) | exact qex (by rfl) | exact qln (by rfl) | exact qls (by rfl) | exact qlr (by rfl) | exact qpt (by rfl) | exact qpf (by rfl) | exact qcp (by rfl) | exact qbe (by rfl) | exact qbn (by rfl) | exact qsn (by rfl) | exact qad (by rfl) | exact qsa (by rfl) | exact qsu (by rfl) | exact QS_bin (by rfl) (by rfl) (by first | exact B_slnil | exact Bq_eql_Msg | exact Bq_neq_Msg | exact Bq_eql_Pair | exact Bq_neq_Pair | exact Bq_eql_Op | exact Bq_neq_Op | exact Bq_eql_Cfg | exact Bq_neq_Cfg)); rfl)
            | refine sst ?_
            | refine VS_nil ?_
            | refine eeq ?_
            | refine ees ?_ (by first | exact es1 (by rfl) | exact esN (by rfl))
            | refine VE_nil ?_
            | refine kyes ?_
            | refine kno ?_
            | refine gyes ?_
            | refine gno ?_
            | refine knoU ?_
            | refine gnoU ?_
            | refine VG_nil ⟨by rfl, ?_⟩
            | refine VG_nil ?_
            | refine ctr ?_
            | refine cfa ?_
            | refine kdec (fun hq => ?_) (fun hq => ?_)
            | refine gdec (fun hq => ?_) (fun hq => ?_)
            | refine cco (fun hq => ?_) (fun hq => ?_))
          exact ⟨rfl, [0, 1, 2, 3, 4], ⟨rfl, rfl, ⟨rfl, rfl, rfl, rfl, rfl, trivial⟩, ⟨rfl, rfl, rfl, rfl, rfl, rfl, rfl, rfl, rfl, rfl, rfl, rfl, trivial⟩⟩⟩
    rintro s' ⟨ρ, hsub⟩
    refine VC_sub ρ _ hsub ?_
    clear hsub s' ρ hhalf hcA hcN q1 q2
    refine VC_seqS (fun s' => ∃ (gP kP : Nat) (ρ : List Nat), Sub ρ s' ⟨M', [.blk 74 [.int .i64 c.fanout, .int .i64 c.leaf, .int .i64 c.budget, .int .i64 c.slots, .int .i64 c.restarts], .row 31 1 pv.length (pv.set (i * 1) (.slice (some ⟨gP, 0, none⟩) (cs.length + 1) kP)), .nrow (.slice (some ⟨gP, 0, none⟩) (cs.length + 1) kP) 3 1 (cs.length + 1) (cs.flatMap intK ++ [.int .i64 (((ks.length : Nat) : Int) + ((rs.length : Nat) : Int))]), .blk 98 [.int .i64 (s : Int), .int .i64 ((i : Nat) : Int), .slice A1 ps.length k1, .slice A2 ks.length k2, .string high, .bool top, .int .i64 right, .int .i64 0, .slice A3 ms.length k3, .slice A4 rs.length k4, .string lo, .string hi2, .bool opn, .slice A5 qs.length k5], .blk 94 [.int .i64 (s : Int), .int .i64 ((i : Nat) : Int), .slice A1 ps.length k1, .slice A2 ks.length k2, .string high, .bool top, .int .i64 right, .int .i64 0, .slice A3 ms.length k3, .slice A4 rs.length k4]], [(1, .v (.slice A l.length c1)), (2, .p 0 0), (5, .v (.slice (some ⟨bN, offN, none⟩) N.length cN)), (7, .v (.slice B L.length cb)), (11, .v (.slice (some ⟨bX, offX, none⟩) X.length cX)), (13, .r 1), (14, .v (.string (lastK l L s))), (16, .p 3 0), (17, .p 4 0), (118, .v (.slice (some ⟨bX, offX, none⟩) X.length cX)), (119, .v (.int .i64 X.length)), (120, .v (.int .i64 s))]⟩) (fun _ => ?_) ?_
    · refine VC_drawG [1, 2] [6, 7, 15, 16, 17, 18] (by decide +kernel) (by rfl) (by rfl) ?_
      repeat' (first | refine VQm_nil ?_ | refine VQm_e (by rfl) ?_ | refine VQm_q (by rfl) _ (by first | exact wno (by first | exact qmv (by rfl) | exact ql1 (by rfl) | exact qfa (by rfl) | exact qln (by rfl) | exact QS_bin (by rfl) (by rfl) (B_add (by omega) (by omega)))) (by rfl) (by rfl) ?_)
      repeat' (first
        | refine VF_done ?_
        | refine VF_step ?_
        | exact VFs_nil
        | refine VFs_x _ _ _ _ (by rfl) (EX_appendN (i := 2) (j := 5) (bytes := 8) (by rfl) (by rfl) (by rfl) (by rfl) (by decide) hap1 rfl hap2 hap3) (by rfl) ?_ ?_
        | refine VFs_e (by rfl) _ _ (fno (by first | exact fq (QS_indexRow i (by rfl) (by rfl) (by rfl) rfl hip) | exact fq (QS_loadR1 (by rfl) (by rfl) hpv) | exact elt (by rfl) | exact EF_st (ES_row1 (by rfl) (by rfl) (by rfl) hoff rfl) (by rfl) | fail)) (by rfl) (by rfl) ?_ ?_
        | (rintro ⟨gP, kP⟩; refine ⟨Mem.le_refl _, by rfl, ?_⟩))
      all_goals trace "P26"
      all_goals exact ⟨rfl, gP, kP, [0, 1, 6, 3, 4], ⟨rfl, rfl, ⟨rfl, rfl, rfl, rfl, rfl, trivial⟩, ⟨rfl, rfl, rfl, rfl, rfl, rfl, rfl, rfl, rfl, rfl, rfl, rfl, trivial⟩⟩⟩
    rintro s' ⟨gP, kP, ρ, hsub⟩
    refine VC_sub ρ _ hsub ?_
    clear hsub s' ρ
    have hse' := hse
    rcases Nat.eq_zero_or_pos i with hi0 | hi0
    rotate_left
    · have q4 : (((i : Nat) : Int) == 0) = false := beq_eq_false_iff_ne.2 (by omega)
      have hlk := lastK_up (l := l) hi0 hi hkL
      rw [← hse] at hlk
      repeat' (first
        
        | refine VC_seq ?_
        | refine VC_region ?_
        | refine VL_nil ?_
        | refine VC_ret ?_
        | refine VC_exit ?_
        | refine VC_block ?_
        | refine VC_skip ?_
        | refine kbox ?_
        | refine kall ?_
        | refine kst ?_
        | refine ksN ?_
        | refine klt ?_
        | refine kl1 ?_
        | refine klK ?_
        | refine kap ?_
        | ((first | apply VL_q | apply VG_q | apply VS_q2); (first  | exact qmv (by rfl) | exact qas (by rfl) | exact ql1 (by rfl) | exact qlA (by rfl) | exact qfa (by rfl) | exact qmf (by rfl) | exact qfd (by rfl) | exact qm1 (by rfl) | exact qbd (by rfl) | exact qno (by rfl) | exact qex (by rfl) | exact qln (by rfl) | exact qls (by rfl) | exact qlr (by rfl) | exact qpt (by rfl) | exact qpf (by rfl) | exact qcp (by rfl) | exact qbe (by rfl) | exact qbn (by rfl) | exact qsn (by rfl) | exact qad (by rfl) | exact qsa (by rfl) | exact qsu (by rfl) | exact QS_bin (by rfl) (by rfl) (by first | exact B_slnil | exact Bq_eql_Msg | exact Bq_neq_Msg | exact Bq_eql_Pair | exact Bq_neq_Pair | exact Bq_eql_Op | exact Bq_neq_Op | exact Bq_eql_Cfg | exact Bq_neq_Cfg)); rfl)
        | refine sst ?_
        | refine VS_nil ?_
        | refine eeq ?_
        | refine ees ?_ (by first | exact es1 (by rfl) | exact esN (by rfl))
        | refine VE_nil ?_
        | refine kyes ?_
        | refine kno ?_
        | refine gyes ?_
        | refine gno ?_
        | refine knoU ?_
        | refine gnoU ?_
        | refine VG_nil ⟨by rfl, ?_⟩
        | refine VG_nil ?_
        | refine ctr ?_
        | refine cfa ?_
        | refine kdec (fun hq => ?_) (fun hq => ?_)
        | refine gdec (fun hq => ?_) (fun hq => ?_)
        | refine cco (fun hq => ?_) (fun hq => ?_))
      refine forQ_next (Q := fun _ _ => True) [0, 1, 2] (s + 1, pv.set i (.slice (some ⟨gP, 0, none⟩) (cs.length + 1) kP), .slice (some ⟨gP, 0, none⟩) (cs.length + 1) kP, cs ++ [((parF l L i k : Nat) : Int)], M') ⟨rfl, rfl, ⟨rfl, ?_, ?_, trivial⟩, ⟨rfl, rfl, rfl, rfl, rfl, rfl, ?_, rfl, rfl, rfl, trivial⟩⟩ ⟨hlt, hMx', hnext gP kP, hcsn⟩ (by show X.length - (s + 1) < X.length - s; omega)
      · show some (Ob.row _ 1 pv.length (pv.set (i * 1) _)) = some (Ob.row _ 1 (pv.set i _).length (pv.set i _))
        rw [Nat.mul_one, List.length_set]
      · show some (Ob.nrow _ _ 1 (cs.length + 1) (cs.flatMap intK ++ [Value.int .i64 _])) = some (Ob.nrow _ _ 1 (cs ++ [_]).length ((cs ++ [_]).flatMap intK))
        rw [List.length_append, List.flatMap_append, hkr]; rfl
      · exact congrArg (fun z => some (SV.v (Value.string z))) hlk.symm
    have q4 : (((i : Nat) : Int) == 0) = true := by rw [hi0]; rfl
    have hrl : rs.length = parF l L i k := by
      have h1 := hrs ()
      subst hi0
      rw [← h1]; exact rs_len hS hkL
    have hlk1 : lastK l L (s + 1) = pkAt l (offF l L i k + parF l L i k - 1) := by
      subst hi0
      rw [hse, Nat.add_assoc, lastK_at (by omega), off_step]
    rcases Nat.eq_zero_or_pos rs.length with hz0 | hz0
    · have q7 : decide ((0 : Int) < (rs.length : Int)) = false := decide_eq_false (by omega)
      have hlk : lastK l L (s + 1) = lastK l L s := by
        have hl0 : l.length = 0 := by
          rcases Nat.eq_zero_or_pos l.length with h | h
          · exact h
          · have := par_pos hS hi (.inr h) k; omega
        have hl1 : l = [] := List.length_eq_zero_iff.1 hl0
        have hp : ∀ n, pkAt l n = em := fun n => by rw [hl1]; rfl
        unfold lastK
        simp only [hp, ite_self]
      repeat' (first
        
        | refine VC_seq ?_
        | refine VC_region ?_
        | refine VL_nil ?_
        | refine VC_ret ?_
        | refine VC_exit ?_
        | refine VC_block ?_
        | refine VC_skip ?_
        | refine kbox ?_
        | refine kall ?_
        | refine kst ?_
        | refine ksN ?_
        | refine klt ?_
        | refine kl1 ?_
        | refine klK ?_
        | refine kap ?_
        | ((first | apply VL_q | apply VG_q | apply VS_q2); (first  | exact qmv (by rfl) | exact qas (by rfl) | exact ql1 (by rfl) | exact qlA (by rfl) | exact qfa (by rfl) | exact qmf (by rfl) | exact qfd (by rfl) | exact qm1 (by rfl) | exact qbd (by rfl) | exact qno (by rfl) | exact qex (by rfl) | exact qln (by rfl) | exact qls (by rfl) | exact qlr (by rfl) | exact qpt (by rfl) | exact qpf (by rfl) | exact qcp (by rfl) | exact qbe (by rfl) | exact qbn (by rfl) | exact qsn (by rfl) | exact qad (by rfl) | exact qsa (by rfl) | exact qsu (by rfl) | exact QS_bin (by rfl) (by rfl) (by first | exact B_slnil | exact Bq_eql_Msg | exact Bq_neq_Msg | exact Bq_eql_Pair | exact Bq_neq_Pair | exact Bq_eql_Op | exact Bq_neq_Op | exact Bq_eql_Cfg | exact Bq_neq_Cfg)); rfl)
        | refine sst ?_
        | refine VS_nil ?_
        | refine eeq ?_
        | refine ees ?_ (by first | exact es1 (by rfl) | exact esN (by rfl))
        | refine VE_nil ?_
        | refine kyes ?_
        | refine kno ?_
        | refine gyes ?_
        | refine gno ?_
        | refine knoU ?_
        | refine gnoU ?_
        | refine VG_nil ⟨by rfl, ?_⟩
        | refine VG_nil ?_
        | refine ctr ?_
        | refine cfa ?_
        | refine kdec (fun hq => ?_) (fun hq => ?_)
        | refine gdec (fun hq => ?_) (fun hq => ?_)
        | refine cco (fun hq => ?_) (fun hq => ?_))
      refine forQ_next (Q := fun _ _ => True) [0, 1, 2] (s + 1, pv.set i (.slice (some ⟨gP, 0, none⟩) (cs.length + 1) kP), .slice (some ⟨gP, 0, none⟩) (cs.length + 1) kP, cs ++ [((parF l L i k : Nat) : Int)], M') ⟨rfl, rfl, ⟨rfl, ?_, ?_, trivial⟩, ⟨rfl, rfl, rfl, rfl, rfl, rfl, ?_, rfl, rfl, rfl, trivial⟩⟩ ⟨hlt, hMx', hnext gP kP, hcsn⟩ (by show X.length - (s + 1) < X.length - s; omega)
      · show some (Ob.row _ 1 pv.length (pv.set (i * 1) _)) = some (Ob.row _ 1 (pv.set i _).length (pv.set i _))
        rw [Nat.mul_one, List.length_set]
      · show some (Ob.nrow _ _ 1 (cs.length + 1) (cs.flatMap intK ++ [Value.int .i64 _])) = some (Ob.nrow _ _ 1 (cs ++ [_]).length ((cs ++ [_]).flatMap intK))
        rw [List.length_append, List.flatMap_append, hkr]; rfl
      · exact congrArg (fun z => some (SV.v (Value.string z))) hlk.symm
    have q7 : decide ((0 : Int) < (rs.length : Int)) = true := decide_eq_true (by omega)
    have hkq : ∀ q (h : q < rs.length), rs[q].key = pkAt l (offF l L i k + q) ∧ offF l L i k + q < l.length := fun q h => by
      have h1 := hrs ()
      subst hi0
      subst h1
      have he := off_end hS hS.h hkL
      rw [cnt_zero] at he
      rw [hrl] at h
      refine ⟨?_, by omega⟩
      unfold rsF
      simp only [if_pos]
      rw [List.getElem_take, List.getElem_drop, pkAt_eq (by omega)]
    obtain ⟨b4, o4, hA4, hg0⟩ := hrv.get hz0
    obtain ⟨b5, o5, hA5, hg1⟩ := hrv.get (show rs.length - 1 < rs.length by omega)
    subst hA4
    injection hA5 with hA6
    injection hA6 with e1 e2
    subst e1 e2
    have hk0 := hg0 0 _ rfl
    have hk1 := hg1 0 _ rfl
    have hkq0 := hkq 0 hz0
    have hkq1 := hkq (rs.length - 1) (by omega)
    have hlk : lastK l L (s + 1) = rs[rs.length - 1].key := by
      rw [hlk1, hkq1.1, hrl]
      congr 1; omega
    generalize rs[0].key = key0 at *
    generalize rs[rs.length - 1].key = key1 at *
    have hsz0 : key0.size ≤ 1000000 := by
      have := hkeys.sz l[offF l L i k + 0] (List.getElem_mem hkq0.2)
      rw [hkq0.1, pkAt_eq hkq0.2]; omega
    have hbt : ∃ (bt : ByteArray) (bb : Bool), (∀ W, Calls Try.prog 52 #[.string (lastK l L s), .string key0] W fun e w' => e = .returned (.tuple #[.string bt, .bool bb]) ∧ Below W.heap.size W w') ∧ (lo = em ∨ lo = bt) := by
      have hl1 := hlo ()
      subst hi0
      rcases Nat.eq_zero_or_pos k with hk0 | hk0
      · subst hk0
        have e0 : lo = em := by rw [← hl1]; exact lo_zero 0
        have e1 : lastK l L s = em := by rw [hse]; exact lastK_zero
        rw [e1]
        have h2 := key_em hkeys (show 0 < l.length by omega)
        have e2 : key0 = pkAt l 0 := by rw [hkq0.1, off_zero]
        rcases h2 with h2 | h2
        · exact ⟨_, _, fun W => ref_BetweenB em key0 W (by decide) hsz0 (by rw [e2]; exact h2), .inl e0⟩
        · rw [e2, h2]
          exact ⟨_, _, fun W => ref_BetweenE W, .inl e0⟩
      · have e1 : lastK l L s = pkAt l (offF l L 0 k - 1) := by rw [hse]; exact lastK_at hk0
        have ho : 0 < offF l L 0 k := by
          have h3 := par_pos hS hi (.inr (show 0 < l.length by omega)) (k - 1)
          have h4 := off_step (l := l) (L := L) 0 (k - 1)
          rw [show k - 1 + 1 = k by omega] at h4
          omega
        have e2 : key0 = pkAt l (offF l L 0 k) := by rw [hkq0.1, Nat.add_zero]
        have h5 : lt (pkAt l (offF l L 0 k - 1)) (pkAt l (offF l L 0 k)) = true := hkeys.up _ _ (by omega) (by have := hkq0.2; omega)
        have hsz1 : (pkAt l (offF l L 0 k - 1)).size ≤ 1000000 := by
          have h6 : offF l L 0 k - 1 < l.length := by have := hkq0.2; omega
          have := hkeys.sz l[offF l L 0 k - 1] (List.getElem_mem h6)
          rw [pkAt_eq h6]; omega
        refine ⟨_, _, fun W => ref_BetweenB (lastK l L s) key0 W (by rw [e1]; exact hsz1) hsz0 (by rw [e1, e2]; exact h5), .inr ?_⟩
        rw [← hl1, e1, e2]
        exact loL_pos ho
    obtain ⟨bt, bb, cBt, hbt⟩ := hbt
    have hixl : ((rs.length : Nat) : Int) - 1 = ((rs.length - 1 : Nat) : Int) := by omega
    have hz1 : rs.length - 1 < rs.length := by omega
    clear hkq hkq0 hkq1 hg0 hg1 hrs hlo hlk1
    by_cases hle : lo = em
    · have z1 : (!decide (lo = (⟨#[]⟩ : ByteArray))) = false := by rw [hle]; rfl
      repeat' (first
        
        | refine VC_seq ?_
        | refine VC_region ?_
        | refine VL_nil ?_
        | refine VC_ret ?_
        | refine VC_exit ?_
        | refine VC_block ?_
        | refine VC_skip ?_
        | refine kbox ?_
        | refine kall ?_
        | refine kst ?_
        | refine ksN ?_
        | refine klt ?_
        | refine kl1 ?_
        | refine klK ?_
        | refine kap ?_
        | ((first | apply VL_q | apply VG_q | apply VS_q2); (first | exact QS_call (by rfl) (fun W _ => cBt W) | exact QS_indexAddr 0 (by rfl) (by rfl) rfl hz0 | exact QS_indexAddr (rs.length - 1) (by rfl) (by rfl) hixl hz1 | exact QS_mload1 (by rfl) hk0 | exact QS_mload1 (by rfl) hk1 | exact QS_bin (by rfl) (by rfl) B_sneq | exact qmv (by rfl) | exact qas (by rfl) | exact ql1 (by rfl) | exact qlA (by rfl) | exact qfa (by rfl) | exact qmf (by rfl) | exact qfd (by rfl) | exact qm1 (by rfl) | exact qbd (by rfl) | exact qno (by rfl) | exact qex (by rfl) | exact qln (by rfl) | exact qls (by rfl) | exact qlr (by rfl) | exact qpt (by rfl) | exact qpf (by rfl) | exact qcp (by rfl) | exact qbe (by rfl) | exact qbn (by rfl) | exact qsn (by rfl) | exact qad (by rfl) | exact qsa (by rfl) | exact qsu (by rfl) | exact QS_bin (by rfl) (by rfl) (by first | exact B_slnil | exact Bq_eql_Msg | exact Bq_neq_Msg | exact Bq_eql_Pair | exact Bq_neq_Pair | exact Bq_eql_Op | exact Bq_neq_Op | exact Bq_eql_Cfg | exact Bq_neq_Cfg)); rfl)
        | refine sst ?_
        | refine VS_nil ?_
        | refine eeq ?_
        | refine ees ?_ (by first | exact es1 (by rfl) | exact esN (by rfl))
        | refine VE_nil ?_
        | refine kyes ?_
        | refine kno ?_
        | refine gyes ?_
        | refine gno ?_
        | refine knoU ?_
        | refine gnoU ?_
        | refine VG_nil ⟨by rfl, ?_⟩
        | refine VG_nil ?_
        | refine ctr ?_
        | refine cfa ?_
        | refine kdec (fun hq => ?_) (fun hq => ?_)
        | refine gdec (fun hq => ?_) (fun hq => ?_)
        | refine cco (fun hq => ?_) (fun hq => ?_))
      refine forQ_next (Q := fun _ _ => True) [0, 1, 2] (s + 1, pv.set i (.slice (some ⟨gP, 0, none⟩) (cs.length + 1) kP), .slice (some ⟨gP, 0, none⟩) (cs.length + 1) kP, cs ++ [((parF l L i k : Nat) : Int)], M') ⟨rfl, rfl, ⟨rfl, ?_, ?_, trivial⟩, ⟨rfl, rfl, rfl, rfl, rfl, rfl, ?_, rfl, rfl, rfl, trivial⟩⟩ ⟨hlt, hMx', hnext gP kP, hcsn⟩ (by show X.length - (s + 1) < X.length - s; omega)
      · show some (Ob.row _ 1 pv.length (pv.set (i * 1) _)) = some (Ob.row _ 1 (pv.set i _).length (pv.set i _))
        rw [Nat.mul_one, List.length_set]
      · show some (Ob.nrow _ _ 1 (cs.length + 1) (cs.flatMap intK ++ [Value.int .i64 _])) = some (Ob.nrow _ _ 1 (cs ++ [_]).length ((cs ++ [_]).flatMap intK))
        rw [List.length_append, List.flatMap_append, hkr]; rfl
      · exact congrArg (fun z => some (SV.v (Value.string z))) hlk.symm
    · have z1 : (!decide (lo = (⟨#[]⟩ : ByteArray))) = true := by
        have h : ¬ lo = (⟨#[]⟩ : ByteArray) := hle
        simp [h]
      have z2 : (!decide (lo = bt)) = false := by
        rcases hbt with h | h
        · exact absurd h hle
        · simp [h]
      repeat' (first
        
        | refine VC_seq ?_
        | refine VC_region ?_
        | refine VL_nil ?_
        | refine VC_ret ?_
        | refine VC_exit ?_
        | refine VC_block ?_
        | refine VC_skip ?_
        | refine kbox ?_
        | refine kall ?_
        | refine kst ?_
        | refine ksN ?_
        | refine klt ?_
        | refine kl1 ?_
        | refine klK ?_
        | refine kap ?_
        | ((first | apply VL_q | apply VG_q | apply VS_q2); (first | exact QS_call (by rfl) (fun W _ => cBt W) | exact QS_indexAddr 0 (by rfl) (by rfl) rfl hz0 | exact QS_indexAddr (rs.length - 1) (by rfl) (by rfl) hixl hz1 | exact QS_mload1 (by rfl) hk0 | exact QS_mload1 (by rfl) hk1 | exact QS_bin (by rfl) (by rfl) B_sneq | exact qmv (by rfl) | exact qas (by rfl) | exact ql1 (by rfl) | exact qlA (by rfl) | exact qfa (by rfl) | exact qmf (by rfl) | exact qfd (by rfl) | exact qm1 (by rfl) | exact qbd (by rfl) | exact qno (by rfl) | exact qex (by rfl) | exact qln (by rfl) | exact qls (by rfl) | exact qlr (by rfl) | exact qpt (by rfl) | exact qpf (by rfl) | exact qcp (by rfl) | exact qbe (by rfl) | exact qbn (by rfl) | exact qsn (by rfl) | exact qad (by rfl) | exact qsa (by rfl) | exact qsu (by rfl) | exact QS_bin (by rfl) (by rfl) (by first | exact B_slnil | exact Bq_eql_Msg | exact Bq_neq_Msg | exact Bq_eql_Pair | exact Bq_neq_Pair | exact Bq_eql_Op | exact Bq_neq_Op | exact Bq_eql_Cfg | exact Bq_neq_Cfg)); rfl)
        | refine sst ?_
        | refine VS_nil ?_
        | refine eeq ?_
        | refine ees ?_ (by first | exact es1 (by rfl) | exact esN (by rfl))
        | refine VE_nil ?_
        | refine kyes ?_
        | refine kno ?_
        | refine gyes ?_
        | refine gno ?_
        | refine knoU ?_
        | refine gnoU ?_
        | refine VG_nil ⟨by rfl, ?_⟩
        | refine VG_nil ?_
        | refine ctr ?_
        | refine cfa ?_
        | refine kdec (fun hq => ?_) (fun hq => ?_)
        | refine gdec (fun hq => ?_) (fun hq => ?_)
        | refine cco (fun hq => ?_) (fun hq => ?_))
      refine forQ_next (Q := fun _ _ => True) [0, 1, 2] (s + 1, pv.set i (.slice (some ⟨gP, 0, none⟩) (cs.length + 1) kP), .slice (some ⟨gP, 0, none⟩) (cs.length + 1) kP, cs ++ [((parF l L i k : Nat) : Int)], M') ⟨rfl, rfl, ⟨rfl, ?_, ?_, trivial⟩, ⟨rfl, rfl, rfl, rfl, rfl, rfl, ?_, rfl, rfl, rfl, trivial⟩⟩ ⟨hlt, hMx', hnext gP kP, hcsn⟩ (by show X.length - (s + 1) < X.length - s; omega)
      · show some (Ob.row _ 1 pv.length (pv.set (i * 1) _)) = some (Ob.row _ 1 (pv.set i _).length (pv.set i _))
        rw [Nat.mul_one, List.length_set]
      · show some (Ob.nrow _ _ 1 (cs.length + 1) (cs.flatMap intK ++ [Value.int .i64 _])) = some (Ob.nrow _ _ 1 (cs ++ [_]).length ((cs ++ [_]).flatMap intK))
        rw [List.length_append, List.flatMap_append, hkr]; rfl
      · exact congrArg (fun z => some (SV.v (Value.string z))) hlk.symm
  · have hds := dge hge2
    have hseq : s = L.sum := by omega
    refine VC_frzN 2 (by rfl) (fun M5 hle5 hrow => ?_)
    have hu : SlM M5 1 intK u0 cs0 := hrow.slM (fun _ _ => rfl)
    have hpl := hP.len
    have hP' : PInv l L L.sum pv u0 cs0 Mx := by rw [← hseq]; exact hP
    have hev := PInv.end_ hS hP' hle5 hu
    have hSz5 := hSz4.mono (hMx.trans hle5)
    clear hP hP' hu hrow hseatX hXok hX hN4 hM4 hslot hpairs hms hsd hNb hNds hNds2 hNds3 hN2 hN3 hM1 hM3 hSz hSz4 hF hH
    refine VC_sub [0, 1] ⟨M5, [.blk 74 [.int .i64 c.fanout, .int .i64 c.leaf, .int .i64 c.budget, .int .i64 c.slots, .int .i64 c.restarts], .row 31 1 pv.length pv], [(1, .v (.slice A l.length c1)), (2, .p 0 0), (7, .v (.slice B L.length cb)), (13, .r 1), (118, .v (.slice AX X.length cX)), (119, .v (.int .i64 X.length)), (120, .v (.int .i64 s))]⟩ ⟨rfl, rfl, ⟨rfl, rfl, trivial⟩, ⟨rfl, rfl, rfl, rfl, rfl, rfl, rfl, trivial⟩⟩ ?_
    repeat' (first
      | refine VC_seq ?_
      | refine VC_region ?_
      | refine VL_nil ?_
      | refine VC_ret ?_
      | refine VC_exit ?_
      | refine VC_block ?_
      | refine VC_skip ?_
      | refine kbox ?_
      | refine kall ?_
      | refine kst ?_
      | refine ksN ?_
      | refine klt ?_
      | refine kl1 ?_
      | refine klK ?_
      | refine kap ?_
      | ((first | apply VL_q | apply VG_q | apply VS_q2); (first  | exact qmv (by rfl) | exact qas (by rfl) | exact ql1 (by rfl) | exact qlA (by rfl) | exact qfa (by rfl) | exact qmf (by rfl) | exact qfd (by rfl) | exact qm1 (by rfl) | exact qbd (by rfl) | exact qno (by rfl) | exact qex (by rfl) | exact qln (by rfl) | exact qls (by rfl) | exact qlr (by rfl) | exact qpt (by rfl) | exact qpf (by rfl) | exact qcp (by rfl) | exact qbe (by rfl) | exact qbn (by rfl) | exact qsn (by rfl) | exact qad (by rfl) | exact qsa (by rfl) | exact qsu (by rfl) | exact QS_bin (by rfl) (by rfl) (by first | exact B_slnil | exact Bq_eql_Msg | exact Bq_neq_Msg | exact Bq_eql_Pair | exact Bq_neq_Pair | exact Bq_eql_Op | exact Bq_neq_Op | exact Bq_eql_Cfg | exact Bq_neq_Cfg)); rfl)
      | refine sst ?_
      | refine VS_nil ?_
      | refine eeq ?_
      | refine ees ?_ (by first | exact es1 (by rfl) | exact esN (by rfl))
      | refine VE_nil ?_
      | refine kyes ?_
      | refine kno ?_
      | refine gyes ?_
      | refine gno ?_
      | refine knoU ?_
      | refine gnoU ?_
      | refine VG_nil ⟨by rfl, ?_⟩
      | refine VG_nil ?_
      | refine dT ?_
      | refine d1 ?_
      | refine dQ ?_
      | refine ctr ?_
      | refine cfa ?_
      | refine kdec (fun hq => ?_) (fun hq => ?_)
      | refine gdec (fun hq => ?_) (fun hq => ?_)
      | refine cco (fun hq => ?_) (fun hq => ?_))
    refine VC_for (fun k : Nat => ⟨M5, [.blk 74 [.int .i64 c.fanout, .int .i64 c.leaf, .int .i64 c.budget, .int .i64 c.slots, .int .i64 c.restarts], .row 31 1 pv.length pv], [(1, .v (.slice A l.length c1)), (7, .v (.slice B L.length cb)), (13, .r 1), (226, .v (.slice B L.length cb)), (227, .v (.int .i64 L.length)), (228, .v (.int .i64 k))]⟩) (fun k => k ≤ L.length) (fun k => L.length - k) [0, 1] 0 ⟨rfl, rfl, ⟨rfl, rfl, trivial⟩, ⟨rfl, rfl, rfl, rfl, rfl, rfl, trivial⟩⟩ (by omega) ?_
    intro k hk
    rcases Nat.lt_or_ge k L.length with hlt | hge3
    · have hd := dlt hlt
      obtain ⟨b, off, rfl, hcA⟩ := hSz5.get hlt
      obtain ⟨v, hpv0, hvS⟩ := hev k hlt
      have hkp : k < pv.length := by omega
      have hpv : pv[k * 1]? = some v := by rw [Nat.mul_one]; exact hpv0
      obtain ⟨Av, cv, rfl, -⟩ := id hvS
      have hgd : L.getD k 0 = L[k] := by simp [List.getD, hlt]
      have hel := evenJ_len (l := l) (L := L) k
      have hps := hS.pos k hlt
      have hcb2 := cnt_bound (l := l) hlt (by omega) hsum
      have cEv := fun W (hW : M5.le (Mem.of W)) => law_even (.slice Av (evenJ l L k).length cv) (cntF l L k) (L.getD k 0) W M5 hW hvS (by omega) (by omega)
      have n1 : ((((evenJ l L k).length : Nat) : Int) != ((L[k] : Nat) : Int)) = false := by rw [hel, hgd]; simp
      have hcnt : cntF l L k = if k = 0 then l.length else L.getD (k - 1) 0 := rfl
      clear hvS hev hpv0
      generalize (evenJ l L k).length = ne at n1 hel hpv cEv
      generalize L[k] = lk at *
      clear hgd hel hps
      rcases Nat.eq_zero_or_pos k with hk0 | hk0
      · have q9 : decide ((0 : Int) < ((k : Nat) : Int)) = false := decide_eq_false (by omega)
        rw [hcnt, if_pos hk0] at cEv
        repeat' (first
          | refine VC_seq ?_
          | refine VC_region ?_
          | refine VL_nil ?_
          | refine VC_ret ?_
          | refine VC_exit ?_
          | refine VC_block ?_
          | refine VC_skip ?_
          | refine kbox ?_
          | refine kall ?_
          | refine kst ?_
          | refine ksN ?_
          | refine klt ?_
          | refine kl1 ?_
          | refine klK ?_
          | refine kap ?_
          | ((first | apply VL_q | apply VG_q | apply VS_q2); (first | exact QS_mload1 (by rfl) (hcA 0 _ (by rfl)) | exact QS_mload1 (by rfl) (hcA _ _ (by rfl)) | exact QS_mloadN _ (by rfl) hcA _ (by rfl) | exact QS_indexAddr k (by rfl) (by rfl) rfl hlt | exact QS_indexRow k (by rfl) (by rfl) (by rfl) rfl hkp | exact QS_loadR1 (by rfl) (by rfl) hpv | exact QS_call (by rfl) cEv | exact qmv (by rfl) | exact qas (by rfl) | exact ql1 (by rfl) | exact qlA (by rfl) | exact qfa (by rfl) | exact qmf (by rfl) | exact qfd (by rfl) | exact qm1 (by rfl) | exact qbd (by rfl) | exact qno (by rfl) | exact qex (by rfl) | exact qln (by rfl) | exact qls (by rfl) | exact qlr (by rfl) | exact qpt (by rfl) | exact qpf (by rfl) | exact qcp (by rfl) | exact qbe (by rfl) | exact qbn (by rfl) | exact qsn (by rfl) | exact qad (by rfl) | exact qsa (by rfl) | exact qsu (by rfl) | exact QS_bin (by rfl) (by rfl) (by first | exact B_slnil | exact Bq_eql_Msg | exact Bq_neq_Msg | exact Bq_eql_Pair | exact Bq_neq_Pair | exact Bq_eql_Op | exact Bq_neq_Op | exact Bq_eql_Cfg | exact Bq_neq_Cfg)); rfl)
          | refine sst ?_
          | refine VS_nil ?_
          | refine eeq ?_
          | refine ees ?_ (by first | exact es1 (by rfl) | exact esN (by rfl))
          | refine VE_nil ?_
          | refine kyes ?_
          | refine kno ?_
          | refine gyes ?_
          | refine gno ?_
          | refine knoU ?_
          | refine gnoU ?_
          | refine VG_nil ⟨by rfl, ?_⟩
          | refine VG_nil ?_
          | refine dT ?_
          | refine d1 ?_
          | refine dQ ?_
          | refine ctr ?_
          | refine cfa ?_
          | refine kdec (fun hq => ?_) (fun hq => ?_)
          | refine gdec (fun hq => ?_) (fun hq => ?_)
          | refine cco (fun hq => ?_) (fun hq => ?_))
        exact forQ_next (Q := fun _ _ => True) [0, 1] (k + 1) ⟨rfl, rfl, ⟨rfl, rfl, trivial⟩, ⟨rfl, rfl, rfl, rfl, rfl, rfl, trivial⟩⟩ (by omega) (by omega)
      · have q9 : decide ((0 : Int) < ((k : Nat) : Int)) = true := decide_eq_true (by omega)
        have hlt1 : k - 1 < L.length := by omega
        have hix1 : ((k : Nat) : Int) - 1 = ((k - 1 : Nat) : Int) := by omega
        obtain ⟨b', off', hB', hcP⟩ := hSz5.get hlt1
        injection hB' with hB2
        injection hB2 with e1 e2
        subst e1 e2
        rw [hcnt, if_neg (show ¬ k = 0 by omega), show L.getD (k - 1) 0 = L[k - 1] by simp [List.getD, hlt1]] at cEv
        generalize L[k - 1] = lk1 at *
        repeat' (first
          | refine VC_seq ?_
          | refine VC_region ?_
          | refine VL_nil ?_
          | refine VC_ret ?_
          | refine VC_exit ?_
          | refine VC_block ?_
          | refine VC_skip ?_
          | refine kbox ?_
          | refine kall ?_
          | refine kst ?_
          | refine ksN ?_
          | refine klt ?_
          | refine kl1 ?_
          | refine klK ?_
          | refine kap ?_
          | ((first | apply VL_q | apply VG_q | apply VS_q2); (first | exact QS_mload1 (by rfl) (hcA 0 _ (by rfl)) | exact QS_mload1 (by rfl) (hcA _ _ (by rfl)) | exact QS_mloadN _ (by rfl) hcA _ (by rfl) | exact QS_mload1 (by rfl) (hcP 0 _ (by rfl)) | exact QS_mload1 (by rfl) (hcP _ _ (by rfl)) | exact QS_mloadN _ (by rfl) hcP _ (by rfl) | exact QS_indexAddr k (by rfl) (by rfl) rfl hlt | exact QS_indexAddr (k - 1) (by rfl) (by rfl) hix1 hlt1 | exact QS_indexRow k (by rfl) (by rfl) (by rfl) rfl hkp | exact QS_loadR1 (by rfl) (by rfl) hpv | exact QS_call (by rfl) cEv | exact qmv (by rfl) | exact qas (by rfl) | exact ql1 (by rfl) | exact qlA (by rfl) | exact qfa (by rfl) | exact qmf (by rfl) | exact qfd (by rfl) | exact qm1 (by rfl) | exact qbd (by rfl) | exact qno (by rfl) | exact qex (by rfl) | exact qln (by rfl) | exact qls (by rfl) | exact qlr (by rfl) | exact qpt (by rfl) | exact qpf (by rfl) | exact qcp (by rfl) | exact qbe (by rfl) | exact qbn (by rfl) | exact qsn (by rfl) | exact qad (by rfl) | exact qsa (by rfl) | exact qsu (by rfl) | exact QS_bin (by rfl) (by rfl) (by first | exact B_slnil | exact Bq_eql_Msg | exact Bq_neq_Msg | exact Bq_eql_Pair | exact Bq_neq_Pair | exact Bq_eql_Op | exact Bq_neq_Op | exact Bq_eql_Cfg | exact Bq_neq_Cfg)); rfl)
          | refine sst ?_
          | refine VS_nil ?_
          | refine eeq ?_
          | refine ees ?_ (by first | exact es1 (by rfl) | exact esN (by rfl))
          | refine VE_nil ?_
          | refine kyes ?_
          | refine kno ?_
          | refine gyes ?_
          | refine gno ?_
          | refine knoU ?_
          | refine gnoU ?_
          | refine VG_nil ⟨by rfl, ?_⟩
          | refine VG_nil ?_
          | refine dT ?_
          | refine d1 ?_
          | refine dQ ?_
          | refine ctr ?_
          | refine cfa ?_
          | refine kdec (fun hq => ?_) (fun hq => ?_)
          | refine gdec (fun hq => ?_) (fun hq => ?_)
          | refine cco (fun hq => ?_) (fun hq => ?_))
        exact forQ_next (Q := fun _ _ => True) [0, 1] (k + 1) ⟨rfl, rfl, ⟨rfl, rfl, trivial⟩, ⟨rfl, rfl, rfl, rfl, rfl, rfl, trivial⟩⟩ (by omega) (by omega)
    have hd := dge hge3
    obtain rfl : k = L.length := by omega
    repeat' (first
      | refine VC_seq ?_
      | refine VC_region ?_
      | refine VL_nil ?_
      | refine VC_ret ?_
      | refine VC_exit ?_
      | refine VC_block ?_
      | refine VC_skip ?_
      | refine kbox ?_
      | refine kall ?_
      | refine kst ?_
      | refine ksN ?_
      | refine klt ?_
      | refine kl1 ?_
      | refine klK ?_
      | refine kap ?_
      | ((first | apply VL_q | apply VG_q | apply VS_q2); (first | exact QS_call (by rfl) (fun W _ => cA W) | exact qmv (by rfl) | exact qas (by rfl) | exact ql1 (by rfl) | exact qlA (by rfl) | exact qfa (by rfl) | exact qmf (by rfl) | exact qfd (by rfl) | exact qm1 (by rfl) | exact qbd (by rfl) | exact qno (by rfl) | exact qex (by rfl) | exact qln (by rfl) | exact qls (by rfl) | exact qlr (by rfl) | exact qpt (by rfl) | exact qpf (by rfl) | exact qcp (by rfl) | exact qbe (by rfl) | exact qbn (by rfl) | exact qsn (by rfl) | exact qad (by rfl) | exact qsa (by rfl) | exact qsu (by rfl) | exact QS_bin (by rfl) (by rfl) (by first | exact B_slnil | exact Bq_eql_Msg | exact Bq_neq_Msg | exact Bq_eql_Pair | exact Bq_neq_Pair | exact Bq_eql_Op | exact Bq_neq_Op | exact Bq_eql_Cfg | exact Bq_neq_Cfg)); rfl)
      | refine sst ?_
      | refine VS_nil ?_
      | refine eeq ?_
      | refine ees ?_ (by first | exact es1 (by rfl) | exact esN (by rfl))
      | refine VE_nil ?_
      | refine kyes ?_
      | refine kno ?_
      | refine gyes ?_
      | refine gno ?_
      | refine knoU ?_
      | refine gnoU ?_
      | refine VG_nil ⟨by rfl, ?_⟩
      | refine VG_nil ?_
      | refine dT ?_
      | refine d1 ?_
      | refine dQ ?_
      | refine ctr ?_
      | refine cfa ?_
      | refine kdec (fun hq => ?_) (fun hq => ?_)
      | refine gdec (fun hq => ?_) (fun hq => ?_)
      | refine cco (fun hq => ?_) (fun hq => ?_))
    show Res _ _ _ _
    refine Res.one (by rfl) (ResV_tmp (by rfl) ?_)
    rfl
theorem walk_awake (c : Cfg) (v : Value) (l : List Pair) (w : World) (hl : Sl w 2 pairCells v l) (hin : ∀ a ∈ l, a.In) (h : 300 < l.length ∨ (l.length ≤ 300 ∧ longP 20000 l = false)) :
    Calls Try.prog 10 #[.agg #[.int .i64 c.fanout, .int .i64 c.leaf, .int .i64 c.budget, .int .i64 c.slots, .int .i64 c.restarts], v] w fun e w' => e = .returned (.bool true) ∧ Below w.heap.size w w' := by
  have hM := hl.toM
  obtain ⟨A, c1, rfl, hc1, hc2, _⟩ := id hM
  have cA := fun W => bulk_awake W
  rcases h with h | ⟨h, hlong⟩
  · have d0 : decide ((300 : Int) < (l.length : Int)) = true := decide_eq_true (by omega)
    refine V_flat (args := [.agg #[.int .i64 c.fanout, .int .i64 c.leaf, .int .i64 c.budget, .int .i64 c.slots, .int .i64 c.restarts], .slice A l.length c1]) (M := Mem.of w) Try.func10 rfl Try.ntmps10 (by rfl) (Mem.le_refl _) ?_
    repeat' (first
      | refine VC_seq ?_
      | refine VC_region ?_
      | refine VL_nil ?_
      | refine VC_ret ?_
      | refine VC_exit ?_
      | refine VC_block ?_
      | refine VC_skip ?_
      | refine kbox ?_
      | refine kall ?_
      | refine kst ?_
      | refine ksN ?_
      | refine klt ?_
      | refine kl1 ?_
      | refine klK ?_
      | refine kap ?_
      | ((first | apply VL_q | apply VG_q | apply VS_q2); (first | exact QS_call (by rfl) (fun W _ => cA W) | exact qmv (by rfl) | exact qas (by rfl) | exact ql1 (by rfl) | exact qlA (by rfl) | exact qfa (by rfl) | exact qmf (by rfl) | exact qfd (by rfl) | exact qm1 (by rfl) | exact qbd (by rfl) | exact qno (by rfl) | exact qex (by rfl) | exact qln (by rfl) | exact qls (by rfl) | exact qlr (by rfl) | exact qpt (by rfl) | exact qpf (by rfl) | exact qcp (by rfl) | exact qbe (by rfl) | exact qbn (by rfl) | exact qsn (by rfl) | exact qad (by rfl) | exact qsa (by rfl) | exact qsu (by rfl) | exact QS_bin (by rfl) (by rfl) (by first | exact B_slnil | exact Bq_eql_Msg | exact Bq_neq_Msg | exact Bq_eql_Pair | exact Bq_neq_Pair | exact Bq_eql_Op | exact Bq_neq_Op | exact Bq_eql_Cfg | exact Bq_neq_Cfg)); rfl)
      | refine sst ?_
      | refine VS_nil ?_
      | refine eeq ?_
      | refine ees ?_ (by first | exact es1 (by rfl) | exact esN (by rfl))
      | refine VE_nil ?_
      | refine kyes ?_
      | refine kno ?_
      | refine gyes ?_
      | refine gno ?_
      | refine knoU ?_
      | refine gnoU ?_
      | refine VG_nil ⟨by rfl, ?_⟩
      | refine VG_nil ?_
      | refine dT ?_
      | refine d1 ?_
      | refine dQ ?_
      | refine ctr ?_
      | refine cfa ?_
      | refine kdec (fun hq => ?_) (fun hq => ?_)
      | refine gdec (fun hq => ?_) (fun hq => ?_)
      | refine cco (fun hq => ?_) (fun hq => ?_))
    show Res _ _ _ _
    refine Res.one (by rfl) (ResV_tmp (by rfl) ?_)
    rfl
  · have cF := fun W (hW : (Mem.of w).le (Mem.of W)) => ref_LongP (.slice A l.length c1) l 20000 W (hM.toSl hW) hin (by omega) (by omega)
    rw [hlong] at cF
    have d0 : decide ((300 : Int) < (l.length : Int)) = false := decide_eq_false (by omega)
    refine V_flat (args := [.agg #[.int .i64 c.fanout, .int .i64 c.leaf, .int .i64 c.budget, .int .i64 c.slots, .int .i64 c.restarts], .slice A l.length c1]) (M := Mem.of w) Try.func10 rfl Try.ntmps10 (by rfl) (Mem.le_refl _) ?_
    repeat' (first
      | refine VC_seq ?_
      | refine VC_region ?_
      | refine VL_nil ?_
      | refine VC_ret ?_
      | refine VC_exit ?_
      | refine VC_block ?_
      | refine VC_skip ?_
      | refine kbox ?_
      | refine kall ?_
      | refine kst ?_
      | refine ksN ?_
      | refine klt ?_
      | refine kl1 ?_
      | refine klK ?_
      | refine kap ?_
      | ((first | apply VL_q | apply VG_q | apply VS_q2); (first | exact QS_call (by rfl) cF | exact QS_call (by rfl) (fun W _ => cA W) | exact qmv (by rfl) | exact qas (by rfl) | exact ql1 (by rfl) | exact qlA (by rfl) | exact qfa (by rfl) | exact qmf (by rfl) | exact qfd (by rfl) | exact qm1 (by rfl) | exact qbd (by rfl) | exact qno (by rfl) | exact qex (by rfl) | exact qln (by rfl) | exact qls (by rfl) | exact qlr (by rfl) | exact qpt (by rfl) | exact qpf (by rfl) | exact qcp (by rfl) | exact qbe (by rfl) | exact qbn (by rfl) | exact qsn (by rfl) | exact qad (by rfl) | exact qsa (by rfl) | exact qsu (by rfl) | exact QS_bin (by rfl) (by rfl) (by first | exact B_slnil | exact Bq_eql_Msg | exact Bq_neq_Msg | exact Bq_eql_Pair | exact Bq_neq_Pair | exact Bq_eql_Op | exact Bq_neq_Op | exact Bq_eql_Cfg | exact Bq_neq_Cfg)); rfl)
      | refine sst ?_
      | refine VS_nil ?_
      | refine eeq ?_
      | refine ees ?_ (by first | exact es1 (by rfl) | exact esN (by rfl))
      | refine VE_nil ?_
      | refine kyes ?_
      | refine kno ?_
      | refine gyes ?_
      | refine gno ?_
      | refine knoU ?_
      | refine gnoU ?_
      | refine VG_nil ⟨by rfl, ?_⟩
      | refine VG_nil ?_
      | refine dT ?_
      | refine d1 ?_
      | refine dQ ?_
      | refine ctr ?_
      | refine cfa ?_
      | refine kdec (fun hq => ?_) (fun hq => ?_)
      | refine gdec (fun hq => ?_) (fun hq => ?_)
      | refine cco (fun hq => ?_) (fun hq => ?_))
    show Res _ _ _ _
    refine Res.one (by rfl) (ResV_tmp (by rfl) ?_)
    rfl
theorem lvlL_small {F : Nat} (hF : 2 ≤ F) : ∀ (b n : Nat), n ≤ b → 1 ≤ n → (lvlL F n).length ≤ n ∧ (lvlL F n).sum ≤ n * n
  | 0, n, h, h1 => by omega
  | b + 1, n, h, h1 => by
    by_cases hn : 1 < n
    · rw [lvlL_more hn hF]
      have h2 := fewN_lt hn hF
      obtain ⟨a1, a2⟩ := lvlL_small hF b (fewN n F) (by omega) (fewN_pos _ _)
      generalize fewN n F = m at *
      refine ⟨by rw [List.length_cons]; omega, ?_⟩
      rw [List.sum_cons]
      obtain ⟨k, rfl⟩ : ∃ k, n = k + 1 := ⟨n - 1, by omega⟩
      have h3 : m * m ≤ k * k := Nat.mul_le_mul (by omega) (by omega)
      have h4 : (k + 1) * (k + 1) = k * k + 2 * k + 1 := by rw [Nat.add_mul, Nat.mul_add]; omega
      omega
    · rw [lvlL_one hn]
      have h2 : n = 1 := by omega
      subst h2
      exact ⟨Nat.le_refl _, by decide⟩
theorem lvl_bound {c : Cfg} (hc : okC c = true) {n : Nat} (hn : n ≤ 300) : (levelsC c (n : Int)).sum ≤ 1000000 ∧ (levelsC c (n : Int)).length ≤ 1000000 ∧ 0 < (levelsC c (n : Int)).length := by
  obtain ⟨f1, f2, l1, l2, s1, s2⟩ := okC_parts hc
  unfold levelsC
  rw [if_neg (by rw [hc]; simp; omega), Int.toNat_natCast]
  have h1 := fewN_bound (n := n) (r := c.leaf.toNat) (by omega)
  obtain ⟨a1, a2⟩ := lvlL_small (F := c.fanout.toNat) (by omega) _ _ (Nat.le_refl _) (fewN_pos n c.leaf.toNat)
  obtain ⟨p1, _, _, _⟩ := lvlL_props (F := c.fanout.toNat) (by omega) (fewN n c.leaf.toNat) (fewN n c.leaf.toNat) (Nat.le_refl _)
  have h2 : fewN n c.leaf.toNat * fewN n c.leaf.toNat ≤ 301 * 301 := Nat.mul_le_mul (by omega) (by omega)
  exact ⟨by omega, by omega, List.length_pos_iff.2 p1⟩
theorem walk (c : Cfg) (v : Value) (l : List Pair) (w : World) (hl : Sl w 2 pairCells v l) (hin : ∀ a ∈ l, a.In) :
    Calls Try.prog 10 #[.agg #[.int .i64 c.fanout, .int .i64 c.leaf, .int .i64 c.budget, .int .i64 c.slots, .int .i64 c.restarts], v] w fun e w' => e = .returned (.bool true) ∧ Below w.heap.size w w' := by
  by_cases hn : l.length ≤ 300
  · cases hlong : longP 20000 l with
    | false => exact walk_awake c v l w hl hin (.inr ⟨hn, hlong⟩)
    | true =>
      by_cases hno : okC c = false ∨ rightP l = false
      · exact walk_no c v l w hl hn hlong hin hno
      · have hc : okC c = true := by
          cases h : okC c with
          | true => rfl
          | false => exact absurd (.inl h) hno
        have hr : rightP l = true := by
          cases h : rightP l with
          | true => rfl
          | false => exact absurd (.inr h) hno
        obtain ⟨hs1, hs2, h0⟩ := lvl_bound hc hn
        by_cases hsl : ((levelsC c (l.length : Int)).sum : Int) ≤ c.slots
        · obtain ⟨hS, hF, hH⟩ := lvl_fit hc l hsl (by omega)
          exact walk_ok c v l _ w hl hn hlong hin hc hr rfl hS hF hH hs1 hs2
        · exact walk_full c v l _ w hl hn hlong hin hc hr rfl h0 hs1 hs2 (by omega)
  · exact walk_awake c v l w hl hin (.inl (by omega))
end Go.Proofs.Ytclbmfepdlffnaa.lawBulkBuilds
