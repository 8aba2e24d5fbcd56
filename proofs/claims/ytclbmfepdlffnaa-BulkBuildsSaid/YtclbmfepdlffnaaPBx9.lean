/- The pairs that a tree stands for, where nothing waits; what a tree made at once is to the document. -/
import Derived.Test.YtclbmfepdlffnaaPBx8
namespace Go.Proofs.Ytclbmfepdlffnaa
open Go Go.RowKit
attribute [local irreducible] Calls
set_option linter.unusedVariables false
set_option maxRecDepth 20000
set_option linter.unusedSimpArgs false
set_option maxHeartbeats 4000000
def lfQ (x : Sq) : List Pair := if (x.n.level == 0) = true then x.n.rs else []
theorem ref_MapB (v : Value) (N : List Nd) (ss : List Sq) (w : World) (M : Mem) (hM : M.le (Mem.of w)) (hN : SlM M 10 ndCells v N) (hok : NdsOk M N) (hs : seatsL N = some ss) (hq : ∀ x ∈ ss, (x.n.level == 0) = true → x.ms = [] ∧ x.n.rs.length ≤ 1000000 ∧ ∀ p ∈ x.n.rs, p.key.size ≤ 1000000 ∧ has x.s p.key = true) (htot : (ss.flatMap lfQ).length ≤ 1000000) (hlen : ss.length ≤ 1000000) :
    Calls Try.prog 50 #[v] w (RetM M w (fun u M' => SlM M' 2 pairCells u (ss.flatMap lfQ))) := by
  obtain ⟨A0, c0, rfl, _⟩ := id hN
  refine V_ret (args := [.slice A0 N.length c0]) (M := M) Try.func50 rfl Try.ntmps50 (by rfl) hM _ ?_
  refine VC_frzQ ?_
  refine VC_seq ?_
  refine VC_region ?_
  apply VL_q
  · exact qas (by rfl)
  · rfl
  refine VL_nil ?_
  refine VC_seq ?_
  refine VC_region ?_
  apply VL_q
  · exact qas (by rfl)
  · rfl
  refine VL_nil ?_
  refine VC_nilR 3 101 2 (by rfl) (by rfl) ?_
  have cS := fun W (hW : M.le (Mem.of W)) => ref_Seats (.slice A0 N.length c0) N W M hW hN hok
  repeat' (first
    | refine VC_seq ?_
    | refine VC_region ?_
    | refine VL_nil ?_
    | refine VC_ret ?_
    | refine VC_exit ?_
    | refine VC_block ?_
    | refine VC_skip ?_
    | refine kbox ?_
    | refine kall ?_
    | refine kst ?_
    | refine ksN ?_
    | refine klt ?_
    | refine kl1 ?_
    | refine klK ?_
    | refine kap ?_
    | ((first | apply VL_q | apply VG_q | apply VS_q2); (first  | exact qmv (by rfl) | exact qas (by rfl) | exact ql1 (by rfl) | exact qlA (by rfl) | exact qfa (by rfl) | exact qmf (by rfl) | exact qfd (by rfl) | exact qm1 (by rfl) | exact qbd (by rfl) | exact qno (by rfl) | exact qex (by rfl) | exact qln (by rfl) | exact qls (by rfl) | exact qlr (by rfl) | exact qpt (by rfl) | exact qpf (by rfl) | exact qcp (by rfl) | exact qbe (by rfl) | exact qbn (by rfl) | exact qsn (by rfl) | exact qad (by rfl) | exact qsa (by rfl) | exact qsu (by rfl) | exact QS_bin (by rfl) (by rfl) (by first | exact B_slnil | exact Bq_eql_Msg | exact Bq_neq_Msg | exact Bq_eql_Pair | exact Bq_neq_Pair | exact Bq_eql_Op | exact Bq_neq_Op | exact Bq_eql_Cfg | exact Bq_neq_Cfg)); rfl)
    | refine sst ?_
    | refine VS_nil ?_
    | refine eeq ?_
    | refine ees ?_ (by first | exact es1 (by rfl) | exact esN (by rfl))
    | refine VE_nil ?_
    | refine kyes ?_
    | refine kno ?_
    | refine gyes ?_
    | refine gno ?_
    | refine knoU ?_
    | refine gnoU ?_
    | refine VG_nil ⟨by rfl, ?_⟩
    | refine VG_nil ?_
    | refine dT ?_
    | refine d1 ?_
    | refine dQ ?_
    | refine ctr ?_
    | refine cfa ?_
    | refine kdec (fun hq => ?_) (fun hq => ?_)
    | refine gdec (fun hq => ?_) (fun hq => ?_)
    | refine cco (fun hq => ?_) (fun hq => ?_))
  refine VL_callM (by rfl) cS (by rfl) (fun u M1 hle1 hp => ?_)
  obtain ⟨xv, b, rfl, hb1, hb2⟩ := hp
  cases b with
  | false => rw [hs] at hb2; exact absurd (hb2 rfl) (by simp)
  | true =>
  obtain ⟨X, hX, hXs, hXok⟩ := hb1 rfl
  rw [hs] at hXs
  have hXe := Option.some.inj hXs
  clear hb1 hb2 hXs
  have hXl : X.length = ss.length := by rw [hXe, List.length_map]
  obtain ⟨A, c, rfl, hc1, hc2, _⟩ := id hX
  have hfm : ∀ k, (ss.take k).flatMap lfQ = (X.take k).flatMap (fun x => lfQ x.1) := fun k => by
    rw [hXe, ← List.map_take, List.flatMap_map]
  have hfa : ss.flatMap lfQ = X.flatMap (fun x => lfQ x.1) := by rw [hXe, List.flatMap_map]
  have hpre : ∀ k, ((X.take k).flatMap (fun x => lfQ x.1)).length ≤ 1000000 := fun k => by
    have h1 : (X.flatMap (fun x => lfQ x.1)).length = ((X.take k).flatMap (fun x => lfQ x.1)).length + ((X.drop k).flatMap (fun x => lfQ x.1)).length := by
      rw [← List.length_append, ← List.flatMap_append, List.take_append_drop]
    rw [← hfa] at h1
    omega
  rw [hfa]
  repeat' (first
    | refine VC_seq ?_
    | refine VC_region ?_
    | refine VL_nil ?_
    | refine VC_ret ?_
    | refine VC_exit ?_
    | refine VC_block ?_
    | refine VC_skip ?_
    | refine kbox ?_
    | refine kall ?_
    | refine kst ?_
    | refine ksN ?_
    | refine klt ?_
    | refine kl1 ?_
    | refine klK ?_
    | refine kap ?_
    | ((first | apply VL_q | apply VG_q | apply VS_q2); (first  | exact qmv (by rfl) | exact qas (by rfl) | exact ql1 (by rfl) | exact qlA (by rfl) | exact qfa (by rfl) | exact qmf (by rfl) | exact qfd (by rfl) | exact qm1 (by rfl) | exact qbd (by rfl) | exact qno (by rfl) | exact qex (by rfl) | exact qln (by rfl) | exact qls (by rfl) | exact qlr (by rfl) | exact qpt (by rfl) | exact qpf (by rfl) | exact qcp (by rfl) | exact qbe (by rfl) | exact qbn (by rfl) | exact qsn (by rfl) | exact qad (by rfl) | exact qsa (by rfl) | exact qsu (by rfl) | exact QS_bin (by rfl) (by rfl) (by first | exact B_slnil | exact Bq_eql_Msg | exact Bq_neq_Msg | exact Bq_eql_Pair | exact Bq_neq_Pair | exact Bq_eql_Op | exact Bq_neq_Op | exact Bq_eql_Cfg | exact Bq_neq_Cfg)); rfl)
    | refine sst ?_
    | refine VS_nil ?_
    | refine eeq ?_
    | refine ees ?_ (by first | exact es1 (by rfl) | exact esN (by rfl))
    | refine VE_nil ?_
    | refine kyes ?_
    | refine kno ?_
    | refine gyes ?_
    | refine gno ?_
    | refine knoU ?_
    | refine gnoU ?_
    | refine VG_nil ⟨by rfl, ?_⟩
    | refine VG_nil ?_
    | refine dT ?_
    | refine d1 ?_
    | refine dQ ?_
    | refine ctr ?_
    | refine cfa ?_
    | refine kdec (fun hq => ?_) (fun hq => ?_)
    | refine gdec (fun hq => ?_) (fun hq => ?_)
    | refine cco (fun hq => ?_) (fun hq => ?_))
  refine VC_for (fun x : Nat × Mem => ⟨x.2, [.row 101 2 ((X.take x.1).flatMap (fun x => lfQ x.1)).length (((X.take x.1).flatMap (fun x => lfQ x.1)).flatMap pairCells)], [(3, .r 0), (4, .v (.slice A X.length c)), (6, .v (.int .i64 x.1))]⟩)
    (fun x => x.1 ≤ X.length ∧ M1.le x.2) (fun x => X.length - x.1) [0] (0, M1) ⟨rfl, rfl, ⟨rfl, trivial⟩, ⟨rfl, rfl, rfl, trivial⟩⟩ ⟨Nat.zero_le _, Mem.le_refl _⟩ ?_
  rintro ⟨k, Mx⟩ ⟨hk, hMx⟩
  dsimp only at hk hMx ⊢
  rcases Nat.lt_or_ge k X.length with hlt | hge
  · have hd := dlt hlt
    obtain ⟨b, off, rfl, hcA⟩ := (hX.mono hMx).get hlt
    have hxo := (hXok _ (List.getElem_mem hlt)).mono hMx
    have hst : (X.take (k + 1)).flatMap (fun x => lfQ x.1) = (X.take k).flatMap (fun x => lfQ x.1) ++ lfQ X[k].1 := by
      rw [List.take_succ_eq_append_getElem hlt, List.flatMap_append]; simp
    have hlp := hpre (k + 1)
    have hxq := hq X[k].1 (by rw [hXe]; exact List.mem_map_of_mem (List.getElem_mem hlt))
    generalize (X.take k).flatMap (fun x => lfQ x.1) = out at *
    have hc1' : Mx.cell b (off + k * 14 + 1) = some (.int .i64 X[k].1.n.level) := hcA 1 _ rfl
    cases hlv : (X[k].1.n.level == 0) with
    | false =>
      have hlf : lfQ X[k].1 = [] := by unfold lfQ; rw [hlv]; rfl
      rw [hlf, List.append_nil] at hst
      generalize X[k].1.n.level = lv at *
      repeat' (first
        | refine VC_seq ?_
        | refine VC_region ?_
        | refine VL_nil ?_
        | refine VC_ret ?_
        | refine VC_exit ?_
        | refine VC_block ?_
        | refine VC_skip ?_
        | refine kbox ?_
        | refine kall ?_
        | refine kst ?_
        | refine ksN ?_
        | refine klt ?_
        | refine kl1 ?_
        | refine klK ?_
        | refine kap ?_
        | ((first | apply VL_q | apply VG_q | apply VS_q2); (first | exact QS_indexAddr (k) (by rfl) (by rfl) (by omega) (by omega) | exact QS_mload1 (by rfl) hc1' | exact qmv (by rfl) | exact qas (by rfl) | exact ql1 (by rfl) | exact qlA (by rfl) | exact qfa (by rfl) | exact qmf (by rfl) | exact qfd (by rfl) | exact qm1 (by rfl) | exact qbd (by rfl) | exact qno (by rfl) | exact qex (by rfl) | exact qln (by rfl) | exact qls (by rfl) | exact qlr (by rfl) | exact qpt (by rfl) | exact qpf (by rfl) | exact qcp (by rfl) | exact qbe (by rfl) | exact qbn (by rfl) | exact qsn (by rfl) | exact qad (by rfl) | exact qsa (by rfl) | exact qsu (by rfl) | exact QS_bin (by rfl) (by rfl) (by first | exact B_slnil | exact Bq_eql_Msg | exact Bq_neq_Msg | exact Bq_eql_Pair | exact Bq_neq_Pair | exact Bq_eql_Op | exact Bq_neq_Op | exact Bq_eql_Cfg | exact Bq_neq_Cfg)); rfl)
        | refine sst ?_
        | refine VS_nil ?_
        | refine eeq ?_
        | refine ees ?_ (by first | exact es1 (by rfl) | exact esN (by rfl))
        | refine VE_nil ?_
        | refine kyes ?_
        | refine kno ?_
        | refine gyes ?_
        | refine gno ?_
        | refine knoU ?_
        | refine gnoU ?_
        | refine VG_nil ⟨by rfl, ?_⟩
        | refine VG_nil ?_
        | refine dT ?_
        | refine d1 ?_
        | refine dQ ?_
        | refine ctr ?_
        | refine cfa ?_
        | refine kdec (fun hq => ?_) (fun hq => ?_)
        | refine gdec (fun hq => ?_) (fun hq => ?_)
        | refine cco (fun hq => ?_) (fun hq => ?_))
      exact forQ_next (Q := fun _ _ => True) [0] (k + 1, Mx) ⟨rfl, rfl, ⟨by rw [hst]; rfl, trivial⟩, ⟨rfl, rfl, rfl, trivial⟩⟩ ⟨Nat.succ_le_of_lt hlt, hMx⟩ (by show X.length - (k + 1) < X.length - k; omega)
    | true =>
      obtain ⟨q1, q2, q3⟩ := hxq hlv
      have hlf : lfQ X[k].1 = X[k].1.n.rs := by unfold lfQ; rw [if_pos hlv]
      rw [hlf] at hst
      rw [hst, List.length_append] at hlp
      have hrs := hxo.ok.2.2.2
      have hms := hxo.ms
      have hlo := hxo.lo
      have hhi := hxo.hi
      rw [q1] at hms
      have hc9 : Mx.cell b (off + k * 14 + 9) = some X[k].1.n.rv := hcA 9 _ rfl
      have hc13 : Mx.cell b (off + k * 14 + 13) = some X[k].2 := hcA 13 _ rfl
      have hcs : ∀ j x, (([.string X[k].1.s.lo, .string X[k].1.s.hi, .bool X[k].1.s.opn] : List Value))[j]? = some x → Mx.cell b (off + k * 14 + 10 + j) = some x := fun j x h => by
        match j, h with
        | 0, h => rw [← Option.some.inj h]; exact hcA 10 _ rfl
        | 1, h => rw [← Option.some.inj h]; exact hcA 11 _ rfl
        | 2, h => rw [← Option.some.inj h]; exact hcA 12 _ rfl
      have cV := fun W (hW : Mx.le (Mem.of W)) => ref_View0 X[k].1.n.rv X[k].2 X[k].1.n.rs X[k].1.s W Mx hW hrs hms q2 hlo hhi q3
      have hlst : ((X.take (k + 1)).flatMap (fun x => lfQ x.1)).flatMap pairCells = out.flatMap pairCells ++ X[k].1.n.rs.flatMap pairCells := by rw [hst, List.flatMap_append]
      have hlen2 : ((X.take (k + 1)).flatMap (fun x => lfQ x.1)).length = out.length + X[k].1.n.rs.length := by rw [hst, List.length_append]
      clear hrs hms hxo hcA
      generalize X[k].1.n.level = lv at *
      generalize X[k].1.n.rv = rv at *
      generalize X[k].2 = qv at *
      generalize X[k].1.n.rs = rs at *
      generalize X[k].1.s = sp at *
      repeat' (first
        
        | refine VC_seq ?_
        | refine VC_region ?_
        | refine VL_nil ?_
        | refine VC_ret ?_
        | refine VC_exit ?_
        | refine VC_block ?_
        | refine VC_skip ?_
        | refine kbox ?_
        | refine kall ?_
        | refine kst ?_
        | refine ksN ?_
        | refine klt ?_
        | refine kl1 ?_
        | refine klK ?_
        | refine kap ?_
        | ((first | apply VL_q | apply VG_q | apply VS_q2); (first | exact QS_indexAddr (k) (by rfl) (by rfl) (by omega) (by omega) | exact QS_mload1 (by rfl) hc1' | exact qmv (by rfl) | exact qas (by rfl) | exact ql1 (by rfl) | exact qlA (by rfl) | exact qfa (by rfl) | exact qmf (by rfl) | exact qfd (by rfl) | exact qm1 (by rfl) | exact qbd (by rfl) | exact qno (by rfl) | exact qex (by rfl) | exact qln (by rfl) | exact qls (by rfl) | exact qlr (by rfl) | exact qpt (by rfl) | exact qpf (by rfl) | exact qcp (by rfl) | exact qbe (by rfl) | exact qbn (by rfl) | exact qsn (by rfl) | exact qad (by rfl) | exact qsa (by rfl) | exact qsu (by rfl) | exact QS_bin (by rfl) (by rfl) (by first | exact B_slnil | exact Bq_eql_Msg | exact Bq_neq_Msg | exact Bq_eql_Pair | exact Bq_neq_Pair | exact Bq_eql_Op | exact Bq_neq_Op | exact Bq_eql_Cfg | exact Bq_neq_Cfg)); rfl)
        | refine sst ?_
        | refine VS_nil ?_
        | refine eeq ?_
        | refine ees ?_ (by first | exact es1 (by rfl) | exact esN (by rfl))
        | refine VE_nil ?_
        | refine kyes ?_
        | refine kno ?_
        | refine gyes ?_
        | refine gno ?_
        | refine knoU ?_
        | refine gnoU ?_
        | refine VG_nil ⟨by rfl, ?_⟩
        | refine VG_nil ?_
        | refine ctr ?_
        | refine cfa ?_
        | refine kdec (fun hq => ?_) (fun hq => ?_)
        | refine gdec (fun hq => ?_) (fun hq => ?_)
        | refine cco (fun hq => ?_) (fun hq => ?_))
      refine VC_drawG [0] [17, 18, 19] (by decide +kernel) (by rfl) (by rfl) ?_
      repeat' (first
        | refine VQm_nil ?_
        | refine VQm_e (by rfl) ?_
        | refine VQm_q (by rfl) _ (by first | exact wno (by first | exact QS_indexAddr (k) (by rfl) (by rfl) (by omega) (by omega) | exact QS_mload1 (by rfl) hc9 | exact QS_mload1 (by rfl) hc13 | exact QS_mloadN _ (by rfl) hcs _ (by rfl) | exact qmv (by rfl) | exact qas (by rfl) | exact ql1 (by rfl) | exact qlA (by rfl) | exact qfa (by rfl) | exact qmf (by rfl) | exact qfd (by rfl) | exact qm1 (by rfl) | exact qbd (by rfl) | exact qno (by rfl) | exact qex (by rfl) | exact qln (by rfl) | exact qls (by rfl) | exact qlr (by rfl) | exact qpt (by rfl) | exact qpf (by rfl) | exact qcp (by rfl) | exact qbe (by rfl) | exact qbn (by rfl) | exact qsn (by rfl) | exact qad (by rfl) | exact qsa (by rfl) | exact qsu (by rfl) | exact QS_bin (by rfl) (by rfl) (by first | exact B_slnil | exact Bq_eql_Msg | exact Bq_neq_Msg | exact Bq_eql_Pair | exact Bq_neq_Pair | exact Bq_eql_Op | exact Bq_neq_Op | exact Bq_eql_Cfg | exact Bq_neq_Cfg)) | exact wnot (by rfl) | exact wU (by rfl) | exact wyes (by first | exact QS_indexAddr (k) (by rfl) (by rfl) (by omega) (by omega) | exact QS_mload1 (by rfl) hc9 | exact QS_mload1 (by rfl) hc13 | exact QS_mloadN _ (by rfl) hcs _ (by rfl) | exact qmv (by rfl) | exact qas (by rfl) | exact ql1 (by rfl) | exact qlA (by rfl) | exact qfa (by rfl) | exact qmf (by rfl) | exact qfd (by rfl) | exact qm1 (by rfl) | exact qbd (by rfl) | exact qno (by rfl) | exact qex (by rfl) | exact qln (by rfl) | exact qls (by rfl) | exact qlr (by rfl) | exact qpt (by rfl) | exact qpf (by rfl) | exact qcp (by rfl) | exact qbe (by rfl) | exact qbn (by rfl) | exact qsn (by rfl) | exact qad (by rfl) | exact qsa (by rfl) | exact qsu (by rfl) | exact QS_bin (by rfl) (by rfl) (by first | exact B_slnil | exact Bq_eql_Msg | exact Bq_neq_Msg | exact Bq_eql_Pair | exact Bq_neq_Pair | exact Bq_eql_Op | exact Bq_neq_Op | exact Bq_eql_Cfg | exact Bq_neq_Cfg))) (by rfl) (by rfl) ?_
        | refine VF_done ?_
        | refine VF_step ?_
        | exact VFs_nil
        | refine VFs_x _ _ _ _ (by rfl) (EX_cM (by rfl) cV) (by rfl) ?_ ?_
        | refine VFs_e (by rfl) _ _ (by first | exact fno (by first  | exact EF_alloc | exact elt (by rfl) | exact el1 (by rfl) | exact elK (by rfl) | exact eap (by rfl) | exact fst1 (by rfl) | exact fstN (by rfl) | exact fq (by first | exact QS_indexAddr (k) (by rfl) (by rfl) (by omega) (by omega) | exact QS_mload1 (by rfl) hc9 | exact QS_mload1 (by rfl) hc13 | exact QS_mloadN _ (by rfl) hcs _ (by rfl) | exact qmv (by rfl) | exact qas (by rfl) | exact ql1 (by rfl) | exact qlA (by rfl) | exact qfa (by rfl) | exact qmf (by rfl) | exact qfd (by rfl) | exact qm1 (by rfl) | exact qbd (by rfl) | exact qno (by rfl) | exact qex (by rfl) | exact qln (by rfl) | exact qls (by rfl) | exact qlr (by rfl) | exact qpt (by rfl) | exact qpf (by rfl) | exact qcp (by rfl) | exact qbe (by rfl) | exact qbn (by rfl) | exact qsn (by rfl) | exact qad (by rfl) | exact qsa (by rfl) | exact qsu (by rfl) | exact QS_bin (by rfl) (by rfl) (by first | exact B_slnil | exact Bq_eql_Msg | exact Bq_neq_Msg | exact Bq_eql_Pair | exact Bq_neq_Pair | exact Bq_eql_Op | exact Bq_neq_Op | exact Bq_eql_Cfg | exact Bq_neq_Cfg))) | exact fnot (by rfl) | exact fU (by rfl) | exact fyes (by first  | exact EF_alloc | exact elt (by rfl) | exact el1 (by rfl) | exact elK (by rfl) | exact eap (by rfl) | exact fst1 (by rfl) | exact fstN (by rfl) | exact fq (by first | exact QS_indexAddr (k) (by rfl) (by rfl) (by omega) (by omega) | exact QS_mload1 (by rfl) hc9 | exact QS_mload1 (by rfl) hc13 | exact QS_mloadN _ (by rfl) hcs _ (by rfl) | exact qmv (by rfl) | exact qas (by rfl) | exact ql1 (by rfl) | exact qlA (by rfl) | exact qfa (by rfl) | exact qmf (by rfl) | exact qfd (by rfl) | exact qm1 (by rfl) | exact qbd (by rfl) | exact qno (by rfl) | exact qex (by rfl) | exact qln (by rfl) | exact qls (by rfl) | exact qlr (by rfl) | exact qpt (by rfl) | exact qpf (by rfl) | exact qcp (by rfl) | exact qbe (by rfl) | exact qbn (by rfl) | exact qsn (by rfl) | exact qad (by rfl) | exact qsa (by rfl) | exact qsu (by rfl) | exact QS_bin (by rfl) (by rfl) (by first | exact B_slnil | exact Bq_eql_Msg | exact Bq_neq_Msg | exact Bq_eql_Pair | exact Bq_neq_Pair | exact Bq_eql_Op | exact Bq_neq_Op | exact Bq_eql_Cfg | exact Bq_neq_Cfg)))) (by rfl) (by rfl) ?_ ?_)
      rintro ⟨⟨v1, M2⟩, hle2, hS2⟩
      refine ⟨hle2, by rfl, ?_⟩
      dsimp only at hle2 hS2 ⊢
      obtain ⟨B, d, rfl, hd1, hd2, _⟩ := id hS2
      refine VF_step ?_
      by_cases h0 : rs.length = 0
      · have hnil : rs = [] := List.length_eq_zero_iff.1 h0
        refine VFs_e (by rfl) _ _ (fno (fq (QS_append_nilZ (by rfl) (by rfl) (by rfl) h0))) (by rfl) (by rfl) ?_ VFs_nil
        refine VF_step ?_
        refine VFs_e (by rfl) _ _ (fno (fq (qas (by rfl)))) (by rfl) (by rfl) ?_ VFs_nil
        refine VF_done ?_
        repeat' (first
          | refine VC_seq ?_
          | refine VC_region ?_
          | refine VL_nil ?_
          | refine VC_ret ?_
          | refine VC_exit ?_
          | refine VC_block ?_
          | refine VC_skip ?_
          | refine kbox ?_
          | refine kall ?_
          | refine kst ?_
          | refine ksN ?_
          | refine klt ?_
          | refine kl1 ?_
          | refine klK ?_
          | refine kap ?_
          | ((first | apply VL_q | apply VG_q | apply VS_q2); (first  | exact qmv (by rfl) | exact qas (by rfl) | exact ql1 (by rfl) | exact qlA (by rfl) | exact qfa (by rfl) | exact qmf (by rfl) | exact qfd (by rfl) | exact qm1 (by rfl) | exact qbd (by rfl) | exact qno (by rfl) | exact qex (by rfl) | exact qln (by rfl) | exact qls (by rfl) | exact qlr (by rfl) | exact qpt (by rfl) | exact qpf (by rfl) | exact qcp (by rfl) | exact qbe (by rfl) | exact qbn (by rfl) | exact qsn (by rfl) | exact qad (by rfl) | exact qsa (by rfl) | exact qsu (by rfl) | exact QS_bin (by rfl) (by rfl) (by first | exact B_slnil | exact Bq_eql_Msg | exact Bq_neq_Msg | exact Bq_eql_Pair | exact Bq_neq_Pair | exact Bq_eql_Op | exact Bq_neq_Op | exact Bq_eql_Cfg | exact Bq_neq_Cfg)); rfl)
          | refine sst ?_
          | refine VS_nil ?_
          | refine eeq ?_
          | refine ees ?_ (by first | exact es1 (by rfl) | exact esN (by rfl))
          | refine VE_nil ?_
          | refine kyes ?_
          | refine kno ?_
          | refine gyes ?_
          | refine gno ?_
          | refine knoU ?_
          | refine gnoU ?_
          | refine VG_nil ⟨by rfl, ?_⟩
          | refine VG_nil ?_
          | refine dT ?_
          | refine d1 ?_
          | refine dQ ?_
          | refine ctr ?_
          | refine cfa ?_
          | refine kdec (fun hq => ?_) (fun hq => ?_)
          | refine gdec (fun hq => ?_) (fun hq => ?_)
          | refine cco (fun hq => ?_) (fun hq => ?_))
        refine forQ_next (Q := fun _ _ => True) [0] (k + 1, M2) ⟨rfl, rfl, ⟨?_, trivial⟩, ⟨rfl, rfl, rfl, trivial⟩⟩ ⟨Nat.succ_le_of_lt hlt, hMx.trans hle2⟩ (by show X.length - (k + 1) < X.length - k; omega)
        show _ = some (Ob.row _ 2 ((X.take (k + 1)).flatMap (fun x => lfQ x.1)).length (((X.take (k + 1)).flatMap (fun x => lfQ x.1)).flatMap pairCells))
        rw [hlst, hlen2, hnil]
        simp only [List.flatMap_nil, List.append_nil, List.length_nil, Nat.add_zero]
        rfl
      · obtain ⟨b2, off2, he, hcl, hcells⟩ := SlM.flat (k := 2) (cells := pairCells) (fun a _ => rfl) hS2 (fun e => h0 (by rw [e]; rfl))
        subst he
        have h1 : ((rs.flatMap pairCells).all (·.oneCell')) = true := by simp [List.all_flatMap, Value.oneCell']
        refine VFs_e (by rfl) _ _ (fno (EF_appendM (bytes := 32) (rs.flatMap pairCells) (by rfl) (by rfl) (by rfl) hcl hcells (by omega) h1 (by unfold maxLen; omega) (by omega))) (by rfl) (by rfl) ?_ VFs_nil
        refine VF_step ?_
        refine VFs_e (by rfl) _ _ (fno (fq (qas (by rfl)))) (by rfl) (by rfl) ?_ VFs_nil
        refine VF_done ?_
        repeat' (first
          | refine VC_seq ?_
          | refine VC_region ?_
          | refine VL_nil ?_
          | refine VC_ret ?_
          | refine VC_exit ?_
          | refine VC_block ?_
          | refine VC_skip ?_
          | refine kbox ?_
          | refine kall ?_
          | refine kst ?_
          | refine ksN ?_
          | refine klt ?_
          | refine kl1 ?_
          | refine klK ?_
          | refine kap ?_
          | ((first | apply VL_q | apply VG_q | apply VS_q2); (first  | exact qmv (by rfl) | exact qas (by rfl) | exact ql1 (by rfl) | exact qlA (by rfl) | exact qfa (by rfl) | exact qmf (by rfl) | exact qfd (by rfl) | exact qm1 (by rfl) | exact qbd (by rfl) | exact qno (by rfl) | exact qex (by rfl) | exact qln (by rfl) | exact qls (by rfl) | exact qlr (by rfl) | exact qpt (by rfl) | exact qpf (by rfl) | exact qcp (by rfl) | exact qbe (by rfl) | exact qbn (by rfl) | exact qsn (by rfl) | exact qad (by rfl) | exact qsa (by rfl) | exact qsu (by rfl) | exact QS_bin (by rfl) (by rfl) (by first | exact B_slnil | exact Bq_eql_Msg | exact Bq_neq_Msg | exact Bq_eql_Pair | exact Bq_neq_Pair | exact Bq_eql_Op | exact Bq_neq_Op | exact Bq_eql_Cfg | exact Bq_neq_Cfg)); rfl)
          | refine sst ?_
          | refine VS_nil ?_
          | refine eeq ?_
          | refine ees ?_ (by first | exact es1 (by rfl) | exact esN (by rfl))
          | refine VE_nil ?_
          | refine kyes ?_
          | refine kno ?_
          | refine gyes ?_
          | refine gno ?_
          | refine knoU ?_
          | refine gnoU ?_
          | refine VG_nil ⟨by rfl, ?_⟩
          | refine VG_nil ?_
          | refine dT ?_
          | refine d1 ?_
          | refine dQ ?_
          | refine ctr ?_
          | refine cfa ?_
          | refine kdec (fun hq => ?_) (fun hq => ?_)
          | refine gdec (fun hq => ?_) (fun hq => ?_)
          | refine cco (fun hq => ?_) (fun hq => ?_))
        refine forQ_next (Q := fun _ _ => True) [1] (k + 1, M2) ⟨rfl, rfl, ⟨?_, trivial⟩, ⟨rfl, rfl, rfl, trivial⟩⟩ ⟨Nat.succ_le_of_lt hlt, hMx.trans hle2⟩ (by show X.length - (k + 1) < X.length - k; omega)
        show _ = some (Ob.row _ 2 ((X.take (k + 1)).flatMap (fun x => lfQ x.1)).length (((X.take (k + 1)).flatMap (fun x => lfQ x.1)).flatMap pairCells))
        rw [hlst, hlen2]; rfl
  · have hd := dge hge
    obtain rfl : k = X.length := by omega
    rw [List.take_length]
    repeat' (first
      | refine VC_seq ?_
      | refine VC_region ?_
      | refine VL_nil ?_
      | refine VC_ret ?_
      | refine VC_exit ?_
      | refine VC_block ?_
      | refine VC_skip ?_
      | refine kbox ?_
      | refine kall ?_
      | refine kst ?_
      | refine ksN ?_
      | refine klt ?_
      | refine kl1 ?_
      | refine klK ?_
      | refine kap ?_
      | ((first | apply VL_q | apply VG_q | apply VS_q2); (first  | exact qmv (by rfl) | exact qas (by rfl) | exact ql1 (by rfl) | exact qlA (by rfl) | exact qfa (by rfl) | exact qmf (by rfl) | exact qfd (by rfl) | exact qm1 (by rfl) | exact qbd (by rfl) | exact qno (by rfl) | exact qex (by rfl) | exact qln (by rfl) | exact qls (by rfl) | exact qlr (by rfl) | exact qpt (by rfl) | exact qpf (by rfl) | exact qcp (by rfl) | exact qbe (by rfl) | exact qbn (by rfl) | exact qsn (by rfl) | exact qad (by rfl) | exact qsa (by rfl) | exact qsu (by rfl) | exact QS_bin (by rfl) (by rfl) (by first | exact B_slnil | exact Bq_eql_Msg | exact Bq_neq_Msg | exact Bq_eql_Pair | exact Bq_neq_Pair | exact Bq_eql_Op | exact Bq_neq_Op | exact Bq_eql_Cfg | exact Bq_neq_Cfg)); rfl)
      | refine sst ?_
      | refine VS_nil ?_
      | refine eeq ?_
      | refine ees ?_ (by first | exact es1 (by rfl) | exact esN (by rfl))
      | refine VE_nil ?_
      | refine kyes ?_
      | refine kno ?_
      | refine gyes ?_
      | refine gno ?_
      | refine knoU ?_
      | refine gnoU ?_
      | refine VG_nil ⟨by rfl, ?_⟩
      | refine VG_nil ?_
      | refine dT ?_
      | refine d1 ?_
      | refine dQ ?_
      | refine ctr ?_
      | refine cfa ?_
      | refine kdec (fun hq => ?_) (fun hq => ?_)
      | refine gdec (fun hq => ?_) (fun hq => ?_)
      | refine cco (fun hq => ?_) (fun hq => ?_))
    refine .inr ⟨0, _, _, _, _, rfl, fun u M' hle hu => ⟨_, Res.one (by rfl) (ResV_tmp (by rfl) rfl), RowM.slM (fun _ _ => rfl) hu⟩⟩
/-! What a tree made at once is. -/
section
variable {l : List Pair} {L : List Nat}
theorem row_pairs (hS : Shape l L) (i : Nat) : (seatRow l L i).flatMap lfQ = if i = 0 then l else [] := by
  unfold seatRow
  rw [List.flatMap_map]
  by_cases h : i = 0
  · subst h
    rw [if_pos rfl]
    have h1 : (fun k => lfQ (seatF l L 0 k)) = rsF l L 0 := funext fun k => rfl
    rw [h1]
    exact leaves_join hS
  · rw [if_neg h, List.flatMap_eq_nil_iff]
    intro k _
    show lfQ (seatF l L i k) = []
    unfold lfQ
    rw [if_neg (by show ¬ ((i : Int) == 0) = true; rw [beq_iff_eq]; omega)]
theorem rows_pairs (hS : Shape l L) : (rowsF l L).flatten.flatMap lfQ = l := by
  have h1 : ∀ R : List (List Sq), R.flatten.flatMap lfQ = R.flatMap fun r => r.flatMap lfQ := fun R => by
    induction R with
    | nil => rfl
    | cons r R ih => rw [List.flatten_cons, List.flatMap_append, ih, List.flatMap_cons]
  rw [h1]
  unfold rowsF
  rw [List.flatMap_map]
  have h2 : (fun i => (seatRow l L i).flatMap lfQ) = fun i => if i = 0 then l else [] := funext fun i => row_pairs hS i
  rw [h2]
  have h3 : ∀ n, 0 < n → (List.range n).reverse.flatMap (fun i => if i = 0 then l else []) = l := fun n => by
    induction n with
    | zero => intro h; omega
    | succ n ih =>
      intro _
      rw [List.range_succ, List.reverse_append]
      show (if n = 0 then l else []) ++ (List.range n).reverse.flatMap _ = l
      by_cases h : n = 0
      · subst h; rw [if_pos rfl]; simp
      · rw [if_neg h, ih (by omega)]; rfl
  exact h3 _ hS.h
theorem par_le (hS : Shape l L) {i k : Nat} (hi : i < L.length) (hkL : k < L.getD i 0) : parF l L i k ≤ cntF l L i := by
  have := off_end hS hi hkL
  omega
theorem build_mem {n : Nd} (h : n ∈ buildF l L) : ∃ i k, i < L.length ∧ k < L.getD i 0 ∧ n = nodeF l L i k := by
  rw [← rows_nodes] at h
  obtain ⟨x, hx, rfl⟩ := List.mem_map.1 h
  obtain ⟨i, k, h1, h2, rfl⟩ := rows_mem hx
  exact ⟨i, k, h1, h2, rfl⟩
theorem cnt_bound {i : Nat} (hi : i < L.length) (hn : l.length ≤ 1000000) (hs : L.sum ≤ 1000000) : cntF l L i ≤ 1000000 := by
  unfold cntF
  by_cases h : i = 0
  · rw [if_pos h]; exact hn
  · rw [if_neg h]
    have := from_sum (L := L) (i := i - 1) (by omega)
    omega
theorem build_big (hS : Shape l L) (hk : KeysUp l) (hn : l.length ≤ 1000000) (hs : L.sum ≤ 1000000) {n : Nd} (h : n ∈ buildF l L) : n.Big ∧ n.In := by
  obtain ⟨i, k, hi, hkL, rfl⟩ := build_mem h
  have hpl := par_le hS hi hkL
  have hcb := cnt_bound (l := l) hi hn hs
  have hfs := from_sum hi
  have hhi : (nodeF l L i k).high.size ≤ 16 := by
    show (if k + 1 < L.getD i 0 then loF l L i (k + 1) else em).size ≤ 16
    by_cases h2 : k + 1 < L.getD i 0
    · rw [if_pos h2]; exact lo_size hS hk i hi _ h2
    · rw [if_neg h2]; decide
  have hps : ∀ s ∈ psF l L i k, s.size ≤ 16 := fun s hs2 => by
    cases i with
    | zero => cases hs2
    | succ i => exact (ps_facts hS hk hi hkL hs2).2.1
  have hrs : ∀ p ∈ rsF l L i k, p.key.size ≤ 16 ∧ p.val.size ≤ 16 := fun p hp => by
    cases i with
    | zero =>
      unfold rsF at hp
      rw [if_pos rfl] at hp
      exact hk.sz p (List.mem_of_mem_drop (List.mem_of_mem_take hp))
    | succ i => unfold rsF at hp; rw [if_neg (by omega)] at hp; cases hp
  have hpl2 : (psF l L i k).length ≤ 1000000 := by
    unfold psF
    split
    · exact Nat.zero_le _
    · rw [List.length_map, List.length_range]; omega
  have hkl2 : (ksF l L i k).length ≤ 1000000 := by
    unfold ksF
    split
    · exact Nat.zero_le _
    · rw [List.length_map, List.length_range]; omega
  have hrl2 : (rsF l L i k).length ≤ 1000000 := by
    unfold rsF
    split
    · rw [List.length_take, List.length_drop]; omega
    · exact Nat.zero_le _
  have hks : ∀ x ∈ ksF l L i k, I64 x := fun x hx => by
    unfold ksF at hx
    split at hx
    · cases hx
    · rename_i h0
      obtain ⟨j, hj, rfl⟩ := List.mem_map.1 hx
      have hj' := List.mem_range.1 hj
      have h3 := from_sum (L := L) (i := i - 1) (by omega)
      have he := off_end hS hi hkL
      have hc : cntF l L i = L.getD (i - 1) 0 := if_neg h0
      unfold I64
      omega
  have hLl : L.length ≤ L.sum := by
    have : ∀ (L : List Nat), (∀ i, i < L.length → 1 ≤ L.getD i 0) → L.length ≤ L.sum := fun L => by
      induction L with
      | nil => intro _; simp
      | cons a t ih =>
        intro h
        have h1 := h 0 (by simp)
        have h2 := ih (fun i hi => by have := h (i + 1) (by simp; omega); simpa using this)
        simp at h1 ⊢; omega
    exact this L hS.pos
  have hright : I64 (nodeF l L i k).right := by
    show I64 (if k + 1 < L.getD i 0 then ((fromF L i + k + 1 : Nat) : Int) else -1)
    unfold I64
    split <;> omega
  refine ⟨⟨by omega, fun s h => by have := hps s h; omega, hpl2, hkl2, fun m h => (by cases h), Nat.zero_le _, fun p h => by have := hrs p h; omega, hrl2, fun m h => (by cases h)⟩, ⟨?_, ?_, hright, ?_, ?_, fun s h => ?_, hks, fun m h => (by cases h), fun p h => ?_⟩⟩
  · show I64 ((fromF L i + k : Nat) : Int); unfold I64; omega
  · show I64 (i : Int); unfold I64; omega
  · show I64 0; unfold I64; omega
  · unfold Sz; omega
  · have := hps s h; unfold Sz; omega
  · have := hrs p h; exact ⟨by unfold Sz; omega, by unfold Sz; omega⟩
end
end Go.Proofs.Ytclbmfepdlffnaa
