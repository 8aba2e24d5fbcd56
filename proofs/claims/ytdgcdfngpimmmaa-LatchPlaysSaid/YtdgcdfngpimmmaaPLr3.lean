/- The document's table of latches: Without, All: walks by names. -/
import Derived.Test.YtdgcdfngpimmmaaPLr2
namespace Go.Proofs.Ytdgcdfngpimmmaa
open Go Go.RowKit
attribute [local irreducible] Calls
set_option linter.unusedVariables false
set_option maxRecDepth 20000
set_option linter.unusedSimpArgs false
set_option maxHeartbeats 4000000
theorem flat_dropH {L : List Hld} {k : Nat} (h : k < L.length) : ((L.flatMap holdK).drop (0 + k * 3)).take 3 = holdK L[k] := by
  apply List.ext_getElem?
  intro q
  rw [Nat.zero_add, List.getElem?_take]
  by_cases hq : q < 3
  · rw [if_pos hq, List.getElem?_drop]
    exact flat_get (k := 3) (cells := holdK) L k q h (fun _ _ => rfl) hq
  · rw [if_neg hq, List.getElem?_eq_none (by show 3 ≤ q; omega)]
def keepW (th sl : Int) (any : Bool) (h : Hld) : Bool := (h.thread != th) || (!any && (h.slot != sl))
theorem filt_step {α : Type} {l : List α} {k : Nat} (h : k < l.length) (p : α → Bool) : (l.take (k + 1)).filter p = (l.take k).filter p ++ (if p l[k] = true then [l[k]] else []) := by
  rw [List.take_succ_eq_append_getElem h, List.filter_append]
  congr 1
  cases hc : p l[k] <;> simp [hc]
theorem ref_WithoutX (b : Nat) (N : Int) (u : Value) (L : List Hld) (th sl : Int) (any : Bool) (M : Mem) (hu : NSh u L.length) (hn : L.length ≤ 1000000) :
    CallX Try.prog 46 [.pointer (some ⟨b, 0, none⟩), .int .i64 th, .int .i64 sl, .bool any] M (rfOb b N u L) (RfPost b N ((L.length : Int) - ((L.filter (keepW th sl any)).length : Nat), L.filter (keepW th sl any))) := by
  refine V_x Try.func46 rfl Try.ntmps46 (by rfl) (fun w M0 => ?_)
  obtain ⟨Au, cu, rfl⟩ := hu.sl
  unfold rfOb
  refine VC_seq ?_
  refine VC_region ?_
  apply VL_q
  · exact qas (by rfl)
  · rfl
  refine VL_nil ?_
  refine VC_seq ?_
  refine VC_region ?_
  apply VL_q
  · exact qas (by rfl)
  · rfl
  refine VL_nil ?_
  refine VC_nilR 9 90 3 (by rfl) (by rfl) ?_
  have hfl : ∀ k, ((L.take k).filter (keepW th sl any)).length ≤ L.length := fun k => by
    have h1 := List.length_filter_le (keepW th sl any) (L.take k)
    rw [List.length_take] at h1
    omega
  repeat' (first
    | refine VC_seq ?_
    | refine VC_region ?_
    | refine VL_nil ?_
    | refine VC_ret ?_
    | refine VC_exit ?_
    | refine VC_block ?_
    | refine VC_skip ?_
    | refine kbox ?_
    | refine kall ?_
    | refine kst ?_
    | refine ksN ?_
    | refine klt ?_
    | refine kl1 ?_
    | refine klK ?_
    | refine kap ?_
    | ((first | apply VL_q | apply VG_q | apply VS_q2); (first  | exact qmv (by rfl) | exact qas (by rfl) | exact ql1 (by rfl) | exact qlA (by rfl) | exact qfa (by rfl) | exact qmf (by rfl) | exact qfd (by rfl) | exact qm1 (by rfl) | exact qbd (by rfl) | exact qno (by rfl) | exact qex (by rfl) | exact qln (by rfl) | exact qls (by rfl) | exact qlr (by rfl) | exact qpt (by rfl) | exact qpf (by rfl) | exact qcp (by rfl) | exact qbe (by rfl) | exact qbn (by rfl) | exact qsn (by rfl) | exact qad (by rfl) | exact qsa (by rfl) | exact qsu (by rfl) | exact QS_bin (by rfl) (by rfl) (by first | exact B_slnil | exact Bq_eql_Msg | exact Bq_neq_Msg | exact Bq_eql_Pair | exact Bq_neq_Pair | exact Bq_eql_Op | exact Bq_neq_Op | exact Bq_eql_Cfg | exact Bq_neq_Cfg)); rfl)
    | refine sst ?_
    | refine VS_nil ?_
    | refine eeq ?_
    | refine ees ?_ (by first | exact es1 (by rfl) | exact esN (by rfl))
    | refine VE_nil ?_
    | refine kyes ?_
    | refine kno ?_
    | refine gyes ?_
    | refine gno ?_
    | refine knoU ?_
    | refine gnoU ?_
    | refine VG_nil ⟨by rfl, ?_⟩
    | refine VG_nil ?_
    | refine dT ?_
    | refine d1 ?_
    | refine dQ ?_
    | refine ctr ?_
    | refine cfa ?_
    | refine kdec (fun hq => ?_) (fun hq => ?_)
    | refine gdec (fun hq => ?_) (fun hq => ?_)
    | refine cco (fun hq => ?_) (fun hq => ?_))
  refine VC_for (fun k : Nat => ⟨M, [.nblk (.pointer (some ⟨b, 0, none⟩)) 94 [.int .i64 N, .slice Au L.length cu], .nrow (.slice Au L.length cu) 90 3 L.length (L.flatMap holdK), .row 90 3 ((L.take k).filter (keepW th sl any)).length (((L.take k).filter (keepW th sl any)).flatMap holdK)], [(0, .v (.pointer (some ⟨b, 0, none⟩))), (1, .v (.int .i64 th)), (2, .v (.int .i64 sl)), (3, .v (.bool any)), (9, .r 2), (10, .v (.int .i64 k))]⟩) (fun k => k ≤ L.length) (fun k => L.length - k) [0, 1, 2] 0 ⟨rfl, rfl, ⟨rfl, rfl, rfl, trivial⟩, ⟨rfl, rfl, rfl, rfl, rfl, rfl, trivial⟩⟩ (by omega) ?_
  intro k hk
  rcases Nat.lt_or_ge k L.length with hlt | hge
  · have hd := dlt hlt
    obtain ⟨gb, cap, hus⟩ := hu.some (by omega)
    injection hus with hus _ hus2
    subst hus hus2
    obtain ⟨g1, g2, g3⟩ := flat_getH hlt
    have k1 : (L.flatMap holdK)[0 + k * 3 + 0]? = some (.int .i64 L[k].thread) := by rw [Nat.zero_add]; exact g1
    have k2 : (L.flatMap holdK)[0 + k * 3 + 1]? = some (.int .i64 L[k].slot) := by rw [Nat.zero_add]; exact g2
    have k4 : Value.agg (((L.flatMap holdK).drop (0 + k * 3)).take 3).toArray = holdV L[k] := by rw [flat_dropH hlt]
    have k5 : 0 + k * 3 + 3 ≤ (L.flatMap holdK).length := by rw [hold_len]; omega
    have hst := filt_step hlt (keepW th sl any)
    have hkw : keepW th sl any L[k] = ((L[k].thread != th) || (!any && (L[k].slot != sl))) := rfl
    have hb := hfl k
    have fin : keepW th sl any L[k] = true → some (Ob.row 90 3 (((L.take k).filter (keepW th sl any)).length + 1) (((L.take k).filter (keepW th sl any)).flatMap holdK ++ holdK L[k])) = some (Ob.row 90 3 ((L.take (k + 1)).filter (keepW th sl any)).length (((L.take (k + 1)).filter (keepW th sl any)).flatMap holdK)) := fun h => by
      rw [h, if_pos rfl] at hst
      rw [hst, List.length_append, List.flatMap_append]; simp
    have fin2 : keepW th sl any L[k] = false → some (Ob.row 90 3 ((L.take k).filter (keepW th sl any)).length (((L.take k).filter (keepW th sl any)).flatMap holdK)) = some (Ob.row 90 3 ((L.take (k + 1)).filter (keepW th sl any)).length (((L.take (k + 1)).filter (keepW th sl any)).flatMap holdK)) := fun h => by
      rw [h, if_neg (by simp), List.append_nil] at hst
      rw [hst]
    generalize (L.take k).filter (keepW th sl any) = acc at *
    generalize hLk : L[k] = x at *
    obtain ⟨xt, xs, xw⟩ := x
    dsimp only at *
    cases c1 : (xt != th) with
    | true =>
      rw [c1] at hkw
      repeat' (first
        | refine VC_seq ?_
        | refine VC_region ?_
        | refine VL_nil ?_
        | refine VC_ret ?_
        | refine VC_exit ?_
        | refine VC_block ?_
        | refine VC_skip ?_
        | refine kbox ?_
        | refine kall ?_
        | refine kst ?_
        | refine ksN ?_
        | refine klt ?_
        | refine kl1 ?_
        | refine klK ?_
        | refine kap ?_
        | ((first | apply VL_q | apply VG_q | apply VS_q2); (first | exact qni (by rfl) | exact QS_indexAddr k (by rfl) (by rfl) rfl hlt | exact QS_nload1 0 (by rfl) (by rfl) (by rfl) (by rfl) | exact QS_nload1 1 (by rfl) (by rfl) (by rfl) k1 | exact QS_nload1 1 (by rfl) (by rfl) (by rfl) k2 | exact QS_is k4 (QS_nloadN 1 (o := .nrow (.slice (some ⟨gb, 0, none⟩) L.length cu) 90 3 L.length (L.flatMap holdK)) (by rfl) (by rfl) (by rfl) k5) | exact qmv (by rfl) | exact qas (by rfl) | exact ql1 (by rfl) | exact qlA (by rfl) | exact qfa (by rfl) | exact qmf (by rfl) | exact qfd (by rfl) | exact qm1 (by rfl) | exact qbd (by rfl) | exact qno (by rfl) | exact qex (by rfl) | exact qln (by rfl) | exact qls (by rfl) | exact qlr (by rfl) | exact qpt (by rfl) | exact qpf (by rfl) | exact qcp (by rfl) | exact qbe (by rfl) | exact qbn (by rfl) | exact qsn (by rfl) | exact qad (by rfl) | exact qsa (by rfl) | exact qsu (by rfl) | exact QS_bin (by rfl) (by rfl) (by first | exact B_slnil | exact Bq_eql_Msg | exact Bq_neq_Msg | exact Bq_eql_Pair | exact Bq_neq_Pair | exact Bq_eql_Op | exact Bq_neq_Op | exact Bq_eql_Cfg | exact Bq_neq_Cfg)); rfl)
        | refine sst ?_
        | refine VS_nil ?_
        | refine eeq ?_
        | refine ees ?_ (by first | exact es1 (by rfl) | exact esN (by rfl))
        | refine VE_nil ?_
        | refine kyes ?_
        | refine kno ?_
        | refine gyes ?_
        | refine gno ?_
        | refine knoU ?_
        | refine gnoU ?_
        | refine VG_nil ⟨by rfl, ?_⟩
        | refine VG_nil ?_
        | refine dT ?_
        | refine d1 ?_
        | refine dQ ?_
        | refine ctr ?_
        | refine cfa ?_
        | refine kdec (fun hq => ?_) (fun hq => ?_)
        | refine gdec (fun hq => ?_) (fun hq => ?_)
        | refine cco (fun hq => ?_) (fun hq => ?_))
      exact forQ_next (Q := fun _ _ => True) [0, 1, 4] (k + 1) ⟨rfl, rfl, ⟨rfl, rfl, fin hkw, trivial⟩, ⟨rfl, rfl, rfl, rfl, rfl, rfl, trivial⟩⟩ (by omega) (by omega)
    | false =>
      cases any with
      | true =>
        rw [c1] at hkw
        repeat' (first
          | refine VC_seq ?_
          | refine VC_region ?_
          | refine VL_nil ?_
          | refine VC_ret ?_
          | refine VC_exit ?_
          | refine VC_block ?_
          | refine VC_skip ?_
          | refine kbox ?_
          | refine kall ?_
          | refine kst ?_
          | refine ksN ?_
          | refine klt ?_
          | refine kl1 ?_
          | refine klK ?_
          | refine kap ?_
          | ((first | apply VL_q | apply VG_q | apply VS_q2); (first | exact qni (by rfl) | exact QS_indexAddr k (by rfl) (by rfl) rfl hlt | exact QS_nload1 0 (by rfl) (by rfl) (by rfl) (by rfl) | exact QS_nload1 1 (by rfl) (by rfl) (by rfl) k1 | exact QS_nload1 1 (by rfl) (by rfl) (by rfl) k2 | exact QS_is k4 (QS_nloadN 1 (o := .nrow (.slice (some ⟨gb, 0, none⟩) L.length cu) 90 3 L.length (L.flatMap holdK)) (by rfl) (by rfl) (by rfl) k5) | exact qmv (by rfl) | exact qas (by rfl) | exact ql1 (by rfl) | exact qlA (by rfl) | exact qfa (by rfl) | exact qmf (by rfl) | exact qfd (by rfl) | exact qm1 (by rfl) | exact qbd (by rfl) | exact qno (by rfl) | exact qex (by rfl) | exact qln (by rfl) | exact qls (by rfl) | exact qlr (by rfl) | exact qpt (by rfl) | exact qpf (by rfl) | exact qcp (by rfl) | exact qbe (by rfl) | exact qbn (by rfl) | exact qsn (by rfl) | exact qad (by rfl) | exact qsa (by rfl) | exact qsu (by rfl) | exact QS_bin (by rfl) (by rfl) (by first | exact B_slnil | exact Bq_eql_Msg | exact Bq_neq_Msg | exact Bq_eql_Pair | exact Bq_neq_Pair | exact Bq_eql_Op | exact Bq_neq_Op | exact Bq_eql_Cfg | exact Bq_neq_Cfg)); rfl)
          | refine sst ?_
          | refine VS_nil ?_
          | refine eeq ?_
          | refine ees ?_ (by first | exact es1 (by rfl) | exact esN (by rfl))
          | refine VE_nil ?_
          | refine kyes ?_
          | refine kno ?_
          | refine gyes ?_
          | refine gno ?_
          | refine knoU ?_
          | refine gnoU ?_
          | refine VG_nil ⟨by rfl, ?_⟩
          | refine VG_nil ?_
          | refine dT ?_
          | refine d1 ?_
          | refine dQ ?_
          | refine ctr ?_
          | refine cfa ?_
          | refine kdec (fun hq => ?_) (fun hq => ?_)
          | refine gdec (fun hq => ?_) (fun hq => ?_)
          | refine cco (fun hq => ?_) (fun hq => ?_))
        exact forQ_next (Q := fun _ _ => True) [0, 1, 2] (k + 1) ⟨rfl, rfl, ⟨rfl, rfl, fin2 hkw, trivial⟩, ⟨rfl, rfl, rfl, rfl, rfl, rfl, trivial⟩⟩ (by omega) (by omega)
      | false =>
        cases c2 : (xs != sl) with
        | true =>
          rw [c1, c2] at hkw
          repeat' (first
            | refine VC_seq ?_
            | refine VC_region ?_
            | refine VL_nil ?_
            | refine VC_ret ?_
            | refine VC_exit ?_
            | refine VC_block ?_
            | refine VC_skip ?_
            | refine kbox ?_
            | refine kall ?_
            | refine kst ?_
            | refine ksN ?_
            | refine klt ?_
            | refine kl1 ?_
            | refine klK ?_
            | refine kap ?_
            | ((first | apply VL_q | apply VG_q | apply VS_q2); (first | exact qni (by rfl) | exact QS_indexAddr k (by rfl) (by rfl) rfl hlt | exact QS_nload1 0 (by rfl) (by rfl) (by rfl) (by rfl) | exact QS_nload1 1 (by rfl) (by rfl) (by rfl) k1 | exact QS_nload1 1 (by rfl) (by rfl) (by rfl) k2 | exact QS_is k4 (QS_nloadN 1 (o := .nrow (.slice (some ⟨gb, 0, none⟩) L.length cu) 90 3 L.length (L.flatMap holdK)) (by rfl) (by rfl) (by rfl) k5) | exact qmv (by rfl) | exact qas (by rfl) | exact ql1 (by rfl) | exact qlA (by rfl) | exact qfa (by rfl) | exact qmf (by rfl) | exact qfd (by rfl) | exact qm1 (by rfl) | exact qbd (by rfl) | exact qno (by rfl) | exact qex (by rfl) | exact qln (by rfl) | exact qls (by rfl) | exact qlr (by rfl) | exact qpt (by rfl) | exact qpf (by rfl) | exact qcp (by rfl) | exact qbe (by rfl) | exact qbn (by rfl) | exact qsn (by rfl) | exact qad (by rfl) | exact qsa (by rfl) | exact qsu (by rfl) | exact QS_bin (by rfl) (by rfl) (by first | exact B_slnil | exact Bq_eql_Msg | exact Bq_neq_Msg | exact Bq_eql_Pair | exact Bq_neq_Pair | exact Bq_eql_Op | exact Bq_neq_Op | exact Bq_eql_Cfg | exact Bq_neq_Cfg)); rfl)
            | refine sst ?_
            | refine VS_nil ?_
            | refine eeq ?_
            | refine ees ?_ (by first | exact es1 (by rfl) | exact esN (by rfl))
            | refine VE_nil ?_
            | refine kyes ?_
            | refine kno ?_
            | refine gyes ?_
            | refine gno ?_
            | refine knoU ?_
            | refine gnoU ?_
            | refine VG_nil ⟨by rfl, ?_⟩
            | refine VG_nil ?_
            | refine dT ?_
            | refine d1 ?_
            | refine dQ ?_
            | refine ctr ?_
            | refine cfa ?_
            | refine kdec (fun hq => ?_) (fun hq => ?_)
            | refine gdec (fun hq => ?_) (fun hq => ?_)
            | refine cco (fun hq => ?_) (fun hq => ?_))
          exact forQ_next (Q := fun _ _ => True) [0, 1, 4] (k + 1) ⟨rfl, rfl, ⟨rfl, rfl, fin hkw, trivial⟩, ⟨rfl, rfl, rfl, rfl, rfl, rfl, trivial⟩⟩ (by omega) (by omega)
        | false =>
          rw [c1, c2] at hkw
          repeat' (first
            | refine VC_seq ?_
            | refine VC_region ?_
            | refine VL_nil ?_
            | refine VC_ret ?_
            | refine VC_exit ?_
            | refine VC_block ?_
            | refine VC_skip ?_
            | refine kbox ?_
            | refine kall ?_
            | refine kst ?_
            | refine ksN ?_
            | refine klt ?_
            | refine kl1 ?_
            | refine klK ?_
            | refine kap ?_
            | ((first | apply VL_q | apply VG_q | apply VS_q2); (first | exact qni (by rfl) | exact QS_indexAddr k (by rfl) (by rfl) rfl hlt | exact QS_nload1 0 (by rfl) (by rfl) (by rfl) (by rfl) | exact QS_nload1 1 (by rfl) (by rfl) (by rfl) k1 | exact QS_nload1 1 (by rfl) (by rfl) (by rfl) k2 | exact QS_is k4 (QS_nloadN 1 (o := .nrow (.slice (some ⟨gb, 0, none⟩) L.length cu) 90 3 L.length (L.flatMap holdK)) (by rfl) (by rfl) (by rfl) k5) | exact qmv (by rfl) | exact qas (by rfl) | exact ql1 (by rfl) | exact qlA (by rfl) | exact qfa (by rfl) | exact qmf (by rfl) | exact qfd (by rfl) | exact qm1 (by rfl) | exact qbd (by rfl) | exact qno (by rfl) | exact qex (by rfl) | exact qln (by rfl) | exact qls (by rfl) | exact qlr (by rfl) | exact qpt (by rfl) | exact qpf (by rfl) | exact qcp (by rfl) | exact qbe (by rfl) | exact qbn (by rfl) | exact qsn (by rfl) | exact qad (by rfl) | exact qsa (by rfl) | exact qsu (by rfl) | exact QS_bin (by rfl) (by rfl) (by first | exact B_slnil | exact Bq_eql_Msg | exact Bq_neq_Msg | exact Bq_eql_Pair | exact Bq_neq_Pair | exact Bq_eql_Op | exact Bq_neq_Op | exact Bq_eql_Cfg | exact Bq_neq_Cfg)); rfl)
            | refine sst ?_
            | refine VS_nil ?_
            | refine eeq ?_
            | refine ees ?_ (by first | exact es1 (by rfl) | exact esN (by rfl))
            | refine VE_nil ?_
            | refine kyes ?_
            | refine kno ?_
            | refine gyes ?_
            | refine gno ?_
            | refine knoU ?_
            | refine gnoU ?_
            | refine VG_nil ⟨by rfl, ?_⟩
            | refine VG_nil ?_
            | refine dT ?_
            | refine d1 ?_
            | refine dQ ?_
            | refine ctr ?_
            | refine cfa ?_
            | refine kdec (fun hq => ?_) (fun hq => ?_)
            | refine gdec (fun hq => ?_) (fun hq => ?_)
            | refine cco (fun hq => ?_) (fun hq => ?_))
          exact forQ_next (Q := fun _ _ => True) [0, 1, 2] (k + 1) ⟨rfl, rfl, ⟨rfl, rfl, fin2 hkw, trivial⟩, ⟨rfl, rfl, rfl, rfl, rfl, rfl, trivial⟩⟩ (by omega) (by omega)
  · have hd := dge hge
    obtain rfl : k = L.length := by omega
    rw [List.take_length]
    have hb := hfl L.length
    rw [List.take_length] at hb
    generalize hleft : L.filter (keepW th sl any) = left at *
    repeat' (first
      | refine VC_seq ?_
      | refine VC_region ?_
      | refine VL_nil ?_
      | refine VC_ret ?_
      | refine VC_exit ?_
      | refine VC_block ?_
      | refine VC_skip ?_
      | refine kbox ?_
      | refine kall ?_
      | refine kst ?_
      | refine ksN ?_
      | refine klt ?_
      | refine kl1 ?_
      | refine klK ?_
      | refine kap ?_
      | ((first | apply VL_q | apply VG_q | apply VS_q2); (first | exact qni (by rfl) | exact QS_nload1 0 (by rfl) (by rfl) (by rfl) (by rfl) | exact qmv (by rfl) | exact qas (by rfl) | exact ql1 (by rfl) | exact qlA (by rfl) | exact qfa (by rfl) | exact qmf (by rfl) | exact qfd (by rfl) | exact qm1 (by rfl) | exact qbd (by rfl) | exact qno (by rfl) | exact qex (by rfl) | exact qln (by rfl) | exact qls (by rfl) | exact qlr (by rfl) | exact qpt (by rfl) | exact qpf (by rfl) | exact qcp (by rfl) | exact qbe (by rfl) | exact qbn (by rfl) | exact qsn (by rfl) | exact qad (by rfl) | exact qsa (by rfl) | exact qsu (by rfl) | exact QS_bin (by rfl) (by rfl) (by first | exact B_slnil | exact Bq_eql_Msg | exact Bq_neq_Msg | exact Bq_eql_Pair | exact Bq_neq_Pair | exact Bq_eql_Op | exact Bq_neq_Op | exact Bq_eql_Cfg | exact Bq_neq_Cfg)); rfl)
      | refine sst ?_
      | refine VS_nil ?_
      | refine eeq ?_
      | refine ees ?_ (by first | exact es1 (by rfl) | exact esN (by rfl))
      | refine VE_nil ?_
      | refine kyes ?_
      | refine kno ?_
      | refine gyes ?_
      | refine gno ?_
      | refine knoU ?_
      | refine gnoU ?_
      | refine VG_nil ⟨by rfl, ?_⟩
      | refine VG_nil ?_
      | refine dT ?_
      | refine d1 ?_
      | refine dQ ?_
      | refine ctr ?_
      | refine cfa ?_
      | refine kdec (fun hq => ?_) (fun hq => ?_)
      | refine gdec (fun hq => ?_) (fun hq => ?_)
      | refine cco (fun hq => ?_) (fun hq => ?_))
    refine VL_nameR 2 (by rfl) (fun v hv => ?_)
    have hvo := hv.one
    repeat' (first
      | refine knb 0 ?_ (hu := hvo)
      | refine VC_seq ?_
      | refine VC_region ?_
      | refine VL_nil ?_
      | refine VC_ret ?_
      | refine VC_exit ?_
      | refine VC_block ?_
      | refine VC_skip ?_
      | refine kbox ?_
      | refine kall ?_
      | refine kst ?_
      | refine ksN ?_
      | refine klt ?_
      | refine kl1 ?_
      | refine klK ?_
      | refine kap ?_
      | ((first | apply VL_q | apply VG_q | apply VS_q2); (first | exact qni (by rfl) | exact qmv (by rfl) | exact qas (by rfl) | exact ql1 (by rfl) | exact qlA (by rfl) | exact qfa (by rfl) | exact qmf (by rfl) | exact qfd (by rfl) | exact qm1 (by rfl) | exact qbd (by rfl) | exact qno (by rfl) | exact qex (by rfl) | exact qln (by rfl) | exact qls (by rfl) | exact qlr (by rfl) | exact qpt (by rfl) | exact qpf (by rfl) | exact qcp (by rfl) | exact qbe (by rfl) | exact qbn (by rfl) | exact qsn (by rfl) | exact qad (by rfl) | exact qsa (by rfl) | exact qsu (by rfl) | exact QS_bin (by rfl) (by rfl) (by first | exact B_slnil | exact Bq_eql_Msg | exact Bq_neq_Msg | exact Bq_eql_Pair | exact Bq_neq_Pair | exact Bq_eql_Op | exact Bq_neq_Op | exact Bq_eql_Cfg | exact Bq_neq_Cfg)); rfl)
      | refine sst ?_
      | refine VS_nil ?_
      | refine eeq ?_
      | refine ees ?_ (by first | exact es1 (by rfl) | exact esN (by rfl))
      | refine VE_nil ?_
      | refine kyes ?_
      | refine kno ?_
      | refine gyes ?_
      | refine gno ?_
      | refine knoU ?_
      | refine gnoU ?_
      | refine VG_nil ⟨by rfl, ?_⟩
      | refine VG_nil ?_
      | refine dT ?_
      | refine d1 ?_
      | refine dQ ?_
      | refine ctr ?_
      | refine cfa ?_
      | refine kdec (fun hq => ?_) (fun hq => ?_)
      | refine gdec (fun hq => ?_) (fun hq => ?_)
      | refine cco (fun hq => ?_) (fun hq => ?_))
    exact ⟨_, [0, 2], rfOb b N v left, Res.one (by rfl) (ResV_tmp (by rfl) rfl), Mem.le_refl _, rfl, ⟨rfl, rfl, trivial⟩, rfl, v, hv, rfl⟩
end Go.Proofs.Ytdgcdfngpimmmaa
