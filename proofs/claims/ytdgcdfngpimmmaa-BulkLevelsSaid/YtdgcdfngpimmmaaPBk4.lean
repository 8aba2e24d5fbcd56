/- The bulk layer: a level's nodes led to one another. -/
import Derived.Test.YtdgcdfngpimmmaaPBk3
namespace Go.Proofs.Ytdgcdfngpimmmaa
open Go Go.RowKit
attribute [local irreducible] Calls
set_option linter.unusedVariables false
set_option maxRecDepth 20000
set_option linter.unusedSimpArgs false
set_option maxHeartbeats 4000000
def Pt.Sh (q : Pt) : Prop := (∃ A n c, q.kv = .slice A n c) ∧ (∃ A n c, q.rv = .slice A n c) ∧ (∃ A n c, q.pv = .slice A n c) ∧ (∃ A n c, q.mv = .slice A n c)
theorem Pt.Is.sh {q : Pt} {lev : Int} {kn rn : Nat} (h : q.Is lev kn rn) : q.Sh := by
  obtain ⟨_, ⟨A, c, h1⟩, ⟨B, d, h2⟩, h3, h4⟩ := h
  exact ⟨⟨A, kn, c, h1⟩, ⟨B, rn, d, h2⟩, h3, h4⟩
def Pt.Like (q q0 : Pt) : Prop := q.kv = q0.kv ∧ q.rv = q0.rv ∧ q.pv = q0.pv ∧ q.mv = q0.mv
theorem bulk_link (v : Value) (ps : List Pt) (from0 : Nat) (w : World) (M : Mem) (hM : M.le (Mem.of w)) (hl : SlM M 11 ptK v ps) (hsh : ∀ (i : Nat) (q : Pt), ps[i]? = some q → q.Sh) (hn : ps.length ≤ 1000000) (hf : from0 ≤ 1000000) :
    Calls Try.prog 66 #[v, .int .i64 from0] w (RetM M w (fun u M' => ∃ ns : List Pt, SlM M' 10 ndK u ns ∧ ns.length = ps.length ∧ ∀ (i : Nat) (q : Pt), ns[i]? = some q → ∃ q0 : Pt, ps[i]? = some q0 ∧ q.Like q0)) := by
  obtain ⟨A, c, rfl, hc1, hc2, _⟩ := id hl
  unfold maxLen at hc2
  refine V_ret (args := [.slice A ps.length c, .int .i64 from0]) (M := M) Try.func66 rfl Try.ntmps66 (by rfl) hM _ ?_
  refine VC_frzQ ?_
  repeat' (first
    | refine VC_seq ?_
    | refine VC_region ?_
    | refine VL_nil ?_
    | refine VC_ret ?_
    | refine VC_exit ?_
    | refine VC_block ?_
    | refine VC_skip ?_
    | refine kbox ?_
    | refine kall ?_
    | refine kst ?_
    | refine ksN ?_
    | refine klt ?_
    | refine kl1 ?_
    | refine klK ?_
    | refine kap ?_
    | ((first | apply VL_q | apply VG_q | apply VS_q2); (first  | exact qmv (by rfl) | exact qas (by rfl) | exact ql1 (by rfl) | exact qlA (by rfl) | exact qfa (by rfl) | exact qmf (by rfl) | exact qfd (by rfl) | exact qm1 (by rfl) | exact qbd (by rfl) | exact qno (by rfl) | exact qex (by rfl) | exact qln (by rfl) | exact qls (by rfl) | exact qlr (by rfl) | exact qpt (by rfl) | exact qpf (by rfl) | exact qcp (by rfl) | exact qbe (by rfl) | exact qbn (by rfl) | exact qsn (by rfl) | exact qad (by rfl) | exact qsa (by rfl) | exact qsu (by rfl) | exact QS_bin (by rfl) (by rfl) (by first | exact B_slnil | exact Bq_eql_Msg | exact Bq_neq_Msg | exact Bq_eql_Pair | exact Bq_neq_Pair | exact Bq_eql_Op | exact Bq_neq_Op | exact Bq_eql_Cfg | exact Bq_neq_Cfg)); rfl)
    | refine sst ?_
    | refine VS_nil ?_
    | refine eeq ?_
    | refine ees ?_ (by first | exact es1 (by rfl) | exact esN (by rfl))
    | refine VE_nil ?_
    | refine kyes ?_
    | refine kno ?_
    | refine gyes ?_
    | refine gno ?_
    | refine knoU ?_
    | refine gnoU ?_
    | refine VG_nil ⟨by rfl, ?_⟩
    | refine VG_nil ?_
    | refine dT ?_
    | refine d1 ?_
    | refine dQ ?_
    | refine ctr ?_
    | refine cfa ?_
    | refine kdec (fun hq => ?_) (fun hq => ?_)
    | refine gdec (fun hq => ?_) (fun hq => ?_)
    | refine cco (fun hq => ?_) (fun hq => ?_))
  refine VC_nilR 5 64 10 (by rfl) (by rfl) ?_
  refine VC_for (fun x : List Pt => ⟨M, [.row 64 10 x.length (x.flatMap ndK)], [(0, .v (.slice A ps.length c)), (1, .v (.int .i64 from0)), (5, .r 0), (8, .v (.slice A ps.length c)), (9, .v (.int .i64 ps.length)), (10, .v (.int .i64 x.length))]⟩) (fun x => x.length ≤ ps.length ∧ ∀ (i : Nat) (q : Pt), x[i]? = some q → ∃ q0 : Pt, ps[i]? = some q0 ∧ q.Like q0) (fun x => ps.length - x.length) [0] [] ⟨rfl, rfl, ⟨rfl, trivial⟩, ⟨rfl, rfl, rfl, rfl, rfl, rfl, trivial⟩⟩ ⟨Nat.zero_le _, fun i q h => by simp at h⟩ ?_
  rintro acc ⟨hk, hacc⟩
  generalize hkk : acc.length = k at *
  rcases Nat.lt_or_ge k ps.length with hlt | hge
  · have hd := dlt hlt
    obtain ⟨b, off, rfl, hcA⟩ := hl.get hlt
    have hgk : ps[k]? = some ps[k] := List.getElem?_eq_getElem hlt
    have hs := hsh k _ hgk
    have row : ∀ (x : Pt), some (Ob.row 64 10 (k + 1) (acc.flatMap ndK ++ ndK x)) = some (Ob.row 64 10 (acc ++ [x]).length ((acc ++ [x]).flatMap ndK)) := fun x => by
      rw [List.length_append, List.flatMap_append, hkk]
      simp only [List.flatMap_cons, List.flatMap_nil, List.append_nil, List.length_cons, List.length_nil]
    have lenx : ∀ (x : Pt), (acc ++ [x]).length = k + 1 := fun x => by rw [List.length_append, hkk]; rfl
    have fin : ∀ (x : Pt), x.Like ps[k] → ∀ (i : Nat) (q : Pt), (acc ++ [x])[i]? = some q → ∃ q0 : Pt, ps[i]? = some q0 ∧ q.Like q0 := fun x hx i q hq => by
      by_cases hi : i < acc.length
      · rw [List.getElem?_append_left hi] at hq
        exact hacc i q hq
      · rw [List.getElem?_append_right (by omega)] at hq
        have hik : i = k := by
          have := (List.getElem?_eq_some_iff.1 hq).1
          simp at this; omega
        subst hik
        rw [hkk, Nat.sub_self] at hq
        have hq := Option.some.inj hq
        subst hq
        exact ⟨_, hgk, hx⟩
    by_cases hl2 : k + 1 < ps.length
    · have d2 : decide ((k : Int) + 1 < (ps.length : Int)) = true := decide_eq_true (by omega)
      obtain ⟨b9, off9, he9, hcB⟩ := hl.get hl2
      injection he9 with he9
      injection he9 with he1 he2
      subst he1 he2
      generalize ps[k] = e at *
      generalize ps[k + 1] = e2 at *
      obtain ⟨slot, level, pv, kv, high, top, right, seen, mv, rv, lo⟩ := e
      obtain ⟨⟨A1, n1, c1, h1⟩, ⟨A2, n2, c2, h2⟩, ⟨A3, n3, c3, h3⟩, ⟨A4, n4, c4, h4⟩⟩ := hs
      dsimp only at h1 h2 h3 h4
      subst h1 h2 h3 h4
      repeat' (first
        | refine VC_seq ?_
        | refine VC_region ?_
        | refine VL_nil ?_
        | refine VC_ret ?_
        | refine VC_exit ?_
        | refine VC_block ?_
        | refine VC_skip ?_
        | refine kbox ?_
        | refine kall ?_
        | refine kst ?_
        | refine ksN ?_
        | refine klt ?_
        | refine kl1 ?_
        | refine klK ?_
        | refine kap ?_
        | ((first | apply VL_q | apply VG_q | apply VS_q2); (first | exact QS_indexAddr (k) (by rfl) (by rfl) (by omega) (by omega) | exact QS_mload1 (by rfl) (hcA 0 _ (by rfl)) | exact QS_mload1 (by rfl) (hcA _ _ (by rfl)) | exact QS_mloadN _ (by rfl) hcA _ (by rfl) | exact qlN (by rfl) | exact QS_indexAddr (k + 1) (by rfl) (by rfl) (by omega) (by omega) | exact QS_mload1 (by rfl) (hcB 0 _ (by rfl)) | exact QS_mload1 (by rfl) (hcB _ _ (by rfl)) | exact QS_mloadN _ (by rfl) hcB _ (by rfl) | exact qmv (by rfl) | exact qas (by rfl) | exact ql1 (by rfl) | exact qlA (by rfl) | exact qfa (by rfl) | exact qmf (by rfl) | exact qfd (by rfl) | exact qm1 (by rfl) | exact qbd (by rfl) | exact qno (by rfl) | exact qex (by rfl) | exact qln (by rfl) | exact qls (by rfl) | exact qlr (by rfl) | exact qpt (by rfl) | exact qpf (by rfl) | exact qcp (by rfl) | exact qbe (by rfl) | exact qbn (by rfl) | exact qsn (by rfl) | exact qad (by rfl) | exact qsa (by rfl) | exact qsu (by rfl) | exact QS_bin (by rfl) (by rfl) (by first | exact B_slnil | exact Bq_eql_Msg | exact Bq_neq_Msg | exact Bq_eql_Pair | exact Bq_neq_Pair | exact Bq_eql_Op | exact Bq_neq_Op | exact Bq_eql_Cfg | exact Bq_neq_Cfg)); rfl)
        | refine sst ?_
        | refine VS_nil ?_
        | refine eeq ?_
        | refine ees ?_ (by first | exact es1 (by rfl) | exact esN (by rfl))
        | refine VE_nil ?_
        | refine kyes ?_
        | refine kno ?_
        | refine gyes ?_
        | refine gno ?_
        | refine knoU ?_
        | refine gnoU ?_
        | refine VG_nil ⟨by rfl, ?_⟩
        | refine VG_nil ?_
        | refine dT ?_
        | refine d1 ?_
        | refine dQ ?_
        | refine ctr ?_
        | refine cfa ?_
        | refine kdec (fun hq => ?_) (fun hq => ?_)
        | refine gdec (fun hq => ?_) (fun hq => ?_)
        | refine cco (fun hq => ?_) (fun hq => ?_))
      refine forQ_next (Q := fun _ _ => True) [3] (acc ++ [(⟨(from0 : Int) + (k : Int), level, .slice A3 n3 c3, .slice A1 n1 c1, e2.lo, top, (from0 : Int) + (k : Int) + 1, seen, .slice A4 n4 c4, .slice A2 n2 c2, lo⟩ : Pt)]) ⟨rfl, rfl, ⟨row (⟨(from0 : Int) + (k : Int), level, .slice A3 n3 c3, .slice A1 n1 c1, e2.lo, top, (from0 : Int) + (k : Int) + 1, seen, .slice A4 n4 c4, .slice A2 n2 c2, lo⟩ : Pt), trivial⟩, ⟨rfl, rfl, rfl, rfl, rfl, ?_, trivial⟩⟩ ⟨by rw [lenx]; omega, fin _ ⟨rfl, rfl, rfl, rfl⟩⟩ (by rw [lenx]; omega)
      rw [lenx]; rfl
    · have d2 : decide ((k : Int) + 1 < (ps.length : Int)) = false := decide_eq_false (by omega)
      generalize ps[k] = e at *
      obtain ⟨slot, level, pv, kv, high, top, right, seen, mv, rv, lo⟩ := e
      obtain ⟨⟨A1, n1, c1, h1⟩, ⟨A2, n2, c2, h2⟩, ⟨A3, n3, c3, h3⟩, ⟨A4, n4, c4, h4⟩⟩ := hs
      dsimp only at h1 h2 h3 h4
      subst h1 h2 h3 h4
      repeat' (first
        | refine VC_seq ?_
        | refine VC_region ?_
        | refine VL_nil ?_
        | refine VC_ret ?_
        | refine VC_exit ?_
        | refine VC_block ?_
        | refine VC_skip ?_
        | refine kbox ?_
        | refine kall ?_
        | refine kst ?_
        | refine ksN ?_
        | refine klt ?_
        | refine kl1 ?_
        | refine klK ?_
        | refine kap ?_
        | ((first | apply VL_q | apply VG_q | apply VS_q2); (first | exact QS_indexAddr (k) (by rfl) (by rfl) (by omega) (by omega) | exact QS_mload1 (by rfl) (hcA 0 _ (by rfl)) | exact QS_mload1 (by rfl) (hcA _ _ (by rfl)) | exact QS_mloadN _ (by rfl) hcA _ (by rfl) | exact qlN (by rfl) | exact qmv (by rfl) | exact qas (by rfl) | exact ql1 (by rfl) | exact qlA (by rfl) | exact qfa (by rfl) | exact qmf (by rfl) | exact qfd (by rfl) | exact qm1 (by rfl) | exact qbd (by rfl) | exact qno (by rfl) | exact qex (by rfl) | exact qln (by rfl) | exact qls (by rfl) | exact qlr (by rfl) | exact qpt (by rfl) | exact qpf (by rfl) | exact qcp (by rfl) | exact qbe (by rfl) | exact qbn (by rfl) | exact qsn (by rfl) | exact qad (by rfl) | exact qsa (by rfl) | exact qsu (by rfl) | exact QS_bin (by rfl) (by rfl) (by first | exact B_slnil | exact Bq_eql_Msg | exact Bq_neq_Msg | exact Bq_eql_Pair | exact Bq_neq_Pair | exact Bq_eql_Op | exact Bq_neq_Op | exact Bq_eql_Cfg | exact Bq_neq_Cfg)); rfl)
        | refine sst ?_
        | refine VS_nil ?_
        | refine eeq ?_
        | refine ees ?_ (by first | exact es1 (by rfl) | exact esN (by rfl))
        | refine VE_nil ?_
        | refine kyes ?_
        | refine kno ?_
        | refine gyes ?_
        | refine gno ?_
        | refine knoU ?_
        | refine gnoU ?_
        | refine VG_nil ⟨by rfl, ?_⟩
        | refine VG_nil ?_
        | refine dT ?_
        | refine d1 ?_
        | refine dQ ?_
        | refine ctr ?_
        | refine cfa ?_
        | refine kdec (fun hq => ?_) (fun hq => ?_)
        | refine gdec (fun hq => ?_) (fun hq => ?_)
        | refine cco (fun hq => ?_) (fun hq => ?_))
      refine forQ_next (Q := fun _ _ => True) [3] (acc ++ [(⟨(from0 : Int) + (k : Int), level, .slice A3 n3 c3, .slice A1 n1 c1, high, true, -1, seen, .slice A4 n4 c4, .slice A2 n2 c2, lo⟩ : Pt)]) ⟨rfl, rfl, ⟨row (⟨(from0 : Int) + (k : Int), level, .slice A3 n3 c3, .slice A1 n1 c1, high, true, -1, seen, .slice A4 n4 c4, .slice A2 n2 c2, lo⟩ : Pt), trivial⟩, ⟨rfl, rfl, rfl, rfl, rfl, ?_, trivial⟩⟩ ⟨by rw [lenx]; omega, fin _ ⟨rfl, rfl, rfl, rfl⟩⟩ (by rw [lenx]; omega)
      rw [lenx]; rfl
  · have hd := dge hge
    have hke : k = ps.length := by omega
    repeat' (first
      | refine VC_seq ?_
      | refine VC_region ?_
      | refine VL_nil ?_
      | refine VC_ret ?_
      | refine VC_exit ?_
      | refine VC_block ?_
      | refine VC_skip ?_
      | refine kbox ?_
      | refine kall ?_
      | refine kst ?_
      | refine ksN ?_
      | refine klt ?_
      | refine kl1 ?_
      | refine klK ?_
      | refine kap ?_
      | ((first | apply VL_q | apply VG_q | apply VS_q2); (first  | exact qmv (by rfl) | exact qas (by rfl) | exact ql1 (by rfl) | exact qlA (by rfl) | exact qfa (by rfl) | exact qmf (by rfl) | exact qfd (by rfl) | exact qm1 (by rfl) | exact qbd (by rfl) | exact qno (by rfl) | exact qex (by rfl) | exact qln (by rfl) | exact qls (by rfl) | exact qlr (by rfl) | exact qpt (by rfl) | exact qpf (by rfl) | exact qcp (by rfl) | exact qbe (by rfl) | exact qbn (by rfl) | exact qsn (by rfl) | exact qad (by rfl) | exact qsa (by rfl) | exact qsu (by rfl) | exact QS_bin (by rfl) (by rfl) (by first | exact B_slnil | exact Bq_eql_Msg | exact Bq_neq_Msg | exact Bq_eql_Pair | exact Bq_neq_Pair | exact Bq_eql_Op | exact Bq_neq_Op | exact Bq_eql_Cfg | exact Bq_neq_Cfg)); rfl)
      | refine sst ?_
      | refine VS_nil ?_
      | refine eeq ?_
      | refine ees ?_ (by first | exact es1 (by rfl) | exact esN (by rfl))
      | refine VE_nil ?_
      | refine kyes ?_
      | refine kno ?_
      | refine gyes ?_
      | refine gno ?_
      | refine knoU ?_
      | refine gnoU ?_
      | refine VG_nil ⟨by rfl, ?_⟩
      | refine VG_nil ?_
      | refine dT ?_
      | refine d1 ?_
      | refine dQ ?_
      | refine ctr ?_
      | refine cfa ?_
      | refine kdec (fun hq => ?_) (fun hq => ?_)
      | refine gdec (fun hq => ?_) (fun hq => ?_)
      | refine cco (fun hq => ?_) (fun hq => ?_))
    exact .inr ⟨0, _, _, _, _, rfl, fun u M' hle hu => ⟨_, Res.one (by rfl) (ResV_tmp (by rfl) rfl), acc, RowM.slM (fun _ _ => rfl) (by rw [hkk]; exact hu), by rw [hkk, hke], hacc⟩⟩
end Go.Proofs.Ytdgcdfngpimmmaa
