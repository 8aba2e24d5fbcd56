/- The bulk layer: a level's nodes led to one another, exactly. -/
import Derived.Test.YtclbmfepdlffnaaPBx3
namespace Go.Proofs.Ytclbmfepdlffnaa
open Go Go.RowKit
attribute [local irreducible] Calls
set_option linter.unusedVariables false
set_option maxRecDepth 20000
set_option linter.unusedSimpArgs false
set_option maxHeartbeats 4000000
def loP (ps : List Bn) (i : Nat) : ByteArray := ((ps[i]?).map Prod.snd).getD em
theorem loP_at {ps : List Bn} {i : Nat} (h : i < ps.length) : loP ps i = ps[i].2 := by unfold loP; rw [List.getElem?_eq_getElem h]; rfl
/-- Node i of a level, led on: its slot, and its end. -/
def linkN (ps : List Bn) (from0 i : Nat) (n : Nd) : Nd :=
  ⟨((from0 + i : Nat) : Int), n.level, n.pv, n.ps, n.kv, n.ks, if i + 1 < ps.length then loP ps (i + 1) else n.high, if i + 1 < ps.length then n.top else true, if i + 1 < ps.length then ((from0 + i + 1 : Nat) : Int) else -1, n.seen, n.mv, n.ms, n.rv, n.rs⟩
theorem bulk_link (v : Value) (ps : List Bn) (from0 : Nat) (w : World) (M : Mem) (hM : M.le (Mem.of w)) (hl : SlM M 11 bnCells v ps) (hok : ∀ a ∈ ps, a.1.Ok M) (hn : ps.length ≤ 1000000) (hf : from0 ≤ 1000000) :
    Calls Try.prog 86 #[v, .int .i64 from0] w (RetM M w (fun u M' => ∃ ns : List Nd, SlM M' 10 ndCells u ns ∧ (∀ a ∈ ns, a.Ok M') ∧ ns.length = ps.length ∧ ∀ (i : Nat) (q : Nd), ns[i]? = some q → ∃ q0 : Bn, ps[i]? = some q0 ∧ q = linkN ps from0 i q0.1)) := by
  obtain ⟨A, c, rfl, hc1, hc2, _⟩ := id hl
  unfold maxLen at hc2
  refine V_ret (args := [.slice A ps.length c, .int .i64 from0]) (M := M) Try.func86 rfl Try.ntmps86 (by rfl) hM _ ?_
  refine VC_frzQ ?_
  repeat' (first
    | refine VC_seq ?_
    | refine VC_region ?_
    | refine VL_nil ?_
    | refine VC_ret ?_
    | refine VC_exit ?_
    | refine VC_block ?_
    | refine VC_skip ?_
    | refine kbox ?_
    | refine kall ?_
    | refine kst ?_
    | refine ksN ?_
    | refine klt ?_
    | refine kl1 ?_
    | refine klK ?_
    | refine kap ?_
    | ((first | apply VL_q | apply VG_q | apply VS_q2); (first  | exact qmv (by rfl) | exact qas (by rfl) | exact ql1 (by rfl) | exact qlA (by rfl) | exact qfa (by rfl) | exact qmf (by rfl) | exact qfd (by rfl) | exact qm1 (by rfl) | exact qbd (by rfl) | exact qno (by rfl) | exact qex (by rfl) | exact qln (by rfl) | exact qls (by rfl) | exact qlr (by rfl) | exact qpt (by rfl) | exact qpf (by rfl) | exact qcp (by rfl) | exact qbe (by rfl) | exact qbn (by rfl) | exact qsn (by rfl) | exact qad (by rfl) | exact qsa (by rfl) | exact qsu (by rfl) | exact QS_bin (by rfl) (by rfl) (by first | exact B_slnil | exact Bq_eql_Msg | exact Bq_neq_Msg | exact Bq_eql_Pair | exact Bq_neq_Pair | exact Bq_eql_Op | exact Bq_neq_Op | exact Bq_eql_Cfg | exact Bq_neq_Cfg)); rfl)
    | refine sst ?_
    | refine VS_nil ?_
    | refine eeq ?_
    | refine ees ?_ (by first | exact es1 (by rfl) | exact esN (by rfl))
    | refine VE_nil ?_
    | refine kyes ?_
    | refine kno ?_
    | refine gyes ?_
    | refine gno ?_
    | refine knoU ?_
    | refine gnoU ?_
    | refine VG_nil ⟨by rfl, ?_⟩
    | refine VG_nil ?_
    | refine dT ?_
    | refine d1 ?_
    | refine dQ ?_
    | refine ctr ?_
    | refine cfa ?_
    | refine kdec (fun hq => ?_) (fun hq => ?_)
    | refine gdec (fun hq => ?_) (fun hq => ?_)
    | refine cco (fun hq => ?_) (fun hq => ?_))
  refine VC_nilR 5 94 10 (by rfl) (by rfl) ?_
  refine VC_for (fun x : List Nd => ⟨M, [.row 94 10 x.length (x.flatMap ndCells)], [(0, .v (.slice A ps.length c)), (1, .v (.int .i64 from0)), (5, .r 0), (8, .v (.slice A ps.length c)), (9, .v (.int .i64 ps.length)), (10, .v (.int .i64 x.length))]⟩) (fun x => x.length ≤ ps.length ∧ (∀ a ∈ x, a.Ok M) ∧ ∀ (i : Nat) (q : Nd), x[i]? = some q → ∃ q0 : Bn, ps[i]? = some q0 ∧ q = linkN ps from0 i q0.1) (fun x => ps.length - x.length) [0] [] ⟨rfl, rfl, ⟨rfl, trivial⟩, ⟨rfl, rfl, rfl, rfl, rfl, rfl, trivial⟩⟩ ⟨Nat.zero_le _, fun a h => (by cases h), fun i q h => by simp at h⟩ ?_
  rintro acc ⟨hk, hokx, hacc⟩
  generalize hkk : acc.length = k at *
  rcases Nat.lt_or_ge k ps.length with hlt | hge
  · have hd := dlt hlt
    obtain ⟨b, off, rfl, hcA⟩ := hl.get hlt
    have hgk : ps[k]? = some ps[k] := List.getElem?_eq_getElem hlt
    have ho := hok _ (List.getElem_mem hlt)
    have row : ∀ (x : Nd), some (Ob.row 94 10 (k + 1) (acc.flatMap ndCells ++ ndCells x)) = some (Ob.row 94 10 (acc ++ [x]).length ((acc ++ [x]).flatMap ndCells)) := fun x => by
      rw [List.length_append, List.flatMap_append, hkk]
      simp only [List.flatMap_cons, List.flatMap_nil, List.append_nil, List.length_cons, List.length_nil]
    have lenx : ∀ (x : Nd), (acc ++ [x]).length = k + 1 := fun x => by rw [List.length_append, hkk]; rfl
    have fin : ∀ (x : Nd), x = linkN ps from0 k ps[k].1 → (∀ a ∈ acc ++ [x], a.Ok M) ∧ ∀ (i : Nat) (q : Nd), (acc ++ [x])[i]? = some q → ∃ q0 : Bn, ps[i]? = some q0 ∧ q = linkN ps from0 i q0.1 := fun x hx => ⟨fun a ha => by
      rcases List.mem_append.1 ha with h | h
      · exact hokx a h
      · rw [List.mem_singleton.1 h, hx]; exact ho, fun i q hq => by
      by_cases hi : i < acc.length
      · rw [List.getElem?_append_left hi] at hq
        exact hacc i q hq
      · rw [List.getElem?_append_right (by omega)] at hq
        have hik : i = k := by
          have := (List.getElem?_eq_some_iff.1 hq).1
          simp at this; omega
        subst hik
        rw [hkk, Nat.sub_self] at hq
        have hq := Option.some.inj hq
        subst hq
        exact ⟨_, hgk, hx⟩⟩
    by_cases hl2 : k + 1 < ps.length
    · have d2 : decide ((k : Int) + 1 < (ps.length : Int)) = true := decide_eq_true (by omega)
      obtain ⟨b9, off9, he9, hcB⟩ := hl.get hl2
      injection he9 with he9
      injection he9 with he1 he2
      subst he1 he2
      have hlk : linkN ps from0 k ps[k].1 = ⟨((from0 + k : Nat) : Int), ps[k].1.level, ps[k].1.pv, ps[k].1.ps, ps[k].1.kv, ps[k].1.ks, ps[k + 1].2, ps[k].1.top, ((from0 + k + 1 : Nat) : Int), ps[k].1.seen, ps[k].1.mv, ps[k].1.ms, ps[k].1.rv, ps[k].1.rs⟩ := by
        unfold linkN
        rw [if_pos hl2, if_pos hl2, if_pos hl2, loP_at hl2]
      rw [hlk] at fin
      clear hlk hok hgk
      generalize ps[k] = e at *
      generalize ps[k + 1] = e2 at *
      obtain ⟨⟨slot, level, pv, qs, kv, ks, high, top, right, seen, mv, ms, rv, rs⟩, lo⟩ := e
      obtain ⟨⟨A1, c1, h1, _⟩, ⟨A2, c2, h2, _⟩, ⟨A3, c3, h3, _⟩, ⟨A4, c4, h4, _⟩⟩ := id ho
      dsimp only at h1 h2 h3 h4 fin
      subst h1 h2 h3 h4
      obtain ⟨fin1, fin2⟩ := fin _ rfl
      repeat' (first
        | refine VC_seq ?_
        | refine VC_region ?_
        | refine VL_nil ?_
        | refine VC_ret ?_
        | refine VC_exit ?_
        | refine VC_block ?_
        | refine VC_skip ?_
        | refine kbox ?_
        | refine kall ?_
        | refine kst ?_
        | refine ksN ?_
        | refine klt ?_
        | refine kl1 ?_
        | refine klK ?_
        | refine kap ?_
        | ((first | apply VL_q | apply VG_q | apply VS_q2); (first | exact QS_indexAddr (k) (by rfl) (by rfl) (by omega) (by omega) | exact QS_mload1 (by rfl) (hcA 0 _ (by rfl)) | exact QS_mload1 (by rfl) (hcA _ _ (by rfl)) | exact QS_mloadN _ (by rfl) hcA _ (by rfl) | exact qlN (by rfl) | exact QS_indexAddr (k + 1) (by rfl) (by rfl) (by omega) (by omega) | exact QS_mload1 (by rfl) (hcB 0 _ (by rfl)) | exact QS_mload1 (by rfl) (hcB _ _ (by rfl)) | exact QS_mloadN _ (by rfl) hcB _ (by rfl) | exact qmv (by rfl) | exact qas (by rfl) | exact ql1 (by rfl) | exact qlA (by rfl) | exact qfa (by rfl) | exact qmf (by rfl) | exact qfd (by rfl) | exact qm1 (by rfl) | exact qbd (by rfl) | exact qno (by rfl) | exact qex (by rfl) | exact qln (by rfl) | exact qls (by rfl) | exact qlr (by rfl) | exact qpt (by rfl) | exact qpf (by rfl) | exact qcp (by rfl) | exact qbe (by rfl) | exact qbn (by rfl) | exact qsn (by rfl) | exact qad (by rfl) | exact qsa (by rfl) | exact qsu (by rfl) | exact QS_bin (by rfl) (by rfl) (by first | exact B_slnil | exact Bq_eql_Msg | exact Bq_neq_Msg | exact Bq_eql_Pair | exact Bq_neq_Pair | exact Bq_eql_Op | exact Bq_neq_Op | exact Bq_eql_Cfg | exact Bq_neq_Cfg)); rfl)
        | refine sst ?_
        | refine VS_nil ?_
        | refine eeq ?_
        | refine ees ?_ (by first | exact es1 (by rfl) | exact esN (by rfl))
        | refine VE_nil ?_
        | refine kyes ?_
        | refine kno ?_
        | refine gyes ?_
        | refine gno ?_
        | refine knoU ?_
        | refine gnoU ?_
        | refine VG_nil ⟨by rfl, ?_⟩
        | refine VG_nil ?_
        | refine dT ?_
        | refine d1 ?_
        | refine dQ ?_
        | refine ctr ?_
        | refine cfa ?_
        | refine kdec (fun hq => ?_) (fun hq => ?_)
        | refine gdec (fun hq => ?_) (fun hq => ?_)
        | refine cco (fun hq => ?_) (fun hq => ?_))
      refine forQ_next (Q := fun _ _ => True) [3] (acc ++ [(⟨((from0 + k : Nat) : Int), level, .slice A1 qs.length c1, qs, .slice A2 ks.length c2, ks, e2.2, top, ((from0 + k + 1 : Nat) : Int), seen, .slice A3 ms.length c3, ms, .slice A4 rs.length c4, rs⟩ : Nd)]) ⟨rfl, rfl, ⟨?_, trivial⟩, ⟨rfl, rfl, rfl, rfl, rfl, ?_, trivial⟩⟩ ⟨by rw [lenx]; omega, fin1, fin2⟩ (by rw [lenx]; omega)
      · rw [← row]
        show some (Ob.row _ 10 (k + 1) (acc.flatMap ndCells ++ [Value.int .i64 ((from0 : Int) + (k : Int)), .int .i64 level, .slice A1 qs.length c1, .slice A2 ks.length c2, .string e2.2, .bool top, .int .i64 ((from0 : Int) + (k : Int) + 1), .int .i64 seen, .slice A3 ms.length c3, .slice A4 rs.length c4])) = _
        rw [show (from0 : Int) + (k : Int) + 1 = ((from0 + k + 1 : Nat) : Int) by omega, show (from0 : Int) + (k : Int) = ((from0 + k : Nat) : Int) by omega]
      · rw [lenx]; rfl
    · have d2 : decide ((k : Int) + 1 < (ps.length : Int)) = false := decide_eq_false (by omega)
      have hlk : linkN ps from0 k ps[k].1 = ⟨((from0 + k : Nat) : Int), ps[k].1.level, ps[k].1.pv, ps[k].1.ps, ps[k].1.kv, ps[k].1.ks, ps[k].1.high, true, -1, ps[k].1.seen, ps[k].1.mv, ps[k].1.ms, ps[k].1.rv, ps[k].1.rs⟩ := by
        unfold linkN
        rw [if_neg hl2, if_neg hl2, if_neg hl2]
      rw [hlk] at fin
      clear hlk hok hgk
      generalize ps[k] = e at *
      obtain ⟨⟨slot, level, pv, qs, kv, ks, high, top, right, seen, mv, ms, rv, rs⟩, lo⟩ := e
      obtain ⟨⟨A1, c1, h1, _⟩, ⟨A2, c2, h2, _⟩, ⟨A3, c3, h3, _⟩, ⟨A4, c4, h4, _⟩⟩ := id ho
      dsimp only at h1 h2 h3 h4 fin
      subst h1 h2 h3 h4
      obtain ⟨fin1, fin2⟩ := fin _ rfl
      repeat' (first
        | refine VC_seq ?_
        | refine VC_region ?_
        | refine VL_nil ?_
        | refine VC_ret ?_
        | refine VC_exit ?_
        | refine VC_block ?_
        | refine VC_skip ?_
        | refine kbox ?_
        | refine kall ?_
        | refine kst ?_
        | refine ksN ?_
        | refine klt ?_
        | refine kl1 ?_
        | refine klK ?_
        | refine kap ?_
        | ((first | apply VL_q | apply VG_q | apply VS_q2); (first | exact QS_indexAddr (k) (by rfl) (by rfl) (by omega) (by omega) | exact QS_mload1 (by rfl) (hcA 0 _ (by rfl)) | exact QS_mload1 (by rfl) (hcA _ _ (by rfl)) | exact QS_mloadN _ (by rfl) hcA _ (by rfl) | exact qlN (by rfl) | exact qmv (by rfl) | exact qas (by rfl) | exact ql1 (by rfl) | exact qlA (by rfl) | exact qfa (by rfl) | exact qmf (by rfl) | exact qfd (by rfl) | exact qm1 (by rfl) | exact qbd (by rfl) | exact qno (by rfl) | exact qex (by rfl) | exact qln (by rfl) | exact qls (by rfl) | exact qlr (by rfl) | exact qpt (by rfl) | exact qpf (by rfl) | exact qcp (by rfl) | exact qbe (by rfl) | exact qbn (by rfl) | exact qsn (by rfl) | exact qad (by rfl) | exact qsa (by rfl) | exact qsu (by rfl) | exact QS_bin (by rfl) (by rfl) (by first | exact B_slnil | exact Bq_eql_Msg | exact Bq_neq_Msg | exact Bq_eql_Pair | exact Bq_neq_Pair | exact Bq_eql_Op | exact Bq_neq_Op | exact Bq_eql_Cfg | exact Bq_neq_Cfg)); rfl)
        | refine sst ?_
        | refine VS_nil ?_
        | refine eeq ?_
        | refine ees ?_ (by first | exact es1 (by rfl) | exact esN (by rfl))
        | refine VE_nil ?_
        | refine kyes ?_
        | refine kno ?_
        | refine gyes ?_
        | refine gno ?_
        | refine knoU ?_
        | refine gnoU ?_
        | refine VG_nil ⟨by rfl, ?_⟩
        | refine VG_nil ?_
        | refine dT ?_
        | refine d1 ?_
        | refine dQ ?_
        | refine ctr ?_
        | refine cfa ?_
        | refine kdec (fun hq => ?_) (fun hq => ?_)
        | refine gdec (fun hq => ?_) (fun hq => ?_)
        | refine cco (fun hq => ?_) (fun hq => ?_))
      refine forQ_next (Q := fun _ _ => True) [3] (acc ++ [(⟨((from0 + k : Nat) : Int), level, .slice A1 qs.length c1, qs, .slice A2 ks.length c2, ks, high, true, -1, seen, .slice A3 ms.length c3, ms, .slice A4 rs.length c4, rs⟩ : Nd)]) ⟨rfl, rfl, ⟨?_, trivial⟩, ⟨rfl, rfl, rfl, rfl, rfl, ?_, trivial⟩⟩ ⟨by rw [lenx]; omega, fin1, fin2⟩ (by rw [lenx]; omega)
      · rw [← row]
        show some (Ob.row _ 10 (k + 1) (acc.flatMap ndCells ++ [Value.int .i64 ((from0 : Int) + (k : Int)), .int .i64 level, .slice A1 qs.length c1, .slice A2 ks.length c2, .string high, .bool true, .int .i64 (-1), .int .i64 seen, .slice A3 ms.length c3, .slice A4 rs.length c4])) = _
        rw [show (from0 : Int) + (k : Int) = ((from0 + k : Nat) : Int) by omega]
      · rw [lenx]; rfl
  · have hd := dge hge
    have hke : k = ps.length := by omega
    repeat' (first
      | refine VC_seq ?_
      | refine VC_region ?_
      | refine VL_nil ?_
      | refine VC_ret ?_
      | refine VC_exit ?_
      | refine VC_block ?_
      | refine VC_skip ?_
      | refine kbox ?_
      | refine kall ?_
      | refine kst ?_
      | refine ksN ?_
      | refine klt ?_
      | refine kl1 ?_
      | refine klK ?_
      | refine kap ?_
      | ((first | apply VL_q | apply VG_q | apply VS_q2); (first  | exact qmv (by rfl) | exact qas (by rfl) | exact ql1 (by rfl) | exact qlA (by rfl) | exact qfa (by rfl) | exact qmf (by rfl) | exact qfd (by rfl) | exact qm1 (by rfl) | exact qbd (by rfl) | exact qno (by rfl) | exact qex (by rfl) | exact qln (by rfl) | exact qls (by rfl) | exact qlr (by rfl) | exact qpt (by rfl) | exact qpf (by rfl) | exact qcp (by rfl) | exact qbe (by rfl) | exact qbn (by rfl) | exact qsn (by rfl) | exact qad (by rfl) | exact qsa (by rfl) | exact qsu (by rfl) | exact QS_bin (by rfl) (by rfl) (by first | exact B_slnil | exact Bq_eql_Msg | exact Bq_neq_Msg | exact Bq_eql_Pair | exact Bq_neq_Pair | exact Bq_eql_Op | exact Bq_neq_Op | exact Bq_eql_Cfg | exact Bq_neq_Cfg)); rfl)
      | refine sst ?_
      | refine VS_nil ?_
      | refine eeq ?_
      | refine ees ?_ (by first | exact es1 (by rfl) | exact esN (by rfl))
      | refine VE_nil ?_
      | refine kyes ?_
      | refine kno ?_
      | refine gyes ?_
      | refine gno ?_
      | refine knoU ?_
      | refine gnoU ?_
      | refine VG_nil ⟨by rfl, ?_⟩
      | refine VG_nil ?_
      | refine dT ?_
      | refine d1 ?_
      | refine dQ ?_
      | refine ctr ?_
      | refine cfa ?_
      | refine kdec (fun hq => ?_) (fun hq => ?_)
      | refine gdec (fun hq => ?_) (fun hq => ?_)
      | refine cco (fun hq => ?_) (fun hq => ?_))
    exact .inr ⟨0, _, _, _, _, rfl, fun u M' hle hu => ⟨_, Res.one (by rfl) (ResV_tmp (by rfl) rfl), acc, RowM.slM (fun _ _ => rfl) (by rw [hkk]; exact hu), fun a ha => (hokx a ha).mono hle, by rw [hkk, hke], hacc⟩⟩
end Go.Proofs.Ytclbmfepdlffnaa
