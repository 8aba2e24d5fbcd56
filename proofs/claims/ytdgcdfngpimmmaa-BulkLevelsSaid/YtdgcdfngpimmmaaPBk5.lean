/- The bulk layer: the next level. -/
import Derived.Test.YtdgcdfngpimmmaaPBk4
namespace Go.Proofs.Ytdgcdfngpimmmaa
open Go Go.RowKit
attribute [local irreducible] Calls
set_option linter.unusedVariables false
set_option maxRecDepth 20000
set_option linter.unusedSimpArgs false
set_option maxHeartbeats 8000000
theorem bulk_above (v : Value) (ps : List Pt) (p from0 : Nat) (lev : Int) (w : World) (M : Mem) (hM : M.le (Mem.of w)) (hl : SlM M 11 ptK v ps) (hp : 0 < p) (hpn : p ≤ ps.length) (hn : ps.length ≤ 1000000) (hf : from0 ≤ 1000000) (hlv : ∀ q, ps[0]? = some q → q.level = lev) (hl0 : 0 ≤ lev) (hl1 : lev ≤ 1000000) :
    Calls Try.prog 67 #[v, .int .i64 p, .int .i64 from0] w (RetM M w (fun u M' => ∃ qs : List Pt, SlM M' 11 ptK u qs ∧ qs.length = p ∧ ∀ (i : Nat) (q : Pt), qs[i]? = some q → q.Is (lev + 1) (partE ps.length p i) 0)) := by
  obtain ⟨A, c, rfl, hc1, hc2, _⟩ := id hl
  unfold maxLen at hc2
  refine V_ret (args := [.slice A ps.length c, .int .i64 p, .int .i64 from0]) (M := M) Try.func67 rfl Try.ntmps67 (by rfl) hM _ ?_
  refine VC_frzQ ?_
  refine VC_seq ?_
  refine VC_region ?_
  apply VL_q
  · exact qas (by rfl)
  · rfl
  refine VL_nil ?_
  refine VC_seq ?_
  refine VC_region ?_
  apply VL_q
  · exact qas (by rfl)
  · rfl
  refine VL_nil ?_
  refine VC_nilR 7 170 11 (by rfl) (by rfl) ?_
  have cE := fun W => bulk_Even (ps.length : Int) (p : Int) W (by omega)
  rw [evenX_nat hp (by omega)] at cE
  repeat' (first
    | refine VC_seq ?_
    | refine VC_region ?_
    | refine VL_nil ?_
    | refine VC_ret ?_
    | refine VC_exit ?_
    | refine VC_block ?_
    | refine VC_skip ?_
    | refine kbox ?_
    | refine kall ?_
    | refine kst ?_
    | refine ksN ?_
    | refine klt ?_
    | refine kl1 ?_
    | refine klK ?_
    | refine kap ?_
    | ((first | apply VL_q | apply VG_q | apply VS_q2); (first  | exact qmv (by rfl) | exact qas (by rfl) | exact ql1 (by rfl) | exact qlA (by rfl) | exact qfa (by rfl) | exact qmf (by rfl) | exact qfd (by rfl) | exact qm1 (by rfl) | exact qbd (by rfl) | exact qno (by rfl) | exact qex (by rfl) | exact qln (by rfl) | exact qls (by rfl) | exact qlr (by rfl) | exact qpt (by rfl) | exact qpf (by rfl) | exact qcp (by rfl) | exact qbe (by rfl) | exact qbn (by rfl) | exact qsn (by rfl) | exact qad (by rfl) | exact qsa (by rfl) | exact qsu (by rfl) | exact QS_bin (by rfl) (by rfl) (by first | exact B_slnil | exact Bq_eql_Msg | exact Bq_neq_Msg | exact Bq_eql_Pair | exact Bq_neq_Pair | exact Bq_eql_Op | exact Bq_neq_Op | exact Bq_eql_Cfg | exact Bq_neq_Cfg)); rfl)
    | refine sst ?_
    | refine VS_nil ?_
    | refine eeq ?_
    | refine ees ?_ (by first | exact es1 (by rfl) | exact esN (by rfl))
    | refine VE_nil ?_
    | refine kyes ?_
    | refine kno ?_
    | refine gyes ?_
    | refine gno ?_
    | refine knoU ?_
    | refine gnoU ?_
    | refine VG_nil ⟨by rfl, ?_⟩
    | refine VG_nil ?_
    | refine dT ?_
    | refine d1 ?_
    | refine dQ ?_
    | refine ctr ?_
    | refine cfa ?_
    | refine kdec (fun hq => ?_) (fun hq => ?_)
    | refine gdec (fun hq => ?_) (fun hq => ?_)
    | refine cco (fun hq => ?_) (fun hq => ?_))
  refine VL_callO (by rfl) (fun W _ => cE W) (by rfl) (by rfl) ?_
  refine VL_frz 1 (by rfl) (fun us M1 hle1 hus => ?_)
  have hS : SlM M1 1 intK us (evenL ps.length p) := hus.slM (fun _ _ => rfl)
  obtain ⟨B, cb, hus', hd1, hd2, _⟩ := id hS
  have hlen := evenL_len ps.length p
  have hgs : ∀ k (h : k < (evenL ps.length p).length), (evenL ps.length p)[k] = ((partE ps.length p k : Nat) : Int) := fun k h => evenL_get _ p h
  generalize evenL ps.length p = L at *
  subst hus'
  unfold maxLen at hd2
  obtain ⟨b0, off0, hA0, hc0⟩ := (hl.mono hle1).get (i := 0) (by omega)
  subst hA0
  have hlv0 := hlv _ (List.getElem?_eq_getElem (show 0 < ps.length by omega))
  repeat' (first
    | refine VC_seq ?_
    | refine VC_region ?_
    | refine VL_nil ?_
    | refine VC_ret ?_
    | refine VC_exit ?_
    | refine VC_block ?_
    | refine VC_skip ?_
    | refine kbox ?_
    | refine kall ?_
    | refine kst ?_
    | refine ksN ?_
    | refine klt ?_
    | refine kl1 ?_
    | refine klK ?_
    | refine kap ?_
    | ((first | apply VL_q | apply VG_q | apply VS_q2); (first  | exact qmv (by rfl) | exact qas (by rfl) | exact ql1 (by rfl) | exact qlA (by rfl) | exact qfa (by rfl) | exact qmf (by rfl) | exact qfd (by rfl) | exact qm1 (by rfl) | exact qbd (by rfl) | exact qno (by rfl) | exact qex (by rfl) | exact qln (by rfl) | exact qls (by rfl) | exact qlr (by rfl) | exact qpt (by rfl) | exact qpf (by rfl) | exact qcp (by rfl) | exact qbe (by rfl) | exact qbn (by rfl) | exact qsn (by rfl) | exact qad (by rfl) | exact qsa (by rfl) | exact qsu (by rfl) | exact QS_bin (by rfl) (by rfl) (by first | exact B_slnil | exact Bq_eql_Msg | exact Bq_neq_Msg | exact Bq_eql_Pair | exact Bq_neq_Pair | exact Bq_eql_Op | exact Bq_neq_Op | exact Bq_eql_Cfg | exact Bq_neq_Cfg)); rfl)
    | refine sst ?_
    | refine VS_nil ?_
    | refine eeq ?_
    | refine ees ?_ (by first | exact es1 (by rfl) | exact esN (by rfl))
    | refine VE_nil ?_
    | refine kyes ?_
    | refine kno ?_
    | refine gyes ?_
    | refine gno ?_
    | refine knoU ?_
    | refine gnoU ?_
    | refine VG_nil ⟨by rfl, ?_⟩
    | refine VG_nil ?_
    | refine dT ?_
    | refine d1 ?_
    | refine dQ ?_
    | refine ctr ?_
    | refine cfa ?_
    | refine kdec (fun hq => ?_) (fun hq => ?_)
    | refine gdec (fun hq => ?_) (fun hq => ?_)
    | refine cco (fun hq => ?_) (fun hq => ?_))
  refine VC_for (fun x : List Pt × Mem => ⟨x.2, [.row 170 11 x.1.length (x.1.flatMap ptK)], [(0, .v (.slice (some ⟨b0, off0, none⟩) ps.length c)), (2, .v (.int .i64 from0)), (7, .r 0), (8, .v (.int .i64 ((offE ps.length p x.1.length : Nat) : Int))), (16, .v (.slice B L.length cb)), (17, .v (.int .i64 L.length)), (18, .v (.int .i64 x.1.length))]⟩) (fun x => M1.le x.2 ∧ x.1.length ≤ p ∧ ∀ (i : Nat) (q : Pt), x.1[i]? = some q → q.Is (lev + 1) (partE ps.length p i) 0) (fun x => p - x.1.length) [0] ([], M1) ⟨rfl, rfl, ⟨rfl, trivial⟩, ⟨rfl, rfl, rfl, by rw [show offE ps.length p ([] : List Pt).length = 0 by unfold offE; simp]; rfl, rfl, rfl, rfl, trivial⟩⟩ ⟨Mem.le_refl _, Nat.zero_le _, fun i q h => by simp at h⟩ ?_
  rintro ⟨acc, Mx⟩ ⟨hMx, hk, hacc⟩
  dsimp only at hMx hk hacc ⊢
  have hlx := (hl.mono hle1).mono hMx
  have hSx := hS.mono hMx
  generalize hkk : acc.length = k at *
  rcases Nat.lt_or_ge k p with hlt' | hge
  · have hkl : k < L.length := by omega
    have hd := dlt hkl
    obtain ⟨b, off, rfl, hcA⟩ := hSx.get hkl
    rw [hgs k hkl] at hcA
    have hst := offE_step ps.length p k
    have hle : offE ps.length p (k + 1) ≤ ps.length := offE_le hp (by omega)
    have hpp := partE_pos hp hpn k
    generalize ho2 : offE ps.length p (k + 1) = o2 at *
    generalize hat : offE ps.length p k = at0 at *
    generalize hz0 : partE ps.length p k = sz at *
    have hsum : ((at0 : Int) + (sz : Int)) = ((at0 + sz : Nat) : Int) := by omega
    have e9 : ((offE ps.length p (k + 1) : Nat) : Int) = (at0 : Int) + (sz : Int) := by rw [ho2, hst, hsum]
    have fin : ∀ (x : Pt), x.Is (lev + 1) sz 0 → ∀ (i : Nat) (q : Pt), (acc ++ [x])[i]? = some q → q.Is (lev + 1) (partE ps.length p i) 0 := fun x hx i q hq => by
      by_cases hi : i < acc.length
      · rw [List.getElem?_append_left hi] at hq
        exact hacc i q hq
      · rw [List.getElem?_append_right (by omega)] at hq
        have hik : i = k := by
          have := (List.getElem?_eq_some_iff.1 hq).1
          simp at this; omega
        subst hik
        rw [hkk, Nat.sub_self] at hq
        have hq := Option.some.inj hq
        subst hq
        rw [hz0]
        exact hx
    have row : ∀ (x : Pt), some (Ob.row 170 11 (k + 1) (acc.flatMap ptK ++ ptK x)) = some (Ob.row 170 11 (acc ++ [x]).length ((acc ++ [x]).flatMap ptK)) := fun x => by
      rw [List.length_append, List.flatMap_append, hkk]
      simp only [List.flatMap_cons, List.flatMap_nil, List.append_nil, List.length_cons, List.length_nil]
    have lenx : ∀ (x : Pt), (acc ++ [x]).length = k + 1 := fun x => by rw [List.length_append, hkk]; rfl
    have hat0 : at0 < ps.length := by omega
    obtain ⟨b9, off9, he9, hcP⟩ := hlx.get hat0
    injection he9 with he9
    injection he9 with he1 he2
    subst he1 he2
    have hc0x : ∀ j x, (ptK ps[0])[j]? = some x → Mx.cell b0 (off0 + 0 * 11 + j) = some x := fun j x h => hMx.cell (hc0 j x h)
    generalize hlo : ps[at0] = eat at *
    generalize ps[0] = e0 at *
    have hl0' : 0 ≤ e0.level := by omega
    have hl1' : e0.level ≤ 1000000 := by omega
    repeat' (first
      | refine VC_seq ?_
      | refine VC_region ?_
      | refine VL_nil ?_
      | refine VC_ret ?_
      | refine VC_exit ?_
      | refine VC_block ?_
      | refine VC_skip ?_
      | refine kbox ?_
      | refine kall ?_
      | refine kst ?_
      | refine ksN ?_
      | refine klt ?_
      | refine kl1 ?_
      | refine klK ?_
      | refine kap ?_
      | ((first | apply VL_q | apply VG_q | apply VS_q2); (first | exact QS_indexAddr k (by rfl) (by rfl) (by omega) (by omega) | exact QS_indexAddr 0 (by rfl) (by rfl) (by omega) (by omega) | exact QS_indexAddr at0 (by rfl) (by rfl) (by omega) (by omega) | exact QS_mload1 (by rfl) (hcA 0 _ (by rfl)) | exact QS_mload1 (by rfl) (hcA _ _ (by rfl)) | exact QS_mloadN _ (by rfl) hcA _ (by rfl) | exact QS_mload1 (by rfl) (hc0x 0 _ (by rfl)) | exact QS_mload1 (by rfl) (hc0x _ _ (by rfl)) | exact QS_mloadN _ (by rfl) hc0x _ (by rfl) | exact QS_mload1 (by rfl) (hcP 0 _ (by rfl)) | exact QS_mload1 (by rfl) (hcP _ _ (by rfl)) | exact QS_mloadN _ (by rfl) hcP _ (by rfl) | exact qbk (by rfl) | exact qmv (by rfl) | exact qas (by rfl) | exact ql1 (by rfl) | exact qlA (by rfl) | exact qfa (by rfl) | exact qmf (by rfl) | exact qfd (by rfl) | exact qm1 (by rfl) | exact qbd (by rfl) | exact qno (by rfl) | exact qex (by rfl) | exact qln (by rfl) | exact qls (by rfl) | exact qlr (by rfl) | exact qpt (by rfl) | exact qpf (by rfl) | exact qcp (by rfl) | exact qbe (by rfl) | exact qbn (by rfl) | exact qsn (by rfl) | exact qad (by rfl) | exact qsa (by rfl) | exact qsu (by rfl) | exact QS_bin (by rfl) (by rfl) (by first | exact B_slnil | exact Bq_eql_Msg | exact Bq_neq_Msg | exact Bq_eql_Pair | exact Bq_neq_Pair | exact Bq_eql_Op | exact Bq_neq_Op | exact Bq_eql_Cfg | exact Bq_neq_Cfg)); rfl)
      | refine sst ?_
      | refine VS_nil ?_
      | refine eeq ?_
      | refine ees ?_ (by first | exact es1 (by rfl) | exact esN (by rfl))
      | refine VE_nil ?_
      | refine kyes ?_
      | refine kno ?_
      | refine gyes ?_
      | refine gno ?_
      | refine knoU ?_
      | refine gnoU ?_
      | refine VG_nil ⟨by rfl, ?_⟩
      | refine VG_nil ?_
      | refine dT ?_
      | refine d1 ?_
      | refine dQ ?_
      | refine ctr ?_
      | refine cfa ?_
      | refine kdec (fun hq => ?_) (fun hq => ?_)
      | refine gdec (fun hq => ?_) (fun hq => ?_)
      | refine cco (fun hq => ?_) (fun hq => ?_))
    refine VC_nil0 9 1 (by rfl) ?_
    refine VC_nil0 3 1 (by rfl) ?_
    refine VC_for (fun x : Nat × Value × Value × List Value × List Value => ⟨Mx, [.row 170 11 k (acc.flatMap ptK), .blk 170 [.int .i64 0, .int .i64 (e0.level + 1), x.2.1, x.2.2.1, .string ⟨#[]⟩, .bool false, .int .i64 0, .int .i64 0, .slice none 0 0, .slice none 0 0, .string eat.lo], .nrow x.2.1 9 1 x.2.2.2.1.length x.2.2.2.1, .nrow x.2.2.1 3 1 x.2.2.2.2.length x.2.2.2.2], [(0, .v (.slice (some ⟨b0, off0, none⟩) ps.length c)), (2, .v (.int .i64 from0)), (7, .r 0), (8, .v (.int .i64 at0)), (10, .v (.int .i64 sz)), (11, .p 1 0), (12, .v (.int .i64 ((at0 + x.1 : Nat) : Int))), (16, .v (.slice (some ⟨b, off, none⟩) L.length cb)), (17, .v (.int .i64 L.length)), (18, .v (.int .i64 k))]⟩)
      (fun x => x.1 ≤ sz ∧ x.2.2.2.2.length = x.1 ∧ x.2.2.2.1.length ≤ x.1 ∧ (∃ A c, x.2.1 = .slice A x.2.2.2.1.length c) ∧ (∃ A c, x.2.2.1 = .slice A x.2.2.2.2.length c)) (fun x => sz - x.1) [0, 1, 2, 3] (0, .slice none 0 0, .slice none 0 0, [], []) ⟨rfl, rfl, ⟨rfl, rfl, rfl, rfl, trivial⟩, ⟨rfl, rfl, rfl, rfl, rfl, rfl, rfl, rfl, rfl, rfl, trivial⟩⟩ ⟨Nat.zero_le _, rfl, Nat.zero_le _, ⟨none, 0, rfl⟩, ⟨none, 0, rfl⟩⟩ ?_
    rintro ⟨j, uP, uK, csP, csK⟩ ⟨hj, hjK, hjP, hsP, hsK⟩
    dsimp only at hj hjK hjP hsP hsK ⊢
    rcases Nat.lt_or_ge j sz with hjl | hjg
    · have dj : decide (((at0 + j : Nat) : Int) < (at0 : Int) + (sz : Int)) = true := decide_eq_true (by omega)
      have haj : at0 + j < ps.length := by omega
      obtain ⟨b8, off8, he8, hcJ⟩ := hlx.get haj
      injection he8 with he8
      injection he8 with he81 he82
      subst he81 he82
      by_cases hj0 : j = 0
      · have d0 : decide ((at0 : Int) < ((at0 + j : Nat) : Int)) = false := decide_eq_false (by omega)
        repeat' (first
          | refine VC_seq ?_
          | refine VC_region ?_
          | refine VL_nil ?_
          | refine VC_ret ?_
          | refine VC_exit ?_
          | refine VC_block ?_
          | refine VC_skip ?_
          | refine kbox ?_
          | refine kall ?_
          | refine kst ?_
          | refine ksN ?_
          | refine klt ?_
          | refine kl1 ?_
          | refine klK ?_
          | refine kap ?_
          | ((first | apply VL_q | apply VG_q | apply VS_q2); (first  | exact qmv (by rfl) | exact qas (by rfl) | exact ql1 (by rfl) | exact qlA (by rfl) | exact qfa (by rfl) | exact qmf (by rfl) | exact qfd (by rfl) | exact qm1 (by rfl) | exact qbd (by rfl) | exact qno (by rfl) | exact qex (by rfl) | exact qln (by rfl) | exact qls (by rfl) | exact qlr (by rfl) | exact qpt (by rfl) | exact qpf (by rfl) | exact qcp (by rfl) | exact qbe (by rfl) | exact qbn (by rfl) | exact qsn (by rfl) | exact qad (by rfl) | exact qsa (by rfl) | exact qsu (by rfl) | exact QS_bin (by rfl) (by rfl) (by first | exact B_slnil | exact Bq_eql_Msg | exact Bq_neq_Msg | exact Bq_eql_Pair | exact Bq_neq_Pair | exact Bq_eql_Op | exact Bq_neq_Op | exact Bq_eql_Cfg | exact Bq_neq_Cfg)); rfl)
          | refine sst ?_
          | refine VS_nil ?_
          | refine eeq ?_
          | refine ees ?_ (by first | exact es1 (by rfl) | exact esN (by rfl))
          | refine VE_nil ?_
          | refine kyes ?_
          | refine kno ?_
          | refine gyes ?_
          | refine gno ?_
          | refine knoU ?_
          | refine gnoU ?_
          | refine VG_nil ⟨by rfl, ?_⟩
          | refine VG_nil ?_
          | refine dT ?_
          | refine d1 ?_
          | refine dQ ?_
          | refine ctr ?_
          | refine cfa ?_
          | refine kdec (fun hq => ?_) (fun hq => ?_)
          | refine gdec (fun hq => ?_) (fun hq => ?_)
          | refine cco (fun hq => ?_) (fun hq => ?_))
        refine VL_unname 3 45 (by rfl) (by rfl) ?_
        repeat' (first
          | refine VC_seq ?_
          | refine VC_region ?_
          | refine VL_nil ?_
          | refine VC_ret ?_
          | refine VC_exit ?_
          | refine VC_block ?_
          | refine VC_skip ?_
          | refine kbox ?_
          | refine kall ?_
          | refine kst ?_
          | refine ksN ?_
          | refine klt ?_
          | refine kl1 ?_
          | refine klK ?_
          | refine kap ?_
          | ((first | apply VL_q | apply VG_q | apply VS_q2); (first  | exact qmv (by rfl) | exact qas (by rfl) | exact ql1 (by rfl) | exact qlA (by rfl) | exact qfa (by rfl) | exact qmf (by rfl) | exact qfd (by rfl) | exact qm1 (by rfl) | exact qbd (by rfl) | exact qno (by rfl) | exact qex (by rfl) | exact qln (by rfl) | exact qls (by rfl) | exact qlr (by rfl) | exact qpt (by rfl) | exact qpf (by rfl) | exact qcp (by rfl) | exact qbe (by rfl) | exact qbn (by rfl) | exact qsn (by rfl) | exact qad (by rfl) | exact qsa (by rfl) | exact qsu (by rfl) | exact QS_bin (by rfl) (by rfl) (by first | exact B_slnil | exact Bq_eql_Msg | exact Bq_neq_Msg | exact Bq_eql_Pair | exact Bq_neq_Pair | exact Bq_eql_Op | exact Bq_neq_Op | exact Bq_eql_Cfg | exact Bq_neq_Cfg)); rfl)
          | refine sst ?_
          | refine VS_nil ?_
          | refine eeq ?_
          | refine ees ?_ (by first | exact es1 (by rfl) | exact esN (by rfl))
          | refine VE_nil ?_
          | refine kyes ?_
          | refine kno ?_
          | refine gyes ?_
          | refine gno ?_
          | refine knoU ?_
          | refine gnoU ?_
          | refine VG_nil ⟨by rfl, ?_⟩
          | refine VG_nil ?_
          | refine dT ?_
          | refine d1 ?_
          | refine dQ ?_
          | refine ctr ?_
          | refine cfa ?_
          | refine kdec (fun hq => ?_) (fun hq => ?_)
          | refine gdec (fun hq => ?_) (fun hq => ?_)
          | refine cco (fun hq => ?_) (fun hq => ?_))
        refine VL_nameR 5 (by rfl) (fun vK hvK => ?_)
        obtain ⟨gK, kK, rfl⟩ := hvK.some (by omega)
        repeat' (first
          | refine VC_seq ?_
          | refine VC_region ?_
          | refine VL_nil ?_
          | refine VC_ret ?_
          | refine VC_exit ?_
          | refine VC_block ?_
          | refine VC_skip ?_
          | refine kbox ?_
          | refine kall ?_
          | refine kst ?_
          | refine ksN ?_
          | refine klt ?_
          | refine kl1 ?_
          | refine klK ?_
          | refine kap ?_
          | ((first | apply VL_q | apply VG_q | apply VS_q2); (first  | exact qmv (by rfl) | exact qas (by rfl) | exact ql1 (by rfl) | exact qlA (by rfl) | exact qfa (by rfl) | exact qmf (by rfl) | exact qfd (by rfl) | exact qm1 (by rfl) | exact qbd (by rfl) | exact qno (by rfl) | exact qex (by rfl) | exact qln (by rfl) | exact qls (by rfl) | exact qlr (by rfl) | exact qpt (by rfl) | exact qpf (by rfl) | exact qcp (by rfl) | exact qbe (by rfl) | exact qbn (by rfl) | exact qsn (by rfl) | exact qad (by rfl) | exact qsa (by rfl) | exact qsu (by rfl) | exact QS_bin (by rfl) (by rfl) (by first | exact B_slnil | exact Bq_eql_Msg | exact Bq_neq_Msg | exact Bq_eql_Pair | exact Bq_neq_Pair | exact Bq_eql_Op | exact Bq_neq_Op | exact Bq_eql_Cfg | exact Bq_neq_Cfg)); rfl)
          | refine sst ?_
          | refine VS_nil ?_
          | refine eeq ?_
          | refine ees ?_ (by first | exact es1 (by rfl) | exact esN (by rfl))
          | refine VE_nil ?_
          | refine kyes ?_
          | refine kno ?_
          | refine gyes ?_
          | refine gno ?_
          | refine knoU ?_
          | refine gnoU ?_
          | refine VG_nil ⟨by rfl, ?_⟩
          | refine VG_nil ?_
          | refine dT ?_
          | refine d1 ?_
          | refine dQ ?_
          | refine ctr ?_
          | refine cfa ?_
          | refine kdec (fun hq => ?_) (fun hq => ?_)
          | refine gdec (fun hq => ?_) (fun hq => ?_)
          | refine cco (fun hq => ?_) (fun hq => ?_))
        refine forQ_next (Q := fun _ _ => True) [0, 1, 2, 5] (j + 1, uP, .slice (some ⟨gK, 0, none⟩) (csK.length + 1) kK, csP, csK ++ [.int .i64 ((from0 : Int) + ((at0 + j : Nat) : Int))]) ⟨rfl, rfl, ⟨rfl, rfl, rfl, ?_, trivial⟩, ⟨rfl, rfl, rfl, rfl, rfl, rfl, rfl, rfl, rfl, rfl, trivial⟩⟩ ⟨Nat.succ_le_of_lt hjl, by show (csK ++ [_]).length = j + 1; rw [List.length_append, hjK]; rfl, Nat.le_succ_of_le hjP, hsP, ⟨some ⟨gK, 0, none⟩, kK, by show Value.slice _ (csK.length + 1) _ = Value.slice _ (csK ++ [_]).length _; rw [List.length_append]; rfl⟩⟩ (by show sz - (j + 1) < sz - j; omega)
        show _ = some (Ob.nrow (.slice (some ⟨gK, 0, none⟩) (csK.length + 1) kK) _ 1 (csK ++ [_]).length (csK ++ [_]))
        rw [show (csK ++ [Value.int .i64 ((from0 : Int) + ((at0 + j : Nat) : Int))]).length = csK.length + 1 by rw [List.length_append]; rfl]
        rfl
      · have d0 : decide ((at0 : Int) < ((at0 + j : Nat) : Int)) = true := decide_eq_true (by omega)
        generalize ps[at0 + j] = ej at *
        repeat' (first
          | refine VC_seq ?_
          | refine VC_region ?_
          | refine VL_nil ?_
          | refine VC_ret ?_
          | refine VC_exit ?_
          | refine VC_block ?_
          | refine VC_skip ?_
          | refine kbox ?_
          | refine kall ?_
          | refine kst ?_
          | refine ksN ?_
          | refine klt ?_
          | refine kl1 ?_
          | refine klK ?_
          | refine kap ?_
          | ((first | apply VL_q | apply VG_q | apply VS_q2); (first  | exact qmv (by rfl) | exact qas (by rfl) | exact ql1 (by rfl) | exact qlA (by rfl) | exact qfa (by rfl) | exact qmf (by rfl) | exact qfd (by rfl) | exact qm1 (by rfl) | exact qbd (by rfl) | exact qno (by rfl) | exact qex (by rfl) | exact qln (by rfl) | exact qls (by rfl) | exact qlr (by rfl) | exact qpt (by rfl) | exact qpf (by rfl) | exact qcp (by rfl) | exact qbe (by rfl) | exact qbn (by rfl) | exact qsn (by rfl) | exact qad (by rfl) | exact qsa (by rfl) | exact qsu (by rfl) | exact QS_bin (by rfl) (by rfl) (by first | exact B_slnil | exact Bq_eql_Msg | exact Bq_neq_Msg | exact Bq_eql_Pair | exact Bq_neq_Pair | exact Bq_eql_Op | exact Bq_neq_Op | exact Bq_eql_Cfg | exact Bq_neq_Cfg)); rfl)
          | refine sst ?_
          | refine VS_nil ?_
          | refine eeq ?_
          | refine ees ?_ (by first | exact es1 (by rfl) | exact esN (by rfl))
          | refine VE_nil ?_
          | refine kyes ?_
          | refine kno ?_
          | refine gyes ?_
          | refine gno ?_
          | refine knoU ?_
          | refine gnoU ?_
          | refine VG_nil ⟨by rfl, ?_⟩
          | refine VG_nil ?_
          | refine dT ?_
          | refine d1 ?_
          | refine dQ ?_
          | refine ctr ?_
          | refine cfa ?_
          | refine kdec (fun hq => ?_) (fun hq => ?_)
          | refine gdec (fun hq => ?_) (fun hq => ?_)
          | refine cco (fun hq => ?_) (fun hq => ?_))
        refine VL_unname 3 45 (by rfl) (by rfl) ?_
        repeat' (first
          | refine VC_seq ?_
          | refine VC_region ?_
          | refine VL_nil ?_
          | refine VC_ret ?_
          | refine VC_exit ?_
          | refine VC_block ?_
          | refine VC_skip ?_
          | refine kbox ?_
          | refine kall ?_
          | refine kst ?_
          | refine ksN ?_
          | refine klt ?_
          | refine kl1 ?_
          | refine klK ?_
          | refine kap ?_
          | ((first | apply VL_q | apply VG_q | apply VS_q2); (first  | exact qmv (by rfl) | exact qas (by rfl) | exact ql1 (by rfl) | exact qlA (by rfl) | exact qfa (by rfl) | exact qmf (by rfl) | exact qfd (by rfl) | exact qm1 (by rfl) | exact qbd (by rfl) | exact qno (by rfl) | exact qex (by rfl) | exact qln (by rfl) | exact qls (by rfl) | exact qlr (by rfl) | exact qpt (by rfl) | exact qpf (by rfl) | exact qcp (by rfl) | exact qbe (by rfl) | exact qbn (by rfl) | exact qsn (by rfl) | exact qad (by rfl) | exact qsa (by rfl) | exact qsu (by rfl) | exact QS_bin (by rfl) (by rfl) (by first | exact B_slnil | exact Bq_eql_Msg | exact Bq_neq_Msg | exact Bq_eql_Pair | exact Bq_neq_Pair | exact Bq_eql_Op | exact Bq_neq_Op | exact Bq_eql_Cfg | exact Bq_neq_Cfg)); rfl)
          | refine sst ?_
          | refine VS_nil ?_
          | refine eeq ?_
          | refine ees ?_ (by first | exact es1 (by rfl) | exact esN (by rfl))
          | refine VE_nil ?_
          | refine kyes ?_
          | refine kno ?_
          | refine gyes ?_
          | refine gno ?_
          | refine knoU ?_
          | refine gnoU ?_
          | refine VG_nil ⟨by rfl, ?_⟩
          | refine VG_nil ?_
          | refine dT ?_
          | refine d1 ?_
          | refine dQ ?_
          | refine ctr ?_
          | refine cfa ?_
          | refine kdec (fun hq => ?_) (fun hq => ?_)
          | refine gdec (fun hq => ?_) (fun hq => ?_)
          | refine cco (fun hq => ?_) (fun hq => ?_))
        refine VL_nameR 5 (by rfl) (fun vK hvK => ?_)
        obtain ⟨gK, kK, rfl⟩ := hvK.some (by omega)
        repeat' (first
          | refine VC_seq ?_
          | refine VC_region ?_
          | refine VL_nil ?_
          | refine VC_ret ?_
          | refine VC_exit ?_
          | refine VC_block ?_
          | refine VC_skip ?_
          | refine kbox ?_
          | refine kall ?_
          | refine kst ?_
          | refine ksN ?_
          | refine klt ?_
          | refine kl1 ?_
          | refine klK ?_
          | refine kap ?_
          | ((first | apply VL_q | apply VG_q | apply VS_q2); (first  | exact qmv (by rfl) | exact qas (by rfl) | exact ql1 (by rfl) | exact qlA (by rfl) | exact qfa (by rfl) | exact qmf (by rfl) | exact qfd (by rfl) | exact qm1 (by rfl) | exact qbd (by rfl) | exact qno (by rfl) | exact qex (by rfl) | exact qln (by rfl) | exact qls (by rfl) | exact qlr (by rfl) | exact qpt (by rfl) | exact qpf (by rfl) | exact qcp (by rfl) | exact qbe (by rfl) | exact qbn (by rfl) | exact qsn (by rfl) | exact qad (by rfl) | exact qsa (by rfl) | exact qsu (by rfl) | exact QS_bin (by rfl) (by rfl) (by first | exact B_slnil | exact Bq_eql_Msg | exact Bq_neq_Msg | exact Bq_eql_Pair | exact Bq_neq_Pair | exact Bq_eql_Op | exact Bq_neq_Op | exact Bq_eql_Cfg | exact Bq_neq_Cfg)); rfl)
          | refine sst ?_
          | refine VS_nil ?_
          | refine eeq ?_
          | refine ees ?_ (by first | exact es1 (by rfl) | exact esN (by rfl))
          | refine VE_nil ?_
          | refine kyes ?_
          | refine kno ?_
          | refine gyes ?_
          | refine gno ?_
          | refine knoU ?_
          | refine gnoU ?_
          | refine VG_nil ⟨by rfl, ?_⟩
          | refine VG_nil ?_
          | refine dT ?_
          | refine d1 ?_
          | refine dQ ?_
          | refine ctr ?_
          | refine cfa ?_
          | refine kdec (fun hq => ?_) (fun hq => ?_)
          | refine gdec (fun hq => ?_) (fun hq => ?_)
          | refine cco (fun hq => ?_) (fun hq => ?_))
        refine VC_drawG [1, 2] [2, 8, 9, 12] (by decide +kernel) (by rfl) (by rfl) ?_
        repeat' (first
          | refine VQm_nil ?_
          | refine VQm_e (by rfl) ?_
          | refine VQm_q (by rfl) _ (by first | exact wno (by first | exact QS_indexAddr (at0 + j) (by rfl) (by rfl) (by omega) (by omega) | exact QS_mload1 (by rfl) (hcJ 0 _ (by rfl)) | exact QS_mload1 (by rfl) (hcJ _ _ (by rfl)) | exact QS_mloadN _ (by rfl) hcJ _ (by rfl) | exact qmv (by rfl) | exact qas (by rfl) | exact ql1 (by rfl) | exact qlA (by rfl) | exact qfa (by rfl) | exact qmf (by rfl) | exact qfd (by rfl) | exact qm1 (by rfl) | exact qbd (by rfl) | exact qno (by rfl) | exact qex (by rfl) | exact qln (by rfl) | exact qls (by rfl) | exact qlr (by rfl) | exact qpt (by rfl) | exact qpf (by rfl) | exact qcp (by rfl) | exact qbe (by rfl) | exact qbn (by rfl) | exact qsn (by rfl) | exact qad (by rfl) | exact qsa (by rfl) | exact qsu (by rfl) | exact QS_bin (by rfl) (by rfl) (by first | exact B_slnil | exact Bq_eql_Msg | exact Bq_neq_Msg | exact Bq_eql_Pair | exact Bq_neq_Pair | exact Bq_eql_Op | exact Bq_neq_Op | exact Bq_eql_Cfg | exact Bq_neq_Cfg)) | exact wnot (by rfl) | exact wU (by rfl) | exact wyes (by first | exact QS_indexAddr (at0 + j) (by rfl) (by rfl) (by omega) (by omega) | exact QS_mload1 (by rfl) (hcJ 0 _ (by rfl)) | exact QS_mload1 (by rfl) (hcJ _ _ (by rfl)) | exact QS_mloadN _ (by rfl) hcJ _ (by rfl) | exact qmv (by rfl) | exact qas (by rfl) | exact ql1 (by rfl) | exact qlA (by rfl) | exact qfa (by rfl) | exact qmf (by rfl) | exact qfd (by rfl) | exact qm1 (by rfl) | exact qbd (by rfl) | exact qno (by rfl) | exact qex (by rfl) | exact qln (by rfl) | exact qls (by rfl) | exact qlr (by rfl) | exact qpt (by rfl) | exact qpf (by rfl) | exact qcp (by rfl) | exact qbe (by rfl) | exact qbn (by rfl) | exact qsn (by rfl) | exact qad (by rfl) | exact qsa (by rfl) | exact qsu (by rfl) | exact QS_bin (by rfl) (by rfl) (by first | exact B_slnil | exact Bq_eql_Msg | exact Bq_neq_Msg | exact Bq_eql_Pair | exact Bq_neq_Pair | exact Bq_eql_Op | exact Bq_neq_Op | exact Bq_eql_Cfg | exact Bq_neq_Cfg))) (by rfl) (by rfl) ?_
          | refine VF_done ?_
          | refine VF_step ?_
          | exact VFs_nil
          | refine VFs_x _ _ _ _ (by rfl) (EX_appendN (i := 2) (j := 6) (bytes := 16) (by rfl) (by rfl) (by rfl) (by rfl) (by decide) (by omega) rfl (by unfold maxLen; omega) (by omega)) (by rfl) (fun ⟨gP, kP⟩ => ⟨Mem.le_refl _, by rfl, ?_⟩) ?_
          | refine VFs_e (by rfl) _ _ (by first | exact fno (by first  | exact EF_alloc | exact elt (by rfl) | exact el1 (by rfl) | exact elK (by rfl) | exact eap (by rfl) | exact fst1 (by rfl) | exact fstN (by rfl) | exact fq (by first | exact QS_indexAddr (at0 + j) (by rfl) (by rfl) (by omega) (by omega) | exact QS_mload1 (by rfl) (hcJ 0 _ (by rfl)) | exact QS_mload1 (by rfl) (hcJ _ _ (by rfl)) | exact QS_mloadN _ (by rfl) hcJ _ (by rfl) | exact qmv (by rfl) | exact qas (by rfl) | exact ql1 (by rfl) | exact qlA (by rfl) | exact qfa (by rfl) | exact qmf (by rfl) | exact qfd (by rfl) | exact qm1 (by rfl) | exact qbd (by rfl) | exact qno (by rfl) | exact qex (by rfl) | exact qln (by rfl) | exact qls (by rfl) | exact qlr (by rfl) | exact qpt (by rfl) | exact qpf (by rfl) | exact qcp (by rfl) | exact qbe (by rfl) | exact qbn (by rfl) | exact qsn (by rfl) | exact qad (by rfl) | exact qsa (by rfl) | exact qsu (by rfl) | exact QS_bin (by rfl) (by rfl) (by first | exact B_slnil | exact Bq_eql_Msg | exact Bq_neq_Msg | exact Bq_eql_Pair | exact Bq_neq_Pair | exact Bq_eql_Op | exact Bq_neq_Op | exact Bq_eql_Cfg | exact Bq_neq_Cfg))) | exact fnot (by rfl) | exact fU (by rfl) | exact fyes (by first  | exact EF_alloc | exact elt (by rfl) | exact el1 (by rfl) | exact elK (by rfl) | exact eap (by rfl) | exact fst1 (by rfl) | exact fstN (by rfl) | exact fq (by first | exact QS_indexAddr (at0 + j) (by rfl) (by rfl) (by omega) (by omega) | exact QS_mload1 (by rfl) (hcJ 0 _ (by rfl)) | exact QS_mload1 (by rfl) (hcJ _ _ (by rfl)) | exact QS_mloadN _ (by rfl) hcJ _ (by rfl) | exact qmv (by rfl) | exact qas (by rfl) | exact ql1 (by rfl) | exact qlA (by rfl) | exact qfa (by rfl) | exact qmf (by rfl) | exact qfd (by rfl) | exact qm1 (by rfl) | exact qbd (by rfl) | exact qno (by rfl) | exact qex (by rfl) | exact qln (by rfl) | exact qls (by rfl) | exact qlr (by rfl) | exact qpt (by rfl) | exact qpf (by rfl) | exact qcp (by rfl) | exact qbe (by rfl) | exact qbn (by rfl) | exact qsn (by rfl) | exact qad (by rfl) | exact qsa (by rfl) | exact qsu (by rfl) | exact QS_bin (by rfl) (by rfl) (by first | exact B_slnil | exact Bq_eql_Msg | exact Bq_neq_Msg | exact Bq_eql_Pair | exact Bq_neq_Pair | exact Bq_eql_Op | exact Bq_neq_Op | exact Bq_eql_Cfg | exact Bq_neq_Cfg)))) (by rfl) (by rfl) ?_ ?_)
        all_goals
          repeat' (first
            | refine VC_seq ?_
            | refine VC_region ?_
            | refine VL_nil ?_
            | refine VC_ret ?_
            | refine VC_exit ?_
            | refine VC_block ?_
            | refine VC_skip ?_
            | refine kbox ?_
            | refine kall ?_
            | refine kst ?_
            | refine ksN ?_
            | refine klt ?_
            | refine kl1 ?_
            | refine klK ?_
            | refine kap ?_
            | ((first | apply VL_q | apply VG_q | apply VS_q2); (first  | exact qmv (by rfl) | exact qas (by rfl) | exact ql1 (by rfl) | exact qlA (by rfl) | exact qfa (by rfl) | exact qmf (by rfl) | exact qfd (by rfl) | exact qm1 (by rfl) | exact qbd (by rfl) | exact qno (by rfl) | exact qex (by rfl) | exact qln (by rfl) | exact qls (by rfl) | exact qlr (by rfl) | exact qpt (by rfl) | exact qpf (by rfl) | exact qcp (by rfl) | exact qbe (by rfl) | exact qbn (by rfl) | exact qsn (by rfl) | exact qad (by rfl) | exact qsa (by rfl) | exact qsu (by rfl) | exact QS_bin (by rfl) (by rfl) (by first | exact B_slnil | exact Bq_eql_Msg | exact Bq_neq_Msg | exact Bq_eql_Pair | exact Bq_neq_Pair | exact Bq_eql_Op | exact Bq_neq_Op | exact Bq_eql_Cfg | exact Bq_neq_Cfg)); rfl)
            | refine sst ?_
            | refine VS_nil ?_
            | refine eeq ?_
            | refine ees ?_ (by first | exact es1 (by rfl) | exact esN (by rfl))
            | refine VE_nil ?_
            | refine kyes ?_
            | refine kno ?_
            | refine gyes ?_
            | refine gno ?_
            | refine knoU ?_
            | refine gnoU ?_
            | refine VG_nil ⟨by rfl, ?_⟩
            | refine VG_nil ?_
            | refine dT ?_
            | refine d1 ?_
            | refine dQ ?_
            | refine ctr ?_
            | refine cfa ?_
            | refine kdec (fun hq => ?_) (fun hq => ?_)
            | refine gdec (fun hq => ?_) (fun hq => ?_)
            | refine cco (fun hq => ?_) (fun hq => ?_))
          refine forQ_next (Q := fun _ _ => True) [0, 1, 7, 5] (j + 1, .slice (some ⟨gP, 0, none⟩) (csP.length + 1) kP, .slice (some ⟨gK, 0, none⟩) (csK.length + 1) kK, csP ++ [.string ej.lo], csK ++ [.int .i64 ((from0 : Int) + ((at0 + j : Nat) : Int))]) ⟨rfl, rfl, ⟨rfl, rfl, ?_, ?_, trivial⟩, ⟨rfl, rfl, rfl, rfl, rfl, rfl, rfl, rfl, rfl, rfl, trivial⟩⟩ ⟨Nat.succ_le_of_lt hjl, by show (csK ++ [_]).length = j + 1; rw [List.length_append, hjK]; rfl, by show (csP ++ [_]).length ≤ j + 1; rw [List.length_append]; show csP.length + 1 ≤ _; omega, ⟨some ⟨gP, 0, none⟩, kP, by show Value.slice _ (csP.length + 1) _ = Value.slice _ (csP ++ [_]).length _; rw [List.length_append]; rfl⟩, ⟨some ⟨gK, 0, none⟩, kK, by show Value.slice _ (csK.length + 1) _ = Value.slice _ (csK ++ [_]).length _; rw [List.length_append]; rfl⟩⟩ (by show sz - (j + 1) < sz - j; omega)
          · show _ = some (Ob.nrow (.slice (some ⟨gP, 0, none⟩) (csP.length + 1) kP) _ 1 (csP ++ [_]).length (csP ++ [_]))
            rw [show (csP ++ [Value.string ej.lo]).length = csP.length + 1 by rw [List.length_append]; rfl]
            rfl
          · show _ = some (Ob.nrow (.slice (some ⟨gK, 0, none⟩) (csK.length + 1) kK) _ 1 (csK ++ [_]).length (csK ++ [_]))
            rw [show (csK ++ [Value.int .i64 ((from0 : Int) + ((at0 + j : Nat) : Int))]).length = csK.length + 1 by rw [List.length_append]; rfl]
            rfl
    · have dj : decide (((at0 + j : Nat) : Int) < (at0 : Int) + (sz : Int)) = false := decide_eq_false (by omega)
      obtain rfl : j = sz := by omega
      obtain ⟨AP, cP, rfl⟩ := hsP
      obtain ⟨AK, cK, rfl⟩ := hsK
      refine VC_frzN 2 (by rfl) (fun M2 hle2 _ => ?_)
      refine VC_frzN 3 (by rfl) (fun M3 hle3 _ => ?_)
      repeat' (first
        | refine VC_seq ?_
        | refine VC_region ?_
        | refine VL_nil ?_
        | refine VC_ret ?_
        | refine VC_exit ?_
        | refine VC_block ?_
        | refine VC_skip ?_
        | refine kbox ?_
        | refine kall ?_
        | refine kst ?_
        | refine ksN ?_
        | refine klt ?_
        | refine kl1 ?_
        | refine klK ?_
        | refine kap ?_
        | ((first | apply VL_q | apply VG_q | apply VS_q2); (first  | exact qmv (by rfl) | exact qas (by rfl) | exact ql1 (by rfl) | exact qlA (by rfl) | exact qfa (by rfl) | exact qmf (by rfl) | exact qfd (by rfl) | exact qm1 (by rfl) | exact qbd (by rfl) | exact qno (by rfl) | exact qex (by rfl) | exact qln (by rfl) | exact qls (by rfl) | exact qlr (by rfl) | exact qpt (by rfl) | exact qpf (by rfl) | exact qcp (by rfl) | exact qbe (by rfl) | exact qbn (by rfl) | exact qsn (by rfl) | exact qad (by rfl) | exact qsa (by rfl) | exact qsu (by rfl) | exact QS_bin (by rfl) (by rfl) (by first | exact B_slnil | exact Bq_eql_Msg | exact Bq_neq_Msg | exact Bq_eql_Pair | exact Bq_neq_Pair | exact Bq_eql_Op | exact Bq_neq_Op | exact Bq_eql_Cfg | exact Bq_neq_Cfg)); rfl)
        | refine sst ?_
        | refine VS_nil ?_
        | refine eeq ?_
        | refine ees ?_ (by first | exact es1 (by rfl) | exact esN (by rfl))
        | refine VE_nil ?_
        | refine kyes ?_
        | refine kno ?_
        | refine gyes ?_
        | refine gno ?_
        | refine knoU ?_
        | refine gnoU ?_
        | refine VG_nil ⟨by rfl, ?_⟩
        | refine VG_nil ?_
        | refine dT ?_
        | refine d1 ?_
        | refine dQ ?_
        | refine ctr ?_
        | refine cfa ?_
        | refine kdec (fun hq => ?_) (fun hq => ?_)
        | refine gdec (fun hq => ?_) (fun hq => ?_)
        | refine cco (fun hq => ?_) (fun hq => ?_))
      refine forQ_next (Q := fun _ _ => True) [5] (acc ++ [(⟨0, e0.level + 1, .slice AP csP.length cP, .slice AK csK.length cK, ⟨#[]⟩, false, 0, 0, .slice none 0 0, .slice none 0 0, eat.lo⟩ : Pt)], M3) ⟨rfl, rfl, ⟨row (⟨0, e0.level + 1, .slice AP csP.length cP, .slice AK csK.length cK, ⟨#[]⟩, false, 0, 0, .slice none 0 0, .slice none 0 0, eat.lo⟩ : Pt), trivial⟩, ⟨rfl, rfl, rfl, ?_, rfl, rfl, ?_, trivial⟩⟩ ⟨(hMx.trans hle2).trans hle3, by rw [lenx]; omega, fin _ ⟨by show e0.level + 1 = lev + 1; rw [hlv0], ⟨AK, cK, by rw [hjK]⟩, ⟨none, 0, rfl⟩, ⟨AP, _, cP, rfl⟩, ⟨none, 0, 0, rfl⟩⟩⟩ (by show p - (acc ++ [_]).length < p - k; rw [lenx]; omega)
      · show _ = some (SV.v (.int .i64 ((offE ps.length p (acc ++ [_]).length : Nat) : Int)))
        refine Eq.trans (b := some (SV.v (.int .i64 ((at0 : Int) + (j : Int))))) rfl ?_
        rw [lenx, e9]
      · show _ = some (SV.v (.int .i64 (((acc ++ [_]).length : Nat) : Int)))
        rw [lenx]; rfl
  · have hdk : decide (((k : Nat) : Int) < (L.length : Int)) = false := dge (by omega)
    obtain rfl : k = p := by omega
    repeat' (first
      | refine VC_seq ?_
      | refine VC_region ?_
      | refine VL_nil ?_
      | refine VC_ret ?_
      | refine VC_exit ?_
      | refine VC_block ?_
      | refine VC_skip ?_
      | refine kbox ?_
      | refine kall ?_
      | refine kst ?_
      | refine ksN ?_
      | refine klt ?_
      | refine kl1 ?_
      | refine klK ?_
      | refine kap ?_
      | ((first | apply VL_q | apply VG_q | apply VS_q2); (first  | exact qmv (by rfl) | exact qas (by rfl) | exact ql1 (by rfl) | exact qlA (by rfl) | exact qfa (by rfl) | exact qmf (by rfl) | exact qfd (by rfl) | exact qm1 (by rfl) | exact qbd (by rfl) | exact qno (by rfl) | exact qex (by rfl) | exact qln (by rfl) | exact qls (by rfl) | exact qlr (by rfl) | exact qpt (by rfl) | exact qpf (by rfl) | exact qcp (by rfl) | exact qbe (by rfl) | exact qbn (by rfl) | exact qsn (by rfl) | exact qad (by rfl) | exact qsa (by rfl) | exact qsu (by rfl) | exact QS_bin (by rfl) (by rfl) (by first | exact B_slnil | exact Bq_eql_Msg | exact Bq_neq_Msg | exact Bq_eql_Pair | exact Bq_neq_Pair | exact Bq_eql_Op | exact Bq_neq_Op | exact Bq_eql_Cfg | exact Bq_neq_Cfg)); rfl)
      | refine sst ?_
      | refine VS_nil ?_
      | refine eeq ?_
      | refine ees ?_ (by first | exact es1 (by rfl) | exact esN (by rfl))
      | refine VE_nil ?_
      | refine kyes ?_
      | refine kno ?_
      | refine gyes ?_
      | refine gno ?_
      | refine knoU ?_
      | refine gnoU ?_
      | refine VG_nil ⟨by rfl, ?_⟩
      | refine VG_nil ?_
      | refine dT ?_
      | refine d1 ?_
      | refine dQ ?_
      | refine ctr ?_
      | refine cfa ?_
      | refine kdec (fun hq => ?_) (fun hq => ?_)
      | refine gdec (fun hq => ?_) (fun hq => ?_)
      | refine cco (fun hq => ?_) (fun hq => ?_))
    refine .inr ⟨0, _, _, _, _, rfl, fun u M' hle hu => ⟨_, Res.one (by rfl) (ResV_tmp (by rfl) rfl), acc, RowM.slM (fun _ _ => rfl) (by rw [hkk]; exact hu), hkk, hacc⟩⟩
end Go.Proofs.Ytdgcdfngpimmmaa
