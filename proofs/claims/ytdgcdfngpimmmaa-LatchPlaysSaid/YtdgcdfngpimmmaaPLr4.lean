/- The document's table of latches: All: walk. -/
import Derived.Test.YtdgcdfngpimmmaaPLr3
namespace Go.Proofs.Ytdgcdfngpimmmaa
open Go Go.RowKit
attribute [local irreducible] Calls
set_option linter.unusedVariables false
set_option maxRecDepth 20000
set_option linter.unusedSimpArgs false
set_option maxHeartbeats 4000000
/-- How many of a list come ahead. -/
def posH (out : List Hld) (h : Hld) : Nat := (out.takeWhile fun x => lessH x h).length
def insH (out : List Hld) (h : Hld) : List Hld := out.take (posH out h) ++ h :: out.drop (posH out h)
theorem posH_le (out : List Hld) (h : Hld) : posH out h ≤ out.length := by
  unfold posH
  exact (List.takeWhile_sublist _).length_le
theorem posH_at {out : List Hld} {h : Hld} {j : Nat} (hj : j ≤ out.length) (h1 : ∀ q (hq : q < out.length), q < j → lessH out[q] h = true) (h2 : ∀ (hq : j < out.length), lessH out[j] h = false) : posH out h = j := by
  unfold posH
  induction out generalizing j with
  | nil => simp at hj; simp [hj]
  | cons a out ih =>
    cases j with
    | zero =>
      have := h2 (by simp)
      simp at this
      simp [List.takeWhile_cons, this]
    | succ j =>
      have ha := h1 0 (by simp) (by omega)
      simp at ha
      rw [List.takeWhile_cons, ha]
      simp only [if_true, List.length_cons]
      rw [ih (j := j) (by simpa using hj) (fun q hq hqj => by have := h1 (q + 1) (by simp; omega) (by omega); simpa using this) (fun hq => by have := h2 (by simp; omega); simpa using this)]
def selH (th : Int) (any : Bool) (h : Hld) : Bool := any || (h.thread == th)
def allL (L : List Hld) (th : Int) (any : Bool) : List Hld := (L.filter (selH th any)).foldl insH []
theorem fold_len : ∀ (L out : List Hld), (L.foldl insH out).length = out.length + L.length
  | [], out => rfl
  | h :: L, out => by
    rw [List.foldl_cons, fold_len L]
    have := posH_le out h
    unfold insH
    simp; omega
theorem ref_AllL (b : Nat) (N : Int) (u : Value) (L : List Hld) (th : Int) (any : Bool) (w : World) (M : Mem) (hM : M.le (Mem.of w)) (h : RefM M b N u L) (hn : L.length ≤ 1000000) :
    Calls Try.prog 52 #[.pointer (some ⟨b, 0, none⟩), .int .i64 th, .bool any] w (RetM M w (fun v M' => SlM M' 3 holdK v (allL L th any))) := by
  obtain ⟨h0, h1, h2⟩ := h
  obtain ⟨A, c, rfl, hc1, hc2, _⟩ := id h2
  unfold maxLen at hc2
  refine V_ret (args := [.pointer (some ⟨b, 0, none⟩), .int .i64 th, .bool any]) (M := M) Try.func52 rfl Try.ntmps52 (by rfl) hM _ ?_
  repeat' (first
    | refine VC_seq ?_
    | refine VC_region ?_
    | refine VL_nil ?_
    | refine VC_ret ?_
    | refine VC_exit ?_
    | refine VC_block ?_
    | refine VC_skip ?_
    | refine kbox ?_
    | refine kall ?_
    | refine kst ?_
    | refine ksN ?_
    | refine klt ?_
    | refine kl1 ?_
    | refine klK ?_
    | refine kap ?_
    | ((first | apply VL_q | apply VG_q | apply VS_q2); (first  | exact qmv (by rfl) | exact qas (by rfl) | exact ql1 (by rfl) | exact qlA (by rfl) | exact qfa (by rfl) | exact qmf (by rfl) | exact qfd (by rfl) | exact qm1 (by rfl) | exact qbd (by rfl) | exact qno (by rfl) | exact qex (by rfl) | exact qln (by rfl) | exact qls (by rfl) | exact qlr (by rfl) | exact qpt (by rfl) | exact qpf (by rfl) | exact qcp (by rfl) | exact qbe (by rfl) | exact qbn (by rfl) | exact qsn (by rfl) | exact qad (by rfl) | exact qsa (by rfl) | exact qsu (by rfl) | exact QS_bin (by rfl) (by rfl) (by first | exact B_slnil | exact Bq_eql_Msg | exact Bq_neq_Msg | exact Bq_eql_Pair | exact Bq_neq_Pair | exact Bq_eql_Op | exact Bq_neq_Op | exact Bq_eql_Cfg | exact Bq_neq_Cfg)); rfl)
    | refine sst ?_
    | refine VS_nil ?_
    | refine eeq ?_
    | refine ees ?_ (by first | exact es1 (by rfl) | exact esN (by rfl))
    | refine VE_nil ?_
    | refine kyes ?_
    | refine kno ?_
    | refine gyes ?_
    | refine gno ?_
    | refine knoU ?_
    | refine gnoU ?_
    | refine VG_nil ⟨by rfl, ?_⟩
    | refine VG_nil ?_
    | refine dT ?_
    | refine d1 ?_
    | refine dQ ?_
    | refine ctr ?_
    | refine cfa ?_
    | refine kdec (fun hq => ?_) (fun hq => ?_)
    | refine gdec (fun hq => ?_) (fun hq => ?_)
    | refine cco (fun hq => ?_) (fun hq => ?_))
  refine VC_for (fun x : Nat × Value × Mem => ⟨x.2.2, [], [(0, .v (.pointer (some ⟨b, 0, none⟩))), (1, .v (.int .i64 th)), (2, .v (.bool any)), (7, .v x.2.1), (8, .v (.int .i64 x.1))]⟩) (fun x => M.le x.2.2 ∧ x.1 ≤ L.length ∧ SlM x.2.2 3 holdK x.2.1 (((L.take x.1).filter (selH th any)).foldl insH [])) (fun x => L.length - x.1) [] (0, .slice none 0 0, M) ⟨rfl, rfl, trivial, ⟨rfl, rfl, rfl, rfl, rfl, trivial⟩⟩ ⟨Mem.le_refl _, Nat.zero_le _, SlM.nil _ _ _⟩ ?_
  rintro ⟨k, uo, Mx⟩ ⟨hMx, hk, hout⟩
  dsimp only at hMx hk hout ⊢
  have h1x := hMx.cell h1
  have h2x := h2.mono hMx
  rcases Nat.lt_or_ge k L.length with hlt | hge
  · have hd := dlt hlt
    obtain ⟨b3, o3, hA, hcA⟩ := h2x.get hlt
    subst hA
    have hst := filt_step hlt (selH th any)
    have hlen := fold_len ((L.take k).filter (selH th any)) []
    have hfl : ((L.take k).filter (selH th any)).length ≤ L.length := by
      have h1 := List.length_filter_le (selH th any) (L.take k)
      rw [List.length_take] at h1
      omega
    have hsel : selH th any L[k] = (any || (L[k].thread == th)) := rfl
    have hnext : selH th any L[k] = true → (((L.take (k + 1)).filter (selH th any)).foldl insH []) = insH (((L.take k).filter (selH th any)).foldl insH []) L[k] := fun e => by
      rw [hst, e, if_pos rfl, List.foldl_append]; rfl
    have hskip : selH th any L[k] = false → (((L.take (k + 1)).filter (selH th any)).foldl insH []) = ((L.take k).filter (selH th any)).foldl insH [] := fun e => by
      rw [hst, e, if_neg (by simp), List.append_nil]
    generalize hout0 : ((L.take k).filter (selH th any)).foldl insH [] = out at *
    have hol : out.length ≤ 1000000 := by rw [hlen]; simp; omega
    clear hlen hst
    generalize hLk : L[k] = x at *
    obtain ⟨xt, xs, xw⟩ := x
    dsimp only at *
    cases any with
    | true =>
      have hs : selH th true ⟨xt, xs, xw⟩ = true := by rw [hsel]; rfl
      repeat' (first
        | refine VC_seq ?_
        | refine VC_region ?_
        | refine VL_nil ?_
        | refine VC_ret ?_
        | refine VC_exit ?_
        | refine VC_block ?_
        | refine VC_skip ?_
        | refine kbox ?_
        | refine kall ?_
        | refine kst ?_
        | refine ksN ?_
        | refine klt ?_
        | refine kl1 ?_
        | refine klK ?_
        | refine kap ?_
        | ((first | apply VL_q | apply VG_q | apply VS_q2); (first | exact qni (by rfl) | exact QS_mload1 (by rfl) h1x | exact qmv (by rfl) | exact qas (by rfl) | exact ql1 (by rfl) | exact qlA (by rfl) | exact qfa (by rfl) | exact qmf (by rfl) | exact qfd (by rfl) | exact qm1 (by rfl) | exact qbd (by rfl) | exact qno (by rfl) | exact qex (by rfl) | exact qln (by rfl) | exact qls (by rfl) | exact qlr (by rfl) | exact qpt (by rfl) | exact qpf (by rfl) | exact qcp (by rfl) | exact qbe (by rfl) | exact qbn (by rfl) | exact qsn (by rfl) | exact qad (by rfl) | exact qsa (by rfl) | exact qsu (by rfl) | exact QS_bin (by rfl) (by rfl) (by first | exact B_slnil | exact Bq_eql_Msg | exact Bq_neq_Msg | exact Bq_eql_Pair | exact Bq_neq_Pair | exact Bq_eql_Op | exact Bq_neq_Op | exact Bq_eql_Cfg | exact Bq_neq_Cfg)); rfl)
        | refine sst ?_
        | refine VS_nil ?_
        | refine eeq ?_
        | refine ees ?_ (by first | exact es1 (by rfl) | exact esN (by rfl))
        | refine VE_nil ?_
        | refine kyes ?_
        | refine kno ?_
        | refine gyes ?_
        | refine gno ?_
        | refine knoU ?_
        | refine gnoU ?_
        | refine VG_nil ⟨by rfl, ?_⟩
        | refine VG_nil ?_
        | refine dT ?_
        | refine d1 ?_
        | refine dQ ?_
        | refine ctr ?_
        | refine cfa ?_
        | refine kdec (fun hq => ?_) (fun hq => ?_)
        | refine gdec (fun hq => ?_) (fun hq => ?_)
        | refine cco (fun hq => ?_) (fun hq => ?_))
      obtain ⟨Ao, co, rfl, ho1, ho2, _⟩ := id hout
      unfold maxLen at ho2
      refine VC_for (fun j : Nat => ⟨Mx, [], [(0, .v (.pointer (some ⟨b, 0, none⟩))), (1, .v (.int .i64 th)), (2, .v (.bool true)), (7, .v (.slice Ao out.length co)), (8, .v (.int .i64 k)), (9, .v (.int .i64 j))]⟩) (fun j => j ≤ out.length ∧ ∀ q (hq : q < out.length), q < j → lessH out[q] ⟨xt, xs, xw⟩ = true) (fun j => out.length - j) [] 0 ⟨rfl, rfl, trivial, ⟨rfl, rfl, rfl, rfl, rfl, rfl, trivial⟩⟩ ⟨Nat.zero_le _, fun q _ h => absurd h (by omega)⟩ ?_
      rintro j ⟨hj, hjl⟩
      rcases Nat.lt_or_ge j out.length with hjo | hjo
      · have hd2 := dlt hjo
        obtain ⟨b4, o4, hA4, hcO⟩ := hout.get hjo
        subst hA4
        have cL := fun W => ref_less out[j] ⟨xt, xs, xw⟩ W
        cases hle : lessH out[j] ⟨xt, xs, xw⟩ with
        | true =>
          rw [hle] at cL
          repeat' (first
            | refine VC_seq ?_
            | refine VC_region ?_
            | refine VL_nil ?_
            | refine VC_ret ?_
            | refine VC_exit ?_
            | refine VC_block ?_
            | refine VC_skip ?_
            | refine kbox ?_
            | refine kall ?_
            | refine kst ?_
            | refine ksN ?_
            | refine klt ?_
            | refine kl1 ?_
            | refine klK ?_
            | refine kap ?_
            | ((first | apply VL_q | apply VG_q | apply VS_q2); (first | exact QS_indexAddr j (by rfl) (by rfl) rfl hjo | exact QS_indexAddr k (by rfl) (by rfl) rfl hlt | exact QS_mload1 (by rfl) (hcO 0 _ (by rfl)) | exact QS_mload1 (by rfl) (hcO _ _ (by rfl)) | exact QS_mloadN _ (by rfl) hcO _ (by rfl) | exact QS_mload1 (by rfl) (hcA 0 _ (by rfl)) | exact QS_mload1 (by rfl) (hcA _ _ (by rfl)) | exact QS_mloadN _ (by rfl) hcA _ (by rfl) | exact qni (by rfl) | exact QS_mload1 (by rfl) h1x | exact QS_call (by rfl) (fun W _ => cL W) | exact qmv (by rfl) | exact qas (by rfl) | exact ql1 (by rfl) | exact qlA (by rfl) | exact qfa (by rfl) | exact qmf (by rfl) | exact qfd (by rfl) | exact qm1 (by rfl) | exact qbd (by rfl) | exact qno (by rfl) | exact qex (by rfl) | exact qln (by rfl) | exact qls (by rfl) | exact qlr (by rfl) | exact qpt (by rfl) | exact qpf (by rfl) | exact qcp (by rfl) | exact qbe (by rfl) | exact qbn (by rfl) | exact qsn (by rfl) | exact qad (by rfl) | exact qsa (by rfl) | exact qsu (by rfl) | exact QS_bin (by rfl) (by rfl) (by first | exact B_slnil | exact Bq_eql_Msg | exact Bq_neq_Msg | exact Bq_eql_Pair | exact Bq_neq_Pair | exact Bq_eql_Op | exact Bq_neq_Op | exact Bq_eql_Cfg | exact Bq_neq_Cfg)); rfl)
            | refine sst ?_
            | refine VS_nil ?_
            | refine eeq ?_
            | refine ees ?_ (by first | exact es1 (by rfl) | exact esN (by rfl))
            | refine VE_nil ?_
            | refine kyes ?_
            | refine kno ?_
            | refine gyes ?_
            | refine gno ?_
            | refine knoU ?_
            | refine gnoU ?_
            | refine VG_nil ⟨by rfl, ?_⟩
            | refine VG_nil ?_
            | refine dT ?_
            | refine d1 ?_
            | refine dQ ?_
            | refine ctr ?_
            | refine cfa ?_
            | refine kdec (fun hq => ?_) (fun hq => ?_)
            | refine gdec (fun hq => ?_) (fun hq => ?_)
            | refine cco (fun hq => ?_) (fun hq => ?_))
          exact forQ_next (Q := fun _ _ => True) [] (j + 1) ⟨rfl, rfl, trivial, ⟨rfl, rfl, rfl, rfl, rfl, rfl, trivial⟩⟩ ⟨by omega, fun q hq hqj => by
            rcases Nat.lt_or_ge q j with h | h
            · exact hjl q hq h
            · obtain rfl : q = j := by omega
              exact hle⟩ (by omega)
        | false =>
          rw [hle] at cL
          have hpos := posH_at hj hjl (fun _ => hle)
          have hins : insH out ⟨xt, xs, xw⟩ = out.take j ++ ⟨xt, xs, xw⟩ :: out.drop j := by unfold insH; rw [hpos]
          have hil : (insH out ⟨xt, xs, xw⟩).length = j + 1 + (out.length - j) := by rw [hins]; simp; omega
          have hif : (insH out ⟨xt, xs, xw⟩).flatMap holdK = (out.take j).flatMap holdK ++ (holdK ⟨xt, xs, xw⟩ ++ (out.drop j).flatMap holdK) := by rw [hins, List.flatMap_append, List.flatMap_cons]
          have hp1 := SlM.part hout (p := 0) (q := j) (m := co) (by omega) hj (by omega) (Nat.le_refl _)
          have hp2 := SlM.part hout (p := j) (q := out.length) (m := co) hj (Nat.le_refl _) ho1 (Nat.le_refl _)
          rw [List.drop_zero] at hp1
          rw [List.take_length] at hp2
          have hl1 : (out.take j).length = j := by rw [List.length_take]; omega
          have hl2 : (out.drop j).length = out.length - j := List.length_drop
          obtain ⟨A1, c1', hsl1, hq1, hq2, _⟩ := id hp1
          obtain ⟨A2, c2', hsl2, hq3, hq4, _⟩ := id hp2
          rw [hsl1] at hp1
          rw [hsl2] at hp2
          have hone : ∀ l : List Hld, ((l.flatMap holdK).all (·.oneCell')) = true := fun l => by simp [List.all_flatMap, Value.oneCell']
          have hend : ∀ (n : Nat) (cs : List Value) (u : Value) (M' : Mem), Mx.le M' → RowM M' 3 n cs u → n = (insH out ⟨xt, xs, xw⟩).length → cs = (insH out ⟨xt, xs, xw⟩).flatMap holdK → ∀ env, EnvSub [] [(0, .v (.pointer (some ⟨b, 0, none⟩))), (1, .v (.int .i64 th)), (2, .v (.bool true)), (7, .v u), (8, .v (.int .i64 ((k + 1 : Nat) : Int)))] env → ∀ own, forQ (fun x : Nat × Value × Mem => (⟨x.2.2, [], [(0, .v (.pointer (some ⟨b, 0, none⟩))), (1, .v (.int .i64 th)), (2, .v (.bool true)), (7, .v x.2.1), (8, .v (.int .i64 x.1))]⟩ : St)) (fun x => M.le x.2.2 ∧ x.1 ≤ L.length ∧ SlM x.2.2 3 holdK x.2.1 (((L.take x.1).filter (selH th true)).foldl insH [])) (fun x => L.length - x.1) (L.length - k) (finQ fun s => ∃ v, Res Try.prog Try.f52 s v ∧ SlM s.M 3 holdK v (allL L th true)) .normal ⟨M', own, env⟩ := fun n cs u M' hm hr hn2 hc env he own => by
            subst hn2 hc
            exact forQ_next [] (k + 1, u, M') ⟨rfl, rfl, trivial, he⟩ ⟨hMx.trans hm, Nat.succ_le_of_lt hlt, by show SlM M' 3 holdK u _; rw [hnext hs]; exact RowM.slM (fun _ _ => rfl) hr⟩ (by show L.length - (k + 1) < L.length - k; omega)
          rw [hl1] at hsl1 hq1
          rw [hl2] at hsl2 hq3
          repeat' (first
            | refine VC_seq ?_
            | refine VC_region ?_
            | refine VL_nil ?_
            | refine VC_ret ?_
            | refine VC_exit ?_
            | refine VC_block ?_
            | refine VC_skip ?_
            | refine kbox ?_
            | refine kall ?_
            | refine kst ?_
            | refine ksN ?_
            | refine klt ?_
            | refine kl1 ?_
            | refine klK ?_
            | refine kap ?_
            | ((first | apply VL_q | apply VG_q | apply VS_q2); (first | exact QS_indexAddr j (by rfl) (by rfl) rfl hjo | exact QS_indexAddr k (by rfl) (by rfl) rfl hlt | exact QS_mload1 (by rfl) (hcO 0 _ (by rfl)) | exact QS_mload1 (by rfl) (hcO _ _ (by rfl)) | exact QS_mloadN _ (by rfl) hcO _ (by rfl) | exact QS_mload1 (by rfl) (hcA 0 _ (by rfl)) | exact QS_mload1 (by rfl) (hcA _ _ (by rfl)) | exact QS_mloadN _ (by rfl) hcA _ (by rfl) | exact qni (by rfl) | exact QS_mload1 (by rfl) h1x | exact QS_call (by rfl) (fun W _ => cL W) | exact QS_is hsl1 (QS_slice 0 j co (by rfl) rfl (by rfl) rfl (by omega) (by omega) (by omega) (by omega)) | exact qmv (by rfl) | exact qas (by rfl) | exact ql1 (by rfl) | exact qlA (by rfl) | exact qfa (by rfl) | exact qmf (by rfl) | exact qfd (by rfl) | exact qm1 (by rfl) | exact qbd (by rfl) | exact qno (by rfl) | exact qex (by rfl) | exact qln (by rfl) | exact qls (by rfl) | exact qlr (by rfl) | exact qpt (by rfl) | exact qpf (by rfl) | exact qcp (by rfl) | exact qbe (by rfl) | exact qbn (by rfl) | exact qsn (by rfl) | exact qad (by rfl) | exact qsa (by rfl) | exact qsu (by rfl) | exact QS_bin (by rfl) (by rfl) (by first | exact B_slnil | exact Bq_eql_Msg | exact Bq_neq_Msg | exact Bq_eql_Pair | exact Bq_neq_Pair | exact Bq_eql_Op | exact Bq_neq_Op | exact Bq_eql_Cfg | exact Bq_neq_Cfg)); rfl)
            | refine sst ?_
            | refine VS_nil ?_
            | refine eeq ?_
            | refine ees ?_ (by first | exact es1 (by rfl) | exact esN (by rfl))
            | refine VE_nil ?_
            | refine kyes ?_
            | refine kno ?_
            | refine gyes ?_
            | refine gno ?_
            | refine knoU ?_
            | refine gnoU ?_
            | refine VG_nil ⟨by rfl, ?_⟩
            | refine VG_nil ?_
            | refine dT ?_
            | refine d1 ?_
            | refine dQ ?_
            | refine ctr ?_
            | refine cfa ?_
            | refine kdec (fun hq => ?_) (fun hq => ?_)
            | refine gdec (fun hq => ?_) (fun hq => ?_)
            | refine cco (fun hq => ?_) (fun hq => ?_))
          rcases Nat.eq_zero_or_pos j with hj0 | hj0
          · apply VL_q
            · exact QS_append_nilZ (by rfl) (by rfl) (by rfl) hj0
            · rfl
            repeat' (first
              | refine VC_seq ?_
              | refine VC_region ?_
              | refine VL_nil ?_
              | refine VC_ret ?_
              | refine VC_exit ?_
              | refine VC_block ?_
              | refine VC_skip ?_
              | refine kbox ?_
              | refine kall ?_
              | refine kst ?_
              | refine ksN ?_
              | refine klt ?_
              | refine kl1 ?_
              | refine klK ?_
              | refine kap ?_
              | ((first | apply VL_q | apply VG_q | apply VS_q2); (first | exact QS_indexAddr j (by rfl) (by rfl) rfl hjo | exact QS_indexAddr k (by rfl) (by rfl) rfl hlt | exact QS_mload1 (by rfl) (hcO 0 _ (by rfl)) | exact QS_mload1 (by rfl) (hcO _ _ (by rfl)) | exact QS_mloadN _ (by rfl) hcO _ (by rfl) | exact QS_mload1 (by rfl) (hcA 0 _ (by rfl)) | exact QS_mload1 (by rfl) (hcA _ _ (by rfl)) | exact QS_mloadN _ (by rfl) hcA _ (by rfl) | exact qni (by rfl) | exact QS_mload1 (by rfl) h1x | exact QS_call (by rfl) (fun W _ => cL W) | exact QS_is hsl2 (QS_slice j out.length co (by rfl) (by rfl) rfl rfl (by omega) (by omega) (by omega) (by omega)) | exact qmv (by rfl) | exact qas (by rfl) | exact ql1 (by rfl) | exact qlA (by rfl) | exact qfa (by rfl) | exact qmf (by rfl) | exact qfd (by rfl) | exact qm1 (by rfl) | exact qbd (by rfl) | exact qno (by rfl) | exact qex (by rfl) | exact qln (by rfl) | exact qls (by rfl) | exact qlr (by rfl) | exact qpt (by rfl) | exact qpf (by rfl) | exact qcp (by rfl) | exact qbe (by rfl) | exact qbn (by rfl) | exact qsn (by rfl) | exact qad (by rfl) | exact qsa (by rfl) | exact qsu (by rfl) | exact QS_bin (by rfl) (by rfl) (by first | exact B_slnil | exact Bq_eql_Msg | exact Bq_neq_Msg | exact Bq_eql_Pair | exact Bq_neq_Pair | exact Bq_eql_Op | exact Bq_neq_Op | exact Bq_eql_Cfg | exact Bq_neq_Cfg)); rfl)
              | refine sst ?_
              | refine VS_nil ?_
              | refine eeq ?_
              | refine ees ?_ (by first | exact es1 (by rfl) | exact esN (by rfl))
              | refine VE_nil ?_
              | refine kyes ?_
              | refine kno ?_
              | refine gyes ?_
              | refine gno ?_
              | refine knoU ?_
              | refine gnoU ?_
              | refine VG_nil ⟨by rfl, ?_⟩
              | refine VG_nil ?_
              | refine dT ?_
              | refine d1 ?_
              | refine dQ ?_
              | refine ctr ?_
              | refine cfa ?_
              | refine kdec (fun hq => ?_) (fun hq => ?_)
              | refine gdec (fun hq => ?_) (fun hq => ?_)
              | refine cco (fun hq => ?_) (fun hq => ?_))
            rcases Nat.eq_zero_or_pos (out.length - j) with hz0 | hz0
            · apply VL_q
              · exact QS_append_nilZ (by rfl) (by rfl) (by rfl) hz0
              · rfl
              refine VL_frz 2 (by rfl) (fun u M' hle' hu' => ?_)
              repeat' (first
                | refine VC_seq ?_
                | refine VC_region ?_
                | refine VL_nil ?_
                | refine VC_ret ?_
                | refine VC_exit ?_
                | refine VC_block ?_
                | refine VC_skip ?_
                | refine kbox ?_
                | refine kall ?_
                | refine kst ?_
                | refine ksN ?_
                | refine klt ?_
                | refine kl1 ?_
                | refine klK ?_
                | refine kap ?_
                | ((first | apply VL_q | apply VG_q | apply VS_q2); (first  | exact qmv (by rfl) | exact qas (by rfl) | exact ql1 (by rfl) | exact qlA (by rfl) | exact qfa (by rfl) | exact qmf (by rfl) | exact qfd (by rfl) | exact qm1 (by rfl) | exact qbd (by rfl) | exact qno (by rfl) | exact qex (by rfl) | exact qln (by rfl) | exact qls (by rfl) | exact qlr (by rfl) | exact qpt (by rfl) | exact qpf (by rfl) | exact qcp (by rfl) | exact qbe (by rfl) | exact qbn (by rfl) | exact qsn (by rfl) | exact qad (by rfl) | exact qsa (by rfl) | exact qsu (by rfl) | exact QS_bin (by rfl) (by rfl) (by first | exact B_slnil | exact Bq_eql_Msg | exact Bq_neq_Msg | exact Bq_eql_Pair | exact Bq_neq_Pair | exact Bq_eql_Op | exact Bq_neq_Op | exact Bq_eql_Cfg | exact Bq_neq_Cfg)); rfl)
                | refine sst ?_
                | refine VS_nil ?_
                | refine eeq ?_
                | refine ees ?_ (by first | exact es1 (by rfl) | exact esN (by rfl))
                | refine VE_nil ?_
                | refine kyes ?_
                | refine kno ?_
                | refine gyes ?_
                | refine gno ?_
                | refine knoU ?_
                | refine gnoU ?_
                | refine VG_nil ⟨by rfl, ?_⟩
                | refine VG_nil ?_
                | refine dT ?_
                | refine d1 ?_
                | refine dQ ?_
                | refine ctr ?_
                | refine cfa ?_
                | refine kdec (fun hq => ?_) (fun hq => ?_)
                | refine gdec (fun hq => ?_) (fun hq => ?_)
                | refine cco (fun hq => ?_) (fun hq => ?_))
              refine hend _ _ u M' hle' hu' (by rw [hil]; omega) ?_ _ ⟨rfl, rfl, rfl, rfl, rfl, trivial⟩ _
              rw [hif, List.length_eq_zero_iff.1 (hl1.trans hj0), List.length_eq_zero_iff.1 (hl2.trans hz0)]
              rfl
            · obtain ⟨b6, o6, hA6, hcl6, hcells6⟩ := SlM.flat (k := 3) (cells := holdK) (fun a _ => rfl) hp2 (by intro e; rw [e] at hl2; simp at hl2; omega)
              subst hA6
              rw [hl2] at hcl6
              refine VL_e _ _ (EF_appendM ((out.drop j).flatMap holdK) (by rfl) (by rfl) (by rfl) hcl6 hcells6 hz0 (hone _) (by unfold maxLen; omega) (by omega)) (by rfl) (by rfl) ?_
              refine VL_frz 3 (by rfl) (fun u M' hle' hu' => ?_)
              repeat' (first
                | refine VC_seq ?_
                | refine VC_region ?_
                | refine VL_nil ?_
                | refine VC_ret ?_
                | refine VC_exit ?_
                | refine VC_block ?_
                | refine VC_skip ?_
                | refine kbox ?_
                | refine kall ?_
                | refine kst ?_
                | refine ksN ?_
                | refine klt ?_
                | refine kl1 ?_
                | refine klK ?_
                | refine kap ?_
                | ((first | apply VL_q | apply VG_q | apply VS_q2); (first  | exact qmv (by rfl) | exact qas (by rfl) | exact ql1 (by rfl) | exact qlA (by rfl) | exact qfa (by rfl) | exact qmf (by rfl) | exact qfd (by rfl) | exact qm1 (by rfl) | exact qbd (by rfl) | exact qno (by rfl) | exact qex (by rfl) | exact qln (by rfl) | exact qls (by rfl) | exact qlr (by rfl) | exact qpt (by rfl) | exact qpf (by rfl) | exact qcp (by rfl) | exact qbe (by rfl) | exact qbn (by rfl) | exact qsn (by rfl) | exact qad (by rfl) | exact qsa (by rfl) | exact qsu (by rfl) | exact QS_bin (by rfl) (by rfl) (by first | exact B_slnil | exact Bq_eql_Msg | exact Bq_neq_Msg | exact Bq_eql_Pair | exact Bq_neq_Pair | exact Bq_eql_Op | exact Bq_neq_Op | exact Bq_eql_Cfg | exact Bq_neq_Cfg)); rfl)
                | refine sst ?_
                | refine VS_nil ?_
                | refine eeq ?_
                | refine ees ?_ (by first | exact es1 (by rfl) | exact esN (by rfl))
                | refine VE_nil ?_
                | refine kyes ?_
                | refine kno ?_
                | refine gyes ?_
                | refine gno ?_
                | refine knoU ?_
                | refine gnoU ?_
                | refine VG_nil ⟨by rfl, ?_⟩
                | refine VG_nil ?_
                | refine dT ?_
                | refine d1 ?_
                | refine dQ ?_
                | refine ctr ?_
                | refine cfa ?_
                | refine kdec (fun hq => ?_) (fun hq => ?_)
                | refine gdec (fun hq => ?_) (fun hq => ?_)
                | refine cco (fun hq => ?_) (fun hq => ?_))
              refine hend _ _ u M' hle' hu' (by rw [hil]; omega) ?_ _ ⟨rfl, rfl, rfl, rfl, rfl, trivial⟩ _
              rw [hif, List.length_eq_zero_iff.1 (hl1.trans hj0)]
              rfl
          · obtain ⟨b5, o5, hA5, hcl5, hcells5⟩ := SlM.flat (k := 3) (cells := holdK) (fun a _ => rfl) hp1 (by intro e; rw [e] at hl1; simp at hl1; omega)
            subst hA5
            rw [hl1] at hcl5
            refine VL_e _ _ (EF_appendM ((out.take j).flatMap holdK) (by rfl) (by rfl) (by rfl) hcl5 hcells5 hj0 (hone _) (by unfold maxLen; omega) (by omega)) (by rfl) (by rfl) ?_
            repeat' (first
              | refine VC_seq ?_
              | refine VC_region ?_
              | refine VL_nil ?_
              | refine VC_ret ?_
              | refine VC_exit ?_
              | refine VC_block ?_
              | refine VC_skip ?_
              | refine kbox ?_
              | refine kall ?_
              | refine kst ?_
              | refine ksN ?_
              | refine klt ?_
              | refine kl1 ?_
              | refine klK ?_
              | refine kap ?_
              | ((first | apply VL_q | apply VG_q | apply VS_q2); (first | exact QS_indexAddr j (by rfl) (by rfl) rfl hjo | exact QS_indexAddr k (by rfl) (by rfl) rfl hlt | exact QS_mload1 (by rfl) (hcO 0 _ (by rfl)) | exact QS_mload1 (by rfl) (hcO _ _ (by rfl)) | exact QS_mloadN _ (by rfl) hcO _ (by rfl) | exact QS_mload1 (by rfl) (hcA 0 _ (by rfl)) | exact QS_mload1 (by rfl) (hcA _ _ (by rfl)) | exact QS_mloadN _ (by rfl) hcA _ (by rfl) | exact qni (by rfl) | exact QS_mload1 (by rfl) h1x | exact QS_call (by rfl) (fun W _ => cL W) | exact QS_is hsl2 (QS_slice j out.length co (by rfl) (by rfl) rfl rfl (by omega) (by omega) (by omega) (by omega)) | exact qmv (by rfl) | exact qas (by rfl) | exact ql1 (by rfl) | exact qlA (by rfl) | exact qfa (by rfl) | exact qmf (by rfl) | exact qfd (by rfl) | exact qm1 (by rfl) | exact qbd (by rfl) | exact qno (by rfl) | exact qex (by rfl) | exact qln (by rfl) | exact qls (by rfl) | exact qlr (by rfl) | exact qpt (by rfl) | exact qpf (by rfl) | exact qcp (by rfl) | exact qbe (by rfl) | exact qbn (by rfl) | exact qsn (by rfl) | exact qad (by rfl) | exact qsa (by rfl) | exact qsu (by rfl) | exact QS_bin (by rfl) (by rfl) (by first | exact B_slnil | exact Bq_eql_Msg | exact Bq_neq_Msg | exact Bq_eql_Pair | exact Bq_neq_Pair | exact Bq_eql_Op | exact Bq_neq_Op | exact Bq_eql_Cfg | exact Bq_neq_Cfg)); rfl)
              | refine sst ?_
              | refine VS_nil ?_
              | refine eeq ?_
              | refine ees ?_ (by first | exact es1 (by rfl) | exact esN (by rfl))
              | refine VE_nil ?_
              | refine kyes ?_
              | refine kno ?_
              | refine gyes ?_
              | refine gno ?_
              | refine knoU ?_
              | refine gnoU ?_
              | refine VG_nil ⟨by rfl, ?_⟩
              | refine VG_nil ?_
              | refine dT ?_
              | refine d1 ?_
              | refine dQ ?_
              | refine ctr ?_
              | refine cfa ?_
              | refine kdec (fun hq => ?_) (fun hq => ?_)
              | refine gdec (fun hq => ?_) (fun hq => ?_)
              | refine cco (fun hq => ?_) (fun hq => ?_))
            rcases Nat.eq_zero_or_pos (out.length - j) with hz0 | hz0
            · apply VL_q
              · exact QS_append_nilZ (by rfl) (by rfl) (by rfl) hz0
              · rfl
              refine VL_frz 3 (by rfl) (fun u M' hle' hu' => ?_)
              repeat' (first
                | refine VC_seq ?_
                | refine VC_region ?_
                | refine VL_nil ?_
                | refine VC_ret ?_
                | refine VC_exit ?_
                | refine VC_block ?_
                | refine VC_skip ?_
                | refine kbox ?_
                | refine kall ?_
                | refine kst ?_
                | refine ksN ?_
                | refine klt ?_
                | refine kl1 ?_
                | refine klK ?_
                | refine kap ?_
                | ((first | apply VL_q | apply VG_q | apply VS_q2); (first  | exact qmv (by rfl) | exact qas (by rfl) | exact ql1 (by rfl) | exact qlA (by rfl) | exact qfa (by rfl) | exact qmf (by rfl) | exact qfd (by rfl) | exact qm1 (by rfl) | exact qbd (by rfl) | exact qno (by rfl) | exact qex (by rfl) | exact qln (by rfl) | exact qls (by rfl) | exact qlr (by rfl) | exact qpt (by rfl) | exact qpf (by rfl) | exact qcp (by rfl) | exact qbe (by rfl) | exact qbn (by rfl) | exact qsn (by rfl) | exact qad (by rfl) | exact qsa (by rfl) | exact qsu (by rfl) | exact QS_bin (by rfl) (by rfl) (by first | exact B_slnil | exact Bq_eql_Msg | exact Bq_neq_Msg | exact Bq_eql_Pair | exact Bq_neq_Pair | exact Bq_eql_Op | exact Bq_neq_Op | exact Bq_eql_Cfg | exact Bq_neq_Cfg)); rfl)
                | refine sst ?_
                | refine VS_nil ?_
                | refine eeq ?_
                | refine ees ?_ (by first | exact es1 (by rfl) | exact esN (by rfl))
                | refine VE_nil ?_
                | refine kyes ?_
                | refine kno ?_
                | refine gyes ?_
                | refine gno ?_
                | refine knoU ?_
                | refine gnoU ?_
                | refine VG_nil ⟨by rfl, ?_⟩
                | refine VG_nil ?_
                | refine dT ?_
                | refine d1 ?_
                | refine dQ ?_
                | refine ctr ?_
                | refine cfa ?_
                | refine kdec (fun hq => ?_) (fun hq => ?_)
                | refine gdec (fun hq => ?_) (fun hq => ?_)
                | refine cco (fun hq => ?_) (fun hq => ?_))
              refine hend _ _ u M' hle' hu' (by rw [hil]; omega) ?_ _ ⟨rfl, rfl, rfl, rfl, rfl, trivial⟩ _
              rw [hif, List.length_eq_zero_iff.1 (hl2.trans hz0)]
              rfl
            · obtain ⟨b6, o6, hA6, hcl6, hcells6⟩ := SlM.flat (k := 3) (cells := holdK) (fun a _ => rfl) hp2 (by intro e; rw [e] at hl2; simp at hl2; omega)
              subst hA6
              rw [hl2] at hcl6
              refine VL_e _ _ (EF_appendM ((out.drop j).flatMap holdK) (by rfl) (by rfl) (by rfl) hcl6 hcells6 hz0 (hone _) (by unfold maxLen; omega) (by omega)) (by rfl) (by rfl) ?_
              refine VL_frz 4 (by rfl) (fun u M' hle' hu' => ?_)
              repeat' (first
                | refine VC_seq ?_
                | refine VC_region ?_
                | refine VL_nil ?_
                | refine VC_ret ?_
                | refine VC_exit ?_
                | refine VC_block ?_
                | refine VC_skip ?_
                | refine kbox ?_
                | refine kall ?_
                | refine kst ?_
                | refine ksN ?_
                | refine klt ?_
                | refine kl1 ?_
                | refine klK ?_
                | refine kap ?_
                | ((first | apply VL_q | apply VG_q | apply VS_q2); (first  | exact qmv (by rfl) | exact qas (by rfl) | exact ql1 (by rfl) | exact qlA (by rfl) | exact qfa (by rfl) | exact qmf (by rfl) | exact qfd (by rfl) | exact qm1 (by rfl) | exact qbd (by rfl) | exact qno (by rfl) | exact qex (by rfl) | exact qln (by rfl) | exact qls (by rfl) | exact qlr (by rfl) | exact qpt (by rfl) | exact qpf (by rfl) | exact qcp (by rfl) | exact qbe (by rfl) | exact qbn (by rfl) | exact qsn (by rfl) | exact qad (by rfl) | exact qsa (by rfl) | exact qsu (by rfl) | exact QS_bin (by rfl) (by rfl) (by first | exact B_slnil | exact Bq_eql_Msg | exact Bq_neq_Msg | exact Bq_eql_Pair | exact Bq_neq_Pair | exact Bq_eql_Op | exact Bq_neq_Op | exact Bq_eql_Cfg | exact Bq_neq_Cfg)); rfl)
                | refine sst ?_
                | refine VS_nil ?_
                | refine eeq ?_
                | refine ees ?_ (by first | exact es1 (by rfl) | exact esN (by rfl))
                | refine VE_nil ?_
                | refine kyes ?_
                | refine kno ?_
                | refine gyes ?_
                | refine gno ?_
                | refine knoU ?_
                | refine gnoU ?_
                | refine VG_nil ⟨by rfl, ?_⟩
                | refine VG_nil ?_
                | refine dT ?_
                | refine d1 ?_
                | refine dQ ?_
                | refine ctr ?_
                | refine cfa ?_
                | refine kdec (fun hq => ?_) (fun hq => ?_)
                | refine gdec (fun hq => ?_) (fun hq => ?_)
                | refine cco (fun hq => ?_) (fun hq => ?_))
              refine hend _ _ u M' hle' hu' (by rw [hil]; omega) ?_ _ ⟨rfl, rfl, rfl, rfl, rfl, trivial⟩ _
              rw [hif, List.append_assoc]
              rfl
      · have hd2 := dge hjo
        have hpos := posH_at hj hjl (fun h => absurd h (by omega))
        have hins : insH out ⟨xt, xs, xw⟩ = out.take j ++ ⟨xt, xs, xw⟩ :: out.drop j := by unfold insH; rw [hpos]
        have hil : (insH out ⟨xt, xs, xw⟩).length = j + 1 + (out.length - j) := by rw [hins]; simp; omega
        have hif : (insH out ⟨xt, xs, xw⟩).flatMap holdK = (out.take j).flatMap holdK ++ (holdK ⟨xt, xs, xw⟩ ++ (out.drop j).flatMap holdK) := by rw [hins, List.flatMap_append, List.flatMap_cons]
        have hp1 := SlM.part hout (p := 0) (q := j) (m := co) (by omega) hj (by omega) (Nat.le_refl _)
        have hp2 := SlM.part hout (p := j) (q := out.length) (m := co) hj (Nat.le_refl _) ho1 (Nat.le_refl _)
        rw [List.drop_zero] at hp1
        rw [List.take_length] at hp2
        have hl1 : (out.take j).length = j := by rw [List.length_take]; omega
        have hl2 : (out.drop j).length = out.length - j := List.length_drop
        obtain ⟨A1, c1', hsl1, hq1, hq2, _⟩ := id hp1
        obtain ⟨A2, c2', hsl2, hq3, hq4, _⟩ := id hp2
        rw [hsl1] at hp1
        rw [hsl2] at hp2
        have hone : ∀ l : List Hld, ((l.flatMap holdK).all (·.oneCell')) = true := fun l => by simp [List.all_flatMap, Value.oneCell']
        have hend : ∀ (n : Nat) (cs : List Value) (u : Value) (M' : Mem), Mx.le M' → RowM M' 3 n cs u → n = (insH out ⟨xt, xs, xw⟩).length → cs = (insH out ⟨xt, xs, xw⟩).flatMap holdK → ∀ env, EnvSub [] [(0, .v (.pointer (some ⟨b, 0, none⟩))), (1, .v (.int .i64 th)), (2, .v (.bool true)), (7, .v u), (8, .v (.int .i64 ((k + 1 : Nat) : Int)))] env → ∀ own, forQ (fun x : Nat × Value × Mem => (⟨x.2.2, [], [(0, .v (.pointer (some ⟨b, 0, none⟩))), (1, .v (.int .i64 th)), (2, .v (.bool true)), (7, .v x.2.1), (8, .v (.int .i64 x.1))]⟩ : St)) (fun x => M.le x.2.2 ∧ x.1 ≤ L.length ∧ SlM x.2.2 3 holdK x.2.1 (((L.take x.1).filter (selH th true)).foldl insH [])) (fun x => L.length - x.1) (L.length - k) (finQ fun s => ∃ v, Res Try.prog Try.f52 s v ∧ SlM s.M 3 holdK v (allL L th true)) .normal ⟨M', own, env⟩ := fun n cs u M' hm hr hn2 hc env he own => by
          subst hn2 hc
          exact forQ_next [] (k + 1, u, M') ⟨rfl, rfl, trivial, he⟩ ⟨hMx.trans hm, Nat.succ_le_of_lt hlt, by show SlM M' 3 holdK u _; rw [hnext hs]; exact RowM.slM (fun _ _ => rfl) hr⟩ (by show L.length - (k + 1) < L.length - k; omega)
        rw [hl1] at hsl1 hq1
        rw [hl2] at hsl2 hq3
        repeat' (first
          | refine VC_seq ?_
          | refine VC_region ?_
          | refine VL_nil ?_
          | refine VC_ret ?_
          | refine VC_exit ?_
          | refine VC_block ?_
          | refine VC_skip ?_
          | refine kbox ?_
          | refine kall ?_
          | refine kst ?_
          | refine ksN ?_
          | refine klt ?_
          | refine kl1 ?_
          | refine klK ?_
          | refine kap ?_
          | ((first | apply VL_q | apply VG_q | apply VS_q2); (first | exact QS_indexAddr k (by rfl) (by rfl) rfl hlt | exact QS_mload1 (by rfl) (hcA 0 _ (by rfl)) | exact QS_mload1 (by rfl) (hcA _ _ (by rfl)) | exact QS_mloadN _ (by rfl) hcA _ (by rfl) | exact qni (by rfl) | exact QS_mload1 (by rfl) h1x | exact QS_is hsl1 (QS_slice 0 j co (by rfl) rfl (by rfl) rfl (by omega) (by omega) (by omega) (by omega)) | exact qmv (by rfl) | exact qas (by rfl) | exact ql1 (by rfl) | exact qlA (by rfl) | exact qfa (by rfl) | exact qmf (by rfl) | exact qfd (by rfl) | exact qm1 (by rfl) | exact qbd (by rfl) | exact qno (by rfl) | exact qex (by rfl) | exact qln (by rfl) | exact qls (by rfl) | exact qlr (by rfl) | exact qpt (by rfl) | exact qpf (by rfl) | exact qcp (by rfl) | exact qbe (by rfl) | exact qbn (by rfl) | exact qsn (by rfl) | exact qad (by rfl) | exact qsa (by rfl) | exact qsu (by rfl) | exact QS_bin (by rfl) (by rfl) (by first | exact B_slnil | exact Bq_eql_Msg | exact Bq_neq_Msg | exact Bq_eql_Pair | exact Bq_neq_Pair | exact Bq_eql_Op | exact Bq_neq_Op | exact Bq_eql_Cfg | exact Bq_neq_Cfg)); rfl)
          | refine sst ?_
          | refine VS_nil ?_
          | refine eeq ?_
          | refine ees ?_ (by first | exact es1 (by rfl) | exact esN (by rfl))
          | refine VE_nil ?_
          | refine kyes ?_
          | refine kno ?_
          | refine gyes ?_
          | refine gno ?_
          | refine knoU ?_
          | refine gnoU ?_
          | refine VG_nil ⟨by rfl, ?_⟩
          | refine VG_nil ?_
          | refine dT ?_
          | refine d1 ?_
          | refine dQ ?_
          | refine ctr ?_
          | refine cfa ?_
          | refine kdec (fun hq => ?_) (fun hq => ?_)
          | refine gdec (fun hq => ?_) (fun hq => ?_)
          | refine cco (fun hq => ?_) (fun hq => ?_))
        rcases Nat.eq_zero_or_pos j with hj0 | hj0
        · apply VL_q
          · exact QS_append_nilZ (by rfl) (by rfl) (by rfl) hj0
          · rfl
          repeat' (first
            | refine VC_seq ?_
            | refine VC_region ?_
            | refine VL_nil ?_
            | refine VC_ret ?_
            | refine VC_exit ?_
            | refine VC_block ?_
            | refine VC_skip ?_
            | refine kbox ?_
            | refine kall ?_
            | refine kst ?_
            | refine ksN ?_
            | refine klt ?_
            | refine kl1 ?_
            | refine klK ?_
            | refine kap ?_
            | ((first | apply VL_q | apply VG_q | apply VS_q2); (first | exact QS_indexAddr k (by rfl) (by rfl) rfl hlt | exact QS_mload1 (by rfl) (hcA 0 _ (by rfl)) | exact QS_mload1 (by rfl) (hcA _ _ (by rfl)) | exact QS_mloadN _ (by rfl) hcA _ (by rfl) | exact qni (by rfl) | exact QS_mload1 (by rfl) h1x | exact QS_is hsl2 (QS_slice j out.length co (by rfl) (by rfl) rfl rfl (by omega) (by omega) (by omega) (by omega)) | exact qmv (by rfl) | exact qas (by rfl) | exact ql1 (by rfl) | exact qlA (by rfl) | exact qfa (by rfl) | exact qmf (by rfl) | exact qfd (by rfl) | exact qm1 (by rfl) | exact qbd (by rfl) | exact qno (by rfl) | exact qex (by rfl) | exact qln (by rfl) | exact qls (by rfl) | exact qlr (by rfl) | exact qpt (by rfl) | exact qpf (by rfl) | exact qcp (by rfl) | exact qbe (by rfl) | exact qbn (by rfl) | exact qsn (by rfl) | exact qad (by rfl) | exact qsa (by rfl) | exact qsu (by rfl) | exact QS_bin (by rfl) (by rfl) (by first | exact B_slnil | exact Bq_eql_Msg | exact Bq_neq_Msg | exact Bq_eql_Pair | exact Bq_neq_Pair | exact Bq_eql_Op | exact Bq_neq_Op | exact Bq_eql_Cfg | exact Bq_neq_Cfg)); rfl)
            | refine sst ?_
            | refine VS_nil ?_
            | refine eeq ?_
            | refine ees ?_ (by first | exact es1 (by rfl) | exact esN (by rfl))
            | refine VE_nil ?_
            | refine kyes ?_
            | refine kno ?_
            | refine gyes ?_
            | refine gno ?_
            | refine knoU ?_
            | refine gnoU ?_
            | refine VG_nil ⟨by rfl, ?_⟩
            | refine VG_nil ?_
            | refine dT ?_
            | refine d1 ?_
            | refine dQ ?_
            | refine ctr ?_
            | refine cfa ?_
            | refine kdec (fun hq => ?_) (fun hq => ?_)
            | refine gdec (fun hq => ?_) (fun hq => ?_)
            | refine cco (fun hq => ?_) (fun hq => ?_))
          rcases Nat.eq_zero_or_pos (out.length - j) with hz0 | hz0
          · apply VL_q
            · exact QS_append_nilZ (by rfl) (by rfl) (by rfl) hz0
            · rfl
            refine VL_frz 2 (by rfl) (fun u M' hle' hu' => ?_)
            repeat' (first
              | refine VC_seq ?_
              | refine VC_region ?_
              | refine VL_nil ?_
              | refine VC_ret ?_
              | refine VC_exit ?_
              | refine VC_block ?_
              | refine VC_skip ?_
              | refine kbox ?_
              | refine kall ?_
              | refine kst ?_
              | refine ksN ?_
              | refine klt ?_
              | refine kl1 ?_
              | refine klK ?_
              | refine kap ?_
              | ((first | apply VL_q | apply VG_q | apply VS_q2); (first  | exact qmv (by rfl) | exact qas (by rfl) | exact ql1 (by rfl) | exact qlA (by rfl) | exact qfa (by rfl) | exact qmf (by rfl) | exact qfd (by rfl) | exact qm1 (by rfl) | exact qbd (by rfl) | exact qno (by rfl) | exact qex (by rfl) | exact qln (by rfl) | exact qls (by rfl) | exact qlr (by rfl) | exact qpt (by rfl) | exact qpf (by rfl) | exact qcp (by rfl) | exact qbe (by rfl) | exact qbn (by rfl) | exact qsn (by rfl) | exact qad (by rfl) | exact qsa (by rfl) | exact qsu (by rfl) | exact QS_bin (by rfl) (by rfl) (by first | exact B_slnil | exact Bq_eql_Msg | exact Bq_neq_Msg | exact Bq_eql_Pair | exact Bq_neq_Pair | exact Bq_eql_Op | exact Bq_neq_Op | exact Bq_eql_Cfg | exact Bq_neq_Cfg)); rfl)
              | refine sst ?_
              | refine VS_nil ?_
              | refine eeq ?_
              | refine ees ?_ (by first | exact es1 (by rfl) | exact esN (by rfl))
              | refine VE_nil ?_
              | refine kyes ?_
              | refine kno ?_
              | refine gyes ?_
              | refine gno ?_
              | refine knoU ?_
              | refine gnoU ?_
              | refine VG_nil ⟨by rfl, ?_⟩
              | refine VG_nil ?_
              | refine dT ?_
              | refine d1 ?_
              | refine dQ ?_
              | refine ctr ?_
              | refine cfa ?_
              | refine kdec (fun hq => ?_) (fun hq => ?_)
              | refine gdec (fun hq => ?_) (fun hq => ?_)
              | refine cco (fun hq => ?_) (fun hq => ?_))
            refine hend _ _ u M' hle' hu' (by rw [hil]; omega) ?_ _ ⟨rfl, rfl, rfl, rfl, rfl, trivial⟩ _
            rw [hif, List.length_eq_zero_iff.1 (hl1.trans hj0), List.length_eq_zero_iff.1 (hl2.trans hz0)]
            rfl
          · obtain ⟨b6, o6, hA6, hcl6, hcells6⟩ := SlM.flat (k := 3) (cells := holdK) (fun a _ => rfl) hp2 (by intro e; rw [e] at hl2; simp at hl2; omega)
            subst hA6
            rw [hl2] at hcl6
            refine VL_e _ _ (EF_appendM ((out.drop j).flatMap holdK) (by rfl) (by rfl) (by rfl) hcl6 hcells6 hz0 (hone _) (by unfold maxLen; omega) (by omega)) (by rfl) (by rfl) ?_
            refine VL_frz 3 (by rfl) (fun u M' hle' hu' => ?_)
            repeat' (first
              | refine VC_seq ?_
              | refine VC_region ?_
              | refine VL_nil ?_
              | refine VC_ret ?_
              | refine VC_exit ?_
              | refine VC_block ?_
              | refine VC_skip ?_
              | refine kbox ?_
              | refine kall ?_
              | refine kst ?_
              | refine ksN ?_
              | refine klt ?_
              | refine kl1 ?_
              | refine klK ?_
              | refine kap ?_
              | ((first | apply VL_q | apply VG_q | apply VS_q2); (first  | exact qmv (by rfl) | exact qas (by rfl) | exact ql1 (by rfl) | exact qlA (by rfl) | exact qfa (by rfl) | exact qmf (by rfl) | exact qfd (by rfl) | exact qm1 (by rfl) | exact qbd (by rfl) | exact qno (by rfl) | exact qex (by rfl) | exact qln (by rfl) | exact qls (by rfl) | exact qlr (by rfl) | exact qpt (by rfl) | exact qpf (by rfl) | exact qcp (by rfl) | exact qbe (by rfl) | exact qbn (by rfl) | exact qsn (by rfl) | exact qad (by rfl) | exact qsa (by rfl) | exact qsu (by rfl) | exact QS_bin (by rfl) (by rfl) (by first | exact B_slnil | exact Bq_eql_Msg | exact Bq_neq_Msg | exact Bq_eql_Pair | exact Bq_neq_Pair | exact Bq_eql_Op | exact Bq_neq_Op | exact Bq_eql_Cfg | exact Bq_neq_Cfg)); rfl)
              | refine sst ?_
              | refine VS_nil ?_
              | refine eeq ?_
              | refine ees ?_ (by first | exact es1 (by rfl) | exact esN (by rfl))
              | refine VE_nil ?_
              | refine kyes ?_
              | refine kno ?_
              | refine gyes ?_
              | refine gno ?_
              | refine knoU ?_
              | refine gnoU ?_
              | refine VG_nil ⟨by rfl, ?_⟩
              | refine VG_nil ?_
              | refine dT ?_
              | refine d1 ?_
              | refine dQ ?_
              | refine ctr ?_
              | refine cfa ?_
              | refine kdec (fun hq => ?_) (fun hq => ?_)
              | refine gdec (fun hq => ?_) (fun hq => ?_)
              | refine cco (fun hq => ?_) (fun hq => ?_))
            refine hend _ _ u M' hle' hu' (by rw [hil]; omega) ?_ _ ⟨rfl, rfl, rfl, rfl, rfl, trivial⟩ _
            rw [hif, List.length_eq_zero_iff.1 (hl1.trans hj0)]
            rfl
        · obtain ⟨b5, o5, hA5, hcl5, hcells5⟩ := SlM.flat (k := 3) (cells := holdK) (fun a _ => rfl) hp1 (by intro e; rw [e] at hl1; simp at hl1; omega)
          subst hA5
          rw [hl1] at hcl5
          refine VL_e _ _ (EF_appendM ((out.take j).flatMap holdK) (by rfl) (by rfl) (by rfl) hcl5 hcells5 hj0 (hone _) (by unfold maxLen; omega) (by omega)) (by rfl) (by rfl) ?_
          repeat' (first
            | refine VC_seq ?_
            | refine VC_region ?_
            | refine VL_nil ?_
            | refine VC_ret ?_
            | refine VC_exit ?_
            | refine VC_block ?_
            | refine VC_skip ?_
            | refine kbox ?_
            | refine kall ?_
            | refine kst ?_
            | refine ksN ?_
            | refine klt ?_
            | refine kl1 ?_
            | refine klK ?_
            | refine kap ?_
            | ((first | apply VL_q | apply VG_q | apply VS_q2); (first | exact QS_indexAddr k (by rfl) (by rfl) rfl hlt | exact QS_mload1 (by rfl) (hcA 0 _ (by rfl)) | exact QS_mload1 (by rfl) (hcA _ _ (by rfl)) | exact QS_mloadN _ (by rfl) hcA _ (by rfl) | exact qni (by rfl) | exact QS_mload1 (by rfl) h1x | exact QS_is hsl2 (QS_slice j out.length co (by rfl) (by rfl) rfl rfl (by omega) (by omega) (by omega) (by omega)) | exact qmv (by rfl) | exact qas (by rfl) | exact ql1 (by rfl) | exact qlA (by rfl) | exact qfa (by rfl) | exact qmf (by rfl) | exact qfd (by rfl) | exact qm1 (by rfl) | exact qbd (by rfl) | exact qno (by rfl) | exact qex (by rfl) | exact qln (by rfl) | exact qls (by rfl) | exact qlr (by rfl) | exact qpt (by rfl) | exact qpf (by rfl) | exact qcp (by rfl) | exact qbe (by rfl) | exact qbn (by rfl) | exact qsn (by rfl) | exact qad (by rfl) | exact qsa (by rfl) | exact qsu (by rfl) | exact QS_bin (by rfl) (by rfl) (by first | exact B_slnil | exact Bq_eql_Msg | exact Bq_neq_Msg | exact Bq_eql_Pair | exact Bq_neq_Pair | exact Bq_eql_Op | exact Bq_neq_Op | exact Bq_eql_Cfg | exact Bq_neq_Cfg)); rfl)
            | refine sst ?_
            | refine VS_nil ?_
            | refine eeq ?_
            | refine ees ?_ (by first | exact es1 (by rfl) | exact esN (by rfl))
            | refine VE_nil ?_
            | refine kyes ?_
            | refine kno ?_
            | refine gyes ?_
            | refine gno ?_
            | refine knoU ?_
            | refine gnoU ?_
            | refine VG_nil ⟨by rfl, ?_⟩
            | refine VG_nil ?_
            | refine dT ?_
            | refine d1 ?_
            | refine dQ ?_
            | refine ctr ?_
            | refine cfa ?_
            | refine kdec (fun hq => ?_) (fun hq => ?_)
            | refine gdec (fun hq => ?_) (fun hq => ?_)
            | refine cco (fun hq => ?_) (fun hq => ?_))
          rcases Nat.eq_zero_or_pos (out.length - j) with hz0 | hz0
          · apply VL_q
            · exact QS_append_nilZ (by rfl) (by rfl) (by rfl) hz0
            · rfl
            refine VL_frz 3 (by rfl) (fun u M' hle' hu' => ?_)
            repeat' (first
              | refine VC_seq ?_
              | refine VC_region ?_
              | refine VL_nil ?_
              | refine VC_ret ?_
              | refine VC_exit ?_
              | refine VC_block ?_
              | refine VC_skip ?_
              | refine kbox ?_
              | refine kall ?_
              | refine kst ?_
              | refine ksN ?_
              | refine klt ?_
              | refine kl1 ?_
              | refine klK ?_
              | refine kap ?_
              | ((first | apply VL_q | apply VG_q | apply VS_q2); (first  | exact qmv (by rfl) | exact qas (by rfl) | exact ql1 (by rfl) | exact qlA (by rfl) | exact qfa (by rfl) | exact qmf (by rfl) | exact qfd (by rfl) | exact qm1 (by rfl) | exact qbd (by rfl) | exact qno (by rfl) | exact qex (by rfl) | exact qln (by rfl) | exact qls (by rfl) | exact qlr (by rfl) | exact qpt (by rfl) | exact qpf (by rfl) | exact qcp (by rfl) | exact qbe (by rfl) | exact qbn (by rfl) | exact qsn (by rfl) | exact qad (by rfl) | exact qsa (by rfl) | exact qsu (by rfl) | exact QS_bin (by rfl) (by rfl) (by first | exact B_slnil | exact Bq_eql_Msg | exact Bq_neq_Msg | exact Bq_eql_Pair | exact Bq_neq_Pair | exact Bq_eql_Op | exact Bq_neq_Op | exact Bq_eql_Cfg | exact Bq_neq_Cfg)); rfl)
              | refine sst ?_
              | refine VS_nil ?_
              | refine eeq ?_
              | refine ees ?_ (by first | exact es1 (by rfl) | exact esN (by rfl))
              | refine VE_nil ?_
              | refine kyes ?_
              | refine kno ?_
              | refine gyes ?_
              | refine gno ?_
              | refine knoU ?_
              | refine gnoU ?_
              | refine VG_nil ⟨by rfl, ?_⟩
              | refine VG_nil ?_
              | refine dT ?_
              | refine d1 ?_
              | refine dQ ?_
              | refine ctr ?_
              | refine cfa ?_
              | refine kdec (fun hq => ?_) (fun hq => ?_)
              | refine gdec (fun hq => ?_) (fun hq => ?_)
              | refine cco (fun hq => ?_) (fun hq => ?_))
            refine hend _ _ u M' hle' hu' (by rw [hil]; omega) ?_ _ ⟨rfl, rfl, rfl, rfl, rfl, trivial⟩ _
            rw [hif, List.length_eq_zero_iff.1 (hl2.trans hz0)]
            rfl
          · obtain ⟨b6, o6, hA6, hcl6, hcells6⟩ := SlM.flat (k := 3) (cells := holdK) (fun a _ => rfl) hp2 (by intro e; rw [e] at hl2; simp at hl2; omega)
            subst hA6
            rw [hl2] at hcl6
            refine VL_e _ _ (EF_appendM ((out.drop j).flatMap holdK) (by rfl) (by rfl) (by rfl) hcl6 hcells6 hz0 (hone _) (by unfold maxLen; omega) (by omega)) (by rfl) (by rfl) ?_
            refine VL_frz 4 (by rfl) (fun u M' hle' hu' => ?_)
            repeat' (first
              | refine VC_seq ?_
              | refine VC_region ?_
              | refine VL_nil ?_
              | refine VC_ret ?_
              | refine VC_exit ?_
              | refine VC_block ?_
              | refine VC_skip ?_
              | refine kbox ?_
              | refine kall ?_
              | refine kst ?_
              | refine ksN ?_
              | refine klt ?_
              | refine kl1 ?_
              | refine klK ?_
              | refine kap ?_
              | ((first | apply VL_q | apply VG_q | apply VS_q2); (first  | exact qmv (by rfl) | exact qas (by rfl) | exact ql1 (by rfl) | exact qlA (by rfl) | exact qfa (by rfl) | exact qmf (by rfl) | exact qfd (by rfl) | exact qm1 (by rfl) | exact qbd (by rfl) | exact qno (by rfl) | exact qex (by rfl) | exact qln (by rfl) | exact qls (by rfl) | exact qlr (by rfl) | exact qpt (by rfl) | exact qpf (by rfl) | exact qcp (by rfl) | exact qbe (by rfl) | exact qbn (by rfl) | exact qsn (by rfl) | exact qad (by rfl) | exact qsa (by rfl) | exact qsu (by rfl) | exact QS_bin (by rfl) (by rfl) (by first | exact B_slnil | exact Bq_eql_Msg | exact Bq_neq_Msg | exact Bq_eql_Pair | exact Bq_neq_Pair | exact Bq_eql_Op | exact Bq_neq_Op | exact Bq_eql_Cfg | exact Bq_neq_Cfg)); rfl)
              | refine sst ?_
              | refine VS_nil ?_
              | refine eeq ?_
              | refine ees ?_ (by first | exact es1 (by rfl) | exact esN (by rfl))
              | refine VE_nil ?_
              | refine kyes ?_
              | refine kno ?_
              | refine gyes ?_
              | refine gno ?_
              | refine knoU ?_
              | refine gnoU ?_
              | refine VG_nil ⟨by rfl, ?_⟩
              | refine VG_nil ?_
              | refine dT ?_
              | refine d1 ?_
              | refine dQ ?_
              | refine ctr ?_
              | refine cfa ?_
              | refine kdec (fun hq => ?_) (fun hq => ?_)
              | refine gdec (fun hq => ?_) (fun hq => ?_)
              | refine cco (fun hq => ?_) (fun hq => ?_))
            refine hend _ _ u M' hle' hu' (by rw [hil]; omega) ?_ _ ⟨rfl, rfl, rfl, rfl, rfl, trivial⟩ _
            rw [hif, List.append_assoc]
            rfl
    | false =>
      cases ct : (xt == th) with
      | true =>
        have hs : selH th false ⟨xt, xs, xw⟩ = true := by rw [hsel, ct]; rfl
        have ct2 : (xt != th) = false := by show (!(xt == th)) = false; rw [ct]; rfl
        repeat' (first
          | refine VC_seq ?_
          | refine VC_region ?_
          | refine VL_nil ?_
          | refine VC_ret ?_
          | refine VC_exit ?_
          | refine VC_block ?_
          | refine VC_skip ?_
          | refine kbox ?_
          | refine kall ?_
          | refine kst ?_
          | refine ksN ?_
          | refine klt ?_
          | refine kl1 ?_
          | refine klK ?_
          | refine kap ?_
          | ((first | apply VL_q | apply VG_q | apply VS_q2); (first | exact QS_indexAddr (k) (by rfl) (by rfl) (by omega) (by omega) | exact QS_mload1 (by rfl) (hcA 0 _ (by rfl)) | exact QS_mload1 (by rfl) (hcA _ _ (by rfl)) | exact QS_mloadN _ (by rfl) hcA _ (by rfl) | exact qni (by rfl) | exact QS_mload1 (by rfl) h1x | exact qmv (by rfl) | exact qas (by rfl) | exact ql1 (by rfl) | exact qlA (by rfl) | exact qfa (by rfl) | exact qmf (by rfl) | exact qfd (by rfl) | exact qm1 (by rfl) | exact qbd (by rfl) | exact qno (by rfl) | exact qex (by rfl) | exact qln (by rfl) | exact qls (by rfl) | exact qlr (by rfl) | exact qpt (by rfl) | exact qpf (by rfl) | exact qcp (by rfl) | exact qbe (by rfl) | exact qbn (by rfl) | exact qsn (by rfl) | exact qad (by rfl) | exact qsa (by rfl) | exact qsu (by rfl) | exact QS_bin (by rfl) (by rfl) (by first | exact B_slnil | exact Bq_eql_Msg | exact Bq_neq_Msg | exact Bq_eql_Pair | exact Bq_neq_Pair | exact Bq_eql_Op | exact Bq_neq_Op | exact Bq_eql_Cfg | exact Bq_neq_Cfg)); rfl)
          | refine sst ?_
          | refine VS_nil ?_
          | refine eeq ?_
          | refine ees ?_ (by first | exact es1 (by rfl) | exact esN (by rfl))
          | refine VE_nil ?_
          | refine kyes ?_
          | refine kno ?_
          | refine gyes ?_
          | refine gno ?_
          | refine knoU ?_
          | refine gnoU ?_
          | refine VG_nil ⟨by rfl, ?_⟩
          | refine VG_nil ?_
          | refine dT ?_
          | refine d1 ?_
          | refine dQ ?_
          | refine ctr ?_
          | refine cfa ?_
          | refine kdec (fun hq => ?_) (fun hq => ?_)
          | refine gdec (fun hq => ?_) (fun hq => ?_)
          | refine cco (fun hq => ?_) (fun hq => ?_))
        obtain ⟨Ao, co, rfl, ho1, ho2, _⟩ := id hout
        unfold maxLen at ho2
        refine VC_for (fun j : Nat => ⟨Mx, [], [(0, .v (.pointer (some ⟨b, 0, none⟩))), (1, .v (.int .i64 th)), (2, .v (.bool false)), (7, .v (.slice Ao out.length co)), (8, .v (.int .i64 k)), (9, .v (.int .i64 j))]⟩) (fun j => j ≤ out.length ∧ ∀ q (hq : q < out.length), q < j → lessH out[q] ⟨xt, xs, xw⟩ = true) (fun j => out.length - j) [] 0 ⟨rfl, rfl, trivial, ⟨rfl, rfl, rfl, rfl, rfl, rfl, trivial⟩⟩ ⟨Nat.zero_le _, fun q _ h => absurd h (by omega)⟩ ?_
        rintro j ⟨hj, hjl⟩
        rcases Nat.lt_or_ge j out.length with hjo | hjo
        · have hd2 := dlt hjo
          obtain ⟨b4, o4, hA4, hcO⟩ := hout.get hjo
          subst hA4
          have cL := fun W => ref_less out[j] ⟨xt, xs, xw⟩ W
          cases hle : lessH out[j] ⟨xt, xs, xw⟩ with
          | true =>
            rw [hle] at cL
            repeat' (first
              | refine VC_seq ?_
              | refine VC_region ?_
              | refine VL_nil ?_
              | refine VC_ret ?_
              | refine VC_exit ?_
              | refine VC_block ?_
              | refine VC_skip ?_
              | refine kbox ?_
              | refine kall ?_
              | refine kst ?_
              | refine ksN ?_
              | refine klt ?_
              | refine kl1 ?_
              | refine klK ?_
              | refine kap ?_
              | ((first | apply VL_q | apply VG_q | apply VS_q2); (first | exact QS_indexAddr j (by rfl) (by rfl) rfl hjo | exact QS_indexAddr k (by rfl) (by rfl) rfl hlt | exact QS_mload1 (by rfl) (hcO 0 _ (by rfl)) | exact QS_mload1 (by rfl) (hcO _ _ (by rfl)) | exact QS_mloadN _ (by rfl) hcO _ (by rfl) | exact QS_mload1 (by rfl) (hcA 0 _ (by rfl)) | exact QS_mload1 (by rfl) (hcA _ _ (by rfl)) | exact QS_mloadN _ (by rfl) hcA _ (by rfl) | exact qni (by rfl) | exact QS_mload1 (by rfl) h1x | exact QS_call (by rfl) (fun W _ => cL W) | exact qmv (by rfl) | exact qas (by rfl) | exact ql1 (by rfl) | exact qlA (by rfl) | exact qfa (by rfl) | exact qmf (by rfl) | exact qfd (by rfl) | exact qm1 (by rfl) | exact qbd (by rfl) | exact qno (by rfl) | exact qex (by rfl) | exact qln (by rfl) | exact qls (by rfl) | exact qlr (by rfl) | exact qpt (by rfl) | exact qpf (by rfl) | exact qcp (by rfl) | exact qbe (by rfl) | exact qbn (by rfl) | exact qsn (by rfl) | exact qad (by rfl) | exact qsa (by rfl) | exact qsu (by rfl) | exact QS_bin (by rfl) (by rfl) (by first | exact B_slnil | exact Bq_eql_Msg | exact Bq_neq_Msg | exact Bq_eql_Pair | exact Bq_neq_Pair | exact Bq_eql_Op | exact Bq_neq_Op | exact Bq_eql_Cfg | exact Bq_neq_Cfg)); rfl)
              | refine sst ?_
              | refine VS_nil ?_
              | refine eeq ?_
              | refine ees ?_ (by first | exact es1 (by rfl) | exact esN (by rfl))
              | refine VE_nil ?_
              | refine kyes ?_
              | refine kno ?_
              | refine gyes ?_
              | refine gno ?_
              | refine knoU ?_
              | refine gnoU ?_
              | refine VG_nil ⟨by rfl, ?_⟩
              | refine VG_nil ?_
              | refine dT ?_
              | refine d1 ?_
              | refine dQ ?_
              | refine ctr ?_
              | refine cfa ?_
              | refine kdec (fun hq => ?_) (fun hq => ?_)
              | refine gdec (fun hq => ?_) (fun hq => ?_)
              | refine cco (fun hq => ?_) (fun hq => ?_))
            exact forQ_next (Q := fun _ _ => True) [] (j + 1) ⟨rfl, rfl, trivial, ⟨rfl, rfl, rfl, rfl, rfl, rfl, trivial⟩⟩ ⟨by omega, fun q hq hqj => by
              rcases Nat.lt_or_ge q j with h | h
              · exact hjl q hq h
              · obtain rfl : q = j := by omega
                exact hle⟩ (by omega)
          | false =>
            rw [hle] at cL
            have hpos := posH_at hj hjl (fun _ => hle)
            have hins : insH out ⟨xt, xs, xw⟩ = out.take j ++ ⟨xt, xs, xw⟩ :: out.drop j := by unfold insH; rw [hpos]
            have hil : (insH out ⟨xt, xs, xw⟩).length = j + 1 + (out.length - j) := by rw [hins]; simp; omega
            have hif : (insH out ⟨xt, xs, xw⟩).flatMap holdK = (out.take j).flatMap holdK ++ (holdK ⟨xt, xs, xw⟩ ++ (out.drop j).flatMap holdK) := by rw [hins, List.flatMap_append, List.flatMap_cons]
            have hp1 := SlM.part hout (p := 0) (q := j) (m := co) (by omega) hj (by omega) (Nat.le_refl _)
            have hp2 := SlM.part hout (p := j) (q := out.length) (m := co) hj (Nat.le_refl _) ho1 (Nat.le_refl _)
            rw [List.drop_zero] at hp1
            rw [List.take_length] at hp2
            have hl1 : (out.take j).length = j := by rw [List.length_take]; omega
            have hl2 : (out.drop j).length = out.length - j := List.length_drop
            obtain ⟨A1, c1', hsl1, hq1, hq2, _⟩ := id hp1
            obtain ⟨A2, c2', hsl2, hq3, hq4, _⟩ := id hp2
            rw [hsl1] at hp1
            rw [hsl2] at hp2
            have hone : ∀ l : List Hld, ((l.flatMap holdK).all (·.oneCell')) = true := fun l => by simp [List.all_flatMap, Value.oneCell']
            have hend : ∀ (n : Nat) (cs : List Value) (u : Value) (M' : Mem), Mx.le M' → RowM M' 3 n cs u → n = (insH out ⟨xt, xs, xw⟩).length → cs = (insH out ⟨xt, xs, xw⟩).flatMap holdK → ∀ env, EnvSub [] [(0, .v (.pointer (some ⟨b, 0, none⟩))), (1, .v (.int .i64 th)), (2, .v (.bool false)), (7, .v u), (8, .v (.int .i64 ((k + 1 : Nat) : Int)))] env → ∀ own, forQ (fun x : Nat × Value × Mem => (⟨x.2.2, [], [(0, .v (.pointer (some ⟨b, 0, none⟩))), (1, .v (.int .i64 th)), (2, .v (.bool false)), (7, .v x.2.1), (8, .v (.int .i64 x.1))]⟩ : St)) (fun x => M.le x.2.2 ∧ x.1 ≤ L.length ∧ SlM x.2.2 3 holdK x.2.1 (((L.take x.1).filter (selH th false)).foldl insH [])) (fun x => L.length - x.1) (L.length - k) (finQ fun s => ∃ v, Res Try.prog Try.f52 s v ∧ SlM s.M 3 holdK v (allL L th false)) .normal ⟨M', own, env⟩ := fun n cs u M' hm hr hn2 hc env he own => by
              subst hn2 hc
              exact forQ_next [] (k + 1, u, M') ⟨rfl, rfl, trivial, he⟩ ⟨hMx.trans hm, Nat.succ_le_of_lt hlt, by show SlM M' 3 holdK u _; rw [hnext hs]; exact RowM.slM (fun _ _ => rfl) hr⟩ (by show L.length - (k + 1) < L.length - k; omega)
            rw [hl1] at hsl1 hq1
            rw [hl2] at hsl2 hq3
            repeat' (first
              | refine VC_seq ?_
              | refine VC_region ?_
              | refine VL_nil ?_
              | refine VC_ret ?_
              | refine VC_exit ?_
              | refine VC_block ?_
              | refine VC_skip ?_
              | refine kbox ?_
              | refine kall ?_
              | refine kst ?_
              | refine ksN ?_
              | refine klt ?_
              | refine kl1 ?_
              | refine klK ?_
              | refine kap ?_
              | ((first | apply VL_q | apply VG_q | apply VS_q2); (first | exact QS_indexAddr j (by rfl) (by rfl) rfl hjo | exact QS_indexAddr k (by rfl) (by rfl) rfl hlt | exact QS_mload1 (by rfl) (hcO 0 _ (by rfl)) | exact QS_mload1 (by rfl) (hcO _ _ (by rfl)) | exact QS_mloadN _ (by rfl) hcO _ (by rfl) | exact QS_mload1 (by rfl) (hcA 0 _ (by rfl)) | exact QS_mload1 (by rfl) (hcA _ _ (by rfl)) | exact QS_mloadN _ (by rfl) hcA _ (by rfl) | exact qni (by rfl) | exact QS_mload1 (by rfl) h1x | exact QS_call (by rfl) (fun W _ => cL W) | exact QS_is hsl1 (QS_slice 0 j co (by rfl) rfl (by rfl) rfl (by omega) (by omega) (by omega) (by omega)) | exact qmv (by rfl) | exact qas (by rfl) | exact ql1 (by rfl) | exact qlA (by rfl) | exact qfa (by rfl) | exact qmf (by rfl) | exact qfd (by rfl) | exact qm1 (by rfl) | exact qbd (by rfl) | exact qno (by rfl) | exact qex (by rfl) | exact qln (by rfl) | exact qls (by rfl) | exact qlr (by rfl) | exact qpt (by rfl) | exact qpf (by rfl) | exact qcp (by rfl) | exact qbe (by rfl) | exact qbn (by rfl) | exact qsn (by rfl) | exact qad (by rfl) | exact qsa (by rfl) | exact qsu (by rfl) | exact QS_bin (by rfl) (by rfl) (by first | exact B_slnil | exact Bq_eql_Msg | exact Bq_neq_Msg | exact Bq_eql_Pair | exact Bq_neq_Pair | exact Bq_eql_Op | exact Bq_neq_Op | exact Bq_eql_Cfg | exact Bq_neq_Cfg)); rfl)
              | refine sst ?_
              | refine VS_nil ?_
              | refine eeq ?_
              | refine ees ?_ (by first | exact es1 (by rfl) | exact esN (by rfl))
              | refine VE_nil ?_
              | refine kyes ?_
              | refine kno ?_
              | refine gyes ?_
              | refine gno ?_
              | refine knoU ?_
              | refine gnoU ?_
              | refine VG_nil ⟨by rfl, ?_⟩
              | refine VG_nil ?_
              | refine dT ?_
              | refine d1 ?_
              | refine dQ ?_
              | refine ctr ?_
              | refine cfa ?_
              | refine kdec (fun hq => ?_) (fun hq => ?_)
              | refine gdec (fun hq => ?_) (fun hq => ?_)
              | refine cco (fun hq => ?_) (fun hq => ?_))
            rcases Nat.eq_zero_or_pos j with hj0 | hj0
            · apply VL_q
              · exact QS_append_nilZ (by rfl) (by rfl) (by rfl) hj0
              · rfl
              repeat' (first
                | refine VC_seq ?_
                | refine VC_region ?_
                | refine VL_nil ?_
                | refine VC_ret ?_
                | refine VC_exit ?_
                | refine VC_block ?_
                | refine VC_skip ?_
                | refine kbox ?_
                | refine kall ?_
                | refine kst ?_
                | refine ksN ?_
                | refine klt ?_
                | refine kl1 ?_
                | refine klK ?_
                | refine kap ?_
                | ((first | apply VL_q | apply VG_q | apply VS_q2); (first | exact QS_indexAddr j (by rfl) (by rfl) rfl hjo | exact QS_indexAddr k (by rfl) (by rfl) rfl hlt | exact QS_mload1 (by rfl) (hcO 0 _ (by rfl)) | exact QS_mload1 (by rfl) (hcO _ _ (by rfl)) | exact QS_mloadN _ (by rfl) hcO _ (by rfl) | exact QS_mload1 (by rfl) (hcA 0 _ (by rfl)) | exact QS_mload1 (by rfl) (hcA _ _ (by rfl)) | exact QS_mloadN _ (by rfl) hcA _ (by rfl) | exact qni (by rfl) | exact QS_mload1 (by rfl) h1x | exact QS_call (by rfl) (fun W _ => cL W) | exact QS_is hsl2 (QS_slice j out.length co (by rfl) (by rfl) rfl rfl (by omega) (by omega) (by omega) (by omega)) | exact qmv (by rfl) | exact qas (by rfl) | exact ql1 (by rfl) | exact qlA (by rfl) | exact qfa (by rfl) | exact qmf (by rfl) | exact qfd (by rfl) | exact qm1 (by rfl) | exact qbd (by rfl) | exact qno (by rfl) | exact qex (by rfl) | exact qln (by rfl) | exact qls (by rfl) | exact qlr (by rfl) | exact qpt (by rfl) | exact qpf (by rfl) | exact qcp (by rfl) | exact qbe (by rfl) | exact qbn (by rfl) | exact qsn (by rfl) | exact qad (by rfl) | exact qsa (by rfl) | exact qsu (by rfl) | exact QS_bin (by rfl) (by rfl) (by first | exact B_slnil | exact Bq_eql_Msg | exact Bq_neq_Msg | exact Bq_eql_Pair | exact Bq_neq_Pair | exact Bq_eql_Op | exact Bq_neq_Op | exact Bq_eql_Cfg | exact Bq_neq_Cfg)); rfl)
                | refine sst ?_
                | refine VS_nil ?_
                | refine eeq ?_
                | refine ees ?_ (by first | exact es1 (by rfl) | exact esN (by rfl))
                | refine VE_nil ?_
                | refine kyes ?_
                | refine kno ?_
                | refine gyes ?_
                | refine gno ?_
                | refine knoU ?_
                | refine gnoU ?_
                | refine VG_nil ⟨by rfl, ?_⟩
                | refine VG_nil ?_
                | refine dT ?_
                | refine d1 ?_
                | refine dQ ?_
                | refine ctr ?_
                | refine cfa ?_
                | refine kdec (fun hq => ?_) (fun hq => ?_)
                | refine gdec (fun hq => ?_) (fun hq => ?_)
                | refine cco (fun hq => ?_) (fun hq => ?_))
              rcases Nat.eq_zero_or_pos (out.length - j) with hz0 | hz0
              · apply VL_q
                · exact QS_append_nilZ (by rfl) (by rfl) (by rfl) hz0
                · rfl
                refine VL_frz 2 (by rfl) (fun u M' hle' hu' => ?_)
                repeat' (first
                  | refine VC_seq ?_
                  | refine VC_region ?_
                  | refine VL_nil ?_
                  | refine VC_ret ?_
                  | refine VC_exit ?_
                  | refine VC_block ?_
                  | refine VC_skip ?_
                  | refine kbox ?_
                  | refine kall ?_
                  | refine kst ?_
                  | refine ksN ?_
                  | refine klt ?_
                  | refine kl1 ?_
                  | refine klK ?_
                  | refine kap ?_
                  | ((first | apply VL_q | apply VG_q | apply VS_q2); (first  | exact qmv (by rfl) | exact qas (by rfl) | exact ql1 (by rfl) | exact qlA (by rfl) | exact qfa (by rfl) | exact qmf (by rfl) | exact qfd (by rfl) | exact qm1 (by rfl) | exact qbd (by rfl) | exact qno (by rfl) | exact qex (by rfl) | exact qln (by rfl) | exact qls (by rfl) | exact qlr (by rfl) | exact qpt (by rfl) | exact qpf (by rfl) | exact qcp (by rfl) | exact qbe (by rfl) | exact qbn (by rfl) | exact qsn (by rfl) | exact qad (by rfl) | exact qsa (by rfl) | exact qsu (by rfl) | exact QS_bin (by rfl) (by rfl) (by first | exact B_slnil | exact Bq_eql_Msg | exact Bq_neq_Msg | exact Bq_eql_Pair | exact Bq_neq_Pair | exact Bq_eql_Op | exact Bq_neq_Op | exact Bq_eql_Cfg | exact Bq_neq_Cfg)); rfl)
                  | refine sst ?_
                  | refine VS_nil ?_
                  | refine eeq ?_
                  | refine ees ?_ (by first | exact es1 (by rfl) | exact esN (by rfl))
                  | refine VE_nil ?_
                  | refine kyes ?_
                  | refine kno ?_
                  | refine gyes ?_
                  | refine gno ?_
                  | refine knoU ?_
                  | refine gnoU ?_
                  | refine VG_nil ⟨by rfl, ?_⟩
                  | refine VG_nil ?_
                  | refine dT ?_
                  | refine d1 ?_
                  | refine dQ ?_
                  | refine ctr ?_
                  | refine cfa ?_
                  | refine kdec (fun hq => ?_) (fun hq => ?_)
                  | refine gdec (fun hq => ?_) (fun hq => ?_)
                  | refine cco (fun hq => ?_) (fun hq => ?_))
                refine hend _ _ u M' hle' hu' (by rw [hil]; omega) ?_ _ ⟨rfl, rfl, rfl, rfl, rfl, trivial⟩ _
                rw [hif, List.length_eq_zero_iff.1 (hl1.trans hj0), List.length_eq_zero_iff.1 (hl2.trans hz0)]
                rfl
              · obtain ⟨b6, o6, hA6, hcl6, hcells6⟩ := SlM.flat (k := 3) (cells := holdK) (fun a _ => rfl) hp2 (by intro e; rw [e] at hl2; simp at hl2; omega)
                subst hA6
                rw [hl2] at hcl6
                refine VL_e _ _ (EF_appendM ((out.drop j).flatMap holdK) (by rfl) (by rfl) (by rfl) hcl6 hcells6 hz0 (hone _) (by unfold maxLen; omega) (by omega)) (by rfl) (by rfl) ?_
                refine VL_frz 3 (by rfl) (fun u M' hle' hu' => ?_)
                repeat' (first
                  | refine VC_seq ?_
                  | refine VC_region ?_
                  | refine VL_nil ?_
                  | refine VC_ret ?_
                  | refine VC_exit ?_
                  | refine VC_block ?_
                  | refine VC_skip ?_
                  | refine kbox ?_
                  | refine kall ?_
                  | refine kst ?_
                  | refine ksN ?_
                  | refine klt ?_
                  | refine kl1 ?_
                  | refine klK ?_
                  | refine kap ?_
                  | ((first | apply VL_q | apply VG_q | apply VS_q2); (first  | exact qmv (by rfl) | exact qas (by rfl) | exact ql1 (by rfl) | exact qlA (by rfl) | exact qfa (by rfl) | exact qmf (by rfl) | exact qfd (by rfl) | exact qm1 (by rfl) | exact qbd (by rfl) | exact qno (by rfl) | exact qex (by rfl) | exact qln (by rfl) | exact qls (by rfl) | exact qlr (by rfl) | exact qpt (by rfl) | exact qpf (by rfl) | exact qcp (by rfl) | exact qbe (by rfl) | exact qbn (by rfl) | exact qsn (by rfl) | exact qad (by rfl) | exact qsa (by rfl) | exact qsu (by rfl) | exact QS_bin (by rfl) (by rfl) (by first | exact B_slnil | exact Bq_eql_Msg | exact Bq_neq_Msg | exact Bq_eql_Pair | exact Bq_neq_Pair | exact Bq_eql_Op | exact Bq_neq_Op | exact Bq_eql_Cfg | exact Bq_neq_Cfg)); rfl)
                  | refine sst ?_
                  | refine VS_nil ?_
                  | refine eeq ?_
                  | refine ees ?_ (by first | exact es1 (by rfl) | exact esN (by rfl))
                  | refine VE_nil ?_
                  | refine kyes ?_
                  | refine kno ?_
                  | refine gyes ?_
                  | refine gno ?_
                  | refine knoU ?_
                  | refine gnoU ?_
                  | refine VG_nil ⟨by rfl, ?_⟩
                  | refine VG_nil ?_
                  | refine dT ?_
                  | refine d1 ?_
                  | refine dQ ?_
                  | refine ctr ?_
                  | refine cfa ?_
                  | refine kdec (fun hq => ?_) (fun hq => ?_)
                  | refine gdec (fun hq => ?_) (fun hq => ?_)
                  | refine cco (fun hq => ?_) (fun hq => ?_))
                refine hend _ _ u M' hle' hu' (by rw [hil]; omega) ?_ _ ⟨rfl, rfl, rfl, rfl, rfl, trivial⟩ _
                rw [hif, List.length_eq_zero_iff.1 (hl1.trans hj0)]
                rfl
            · obtain ⟨b5, o5, hA5, hcl5, hcells5⟩ := SlM.flat (k := 3) (cells := holdK) (fun a _ => rfl) hp1 (by intro e; rw [e] at hl1; simp at hl1; omega)
              subst hA5
              rw [hl1] at hcl5
              refine VL_e _ _ (EF_appendM ((out.take j).flatMap holdK) (by rfl) (by rfl) (by rfl) hcl5 hcells5 hj0 (hone _) (by unfold maxLen; omega) (by omega)) (by rfl) (by rfl) ?_
              repeat' (first
                | refine VC_seq ?_
                | refine VC_region ?_
                | refine VL_nil ?_
                | refine VC_ret ?_
                | refine VC_exit ?_
                | refine VC_block ?_
                | refine VC_skip ?_
                | refine kbox ?_
                | refine kall ?_
                | refine kst ?_
                | refine ksN ?_
                | refine klt ?_
                | refine kl1 ?_
                | refine klK ?_
                | refine kap ?_
                | ((first | apply VL_q | apply VG_q | apply VS_q2); (first | exact QS_indexAddr j (by rfl) (by rfl) rfl hjo | exact QS_indexAddr k (by rfl) (by rfl) rfl hlt | exact QS_mload1 (by rfl) (hcO 0 _ (by rfl)) | exact QS_mload1 (by rfl) (hcO _ _ (by rfl)) | exact QS_mloadN _ (by rfl) hcO _ (by rfl) | exact QS_mload1 (by rfl) (hcA 0 _ (by rfl)) | exact QS_mload1 (by rfl) (hcA _ _ (by rfl)) | exact QS_mloadN _ (by rfl) hcA _ (by rfl) | exact qni (by rfl) | exact QS_mload1 (by rfl) h1x | exact QS_call (by rfl) (fun W _ => cL W) | exact QS_is hsl2 (QS_slice j out.length co (by rfl) (by rfl) rfl rfl (by omega) (by omega) (by omega) (by omega)) | exact qmv (by rfl) | exact qas (by rfl) | exact ql1 (by rfl) | exact qlA (by rfl) | exact qfa (by rfl) | exact qmf (by rfl) | exact qfd (by rfl) | exact qm1 (by rfl) | exact qbd (by rfl) | exact qno (by rfl) | exact qex (by rfl) | exact qln (by rfl) | exact qls (by rfl) | exact qlr (by rfl) | exact qpt (by rfl) | exact qpf (by rfl) | exact qcp (by rfl) | exact qbe (by rfl) | exact qbn (by rfl) | exact qsn (by rfl) | exact qad (by rfl) | exact qsa (by rfl) | exact qsu (by rfl) | exact QS_bin (by rfl) (by rfl) (by first | exact B_slnil | exact Bq_eql_Msg | exact Bq_neq_Msg | exact Bq_eql_Pair | exact Bq_neq_Pair | exact Bq_eql_Op | exact Bq_neq_Op | exact Bq_eql_Cfg | exact Bq_neq_Cfg)); rfl)
                | refine sst ?_
                | refine VS_nil ?_
                | refine eeq ?_
                | refine ees ?_ (by first | exact es1 (by rfl) | exact esN (by rfl))
                | refine VE_nil ?_
                | refine kyes ?_
                | refine kno ?_
                | refine gyes ?_
                | refine gno ?_
                | refine knoU ?_
                | refine gnoU ?_
                | refine VG_nil ⟨by rfl, ?_⟩
                | refine VG_nil ?_
                | refine dT ?_
                | refine d1 ?_
                | refine dQ ?_
                | refine ctr ?_
                | refine cfa ?_
                | refine kdec (fun hq => ?_) (fun hq => ?_)
                | refine gdec (fun hq => ?_) (fun hq => ?_)
                | refine cco (fun hq => ?_) (fun hq => ?_))
              rcases Nat.eq_zero_or_pos (out.length - j) with hz0 | hz0
              · apply VL_q
                · exact QS_append_nilZ (by rfl) (by rfl) (by rfl) hz0
                · rfl
                refine VL_frz 3 (by rfl) (fun u M' hle' hu' => ?_)
                repeat' (first
                  | refine VC_seq ?_
                  | refine VC_region ?_
                  | refine VL_nil ?_
                  | refine VC_ret ?_
                  | refine VC_exit ?_
                  | refine VC_block ?_
                  | refine VC_skip ?_
                  | refine kbox ?_
                  | refine kall ?_
                  | refine kst ?_
                  | refine ksN ?_
                  | refine klt ?_
                  | refine kl1 ?_
                  | refine klK ?_
                  | refine kap ?_
                  | ((first | apply VL_q | apply VG_q | apply VS_q2); (first  | exact qmv (by rfl) | exact qas (by rfl) | exact ql1 (by rfl) | exact qlA (by rfl) | exact qfa (by rfl) | exact qmf (by rfl) | exact qfd (by rfl) | exact qm1 (by rfl) | exact qbd (by rfl) | exact qno (by rfl) | exact qex (by rfl) | exact qln (by rfl) | exact qls (by rfl) | exact qlr (by rfl) | exact qpt (by rfl) | exact qpf (by rfl) | exact qcp (by rfl) | exact qbe (by rfl) | exact qbn (by rfl) | exact qsn (by rfl) | exact qad (by rfl) | exact qsa (by rfl) | exact qsu (by rfl) | exact QS_bin (by rfl) (by rfl) (by first | exact B_slnil | exact Bq_eql_Msg | exact Bq_neq_Msg | exact Bq_eql_Pair | exact Bq_neq_Pair | exact Bq_eql_Op | exact Bq_neq_Op | exact Bq_eql_Cfg | exact Bq_neq_Cfg)); rfl)
                  | refine sst ?_
                  | refine VS_nil ?_
                  | refine eeq ?_
                  | refine ees ?_ (by first | exact es1 (by rfl) | exact esN (by rfl))
                  | refine VE_nil ?_
                  | refine kyes ?_
                  | refine kno ?_
                  | refine gyes ?_
                  | refine gno ?_
                  | refine knoU ?_
                  | refine gnoU ?_
                  | refine VG_nil ⟨by rfl, ?_⟩
                  | refine VG_nil ?_
                  | refine dT ?_
                  | refine d1 ?_
                  | refine dQ ?_
                  | refine ctr ?_
                  | refine cfa ?_
                  | refine kdec (fun hq => ?_) (fun hq => ?_)
                  | refine gdec (fun hq => ?_) (fun hq => ?_)
                  | refine cco (fun hq => ?_) (fun hq => ?_))
                refine hend _ _ u M' hle' hu' (by rw [hil]; omega) ?_ _ ⟨rfl, rfl, rfl, rfl, rfl, trivial⟩ _
                rw [hif, List.length_eq_zero_iff.1 (hl2.trans hz0)]
                rfl
              · obtain ⟨b6, o6, hA6, hcl6, hcells6⟩ := SlM.flat (k := 3) (cells := holdK) (fun a _ => rfl) hp2 (by intro e; rw [e] at hl2; simp at hl2; omega)
                subst hA6
                rw [hl2] at hcl6
                refine VL_e _ _ (EF_appendM ((out.drop j).flatMap holdK) (by rfl) (by rfl) (by rfl) hcl6 hcells6 hz0 (hone _) (by unfold maxLen; omega) (by omega)) (by rfl) (by rfl) ?_
                refine VL_frz 4 (by rfl) (fun u M' hle' hu' => ?_)
                repeat' (first
                  | refine VC_seq ?_
                  | refine VC_region ?_
                  | refine VL_nil ?_
                  | refine VC_ret ?_
                  | refine VC_exit ?_
                  | refine VC_block ?_
                  | refine VC_skip ?_
                  | refine kbox ?_
                  | refine kall ?_
                  | refine kst ?_
                  | refine ksN ?_
                  | refine klt ?_
                  | refine kl1 ?_
                  | refine klK ?_
                  | refine kap ?_
                  | ((first | apply VL_q | apply VG_q | apply VS_q2); (first  | exact qmv (by rfl) | exact qas (by rfl) | exact ql1 (by rfl) | exact qlA (by rfl) | exact qfa (by rfl) | exact qmf (by rfl) | exact qfd (by rfl) | exact qm1 (by rfl) | exact qbd (by rfl) | exact qno (by rfl) | exact qex (by rfl) | exact qln (by rfl) | exact qls (by rfl) | exact qlr (by rfl) | exact qpt (by rfl) | exact qpf (by rfl) | exact qcp (by rfl) | exact qbe (by rfl) | exact qbn (by rfl) | exact qsn (by rfl) | exact qad (by rfl) | exact qsa (by rfl) | exact qsu (by rfl) | exact QS_bin (by rfl) (by rfl) (by first | exact B_slnil | exact Bq_eql_Msg | exact Bq_neq_Msg | exact Bq_eql_Pair | exact Bq_neq_Pair | exact Bq_eql_Op | exact Bq_neq_Op | exact Bq_eql_Cfg | exact Bq_neq_Cfg)); rfl)
                  | refine sst ?_
                  | refine VS_nil ?_
                  | refine eeq ?_
                  | refine ees ?_ (by first | exact es1 (by rfl) | exact esN (by rfl))
                  | refine VE_nil ?_
                  | refine kyes ?_
                  | refine kno ?_
                  | refine gyes ?_
                  | refine gno ?_
                  | refine knoU ?_
                  | refine gnoU ?_
                  | refine VG_nil ⟨by rfl, ?_⟩
                  | refine VG_nil ?_
                  | refine dT ?_
                  | refine d1 ?_
                  | refine dQ ?_
                  | refine ctr ?_
                  | refine cfa ?_
                  | refine kdec (fun hq => ?_) (fun hq => ?_)
                  | refine gdec (fun hq => ?_) (fun hq => ?_)
                  | refine cco (fun hq => ?_) (fun hq => ?_))
                refine hend _ _ u M' hle' hu' (by rw [hil]; omega) ?_ _ ⟨rfl, rfl, rfl, rfl, rfl, trivial⟩ _
                rw [hif, List.append_assoc]
                rfl
        · have hd2 := dge hjo
          have hpos := posH_at hj hjl (fun h => absurd h (by omega))
          have hins : insH out ⟨xt, xs, xw⟩ = out.take j ++ ⟨xt, xs, xw⟩ :: out.drop j := by unfold insH; rw [hpos]
          have hil : (insH out ⟨xt, xs, xw⟩).length = j + 1 + (out.length - j) := by rw [hins]; simp; omega
          have hif : (insH out ⟨xt, xs, xw⟩).flatMap holdK = (out.take j).flatMap holdK ++ (holdK ⟨xt, xs, xw⟩ ++ (out.drop j).flatMap holdK) := by rw [hins, List.flatMap_append, List.flatMap_cons]
          have hp1 := SlM.part hout (p := 0) (q := j) (m := co) (by omega) hj (by omega) (Nat.le_refl _)
          have hp2 := SlM.part hout (p := j) (q := out.length) (m := co) hj (Nat.le_refl _) ho1 (Nat.le_refl _)
          rw [List.drop_zero] at hp1
          rw [List.take_length] at hp2
          have hl1 : (out.take j).length = j := by rw [List.length_take]; omega
          have hl2 : (out.drop j).length = out.length - j := List.length_drop
          obtain ⟨A1, c1', hsl1, hq1, hq2, _⟩ := id hp1
          obtain ⟨A2, c2', hsl2, hq3, hq4, _⟩ := id hp2
          rw [hsl1] at hp1
          rw [hsl2] at hp2
          have hone : ∀ l : List Hld, ((l.flatMap holdK).all (·.oneCell')) = true := fun l => by simp [List.all_flatMap, Value.oneCell']
          have hend : ∀ (n : Nat) (cs : List Value) (u : Value) (M' : Mem), Mx.le M' → RowM M' 3 n cs u → n = (insH out ⟨xt, xs, xw⟩).length → cs = (insH out ⟨xt, xs, xw⟩).flatMap holdK → ∀ env, EnvSub [] [(0, .v (.pointer (some ⟨b, 0, none⟩))), (1, .v (.int .i64 th)), (2, .v (.bool false)), (7, .v u), (8, .v (.int .i64 ((k + 1 : Nat) : Int)))] env → ∀ own, forQ (fun x : Nat × Value × Mem => (⟨x.2.2, [], [(0, .v (.pointer (some ⟨b, 0, none⟩))), (1, .v (.int .i64 th)), (2, .v (.bool false)), (7, .v x.2.1), (8, .v (.int .i64 x.1))]⟩ : St)) (fun x => M.le x.2.2 ∧ x.1 ≤ L.length ∧ SlM x.2.2 3 holdK x.2.1 (((L.take x.1).filter (selH th false)).foldl insH [])) (fun x => L.length - x.1) (L.length - k) (finQ fun s => ∃ v, Res Try.prog Try.f52 s v ∧ SlM s.M 3 holdK v (allL L th false)) .normal ⟨M', own, env⟩ := fun n cs u M' hm hr hn2 hc env he own => by
            subst hn2 hc
            exact forQ_next [] (k + 1, u, M') ⟨rfl, rfl, trivial, he⟩ ⟨hMx.trans hm, Nat.succ_le_of_lt hlt, by show SlM M' 3 holdK u _; rw [hnext hs]; exact RowM.slM (fun _ _ => rfl) hr⟩ (by show L.length - (k + 1) < L.length - k; omega)
          rw [hl1] at hsl1 hq1
          rw [hl2] at hsl2 hq3
          repeat' (first
            | refine VC_seq ?_
            | refine VC_region ?_
            | refine VL_nil ?_
            | refine VC_ret ?_
            | refine VC_exit ?_
            | refine VC_block ?_
            | refine VC_skip ?_
            | refine kbox ?_
            | refine kall ?_
            | refine kst ?_
            | refine ksN ?_
            | refine klt ?_
            | refine kl1 ?_
            | refine klK ?_
            | refine kap ?_
            | ((first | apply VL_q | apply VG_q | apply VS_q2); (first | exact QS_indexAddr k (by rfl) (by rfl) rfl hlt | exact QS_mload1 (by rfl) (hcA 0 _ (by rfl)) | exact QS_mload1 (by rfl) (hcA _ _ (by rfl)) | exact QS_mloadN _ (by rfl) hcA _ (by rfl) | exact qni (by rfl) | exact QS_mload1 (by rfl) h1x | exact QS_is hsl1 (QS_slice 0 j co (by rfl) rfl (by rfl) rfl (by omega) (by omega) (by omega) (by omega)) | exact qmv (by rfl) | exact qas (by rfl) | exact ql1 (by rfl) | exact qlA (by rfl) | exact qfa (by rfl) | exact qmf (by rfl) | exact qfd (by rfl) | exact qm1 (by rfl) | exact qbd (by rfl) | exact qno (by rfl) | exact qex (by rfl) | exact qln (by rfl) | exact qls (by rfl) | exact qlr (by rfl) | exact qpt (by rfl) | exact qpf (by rfl) | exact qcp (by rfl) | exact qbe (by rfl) | exact qbn (by rfl) | exact qsn (by rfl) | exact qad (by rfl) | exact qsa (by rfl) | exact qsu (by rfl) | exact QS_bin (by rfl) (by rfl) (by first | exact B_slnil | exact Bq_eql_Msg | exact Bq_neq_Msg | exact Bq_eql_Pair | exact Bq_neq_Pair | exact Bq_eql_Op | exact Bq_neq_Op | exact Bq_eql_Cfg | exact Bq_neq_Cfg)); rfl)
            | refine sst ?_
            | refine VS_nil ?_
            | refine eeq ?_
            | refine ees ?_ (by first | exact es1 (by rfl) | exact esN (by rfl))
            | refine VE_nil ?_
            | refine kyes ?_
            | refine kno ?_
            | refine gyes ?_
            | refine gno ?_
            | refine knoU ?_
            | refine gnoU ?_
            | refine VG_nil ⟨by rfl, ?_⟩
            | refine VG_nil ?_
            | refine dT ?_
            | refine d1 ?_
            | refine dQ ?_
            | refine ctr ?_
            | refine cfa ?_
            | refine kdec (fun hq => ?_) (fun hq => ?_)
            | refine gdec (fun hq => ?_) (fun hq => ?_)
            | refine cco (fun hq => ?_) (fun hq => ?_))
          rcases Nat.eq_zero_or_pos j with hj0 | hj0
          · apply VL_q
            · exact QS_append_nilZ (by rfl) (by rfl) (by rfl) hj0
            · rfl
            repeat' (first
              | refine VC_seq ?_
              | refine VC_region ?_
              | refine VL_nil ?_
              | refine VC_ret ?_
              | refine VC_exit ?_
              | refine VC_block ?_
              | refine VC_skip ?_
              | refine kbox ?_
              | refine kall ?_
              | refine kst ?_
              | refine ksN ?_
              | refine klt ?_
              | refine kl1 ?_
              | refine klK ?_
              | refine kap ?_
              | ((first | apply VL_q | apply VG_q | apply VS_q2); (first | exact QS_indexAddr k (by rfl) (by rfl) rfl hlt | exact QS_mload1 (by rfl) (hcA 0 _ (by rfl)) | exact QS_mload1 (by rfl) (hcA _ _ (by rfl)) | exact QS_mloadN _ (by rfl) hcA _ (by rfl) | exact qni (by rfl) | exact QS_mload1 (by rfl) h1x | exact QS_is hsl2 (QS_slice j out.length co (by rfl) (by rfl) rfl rfl (by omega) (by omega) (by omega) (by omega)) | exact qmv (by rfl) | exact qas (by rfl) | exact ql1 (by rfl) | exact qlA (by rfl) | exact qfa (by rfl) | exact qmf (by rfl) | exact qfd (by rfl) | exact qm1 (by rfl) | exact qbd (by rfl) | exact qno (by rfl) | exact qex (by rfl) | exact qln (by rfl) | exact qls (by rfl) | exact qlr (by rfl) | exact qpt (by rfl) | exact qpf (by rfl) | exact qcp (by rfl) | exact qbe (by rfl) | exact qbn (by rfl) | exact qsn (by rfl) | exact qad (by rfl) | exact qsa (by rfl) | exact qsu (by rfl) | exact QS_bin (by rfl) (by rfl) (by first | exact B_slnil | exact Bq_eql_Msg | exact Bq_neq_Msg | exact Bq_eql_Pair | exact Bq_neq_Pair | exact Bq_eql_Op | exact Bq_neq_Op | exact Bq_eql_Cfg | exact Bq_neq_Cfg)); rfl)
              | refine sst ?_
              | refine VS_nil ?_
              | refine eeq ?_
              | refine ees ?_ (by first | exact es1 (by rfl) | exact esN (by rfl))
              | refine VE_nil ?_
              | refine kyes ?_
              | refine kno ?_
              | refine gyes ?_
              | refine gno ?_
              | refine knoU ?_
              | refine gnoU ?_
              | refine VG_nil ⟨by rfl, ?_⟩
              | refine VG_nil ?_
              | refine dT ?_
              | refine d1 ?_
              | refine dQ ?_
              | refine ctr ?_
              | refine cfa ?_
              | refine kdec (fun hq => ?_) (fun hq => ?_)
              | refine gdec (fun hq => ?_) (fun hq => ?_)
              | refine cco (fun hq => ?_) (fun hq => ?_))
            rcases Nat.eq_zero_or_pos (out.length - j) with hz0 | hz0
            · apply VL_q
              · exact QS_append_nilZ (by rfl) (by rfl) (by rfl) hz0
              · rfl
              refine VL_frz 2 (by rfl) (fun u M' hle' hu' => ?_)
              repeat' (first
                | refine VC_seq ?_
                | refine VC_region ?_
                | refine VL_nil ?_
                | refine VC_ret ?_
                | refine VC_exit ?_
                | refine VC_block ?_
                | refine VC_skip ?_
                | refine kbox ?_
                | refine kall ?_
                | refine kst ?_
                | refine ksN ?_
                | refine klt ?_
                | refine kl1 ?_
                | refine klK ?_
                | refine kap ?_
                | ((first | apply VL_q | apply VG_q | apply VS_q2); (first  | exact qmv (by rfl) | exact qas (by rfl) | exact ql1 (by rfl) | exact qlA (by rfl) | exact qfa (by rfl) | exact qmf (by rfl) | exact qfd (by rfl) | exact qm1 (by rfl) | exact qbd (by rfl) | exact qno (by rfl) | exact qex (by rfl) | exact qln (by rfl) | exact qls (by rfl) | exact qlr (by rfl) | exact qpt (by rfl) | exact qpf (by rfl) | exact qcp (by rfl) | exact qbe (by rfl) | exact qbn (by rfl) | exact qsn (by rfl) | exact qad (by rfl) | exact qsa (by rfl) | exact qsu (by rfl) | exact QS_bin (by rfl) (by rfl) (by first | exact B_slnil | exact Bq_eql_Msg | exact Bq_neq_Msg | exact Bq_eql_Pair | exact Bq_neq_Pair | exact Bq_eql_Op | exact Bq_neq_Op | exact Bq_eql_Cfg | exact Bq_neq_Cfg)); rfl)
                | refine sst ?_
                | refine VS_nil ?_
                | refine eeq ?_
                | refine ees ?_ (by first | exact es1 (by rfl) | exact esN (by rfl))
                | refine VE_nil ?_
                | refine kyes ?_
                | refine kno ?_
                | refine gyes ?_
                | refine gno ?_
                | refine knoU ?_
                | refine gnoU ?_
                | refine VG_nil ⟨by rfl, ?_⟩
                | refine VG_nil ?_
                | refine dT ?_
                | refine d1 ?_
                | refine dQ ?_
                | refine ctr ?_
                | refine cfa ?_
                | refine kdec (fun hq => ?_) (fun hq => ?_)
                | refine gdec (fun hq => ?_) (fun hq => ?_)
                | refine cco (fun hq => ?_) (fun hq => ?_))
              refine hend _ _ u M' hle' hu' (by rw [hil]; omega) ?_ _ ⟨rfl, rfl, rfl, rfl, rfl, trivial⟩ _
              rw [hif, List.length_eq_zero_iff.1 (hl1.trans hj0), List.length_eq_zero_iff.1 (hl2.trans hz0)]
              rfl
            · obtain ⟨b6, o6, hA6, hcl6, hcells6⟩ := SlM.flat (k := 3) (cells := holdK) (fun a _ => rfl) hp2 (by intro e; rw [e] at hl2; simp at hl2; omega)
              subst hA6
              rw [hl2] at hcl6
              refine VL_e _ _ (EF_appendM ((out.drop j).flatMap holdK) (by rfl) (by rfl) (by rfl) hcl6 hcells6 hz0 (hone _) (by unfold maxLen; omega) (by omega)) (by rfl) (by rfl) ?_
              refine VL_frz 3 (by rfl) (fun u M' hle' hu' => ?_)
              repeat' (first
                | refine VC_seq ?_
                | refine VC_region ?_
                | refine VL_nil ?_
                | refine VC_ret ?_
                | refine VC_exit ?_
                | refine VC_block ?_
                | refine VC_skip ?_
                | refine kbox ?_
                | refine kall ?_
                | refine kst ?_
                | refine ksN ?_
                | refine klt ?_
                | refine kl1 ?_
                | refine klK ?_
                | refine kap ?_
                | ((first | apply VL_q | apply VG_q | apply VS_q2); (first  | exact qmv (by rfl) | exact qas (by rfl) | exact ql1 (by rfl) | exact qlA (by rfl) | exact qfa (by rfl) | exact qmf (by rfl) | exact qfd (by rfl) | exact qm1 (by rfl) | exact qbd (by rfl) | exact qno (by rfl) | exact qex (by rfl) | exact qln (by rfl) | exact qls (by rfl) | exact qlr (by rfl) | exact qpt (by rfl) | exact qpf (by rfl) | exact qcp (by rfl) | exact qbe (by rfl) | exact qbn (by rfl) | exact qsn (by rfl) | exact qad (by rfl) | exact qsa (by rfl) | exact qsu (by rfl) | exact QS_bin (by rfl) (by rfl) (by first | exact B_slnil | exact Bq_eql_Msg | exact Bq_neq_Msg | exact Bq_eql_Pair | exact Bq_neq_Pair | exact Bq_eql_Op | exact Bq_neq_Op | exact Bq_eql_Cfg | exact Bq_neq_Cfg)); rfl)
                | refine sst ?_
                | refine VS_nil ?_
                | refine eeq ?_
                | refine ees ?_ (by first | exact es1 (by rfl) | exact esN (by rfl))
                | refine VE_nil ?_
                | refine kyes ?_
                | refine kno ?_
                | refine gyes ?_
                | refine gno ?_
                | refine knoU ?_
                | refine gnoU ?_
                | refine VG_nil ⟨by rfl, ?_⟩
                | refine VG_nil ?_
                | refine dT ?_
                | refine d1 ?_
                | refine dQ ?_
                | refine ctr ?_
                | refine cfa ?_
                | refine kdec (fun hq => ?_) (fun hq => ?_)
                | refine gdec (fun hq => ?_) (fun hq => ?_)
                | refine cco (fun hq => ?_) (fun hq => ?_))
              refine hend _ _ u M' hle' hu' (by rw [hil]; omega) ?_ _ ⟨rfl, rfl, rfl, rfl, rfl, trivial⟩ _
              rw [hif, List.length_eq_zero_iff.1 (hl1.trans hj0)]
              rfl
          · obtain ⟨b5, o5, hA5, hcl5, hcells5⟩ := SlM.flat (k := 3) (cells := holdK) (fun a _ => rfl) hp1 (by intro e; rw [e] at hl1; simp at hl1; omega)
            subst hA5
            rw [hl1] at hcl5
            refine VL_e _ _ (EF_appendM ((out.take j).flatMap holdK) (by rfl) (by rfl) (by rfl) hcl5 hcells5 hj0 (hone _) (by unfold maxLen; omega) (by omega)) (by rfl) (by rfl) ?_
            repeat' (first
              | refine VC_seq ?_
              | refine VC_region ?_
              | refine VL_nil ?_
              | refine VC_ret ?_
              | refine VC_exit ?_
              | refine VC_block ?_
              | refine VC_skip ?_
              | refine kbox ?_
              | refine kall ?_
              | refine kst ?_
              | refine ksN ?_
              | refine klt ?_
              | refine kl1 ?_
              | refine klK ?_
              | refine kap ?_
              | ((first | apply VL_q | apply VG_q | apply VS_q2); (first | exact QS_indexAddr k (by rfl) (by rfl) rfl hlt | exact QS_mload1 (by rfl) (hcA 0 _ (by rfl)) | exact QS_mload1 (by rfl) (hcA _ _ (by rfl)) | exact QS_mloadN _ (by rfl) hcA _ (by rfl) | exact qni (by rfl) | exact QS_mload1 (by rfl) h1x | exact QS_is hsl2 (QS_slice j out.length co (by rfl) (by rfl) rfl rfl (by omega) (by omega) (by omega) (by omega)) | exact qmv (by rfl) | exact qas (by rfl) | exact ql1 (by rfl) | exact qlA (by rfl) | exact qfa (by rfl) | exact qmf (by rfl) | exact qfd (by rfl) | exact qm1 (by rfl) | exact qbd (by rfl) | exact qno (by rfl) | exact qex (by rfl) | exact qln (by rfl) | exact qls (by rfl) | exact qlr (by rfl) | exact qpt (by rfl) | exact qpf (by rfl) | exact qcp (by rfl) | exact qbe (by rfl) | exact qbn (by rfl) | exact qsn (by rfl) | exact qad (by rfl) | exact qsa (by rfl) | exact qsu (by rfl) | exact QS_bin (by rfl) (by rfl) (by first | exact B_slnil | exact Bq_eql_Msg | exact Bq_neq_Msg | exact Bq_eql_Pair | exact Bq_neq_Pair | exact Bq_eql_Op | exact Bq_neq_Op | exact Bq_eql_Cfg | exact Bq_neq_Cfg)); rfl)
              | refine sst ?_
              | refine VS_nil ?_
              | refine eeq ?_
              | refine ees ?_ (by first | exact es1 (by rfl) | exact esN (by rfl))
              | refine VE_nil ?_
              | refine kyes ?_
              | refine kno ?_
              | refine gyes ?_
              | refine gno ?_
              | refine knoU ?_
              | refine gnoU ?_
              | refine VG_nil ⟨by rfl, ?_⟩
              | refine VG_nil ?_
              | refine dT ?_
              | refine d1 ?_
              | refine dQ ?_
              | refine ctr ?_
              | refine cfa ?_
              | refine kdec (fun hq => ?_) (fun hq => ?_)
              | refine gdec (fun hq => ?_) (fun hq => ?_)
              | refine cco (fun hq => ?_) (fun hq => ?_))
            rcases Nat.eq_zero_or_pos (out.length - j) with hz0 | hz0
            · apply VL_q
              · exact QS_append_nilZ (by rfl) (by rfl) (by rfl) hz0
              · rfl
              refine VL_frz 3 (by rfl) (fun u M' hle' hu' => ?_)
              repeat' (first
                | refine VC_seq ?_
                | refine VC_region ?_
                | refine VL_nil ?_
                | refine VC_ret ?_
                | refine VC_exit ?_
                | refine VC_block ?_
                | refine VC_skip ?_
                | refine kbox ?_
                | refine kall ?_
                | refine kst ?_
                | refine ksN ?_
                | refine klt ?_
                | refine kl1 ?_
                | refine klK ?_
                | refine kap ?_
                | ((first | apply VL_q | apply VG_q | apply VS_q2); (first  | exact qmv (by rfl) | exact qas (by rfl) | exact ql1 (by rfl) | exact qlA (by rfl) | exact qfa (by rfl) | exact qmf (by rfl) | exact qfd (by rfl) | exact qm1 (by rfl) | exact qbd (by rfl) | exact qno (by rfl) | exact qex (by rfl) | exact qln (by rfl) | exact qls (by rfl) | exact qlr (by rfl) | exact qpt (by rfl) | exact qpf (by rfl) | exact qcp (by rfl) | exact qbe (by rfl) | exact qbn (by rfl) | exact qsn (by rfl) | exact qad (by rfl) | exact qsa (by rfl) | exact qsu (by rfl) | exact QS_bin (by rfl) (by rfl) (by first | exact B_slnil | exact Bq_eql_Msg | exact Bq_neq_Msg | exact Bq_eql_Pair | exact Bq_neq_Pair | exact Bq_eql_Op | exact Bq_neq_Op | exact Bq_eql_Cfg | exact Bq_neq_Cfg)); rfl)
                | refine sst ?_
                | refine VS_nil ?_
                | refine eeq ?_
                | refine ees ?_ (by first | exact es1 (by rfl) | exact esN (by rfl))
                | refine VE_nil ?_
                | refine kyes ?_
                | refine kno ?_
                | refine gyes ?_
                | refine gno ?_
                | refine knoU ?_
                | refine gnoU ?_
                | refine VG_nil ⟨by rfl, ?_⟩
                | refine VG_nil ?_
                | refine dT ?_
                | refine d1 ?_
                | refine dQ ?_
                | refine ctr ?_
                | refine cfa ?_
                | refine kdec (fun hq => ?_) (fun hq => ?_)
                | refine gdec (fun hq => ?_) (fun hq => ?_)
                | refine cco (fun hq => ?_) (fun hq => ?_))
              refine hend _ _ u M' hle' hu' (by rw [hil]; omega) ?_ _ ⟨rfl, rfl, rfl, rfl, rfl, trivial⟩ _
              rw [hif, List.length_eq_zero_iff.1 (hl2.trans hz0)]
              rfl
            · obtain ⟨b6, o6, hA6, hcl6, hcells6⟩ := SlM.flat (k := 3) (cells := holdK) (fun a _ => rfl) hp2 (by intro e; rw [e] at hl2; simp at hl2; omega)
              subst hA6
              rw [hl2] at hcl6
              refine VL_e _ _ (EF_appendM ((out.drop j).flatMap holdK) (by rfl) (by rfl) (by rfl) hcl6 hcells6 hz0 (hone _) (by unfold maxLen; omega) (by omega)) (by rfl) (by rfl) ?_
              refine VL_frz 4 (by rfl) (fun u M' hle' hu' => ?_)
              repeat' (first
                | refine VC_seq ?_
                | refine VC_region ?_
                | refine VL_nil ?_
                | refine VC_ret ?_
                | refine VC_exit ?_
                | refine VC_block ?_
                | refine VC_skip ?_
                | refine kbox ?_
                | refine kall ?_
                | refine kst ?_
                | refine ksN ?_
                | refine klt ?_
                | refine kl1 ?_
                | refine klK ?_
                | refine kap ?_
                | ((first | apply VL_q | apply VG_q | apply VS_q2); (first  | exact qmv (by rfl) | exact qas (by rfl) | exact ql1 (by rfl) | exact qlA (by rfl) | exact qfa (by rfl) | exact qmf (by rfl) | exact qfd (by rfl) | exact qm1 (by rfl) | exact qbd (by rfl) | exact qno (by rfl) | exact qex (by rfl) | exact qln (by rfl) | exact qls (by rfl) | exact qlr (by rfl) | exact qpt (by rfl) | exact qpf (by rfl) | exact qcp (by rfl) | exact qbe (by rfl) | exact qbn (by rfl) | exact qsn (by rfl) | exact qad (by rfl) | exact qsa (by rfl) | exact qsu (by rfl) | exact QS_bin (by rfl) (by rfl) (by first | exact B_slnil | exact Bq_eql_Msg | exact Bq_neq_Msg | exact Bq_eql_Pair | exact Bq_neq_Pair | exact Bq_eql_Op | exact Bq_neq_Op | exact Bq_eql_Cfg | exact Bq_neq_Cfg)); rfl)
                | refine sst ?_
                | refine VS_nil ?_
                | refine eeq ?_
                | refine ees ?_ (by first | exact es1 (by rfl) | exact esN (by rfl))
                | refine VE_nil ?_
                | refine kyes ?_
                | refine kno ?_
                | refine gyes ?_
                | refine gno ?_
                | refine knoU ?_
                | refine gnoU ?_
                | refine VG_nil ⟨by rfl, ?_⟩
                | refine VG_nil ?_
                | refine dT ?_
                | refine d1 ?_
                | refine dQ ?_
                | refine ctr ?_
                | refine cfa ?_
                | refine kdec (fun hq => ?_) (fun hq => ?_)
                | refine gdec (fun hq => ?_) (fun hq => ?_)
                | refine cco (fun hq => ?_) (fun hq => ?_))
              refine hend _ _ u M' hle' hu' (by rw [hil]; omega) ?_ _ ⟨rfl, rfl, rfl, rfl, rfl, trivial⟩ _
              rw [hif, List.append_assoc]
              rfl
      | false =>
        have hs : selH th false ⟨xt, xs, xw⟩ = false := by rw [hsel, ct]; rfl
        have ct2 : (xt != th) = true := by show (!(xt == th)) = true; rw [ct]; rfl
        repeat' (first
          | refine VC_seq ?_
          | refine VC_region ?_
          | refine VL_nil ?_
          | refine VC_ret ?_
          | refine VC_exit ?_
          | refine VC_block ?_
          | refine VC_skip ?_
          | refine kbox ?_
          | refine kall ?_
          | refine kst ?_
          | refine ksN ?_
          | refine klt ?_
          | refine kl1 ?_
          | refine klK ?_
          | refine kap ?_
          | ((first | apply VL_q | apply VG_q | apply VS_q2); (first | exact QS_indexAddr (k) (by rfl) (by rfl) (by omega) (by omega) | exact QS_mload1 (by rfl) (hcA 0 _ (by rfl)) | exact QS_mload1 (by rfl) (hcA _ _ (by rfl)) | exact QS_mloadN _ (by rfl) hcA _ (by rfl) | exact qni (by rfl) | exact QS_mload1 (by rfl) h1x | exact qmv (by rfl) | exact qas (by rfl) | exact ql1 (by rfl) | exact qlA (by rfl) | exact qfa (by rfl) | exact qmf (by rfl) | exact qfd (by rfl) | exact qm1 (by rfl) | exact qbd (by rfl) | exact qno (by rfl) | exact qex (by rfl) | exact qln (by rfl) | exact qls (by rfl) | exact qlr (by rfl) | exact qpt (by rfl) | exact qpf (by rfl) | exact qcp (by rfl) | exact qbe (by rfl) | exact qbn (by rfl) | exact qsn (by rfl) | exact qad (by rfl) | exact qsa (by rfl) | exact qsu (by rfl) | exact QS_bin (by rfl) (by rfl) (by first | exact B_slnil | exact Bq_eql_Msg | exact Bq_neq_Msg | exact Bq_eql_Pair | exact Bq_neq_Pair | exact Bq_eql_Op | exact Bq_neq_Op | exact Bq_eql_Cfg | exact Bq_neq_Cfg)); rfl)
          | refine sst ?_
          | refine VS_nil ?_
          | refine eeq ?_
          | refine ees ?_ (by first | exact es1 (by rfl) | exact esN (by rfl))
          | refine VE_nil ?_
          | refine kyes ?_
          | refine kno ?_
          | refine gyes ?_
          | refine gno ?_
          | refine knoU ?_
          | refine gnoU ?_
          | refine VG_nil ⟨by rfl, ?_⟩
          | refine VG_nil ?_
          | refine dT ?_
          | refine d1 ?_
          | refine dQ ?_
          | refine ctr ?_
          | refine cfa ?_
          | refine kdec (fun hq => ?_) (fun hq => ?_)
          | refine gdec (fun hq => ?_) (fun hq => ?_)
          | refine cco (fun hq => ?_) (fun hq => ?_))
        exact forQ_next (Q := fun _ _ => True) [] (k + 1, uo, Mx) ⟨rfl, rfl, trivial, ⟨rfl, rfl, rfl, rfl, rfl, trivial⟩⟩ ⟨hMx, Nat.succ_le_of_lt hlt, by show SlM Mx 3 holdK uo _; rw [hskip hs]; exact hout⟩ (by show L.length - (k + 1) < L.length - k; omega)
  · have hd := dge hge
    obtain rfl : k = L.length := by omega
    rw [List.take_length] at hout
    repeat' (first
      | refine VC_seq ?_
      | refine VC_region ?_
      | refine VL_nil ?_
      | refine VC_ret ?_
      | refine VC_exit ?_
      | refine VC_block ?_
      | refine VC_skip ?_
      | refine kbox ?_
      | refine kall ?_
      | refine kst ?_
      | refine ksN ?_
      | refine klt ?_
      | refine kl1 ?_
      | refine klK ?_
      | refine kap ?_
      | ((first | apply VL_q | apply VG_q | apply VS_q2); (first | exact qni (by rfl) | exact QS_mload1 (by rfl) h1x | exact qmv (by rfl) | exact qas (by rfl) | exact ql1 (by rfl) | exact qlA (by rfl) | exact qfa (by rfl) | exact qmf (by rfl) | exact qfd (by rfl) | exact qm1 (by rfl) | exact qbd (by rfl) | exact qno (by rfl) | exact qex (by rfl) | exact qln (by rfl) | exact qls (by rfl) | exact qlr (by rfl) | exact qpt (by rfl) | exact qpf (by rfl) | exact qcp (by rfl) | exact qbe (by rfl) | exact qbn (by rfl) | exact qsn (by rfl) | exact qad (by rfl) | exact qsa (by rfl) | exact qsu (by rfl) | exact QS_bin (by rfl) (by rfl) (by first | exact B_slnil | exact Bq_eql_Msg | exact Bq_neq_Msg | exact Bq_eql_Pair | exact Bq_neq_Pair | exact Bq_eql_Op | exact Bq_neq_Op | exact Bq_eql_Cfg | exact Bq_neq_Cfg)); rfl)
      | refine sst ?_
      | refine VS_nil ?_
      | refine eeq ?_
      | refine ees ?_ (by first | exact es1 (by rfl) | exact esN (by rfl))
      | refine VE_nil ?_
      | refine kyes ?_
      | refine kno ?_
      | refine gyes ?_
      | refine gno ?_
      | refine knoU ?_
      | refine gnoU ?_
      | refine VG_nil ⟨by rfl, ?_⟩
      | refine VG_nil ?_
      | refine dT ?_
      | refine d1 ?_
      | refine dQ ?_
      | refine ctr ?_
      | refine cfa ?_
      | refine kdec (fun hq => ?_) (fun hq => ?_)
      | refine gdec (fun hq => ?_) (fun hq => ?_)
      | refine cco (fun hq => ?_) (fun hq => ?_))
    exact ⟨_, Res.one (by rfl) (ResV_tmp (by rfl) rfl), hout⟩
end Go.Proofs.Ytdgcdfngpimmmaa
