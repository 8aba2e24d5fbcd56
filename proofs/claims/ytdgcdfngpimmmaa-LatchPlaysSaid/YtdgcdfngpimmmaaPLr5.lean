/- The latch layer: Release of a slot that there isn't, Drop: walks by names. -/
import Derived.Test.YtdgcdfngpimmmaaPLtA
namespace Go.Proofs.Ytdgcdfngpimmmaa
open Go Go.RowKit
attribute [local irreducible] Calls
set_option linter.unusedVariables false
set_option maxRecDepth 20000
set_option linter.unusedSimpArgs false
set_option maxHeartbeats 4000000
theorem latch_ReleaseO (b g c n : Nat) (thread slot : Int) (M : Mem) (h : slot < 0 ∨ (n : Int) ≤ slot) (hn : n ≤ 1000000) :
    CallX Try.prog 45 [.pointer (some ⟨b, 0, none⟩), .int .i64 thread, .int .i64 slot] M [.nblk (.pointer (some ⟨b, 0, none⟩)) 154 (tbC g n c)] (fun v own' => v = .int .i64 8 ∧ own' = [.nblk (.pointer (some ⟨b, 0, none⟩)) 154 (tbC g n c)]) := by
  refine V_x Try.func45 rfl Try.ntmps45 (by rfl) (fun w M0 => ?_)
  have hnp : (some (⟨b, 0, none⟩ : Addr)).isNone = false := rfl
  have hin : inB slot n = false := by
    unfold inB
    rcases h with h | h
    · rw [decide_eq_false (by omega)]; rfl
    · rw [decide_eq_false (show ¬ slot < (n : Int) by omega), Bool.and_false]
  have cH : ∀ (hd : Nat → Value) (W : World) (own : List Ob), (∀ i o, own[i]? = some o → ObOk w.heap.size W (hd i) o) → own[0]? = some (.nblk (.pointer (some ⟨b, 0, none⟩)) 154 (tbC g n c)) → Calls Try.prog 48 #[.pointer (some ⟨b, 0, none⟩), .int .i64 thread, .int .i64 slot] W fun e W' => e = .returned (.tuple #[.bool false, .bool false]) ∧ Below W.heap.size W W' := fun hd W own hO h0 => by
    have := latch_Has b n thread slot [] 0 W (Mem.of W) (Mem.le_refl _) ⟨g, c, ?_, fun k' hk' hk2 => by omega⟩ asc0 hn (by simp)
    · rw [hin] at this
      exact this
    · have := ob_cell (hO 0 _ h0) (off := 0) (u := .slice (some ⟨g, 0, none⟩) n c) rfl
      rw [(hO 0 _ h0).1] at this
      rw [Mem.of_cell]
      exact this
  repeat' (first
    | refine VC_seq ?_
    | refine VC_region ?_
    | refine VL_nil ?_
    | refine VC_ret ?_
    | refine VC_exit ?_
    | refine VC_block ?_
    | refine VC_skip ?_
    | refine kbox ?_
    | refine kall ?_
    | refine kst ?_
    | refine ksN ?_
    | refine klt ?_
    | refine kl1 ?_
    | refine klK ?_
    | refine kap ?_
    | ((first | apply VL_q | apply VG_q | apply VS_q2); (first  | exact qmv (by rfl) | exact qas (by rfl) | exact ql1 (by rfl) | exact qlA (by rfl) | exact qfa (by rfl) | exact qmf (by rfl) | exact qfd (by rfl) | exact qm1 (by rfl) | exact qbd (by rfl) | exact qno (by rfl) | exact qex (by rfl) | exact qln (by rfl) | exact qls (by rfl) | exact qlr (by rfl) | exact qpt (by rfl) | exact qpf (by rfl) | exact qcp (by rfl) | exact qbe (by rfl) | exact qbn (by rfl) | exact qsn (by rfl) | exact qad (by rfl) | exact qsa (by rfl) | exact qsu (by rfl) | exact QS_bin (by rfl) (by rfl) (by first | exact B_slnil | exact Bq_eql_Msg | exact Bq_neq_Msg | exact Bq_eql_Pair | exact Bq_neq_Pair | exact Bq_eql_Op | exact Bq_neq_Op | exact Bq_eql_Cfg | exact Bq_neq_Cfg)); rfl)
    | refine sst ?_
    | refine VS_nil ?_
    | refine eeq ?_
    | refine ees ?_ (by first | exact es1 (by rfl) | exact esN (by rfl))
    | refine VE_nil ?_
    | refine kyes ?_
    | refine kno ?_
    | refine gyes ?_
    | refine gno ?_
    | refine knoU ?_
    | refine gnoU ?_
    | refine VG_nil ⟨by rfl, ?_⟩
    | refine VG_nil ?_
    | refine dT ?_
    | refine d1 ?_
    | refine dQ ?_
    | refine ctr ?_
    | refine cfa ?_
    | refine kdec (fun hq => ?_) (fun hq => ?_)
    | refine gdec (fun hq => ?_) (fun hq => ?_)
    | refine cco (fun hq => ?_) (fun hq => ?_))
  refine VL_frzB 1 (by rfl) (fun t M1 hle1 ht => ?_)
  have htc : M1.cell t 0 = some (.int .i64 thread) := Mem.cell_of ht rfl
  repeat' (first
    | refine VC_seq ?_
    | refine VC_region ?_
    | refine VL_nil ?_
    | refine VC_ret ?_
    | refine VC_exit ?_
    | refine VC_block ?_
    | refine VC_skip ?_
    | refine kbox ?_
    | refine kall ?_
    | refine kst ?_
    | refine ksN ?_
    | refine klt ?_
    | refine kl1 ?_
    | refine klK ?_
    | refine kap ?_
    | ((first | apply VL_q | apply VG_q | apply VS_q2); (first | exact QS_bin (by rfl) (by rfl) B_pnil | exact qni (by rfl) | exact QS_mload1 (by rfl) htc | (refine QS_callR (r := .tuple #[.bool false, .bool false]) (by rfl) ?_; exact fun hd W hO hW => cH hd W _ hO rfl) | exact qmv (by rfl) | exact qas (by rfl) | exact ql1 (by rfl) | exact qlA (by rfl) | exact qfa (by rfl) | exact qmf (by rfl) | exact qfd (by rfl) | exact qm1 (by rfl) | exact qbd (by rfl) | exact qno (by rfl) | exact qex (by rfl) | exact qln (by rfl) | exact qls (by rfl) | exact qlr (by rfl) | exact qpt (by rfl) | exact qpf (by rfl) | exact qcp (by rfl) | exact qbe (by rfl) | exact qbn (by rfl) | exact qsn (by rfl) | exact qad (by rfl) | exact qsa (by rfl) | exact qsu (by rfl) | exact QS_bin (by rfl) (by rfl) (by first | exact B_slnil | exact Bq_eql_Msg | exact Bq_neq_Msg | exact Bq_eql_Pair | exact Bq_neq_Pair | exact Bq_eql_Op | exact Bq_neq_Op | exact Bq_eql_Cfg | exact Bq_neq_Cfg)); rfl)
    | refine sst ?_
    | refine VS_nil ?_
    | refine eeq ?_
    | refine ees ?_ (by first | exact es1 (by rfl) | exact esN (by rfl))
    | refine VE_nil ?_
    | refine kyes ?_
    | refine kno ?_
    | refine gyes ?_
    | refine gno ?_
    | refine knoU ?_
    | refine gnoU ?_
    | refine VG_nil ⟨by rfl, ?_⟩
    | refine VG_nil ?_
    | refine dT ?_
    | refine d1 ?_
    | refine dQ ?_
    | refine ctr ?_
    | refine cfa ?_
    | refine kdec (fun hq => ?_) (fun hq => ?_)
    | refine gdec (fun hq => ?_) (fun hq => ?_)
    | refine cco (fun hq => ?_) (fun hq => ?_))
  exact ⟨_, [0], [.nblk (.pointer (some ⟨b, 0, none⟩)) 154 (tbC g n c)], Res.one (by rfl) (ResV_tmp (by rfl) rfl), hle1, rfl, ⟨rfl, trivial⟩, rfl, rfl⟩
theorem kp_mem {l : List Int} {t x : Int} : x ∈ kpI (fun n => n == t) l ↔ x ∈ l ∧ x ≠ t := by
  unfold kpI
  rw [List.mem_filter]
  simp
theorem rl_idem (t : Int) (who : List Int) (how : Int) : (rlR t (rlR t who how).2.1 (rlR t who how).2.2).2 = (rlR t who how).2 := by
  by_cases h : t ∈ who
  · have e : rlR t who how = (0, kpI (fun n => n == t) who, if (kpI (fun n => n == t) who).length = 0 then 0 else how) := by unfold rlR; rw [if_pos h]
    rw [e]
    have hn : ¬ t ∈ kpI (fun n => n == t) who := fun h2 => (kp_mem.1 h2).2 rfl
    unfold rlR
    rw [if_neg hn]
  · have e : rlR t who how = (8, who, how) := by unfold rlR; rw [if_neg h]
    rw [e]
    unfold rlR
    rw [if_neg h]
theorem rl_ok {N : Nat} {s : Slt} (h : SOk N s) (t : Int) (u' : Value) (hu : NSh u' (rlR t s.who s.how).2.1.length) : SOk N ⟨u', (rlR t s.who s.how).2.1, (rlR t s.who s.how).2.2⟩ := by
  obtain ⟨h1, h2, h3, h4, h5⟩ := h
  have hle : (kpI (fun n => n == t) s.who).length ≤ s.who.length := List.length_filter_le _ _
  unfold rlR at hu ⊢
  split at hu
  · rename_i hc
    rw [if_pos hc] at *
    refine ⟨hu, asc_kp _ h2, Nat.le_trans hle h3, fun e => ?_, fun e => ?_⟩
    · simp only at e ⊢
      split at e
      · rename_i h0; exact List.length_eq_zero_iff.1 h0
      · have := h4 e; rw [this] at hc; cases hc
    · simp only at e ⊢
      split at e
      · cases e
      · exact Nat.le_trans hle (h5 e)
  · rename_i hc
    rw [if_neg hc] at *
    exact ⟨hu, h2, h3, h4, h5⟩
def DropPost (b g c : Nat) (N : Nat) (T : List Slt) (th : Int) (v : Value) (own' : List Ob) : Prop := v = .int .i64 ((pickL (fun h => h.thread == th) T).length : Nat) ∧ ∃ T' : List Slt, own' = tabOb b g c T' ∧ T'.length = T.length ∧ (∀ s ∈ T', SOk N s) ∧ ∀ (k : Nat) (s s' : Slt), T[k]? = some s → T'[k]? = some s' → (s'.who, s'.how) = (rlR th s.who s.how).2
theorem pick_mem {T : List Slt} {p : Hld → Bool} {h : Hld} (hh : h ∈ pickL p T) : p h = true ∧ ∃ (i : Nat) (s : Slt), T[i]? = some s ∧ h.slot = (i : Int) ∧ h.thread ∈ s.who ∧ h.write = (s.how == 2) := by
  unfold pickL at hh
  obtain ⟨h1, h2⟩ := List.mem_filter.1 hh
  refine ⟨h2, ?_⟩
  unfold holdsTo at h1
  obtain ⟨i, hi, hx⟩ := List.mem_flatMap.1 h1
  have hi := List.mem_range.1 hi
  rw [List.getElem?_eq_getElem hi] at hx
  exact ⟨i, T[i], List.getElem?_eq_getElem hi, holdsAt_slot hx⟩
theorem mem_holds {T : List Slt} {i : Nat} {s : Slt} {t : Int} (hs : T[i]? = some s) (ht : t ∈ s.who) : (⟨t, i, s.how == 2⟩ : Hld) ∈ holdsTo T T.length := by
  unfold holdsTo
  refine List.mem_flatMap.2 ⟨i, List.mem_range.2 (List.getElem?_eq_some_iff.1 hs).1, ?_⟩
  rw [hs]
  unfold holdsAt
  exact List.mem_map.2 ⟨t, ht, rfl⟩
theorem latch_Drop (b g c N : Nat) (T : List Slt) (th : Int) (M : Mem) (hn : T.length ≤ 10000) (hN : N ≤ 10000) (hok : ∀ s ∈ T, SOk N s) :
    CallX Try.prog 47 [.pointer (some ⟨b, 0, none⟩), .int .i64 th] M (tabOb b g c T) (DropPost b g c N T th) := by
  refine V_x Try.func47 rfl Try.ntmps47 (by rfl) (fun w M0 => ?_)
  repeat' (first
    | refine VC_seq ?_
    | refine VC_region ?_
    | refine VL_nil ?_
    | refine VC_ret ?_
    | refine VC_exit ?_
    | refine VC_block ?_
    | refine VC_skip ?_
    | refine kbox ?_
    | refine kall ?_
    | refine kst ?_
    | refine ksN ?_
    | refine klt ?_
    | refine kl1 ?_
    | refine klK ?_
    | refine kap ?_
    | ((first | apply VL_q | apply VG_q | apply VS_q2); (first  | exact qmv (by rfl) | exact qas (by rfl) | exact ql1 (by rfl) | exact qlA (by rfl) | exact qfa (by rfl) | exact qmf (by rfl) | exact qfd (by rfl) | exact qm1 (by rfl) | exact qbd (by rfl) | exact qno (by rfl) | exact qex (by rfl) | exact qln (by rfl) | exact qls (by rfl) | exact qlr (by rfl) | exact qpt (by rfl) | exact qpf (by rfl) | exact qcp (by rfl) | exact qbe (by rfl) | exact qbn (by rfl) | exact qsn (by rfl) | exact qad (by rfl) | exact qsa (by rfl) | exact qsu (by rfl) | exact QS_bin (by rfl) (by rfl) (by first | exact B_slnil | exact Bq_eql_Msg | exact Bq_neq_Msg | exact Bq_eql_Pair | exact Bq_neq_Pair | exact Bq_eql_Op | exact Bq_neq_Op | exact Bq_eql_Cfg | exact Bq_neq_Cfg)); rfl)
    | refine sst ?_
    | refine VS_nil ?_
    | refine eeq ?_
    | refine ees ?_ (by first | exact es1 (by rfl) | exact esN (by rfl))
    | refine VE_nil ?_
    | refine kyes ?_
    | refine kno ?_
    | refine gyes ?_
    | refine gno ?_
    | refine knoU ?_
    | refine gnoU ?_
    | refine VG_nil ⟨by rfl, ?_⟩
    | refine VG_nil ?_
    | refine dT ?_
    | refine d1 ?_
    | refine dQ ?_
    | refine ctr ?_
    | refine cfa ?_
    | refine kdec (fun hq => ?_) (fun hq => ?_)
    | refine gdec (fun hq => ?_) (fun hq => ?_)
    | refine cco (fun hq => ?_) (fun hq => ?_))
  refine VL_callOF [] (tabOb b g c T) (by rfl) (fun hd W hW => latch_Of b T th W (Mem.of W) (Mem.le_refl _) (tab_wd (pre := []) hW) hn (fun s hs => by have := (hok s hs).2.2.1; omega)) (by rfl) (by rfl) ?_
  refine VL_frz 0 (by rfl) (fun us M1 hle1 hus => ?_)
  have hmem : ∀ h ∈ pickL (fun h => h.thread == th) T, ∃ (i : Nat) (s : Slt), T[i]? = some s ∧ h.slot = (i : Int) ∧ h.thread = th ∧ th ∈ s.who := fun h hh => by
    obtain ⟨h1, i, s, h2, h3, h4, _⟩ := pick_mem hh
    have h1 := beq_iff_eq.1 h1
    exact ⟨i, s, h2, h3, h1, h1 ▸ h4⟩
  have hall : ∀ (i : Nat) (s : Slt), T[i]? = some s → th ∈ s.who → ∃ h ∈ pickL (fun h => h.thread == th) T, h.slot = (i : Int) := fun i s hs ht => ⟨⟨th, i, s.how == 2⟩, List.mem_filter.2 ⟨mem_holds hs ht, by simp⟩, rfl⟩
  unfold DropPost
  generalize pickL (fun h => h.thread == th) T = H at *
  have hS : SlM M1 3 holdK us H := RowM.slM (fun _ _ => rfl) hus
  obtain ⟨B, cb, hus', hb1, hb2, _⟩ := id hS
  subst hus'
  unfold maxLen at hb2
  refine VL_sub _ ⟨M1, tabOb b g c T, [(0, .v (.pointer (some ⟨b, 0, none⟩))), (1, .v (.int .i64 th)), (10, .v (.slice B H.length cb))]⟩ (Sub.tab (pre := [.gone]) ⟨rfl, rfl, rfl, trivial⟩) ?_
  repeat' (first
    | refine VC_seq ?_
    | refine VC_region ?_
    | refine VL_nil ?_
    | refine VC_ret ?_
    | refine VC_exit ?_
    | refine VC_block ?_
    | refine VC_skip ?_
    | refine kbox ?_
    | refine kall ?_
    | refine kst ?_
    | refine ksN ?_
    | refine klt ?_
    | refine kl1 ?_
    | refine klK ?_
    | refine kap ?_
    | ((first | apply VL_q | apply VG_q | apply VS_q2); (first  | exact qmv (by rfl) | exact qas (by rfl) | exact ql1 (by rfl) | exact qlA (by rfl) | exact qfa (by rfl) | exact qmf (by rfl) | exact qfd (by rfl) | exact qm1 (by rfl) | exact qbd (by rfl) | exact qno (by rfl) | exact qex (by rfl) | exact qln (by rfl) | exact qls (by rfl) | exact qlr (by rfl) | exact qpt (by rfl) | exact qpf (by rfl) | exact qcp (by rfl) | exact qbe (by rfl) | exact qbn (by rfl) | exact qsn (by rfl) | exact qad (by rfl) | exact qsa (by rfl) | exact qsu (by rfl) | exact QS_bin (by rfl) (by rfl) (by first | exact B_slnil | exact Bq_eql_Msg | exact Bq_neq_Msg | exact Bq_eql_Pair | exact Bq_neq_Pair | exact Bq_eql_Op | exact Bq_neq_Op | exact Bq_eql_Cfg | exact Bq_neq_Cfg)); rfl)
    | refine sst ?_
    | refine VS_nil ?_
    | refine eeq ?_
    | refine ees ?_ (by first | exact es1 (by rfl) | exact esN (by rfl))
    | refine VE_nil ?_
    | refine kyes ?_
    | refine kno ?_
    | refine gyes ?_
    | refine gno ?_
    | refine knoU ?_
    | refine gnoU ?_
    | refine VG_nil ⟨by rfl, ?_⟩
    | refine VG_nil ?_
    | refine dT ?_
    | refine d1 ?_
    | refine dQ ?_
    | refine ctr ?_
    | refine cfa ?_
    | refine kdec (fun hq => ?_) (fun hq => ?_)
    | refine gdec (fun hq => ?_) (fun hq => ?_)
    | refine cco (fun hq => ?_) (fun hq => ?_))
  refine VC_for (fun x : List Slt × Nat => ⟨M1, tabOb b g c x.1, [(0, .v (.pointer (some ⟨b, 0, none⟩))), (1, .v (.int .i64 th)), (5, .v (.slice B H.length cb)), (11, .v (.slice B H.length cb)), (12, .v (.int .i64 H.length)), (13, .v (.int .i64 x.2))]⟩) (fun x => x.2 ≤ H.length ∧ x.1.length = T.length ∧ (∀ s ∈ x.1, SOk N s) ∧ ∀ (k : Nat) (s s' : Slt), T[k]? = some s → x.1[k]? = some s' → (s'.who, s'.how) = (rlR th s.who s.how).2 ∨ ((s'.who, s'.how) = (s.who, s.how) ∧ ∀ h ∈ H.take x.2, h.slot ≠ (k : Int))) (fun x => H.length - x.2) (List.range' ([] : List Ob).length (tabOb b g c T).length) (T, 0) (Sub.tab (pre := []) ⟨rfl, rfl, rfl, rfl, rfl, rfl, trivial⟩) ⟨Nat.zero_le _, rfl, hok, fun k s s' h1 h2 => by
    have h3 : T[k]? = some s' := h2
    rw [h1] at h3
    obtain rfl := Option.some.inj h3
    exact .inr ⟨rfl, fun h hh => by simp at hh⟩⟩ ?_
  rintro ⟨X, q⟩ ⟨hq, hX, hXok, hinv⟩
  dsimp only at hq hX hXok hinv ⊢
  rcases Nat.lt_or_ge q H.length with hlt | hge
  · have hd := dlt hlt
    obtain ⟨b1, o1, rfl, hcA⟩ := hS.get hlt
    obtain ⟨j, s0, hj0, hsl, hth, htm⟩ := hmem _ (List.getElem_mem hlt)
    have htk : H.take (q + 1) = H.take q ++ [H[q]] := List.take_succ_eq_append_getElem hlt
    generalize H[q] = h at *
    obtain ⟨ht, hs, hw⟩ := h
    dsimp only at hsl hth
    subst hsl hth
    have hjT := (List.getElem?_eq_some_iff.1 hj0).1
    have hj : j < X.length := by omega
    have hsj := hXok X[j] (List.getElem_mem hj)
    repeat' (first
      | refine VL_allocF [] (tabOb b g c X) (by rfl) (by rfl) ?_
      | refine VC_seq ?_
      | refine VC_region ?_
      | refine VL_nil ?_
      | refine VC_ret ?_
      | refine VC_exit ?_
      | refine VC_block ?_
      | refine VC_skip ?_
      | refine kbox ?_
      | refine kall ?_
      | refine kst ?_
      | refine ksN ?_
      | refine klt ?_
      | refine kl1 ?_
      | refine klK ?_
      | refine kap ?_
      | ((first | apply VL_q | apply VG_q | apply VS_q2); (first | exact QS_indexAddr (q) (by rfl) (by rfl) (by omega) (by omega) | exact QS_mload1 (by rfl) (hcA 0 _ (by rfl)) | exact QS_mload1 (by rfl) (hcA _ _ (by rfl)) | exact QS_mloadN _ (by rfl) hcA _ (by rfl) | exact qmv (by rfl) | exact qas (by rfl) | exact ql1 (by rfl) | exact qlA (by rfl) | exact qfa (by rfl) | exact qmf (by rfl) | exact qfd (by rfl) | exact qm1 (by rfl) | exact qbd (by rfl) | exact qno (by rfl) | exact qex (by rfl) | exact qln (by rfl) | exact qls (by rfl) | exact qlr (by rfl) | exact qpt (by rfl) | exact qpf (by rfl) | exact qcp (by rfl) | exact qbe (by rfl) | exact qbn (by rfl) | exact qsn (by rfl) | exact qad (by rfl) | exact qsa (by rfl) | exact qsu (by rfl) | exact QS_bin (by rfl) (by rfl) (by first | exact B_slnil | exact Bq_eql_Msg | exact Bq_neq_Msg | exact Bq_eql_Pair | exact Bq_neq_Pair | exact Bq_eql_Op | exact Bq_neq_Op | exact Bq_eql_Cfg | exact Bq_neq_Cfg)); rfl)
      | refine sst ?_
      | refine VS_nil ?_
      | refine eeq ?_
      | refine ees ?_ (by first | exact es1 (by rfl) | exact esN (by rfl))
      | refine VE_nil ?_
      | refine kyes ?_
      | refine kno ?_
      | refine gyes ?_
      | refine gno ?_
      | refine knoU ?_
      | refine gnoU ?_
      | refine VG_nil ⟨by rfl, ?_⟩
      | refine VG_nil ?_
      | refine dT ?_
      | refine d1 ?_
      | refine dQ ?_
      | refine ctr ?_
      | refine cfa ?_
      | refine kdec (fun hq => ?_) (fun hq => ?_)
      | refine gdec (fun hq => ?_) (fun hq => ?_)
      | refine cco (fun hq => ?_) (fun hq => ?_))
    refine VL_slot (T := X) (g := g) (c := c) (r := rlR ht X[j].who X[j].how) [_] j hj (by rfl) (fun M' _ => latch_Release b g c X.length j (X.flatMap oneK) X[j].u X[j].who ht X[j].how M' hj (by omega) (flat_get2 hj).1 (flat_get2 hj).2 (flat_len2 X) hsj.2.1 (by have := hsj.2.2.1; omega) hsj.1) (by rfl) (by rfl) (fun u' hu' => ?_)
    repeat' (first
      | refine VC_seq ?_
      | refine VC_region ?_
      | refine VL_nil ?_
      | refine VC_ret ?_
      | refine VC_exit ?_
      | refine VC_block ?_
      | refine VC_skip ?_
      | refine kbox ?_
      | refine kall ?_
      | refine kst ?_
      | refine ksN ?_
      | refine klt ?_
      | refine kl1 ?_
      | refine klK ?_
      | refine kap ?_
      | ((first | apply VL_q | apply VG_q | apply VS_q2); (first  | exact qmv (by rfl) | exact qas (by rfl) | exact ql1 (by rfl) | exact qlA (by rfl) | exact qfa (by rfl) | exact qmf (by rfl) | exact qfd (by rfl) | exact qm1 (by rfl) | exact qbd (by rfl) | exact qno (by rfl) | exact qex (by rfl) | exact qln (by rfl) | exact qls (by rfl) | exact qlr (by rfl) | exact qpt (by rfl) | exact qpf (by rfl) | exact qcp (by rfl) | exact qbe (by rfl) | exact qbn (by rfl) | exact qsn (by rfl) | exact qad (by rfl) | exact qsa (by rfl) | exact qsu (by rfl) | exact QS_bin (by rfl) (by rfl) (by first | exact B_slnil | exact Bq_eql_Msg | exact Bq_neq_Msg | exact Bq_eql_Pair | exact Bq_neq_Pair | exact Bq_eql_Op | exact Bq_neq_Op | exact Bq_eql_Cfg | exact Bq_neq_Cfg)); rfl)
      | refine sst ?_
      | refine VS_nil ?_
      | refine eeq ?_
      | refine ees ?_ (by first | exact es1 (by rfl) | exact esN (by rfl))
      | refine VE_nil ?_
      | refine kyes ?_
      | refine kno ?_
      | refine gyes ?_
      | refine gno ?_
      | refine knoU ?_
      | refine gnoU ?_
      | refine VG_nil ⟨by rfl, ?_⟩
      | refine VG_nil ?_
      | refine dT ?_
      | refine d1 ?_
      | refine dQ ?_
      | refine ctr ?_
      | refine cfa ?_
      | refine kdec (fun hq => ?_) (fun hq => ?_)
      | refine gdec (fun hq => ?_) (fun hq => ?_)
      | refine cco (fun hq => ?_) (fun hq => ?_))
    refine forQ_next (Q := fun _ _ => True) _ (X.set j ⟨u', (rlR ht X[j].who X[j].how).2.1, (rlR ht X[j].who X[j].how).2.2⟩, q + 1) (Sub.tab (pre := [_]) ⟨rfl, rfl, rfl, rfl, rfl, rfl, trivial⟩) ⟨Nat.succ_le_of_lt hlt, by show (X.set j _).length = _; rw [List.length_set]; exact hX, set_all hXok (rl_ok hsj ht u' hu'), fun k s s' h1 h2 => ?_⟩ (by show H.length - (q + 1) < H.length - q; omega)
    have h2 : (X.set j _)[k]? = some s' := h2
    by_cases hkj : j = k
    · subst hkj
      rw [List.getElem?_set_self hj] at h2
      obtain rfl := Option.some.inj h2
      rcases hinv j s X[j] h1 (List.getElem?_eq_getElem hj) with h3 | ⟨h3, _⟩
      · left
        have e1 : X[j].who = (rlR ht s.who s.how).2.1 := congrArg Prod.fst h3
        have e2 : X[j].how = (rlR ht s.who s.how).2.2 := congrArg Prod.snd h3
        show (rlR ht X[j].who X[j].how).2 = _
        rw [e1, e2]
        exact rl_idem _ _ _
      · left
        have e1 : X[j].who = s.who := congrArg Prod.fst h3
        have e2 : X[j].how = s.how := congrArg Prod.snd h3
        show (rlR ht X[j].who X[j].how).2 = _
        rw [e1, e2]
    · rw [List.getElem?_set_ne hkj] at h2
      rcases hinv k s s' h1 h2 with h3 | ⟨h3, h4⟩
      · exact .inl h3
      · refine .inr ⟨h3, fun h hh => ?_⟩
        show h.slot ≠ _
        have hh : h ∈ H.take (q + 1) := hh
        rw [htk] at hh
        rcases List.mem_append.1 hh with hh | hh
        · exact h4 h hh
        · rw [List.mem_singleton.1 hh]
          show (j : Int) ≠ (k : Int)
          omega
  · have hd := dge hge
    obtain rfl : q = H.length := by omega
    rw [List.take_length] at hinv
    repeat' (first
      | refine VC_seq ?_
      | refine VC_region ?_
      | refine VL_nil ?_
      | refine VC_ret ?_
      | refine VC_exit ?_
      | refine VC_block ?_
      | refine VC_skip ?_
      | refine kbox ?_
      | refine kall ?_
      | refine kst ?_
      | refine ksN ?_
      | refine klt ?_
      | refine kl1 ?_
      | refine klK ?_
      | refine kap ?_
      | ((first | apply VL_q | apply VG_q | apply VS_q2); (first  | exact qmv (by rfl) | exact qas (by rfl) | exact ql1 (by rfl) | exact qlA (by rfl) | exact qfa (by rfl) | exact qmf (by rfl) | exact qfd (by rfl) | exact qm1 (by rfl) | exact qbd (by rfl) | exact qno (by rfl) | exact qex (by rfl) | exact qln (by rfl) | exact qls (by rfl) | exact qlr (by rfl) | exact qpt (by rfl) | exact qpf (by rfl) | exact qcp (by rfl) | exact qbe (by rfl) | exact qbn (by rfl) | exact qsn (by rfl) | exact qad (by rfl) | exact qsa (by rfl) | exact qsu (by rfl) | exact QS_bin (by rfl) (by rfl) (by first | exact B_slnil | exact Bq_eql_Msg | exact Bq_neq_Msg | exact Bq_eql_Pair | exact Bq_neq_Pair | exact Bq_eql_Op | exact Bq_neq_Op | exact Bq_eql_Cfg | exact Bq_neq_Cfg)); rfl)
      | refine sst ?_
      | refine VS_nil ?_
      | refine eeq ?_
      | refine ees ?_ (by first | exact es1 (by rfl) | exact esN (by rfl))
      | refine VE_nil ?_
      | refine kyes ?_
      | refine kno ?_
      | refine gyes ?_
      | refine gno ?_
      | refine knoU ?_
      | refine gnoU ?_
      | refine VG_nil ⟨by rfl, ?_⟩
      | refine VG_nil ?_
      | refine dT ?_
      | refine d1 ?_
      | refine dQ ?_
      | refine ctr ?_
      | refine cfa ?_
      | refine kdec (fun hq => ?_) (fun hq => ?_)
      | refine gdec (fun hq => ?_) (fun hq => ?_)
      | refine cco (fun hq => ?_) (fun hq => ?_))
    refine ⟨_, List.range' ([] : List Ob).length (tabOb b g c X).length, tabOb b g c X, Res.one (by rfl) (ResV_tmp (by rfl) rfl), hle1, nodupB_range _ _, sub_drop (tabOb b g c X) [], rfl, X, rfl, hX, hXok, fun k s s' h1 h2 => ?_⟩
    rcases hinv k s s' h1 h2 with h3 | ⟨h3, h4⟩
    · exact h3
    · have hnot : ¬ th ∈ s.who := fun ht => by
        obtain ⟨h, hh, he⟩ := hall k s h1 ht
        exact h4 h hh he
      rw [h3]
      unfold rlR
      rw [if_neg hnot]
end Go.Proofs.Ytdgcdfngpimmmaa
