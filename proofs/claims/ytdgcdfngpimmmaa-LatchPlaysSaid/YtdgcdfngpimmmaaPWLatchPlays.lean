/- The walk of LatchPlays. -/
import Derived.Test.YtdgcdfngpimmmaaPLr11
namespace Go.Proofs.Ytdgcdfngpimmmaa.lawLatchPlays
open Go Go.RowKit
set_option linter.unusedVariables false
set_option maxRecDepth 20000
set_option linter.unusedSimpArgs false
set_option maxHeartbeats 8000000
attribute [local irreducible] Calls
theorem walk (n : Int) (v : Value) (l : List Actt) (w : World) (hl : Sl w 3 actK v l) (hI : ∀ a ∈ l, I64 a.kind) (hll : l.length ≤ 10000000000000) : Calls Try.prog 9 #[.int .i64 n, v] w fun e w' => e = .returned (.bool true) ∧ Below w.heap.size w w' := by
  obtain ⟨A, c1, rfl, hc1, hc2, _⟩ := id hl
  have hM := hl.toM
  unfold maxLen at hc2
  have cA := fun W => latch_awake W
  have z0 : ((0 : Int) != 2) = true := by decide
  have z1 : ((0 : Int) == 0) = true := by decide
  have z2 : ((2 : Int) == 0) = false := by decide
  have z3 : ((2 : Int) != 2) = false := by decide
  refine V_flat (args := [.int .i64 n, .slice A l.length c1]) (M := Mem.of w) Try.func9 rfl Try.ntmps9 (by rfl) (Mem.le_refl _) ?_
  repeat' (first
    | refine VC_seq ?_
    | refine VC_region ?_
    | refine VL_nil ?_
    | refine VC_ret ?_
    | refine VC_exit ?_
    | refine VC_block ?_
    | refine VC_skip ?_
    | refine kbox ?_
    | refine kall ?_
    | refine kst ?_
    | refine ksN ?_
    | refine klt ?_
    | refine kl1 ?_
    | refine klK ?_
    | refine kap ?_
    | ((first | apply VL_q | apply VG_q | apply VS_q2); (first  | exact qmv (by rfl) | exact qas (by rfl) | exact ql1 (by rfl) | exact qlA (by rfl) | exact qfa (by rfl) | exact qmf (by rfl) | exact qfd (by rfl) | exact qm1 (by rfl) | exact qbd (by rfl) | exact qno (by rfl) | exact qex (by rfl) | exact qln (by rfl) | exact qls (by rfl) | exact qlr (by rfl) | exact qpt (by rfl) | exact qpf (by rfl) | exact qcp (by rfl) | exact qbe (by rfl) | exact qbn (by rfl) | exact qsn (by rfl) | exact qad (by rfl) | exact qsa (by rfl) | exact qsu (by rfl) | exact QS_bin (by rfl) (by rfl) (by first | exact B_slnil | exact Bq_eql_Msg | exact Bq_neq_Msg | exact Bq_eql_Pair | exact Bq_neq_Pair | exact Bq_eql_Op | exact Bq_neq_Op | exact Bq_eql_Cfg | exact Bq_neq_Cfg)); rfl)
    | refine sst ?_
    | refine VS_nil ?_
    | refine eeq ?_
    | refine ees ?_ (by first | exact es1 (by rfl) | exact esN (by rfl))
    | refine VE_nil ?_
    | refine kyes ?_
    | refine kno ?_
    | refine gyes ?_
    | refine gno ?_
    | refine knoU ?_
    | refine gnoU ?_
    | refine VG_nil ⟨by rfl, ?_⟩
    | refine VG_nil ?_
    | refine dT ?_
    | refine d1 ?_
    | refine dQ ?_
    | refine ctr ?_
    | refine cfa ?_
    | refine kdec (fun hq => ?_) (fun hq => ?_)
    | refine gdec (fun hq => ?_) (fun hq => ?_)
    | refine cco (fun hq => ?_) (fun hq => ?_))
  refine VL_callX (own1 := []) [] (by rfl) (by rfl) trivial (fun M' _ => latch_New _ M') (by rfl) (by rfl) ?_
  rintro _ _ (⟨m, b, g, c, rfl, hm1, hm2, rfl, rfl⟩ | ⟨h, rfl, rfl⟩)
  rotate_left
  · have hp : (none : Option Addr).isNone = true := rfl
    have hr : decide (1 ≤ n) = false ∨ (decide (1 ≤ n) = true ∧ decide (n ≤ 4096) = false) := by
      rcases h with h | h
      · exact .inl (decide_eq_false (by omega))
      · exact .inr ⟨decide_eq_true (by omega), decide_eq_false (by omega)⟩
    rcases hr with hr | ⟨hr, hr2⟩
    · skip
      repeat' (first
        | refine VC_seq ?_
        | refine VC_region ?_
        | refine VL_nil ?_
        | refine VC_ret ?_
        | refine VC_exit ?_
        | refine VC_block ?_
        | refine VC_skip ?_
        | refine kbox ?_
        | refine kall ?_
        | refine kst ?_
        | refine ksN ?_
        | refine klt ?_
        | refine kl1 ?_
        | refine klK ?_
        | refine kap ?_
        | ((first | apply VL_q | apply VG_q | apply VS_q2); (first | exact QS_bin (by rfl) (by rfl) B_pnnil | exact QS_bin (by rfl) (by rfl) B_pnil | exact QS_call (by rfl) (fun W _ => cA W) | exact qmv (by rfl) | exact qas (by rfl) | exact ql1 (by rfl) | exact qlA (by rfl) | exact qfa (by rfl) | exact qmf (by rfl) | exact qfd (by rfl) | exact qm1 (by rfl) | exact qbd (by rfl) | exact qno (by rfl) | exact qex (by rfl) | exact qln (by rfl) | exact qls (by rfl) | exact qlr (by rfl) | exact qpt (by rfl) | exact qpf (by rfl) | exact qcp (by rfl) | exact qbe (by rfl) | exact qbn (by rfl) | exact qsn (by rfl) | exact qad (by rfl) | exact qsa (by rfl) | exact qsu (by rfl) | exact QS_bin (by rfl) (by rfl) (by first | exact B_slnil | exact Bq_eql_Msg | exact Bq_neq_Msg | exact Bq_eql_Pair | exact Bq_neq_Pair | exact Bq_eql_Op | exact Bq_neq_Op | exact Bq_eql_Cfg | exact Bq_neq_Cfg)); rfl)
        | refine sst ?_
        | refine VS_nil ?_
        | refine eeq ?_
        | refine ees ?_ (by first | exact es1 (by rfl) | exact esN (by rfl))
        | refine VE_nil ?_
        | refine kyes ?_
        | refine kno ?_
        | refine gyes ?_
        | refine gno ?_
        | refine knoU ?_
        | refine gnoU ?_
        | refine VG_nil ⟨by rfl, ?_⟩
        | refine VG_nil ?_
        | refine dT ?_
        | refine d1 ?_
        | refine dQ ?_
        | refine ctr ?_
        | refine cfa ?_
        | refine kdec (fun hq => ?_) (fun hq => ?_)
        | refine gdec (fun hq => ?_) (fun hq => ?_)
        | refine cco (fun hq => ?_) (fun hq => ?_))
      show Res _ _ _ _
      refine Res.one (by rfl) (ResV_tmp (by rfl) ?_)
      rfl
    · have y1 : (!(((2 : Int) == 0) == decide (n ≤ 4096))) = false := by rw [hr2]; rfl
      have y2 : (!decide (n ≤ 4096)) = true := by rw [hr2]; rfl
      have y3 : (!((!(none : Option Addr).isNone) == decide (n ≤ 4096))) = false := by rw [hr2]; rfl
      repeat' (first
        | refine VC_seq ?_
        | refine VC_region ?_
        | refine VL_nil ?_
        | refine VC_ret ?_
        | refine VC_exit ?_
        | refine VC_block ?_
        | refine VC_skip ?_
        | refine kbox ?_
        | refine kall ?_
        | refine kst ?_
        | refine ksN ?_
        | refine klt ?_
        | refine kl1 ?_
        | refine klK ?_
        | refine kap ?_
        | ((first | apply VL_q | apply VG_q | apply VS_q2); (first | exact QS_bin (by rfl) (by rfl) B_pnnil | exact QS_bin (by rfl) (by rfl) B_pnil | exact QS_call (by rfl) (fun W _ => cA W) | exact qmv (by rfl) | exact qas (by rfl) | exact ql1 (by rfl) | exact qlA (by rfl) | exact qfa (by rfl) | exact qmf (by rfl) | exact qfd (by rfl) | exact qm1 (by rfl) | exact qbd (by rfl) | exact qno (by rfl) | exact qex (by rfl) | exact qln (by rfl) | exact qls (by rfl) | exact qlr (by rfl) | exact qpt (by rfl) | exact qpf (by rfl) | exact qcp (by rfl) | exact qbe (by rfl) | exact qbn (by rfl) | exact qsn (by rfl) | exact qad (by rfl) | exact qsa (by rfl) | exact qsu (by rfl) | exact QS_bin (by rfl) (by rfl) (by first | exact B_slnil | exact Bq_eql_Msg | exact Bq_neq_Msg | exact Bq_eql_Pair | exact Bq_neq_Pair | exact Bq_eql_Op | exact Bq_neq_Op | exact Bq_eql_Cfg | exact Bq_neq_Cfg)); rfl)
        | refine sst ?_
        | refine VS_nil ?_
        | refine eeq ?_
        | refine ees ?_ (by first | exact es1 (by rfl) | exact esN (by rfl))
        | refine VE_nil ?_
        | refine kyes ?_
        | refine kno ?_
        | refine gyes ?_
        | refine gno ?_
        | refine knoU ?_
        | refine gnoU ?_
        | refine VG_nil ⟨by rfl, ?_⟩
        | refine VG_nil ?_
        | refine dT ?_
        | refine d1 ?_
        | refine dQ ?_
        | refine ctr ?_
        | refine cfa ?_
        | refine kdec (fun hq => ?_) (fun hq => ?_)
        | refine gdec (fun hq => ?_) (fun hq => ?_)
        | refine cco (fun hq => ?_) (fun hq => ?_))
      show Res _ _ _ _
      refine Res.one (by rfl) (ResV_tmp (by rfl) ?_)
      rfl
  have hp : (some (⟨b, 0, none⟩ : Addr)).isNone = false := rfl
  have hr1 : decide ((1 : Int) ≤ (m : Int)) = true := decide_eq_true (by omega)
  have hr2 : decide ((m : Int) ≤ 4096) = true := decide_eq_true (by omega)
  have y1 : (!(((0 : Int) == 0) == decide ((m : Int) ≤ 4096))) = false := by rw [hr2]; rfl
  have y2 : (!decide ((m : Int) ≤ 4096)) = false := by rw [hr2]; rfl
  have y3 : (!((!(some (⟨b, 0, none⟩ : Addr)).isNone) == decide ((m : Int) ≤ 4096))) = false := by rw [hr2]; rfl
  refine VL_same (.nrow (.slice none 0 0) 3 1 0 []) m (fun W => ⟨rfl, World.ownsRow_nil W _ _ _⟩) (by rfl) ?_
  refine VL_own (own' := tabOb b g c (List.replicate m ⟨.slice none 0 0, [], 0⟩)) (new_tab b g c m) ?_
  by_cases h300 : 300 < l.length
  · have d1 : decide ((300 : Int) < (l.length : Int)) = true := decide_eq_true (by omega)
    repeat' (first
      | refine VC_seq ?_
      | refine VC_region ?_
      | refine VL_nil ?_
      | refine VC_ret ?_
      | refine VC_exit ?_
      | refine VC_block ?_
      | refine VC_skip ?_
      | refine kbox ?_
      | refine kall ?_
      | refine kst ?_
      | refine ksN ?_
      | refine klt ?_
      | refine kl1 ?_
      | refine klK ?_
      | refine kap ?_
      | ((first | apply VL_q | apply VG_q | apply VS_q2); (first | exact QS_bin (by rfl) (by rfl) B_pnnil | exact QS_bin (by rfl) (by rfl) B_pnil | exact QS_call (by rfl) (fun W _ => cA W) | exact qmv (by rfl) | exact qas (by rfl) | exact ql1 (by rfl) | exact qlA (by rfl) | exact qfa (by rfl) | exact qmf (by rfl) | exact qfd (by rfl) | exact qm1 (by rfl) | exact qbd (by rfl) | exact qno (by rfl) | exact qex (by rfl) | exact qln (by rfl) | exact qls (by rfl) | exact qlr (by rfl) | exact qpt (by rfl) | exact qpf (by rfl) | exact qcp (by rfl) | exact qbe (by rfl) | exact qbn (by rfl) | exact qsn (by rfl) | exact qad (by rfl) | exact qsa (by rfl) | exact qsu (by rfl) | exact QS_bin (by rfl) (by rfl) (by first | exact B_slnil | exact Bq_eql_Msg | exact Bq_neq_Msg | exact Bq_eql_Pair | exact Bq_neq_Pair | exact Bq_eql_Op | exact Bq_neq_Op | exact Bq_eql_Cfg | exact Bq_neq_Cfg)); rfl)
      | refine sst ?_
      | refine VS_nil ?_
      | refine eeq ?_
      | refine ees ?_ (by first | exact es1 (by rfl) | exact esN (by rfl))
      | refine VE_nil ?_
      | refine kyes ?_
      | refine kno ?_
      | refine gyes ?_
      | refine gno ?_
      | refine knoU ?_
      | refine gnoU ?_
      | refine VG_nil ⟨by rfl, ?_⟩
      | refine VG_nil ?_
      | refine dT ?_
      | refine d1 ?_
      | refine dQ ?_
      | refine ctr ?_
      | refine cfa ?_
      | refine kdec (fun hq => ?_) (fun hq => ?_)
      | refine gdec (fun hq => ?_) (fun hq => ?_)
      | refine cco (fun hq => ?_) (fun hq => ?_))
    show Res _ _ _ _
    refine Res.one (by rfl) (ResV_tmp (by rfl) ?_)
    rfl
  have d1 : decide ((300 : Int) < (l.length : Int)) = false := decide_eq_false (by omega)
  repeat' (first
    | refine VL_boxF [] (tabOb b g c (List.replicate m ⟨.slice none 0 0, [], 0⟩)) (by rfl) (by rfl) (by rfl) ?_ | refine VL_nameB 0 (by rfl) (fun b2 => VL_same (.nrow (.slice none 0 0) 90 3 0 []) 1 (fun W => ⟨rfl, World.ownsRow_nil W _ _ _⟩) (by rfl) (VL_frontO (pre := [_]) (tab := tabOb b g c (List.replicate m ⟨.slice none 0 0, [], 0⟩)) (by rfl) ?_))
    | refine VC_seq ?_
    | refine VC_region ?_
    | refine VL_nil ?_
    | refine VC_ret ?_
    | refine VC_exit ?_
    | refine VC_block ?_
    | refine VC_skip ?_
    | refine kbox ?_
    | refine kall ?_
    | refine kst ?_
    | refine ksN ?_
    | refine klt ?_
    | refine kl1 ?_
    | refine klK ?_
    | refine kap ?_
    | ((first | apply VL_q | apply VG_q | apply VS_q2); (first | exact QS_bin (by rfl) (by rfl) B_pnnil | exact QS_bin (by rfl) (by rfl) B_pnil | exact qmv (by rfl) | exact qas (by rfl) | exact ql1 (by rfl) | exact qlA (by rfl) | exact qfa (by rfl) | exact qmf (by rfl) | exact qfd (by rfl) | exact qm1 (by rfl) | exact qbd (by rfl) | exact qno (by rfl) | exact qex (by rfl) | exact qln (by rfl) | exact qls (by rfl) | exact qlr (by rfl) | exact qpt (by rfl) | exact qpf (by rfl) | exact qcp (by rfl) | exact qbe (by rfl) | exact qbn (by rfl) | exact qsn (by rfl) | exact qad (by rfl) | exact qsa (by rfl) | exact qsu (by rfl) | exact QS_bin (by rfl) (by rfl) (by first | exact B_slnil | exact Bq_eql_Msg | exact Bq_neq_Msg | exact Bq_eql_Pair | exact Bq_neq_Pair | exact Bq_eql_Op | exact Bq_neq_Op | exact Bq_eql_Cfg | exact Bq_neq_Cfg)); rfl)
    | refine sst ?_
    | refine VS_nil ?_
    | refine eeq ?_
    | refine ees ?_ (by first | exact es1 (by rfl) | exact esN (by rfl))
    | refine VE_nil ?_
    | refine kyes ?_
    | refine kno ?_
    | refine gyes ?_
    | refine gno ?_
    | refine knoU ?_
    | refine gnoU ?_
    | refine VG_nil ⟨by rfl, ?_⟩
    | refine VG_nil ?_
    | refine dT ?_
    | refine d1 ?_
    | refine dQ ?_
    | refine ctr ?_
    | refine cfa ?_
    | refine kdec (fun hq => ?_) (fun hq => ?_)
    | refine gdec (fun hq => ?_) (fun hq => ?_)
    | refine cco (fun hq => ?_) (fun hq => ?_))
  refine VC_for (fun x : List Slt × List Hld × Value × Nat => ⟨Mem.of w, rfOb b2 m x.2.2.1 x.2.1 ++ tabOb b g c x.1, [(5, .v (.pointer (some ⟨b, 0, none⟩))), (8, .v (.pointer (some ⟨b2, 0, none⟩))), (57, .v (.slice A l.length c1)), (58, .v (.int .i64 l.length)), (59, .v (.int .i64 x.2.2.2))]⟩) (fun x => x.2.2.2 ≤ l.length ∧ x.1.length = m ∧ RL x.2.2.2 x.1 x.2.1 ∧ NSh x.2.2.1 x.2.1.length ∧ x.2.1.length ≤ x.2.2.2) (fun x => l.length - x.2.2.2) (List.range' ([] : List Ob).length (rfOb b2 m (.slice none 0 0) [] ++ tabOb b g c (List.replicate m ⟨.slice none 0 0, [], 0⟩)).length) (List.replicate m ⟨.slice none 0 0, [], 0⟩, [], .slice none 0 0, 0) (Sub.tab (pre := []) (own := rfOb b2 m (.slice none 0 0) [] ++ tabOb b g c (List.replicate m ⟨.slice none 0 0, [], 0⟩)) ⟨rfl, rfl, rfl, rfl, rfl, trivial⟩) ⟨Nat.zero_le _, by simp, RL.new m, .inl ⟨rfl, rfl⟩, Nat.zero_le _⟩ ?_
  rintro ⟨T, L, u, k⟩ ⟨hk, hT, hR, hu, hL⟩
  dsimp only at hk hT hR hu hL ⊢
  rcases Nat.lt_or_ge k l.length with hlt | hge
  · have hd := dlt hlt
    obtain ⟨b1, o1, rfl, hcA⟩ := hM.get hlt
    have hw0 := wrapu_bound l[k].kind
    generalize l[k] = a at *
    obtain ⟨kd, th, sl⟩ := a
    dsimp only at hcA hw0
    repeat' (first
      | refine VC_cutH (fun s' => ∃ (ρ : List Nat) (T' : List Slt) (L' : List Hld) (u' : Value), Sub ρ s' ⟨Mem.of w, [.blk 84 [.int .i64 kd, .int .i64 th, .int .i64 sl]] ++ (rfOb b2 m u' L' ++ tabOb b g c T'), [(5, .v (.pointer (some ⟨b, 0, none⟩))), (8, .v (.pointer (some ⟨b2, 0, none⟩))), (10, .p 0 0), (11, .v (.bool true)), (57, .v (.slice (some ⟨b1, o1, none⟩) l.length c1)), (58, .v (.int .i64 l.length)), (59, .v (.int .i64 k))]⟩ ∧ T'.length = m ∧ RL (k + 1) T' L' ∧ NSh u' L'.length ∧ L'.length ≤ k + 1) ?_ ?_ | refine VL_allocF [] (rfOb b2 m u L ++ tabOb b g c T) (by rfl) (by rfl) ?_
      | refine VC_seq ?_
      | refine VC_region ?_
      | refine VL_nil ?_
      | refine VC_ret ?_
      | refine VC_exit ?_
      | refine VC_block ?_
      | refine VC_skip ?_
      | refine kbox ?_
      | refine kall ?_
      | refine kst ?_
      | refine ksN ?_
      | refine klt ?_
      | refine kl1 ?_
      | refine klK ?_
      | refine kap ?_
      | ((first | apply VL_q | apply VG_q | apply VS_q2); (first | exact QS_indexAddr (k) (by rfl) (by rfl) (by omega) (by omega) | exact QS_mload1 (by rfl) (hcA 0 _ (by rfl)) | exact QS_mload1 (by rfl) (hcA _ _ (by rfl)) | exact QS_mloadN _ (by rfl) hcA _ (by rfl) | exact QS_convertI (by rfl) rfl | exact QS_bin (by rfl) (by rfl) (B_remu hw0.1 (by omega) hw0.2) | exact QS_bin (by rfl) (by rfl) B_eql | exact qmv (by rfl) | exact qas (by rfl) | exact ql1 (by rfl) | exact qlA (by rfl) | exact qfa (by rfl) | exact qmf (by rfl) | exact qfd (by rfl) | exact qm1 (by rfl) | exact qbd (by rfl) | exact qno (by rfl) | exact qex (by rfl) | exact qln (by rfl) | exact qls (by rfl) | exact qlr (by rfl) | exact qpt (by rfl) | exact qpf (by rfl) | exact qcp (by rfl) | exact qbe (by rfl) | exact qbn (by rfl) | exact qsn (by rfl) | exact qad (by rfl) | exact qsa (by rfl) | exact qsu (by rfl) | exact QS_bin (by rfl) (by rfl) (by first | exact B_slnil | exact Bq_eql_Msg | exact Bq_neq_Msg | exact Bq_eql_Pair | exact Bq_neq_Pair | exact Bq_eql_Op | exact Bq_neq_Op | exact Bq_eql_Cfg | exact Bq_neq_Cfg)); rfl)
      | refine sst ?_
      | refine VS_nil ?_
      | refine eeq ?_
      | refine ees ?_ (by first | exact es1 (by rfl) | exact esN (by rfl))
      | refine VE_nil ?_
      | refine kyes ?_
      | refine kno ?_
      | refine gyes ?_
      | refine gno ?_
      | refine knoU ?_
      | refine gnoU ?_
      | refine VG_nil ⟨by rfl, ?_⟩
      | refine VG_nil ?_
      | refine dT ?_
      | refine d1 ?_
      | refine dQ ?_
      | refine ctr ?_
      | refine cfa ?_
      | refine kdec (fun hq => ?_) (fun hq => ?_)
      | refine gdec (fun hq => ?_) (fun hq => ?_)
      | refine cco (fun hq => ?_) (fun hq => ?_))
    · refine ⟨?_⟩
      subst hT
      have hL3 : L.length ≤ 1000000 := by omega
      have hrr : 0 ≤ IntKind.u64.wrap kd % 7 ∧ IntKind.u64.wrap kd % 7 < 7 := ⟨Int.emod_nonneg _ (by decide), Int.emod_lt_of_pos _ (by decide)⟩
      --CASES
      by_cases hs : 0 ≤ sl ∧ sl < (T.length : Int)
      · obtain ⟨j, rfl⟩ : ∃ j : Nat, sl = (j : Int) := ⟨sl.toNat, by omega⟩
        have hj : j < T.length := by omega
        have hsj := hR.ok T[j] (List.getElem_mem hj)
        have hgj : T[j]? = some T[j] := List.getElem?_eq_getElem hj
        rcases (by omega : IntKind.u64.wrap kd % 7 = 0 ∨ IntKind.u64.wrap kd % 7 = 1 ∨ IntKind.u64.wrap kd % 7 = 2 ∨ IntKind.u64.wrap kd % 7 = 3 ∨ IntKind.u64.wrap kd % 7 = 4 ∨ IntKind.u64.wrap kd % 7 = 5 ∨ IntKind.u64.wrap kd % 7 = 6) with hr | hr | hr | hr | hr | hr | hr
        · have f0 : (IntKind.u64.wrap kd % 7 == 0) = true := by rw [hr]; rfl
          obtain ⟨t1, t2⟩ := hR.take hgj th 1 (.inl rfl)
          have t1b : ((tkR th T[j].who T[j].how 1).1 == (takeL (T.length : Int) L th (j : Int) false).1) = true := beq_iff_eq.2 t1.symm
          refine VC_lendSlot (T := T) (b := b) (g := g) (cc := c) [.blk 84 [.int .i64 kd, .int .i64 th, .int .i64 j], .nblk (.pointer (some ⟨b2, 0, none⟩)) 94 [.int .i64 T.length, u], .nrow u 90 3 L.length (L.flatMap holdK)] j hj (by rfl) (fun M' hle => ?_)
          repeat' (first
            | refine VC_hold ?_
            | refine VC_seq ?_
            | refine VC_region ?_
            | refine VL_nil ?_
            | refine VC_ret ?_
            | refine VC_exit ?_
            | refine VC_block ?_
            | refine VC_skip ?_
            | refine kbox ?_
            | refine kall ?_
            | refine kst ?_
            | refine ksN ?_
            | refine klt ?_
            | refine kl1 ?_
            | refine klK ?_
            | refine kap ?_
            | ((first | apply VL_q | apply VG_q | apply VS_q2); (first | exact QS_indexAddr (k) (by rfl) (by rfl) (by omega) (by omega) | exact QS_mload1 (by rfl) (hcA 0 _ (by rfl)) | exact QS_mload1 (by rfl) (hcA _ _ (by rfl)) | exact QS_mloadN _ (by rfl) hcA _ (by rfl) | exact QS_convertI (by rfl) rfl | exact QS_bin (by rfl) (by rfl) (B_remu hw0.1 (by omega) hw0.2) | exact qeqV (by rfl) (by rfl) f0 | exact qmv (by rfl) | exact qas (by rfl) | exact ql1 (by rfl) | exact qlA (by rfl) | exact qfa (by rfl) | exact qmf (by rfl) | exact qfd (by rfl) | exact qm1 (by rfl) | exact qbd (by rfl) | exact qno (by rfl) | exact qex (by rfl) | exact qln (by rfl) | exact qls (by rfl) | exact qlr (by rfl) | exact qpt (by rfl) | exact qpf (by rfl) | exact qcp (by rfl) | exact qbe (by rfl) | exact qbn (by rfl) | exact qsn (by rfl) | exact qad (by rfl) | exact qsa (by rfl) | exact qsu (by rfl) | exact QS_bin (by rfl) (by rfl) (by first | exact B_slnil | exact Bq_eql_Msg | exact Bq_neq_Msg | exact Bq_eql_Pair | exact Bq_neq_Pair | exact Bq_eql_Op | exact Bq_neq_Op | exact Bq_eql_Cfg | exact Bq_neq_Cfg)); rfl)
            | refine sst ?_
            | refine VS_nil ?_
            | refine eeq ?_
            | refine ees ?_ (by first | exact es1 (by rfl) | exact esN (by rfl))
            | refine VE_nil ?_
            | refine kyes ?_
            | refine kno ?_
            | refine gyes ?_
            | refine gno ?_
            | refine knoU ?_
            | refine gnoU ?_
            | refine VG_nil ⟨by rfl, ?_⟩
            | refine VG_nil ?_
            | refine dT ?_
            | refine d1 ?_
            | refine dQ ?_
            | refine ctr ?_
            | refine cfa ?_
            | refine kdec (fun hq => ?_) (fun hq => ?_)
            | refine gdec (fun hq => ?_) (fun hq => ?_)
            | refine cco (fun hq => ?_) (fun hq => ?_))
          refine ⟨?_⟩
          refine VC_drawG [1, 2, 3, 4, 5] [5, 11, 12, 13] (by decide +kernel) (by rfl) (by rfl) ?_
          repeat' (first
            | refine VQm_nil ?_
            | refine VQm_e (by rfl) ?_
            | refine VQm_q (by rfl) _ (by first | exact wno (by first | exact qeqV (by rfl) (by rfl) t1b | exact qmv (by rfl) | exact qas (by rfl) | exact ql1 (by rfl) | exact qlA (by rfl) | exact qfa (by rfl) | exact qmf (by rfl) | exact qfd (by rfl) | exact qm1 (by rfl) | exact qbd (by rfl) | exact qno (by rfl) | exact qex (by rfl) | exact qln (by rfl) | exact qls (by rfl) | exact qlr (by rfl) | exact qpt (by rfl) | exact qpf (by rfl) | exact qcp (by rfl) | exact qbe (by rfl) | exact qbn (by rfl) | exact qsn (by rfl) | exact qad (by rfl) | exact qsa (by rfl) | exact qsu (by rfl) | exact QS_bin (by rfl) (by rfl) (by first | exact B_slnil | exact Bq_eql_Msg | exact Bq_neq_Msg | exact Bq_eql_Pair | exact Bq_neq_Pair | exact Bq_eql_Op | exact Bq_neq_Op | exact Bq_eql_Cfg | exact Bq_neq_Cfg)) | exact wnot (by rfl) | exact wU (by rfl) | exact wyes (by first | exact qeqV (by rfl) (by rfl) t1b | exact qmv (by rfl) | exact qas (by rfl) | exact ql1 (by rfl) | exact qlA (by rfl) | exact qfa (by rfl) | exact qmf (by rfl) | exact qfd (by rfl) | exact qm1 (by rfl) | exact qbd (by rfl) | exact qno (by rfl) | exact qex (by rfl) | exact qln (by rfl) | exact qls (by rfl) | exact qlr (by rfl) | exact qpt (by rfl) | exact qpf (by rfl) | exact qcp (by rfl) | exact qbe (by rfl) | exact qbn (by rfl) | exact qsn (by rfl) | exact qad (by rfl) | exact qsa (by rfl) | exact qsu (by rfl) | exact QS_bin (by rfl) (by rfl) (by first | exact B_slnil | exact Bq_eql_Msg | exact Bq_neq_Msg | exact Bq_eql_Pair | exact Bq_neq_Pair | exact Bq_eql_Op | exact Bq_neq_Op | exact Bq_eql_Cfg | exact Bq_neq_Cfg))) (by rfl) (by rfl) ?_
            | refine VF_done ?_
            | refine VF_step ?_
            | exact VFs_nil
            | refine VFs_x _ _ _ _ (by rfl) (EX_callX (own1 := slOb b g c T.length (T.flatMap oneK) T[j].u T[j].who) [3, 4, 5] (by rfl) (by rfl) ⟨rfl, rfl, rfl, trivial⟩ (fun M2 _ => latch_Read b g c T.length j (T.flatMap oneK) T[j].u T[j].who th T[j].how M2 hj (by omega) (flat_get2 hj).1 (flat_get2 hj).2 (flat_len2 T) hsj.2.1 (by have := hsj.2.2.1; omega) hsj.1)) (by rfl) (slI hj (fun u2 hu2 _ => ⟨Mem.le_refl _, by rfl, ?_⟩)) ?_ | refine VFs_x _ _ _ _ (by rfl) (EX_callX (own1 := rfOb b2 (T.length : Int) u L) [1, 2] (by rfl) (by rfl) ⟨rfl, rfl, trivial⟩ (fun M2 _ => ref_TakeX b2 (T.length : Int) u L th (j : Int) false M2 hu hL3)) (by rfl) (rfI (fun u3 hu3 _ => ⟨Mem.le_refl _, by rfl, ?_⟩)) ?_
            | refine VFs_e (by rfl) _ _ (by first | exact fno (by first  | exact EF_alloc | exact elt (by rfl) | exact el1 (by rfl) | exact elK (by rfl) | exact eap (by rfl) | exact fst1 (by rfl) | exact fstN (by rfl) | exact fq (by first | exact qeqV (by rfl) (by rfl) t1b | exact qmv (by rfl) | exact qas (by rfl) | exact ql1 (by rfl) | exact qlA (by rfl) | exact qfa (by rfl) | exact qmf (by rfl) | exact qfd (by rfl) | exact qm1 (by rfl) | exact qbd (by rfl) | exact qno (by rfl) | exact qex (by rfl) | exact qln (by rfl) | exact qls (by rfl) | exact qlr (by rfl) | exact qpt (by rfl) | exact qpf (by rfl) | exact qcp (by rfl) | exact qbe (by rfl) | exact qbn (by rfl) | exact qsn (by rfl) | exact qad (by rfl) | exact qsa (by rfl) | exact qsu (by rfl) | exact QS_bin (by rfl) (by rfl) (by first | exact B_slnil | exact Bq_eql_Msg | exact Bq_neq_Msg | exact Bq_eql_Pair | exact Bq_neq_Pair | exact Bq_eql_Op | exact Bq_neq_Op | exact Bq_eql_Cfg | exact Bq_neq_Cfg))) | exact fnot (by rfl) | exact fU (by rfl) | exact fyes (by first  | exact EF_alloc | exact elt (by rfl) | exact el1 (by rfl) | exact elK (by rfl) | exact eap (by rfl) | exact fst1 (by rfl) | exact fstN (by rfl) | exact fq (by first | exact qeqV (by rfl) (by rfl) t1b | exact qmv (by rfl) | exact qas (by rfl) | exact ql1 (by rfl) | exact qlA (by rfl) | exact qfa (by rfl) | exact qmf (by rfl) | exact qfd (by rfl) | exact qm1 (by rfl) | exact qbd (by rfl) | exact qno (by rfl) | exact qex (by rfl) | exact qln (by rfl) | exact qls (by rfl) | exact qlr (by rfl) | exact qpt (by rfl) | exact qpf (by rfl) | exact qcp (by rfl) | exact qbe (by rfl) | exact qbn (by rfl) | exact qsn (by rfl) | exact qad (by rfl) | exact qsa (by rfl) | exact qsu (by rfl) | exact QS_bin (by rfl) (by rfl) (by first | exact B_slnil | exact Bq_eql_Msg | exact Bq_neq_Msg | exact Bq_eql_Pair | exact Bq_neq_Pair | exact Bq_eql_Op | exact Bq_neq_Op | exact Bq_eql_Cfg | exact Bq_neq_Cfg)))) (by rfl) (by rfl) ?_ ?_)
          have hS : Sub (List.range' 0 ([Ob.blk 84 [.int .i64 kd, .int .i64 th, .int .i64 j], Ob.nblk (.pointer (some ⟨b2, 0, none⟩)) 94 [.int .i64 T.length, u3], Ob.nrow u3 90 3 (takeL (T.length : Int) L th (j : Int) false).2.length ((takeL (T.length : Int) L th (j : Int) false).2.flatMap holdK)] ++ tabOb b g c (T.set j ⟨u2, (tkR th T[j].who T[j].how 1).2.1, (tkR th T[j].who T[j].how 1).2.2⟩)).length) ⟨Mem.of w, [Ob.blk 84 [.int .i64 kd, .int .i64 th, .int .i64 j], Ob.nblk (.pointer (some ⟨b2, 0, none⟩)) 94 [.int .i64 T.length, u3], Ob.nrow u3 90 3 (takeL (T.length : Int) L th (j : Int) false).2.length ((takeL (T.length : Int) L th (j : Int) false).2.flatMap holdK)] ++ tabOb b g c (T.set j ⟨u2, (tkR th T[j].who T[j].how 1).2.1, (tkR th T[j].who T[j].how 1).2.2⟩), [(5, .v (.pointer (some ⟨b, 0, none⟩))), (8, .v (.pointer (some ⟨b2, 0, none⟩))), (10, .p 0 0), (11, .v (.bool true)), (57, .v (.slice (some ⟨b1, o1, none⟩) l.length c1)), (58, .v (.int .i64 l.length)), (59, .v (.int .i64 k))]⟩ ⟨Mem.of w, [Ob.blk 84 [.int .i64 kd, .int .i64 th, .int .i64 j], Ob.nblk (.pointer (some ⟨b2, 0, none⟩)) 94 [.int .i64 T.length, u3], Ob.nrow u3 90 3 (takeL (T.length : Int) L th (j : Int) false).2.length ((takeL (T.length : Int) L th (j : Int) false).2.flatMap holdK)] ++ tabOb b g c (T.set j ⟨u2, (tkR th T[j].who T[j].how 1).2.1, (tkR th T[j].who T[j].how 1).2.2⟩), [(5, .v (.pointer (some ⟨b, 0, none⟩))), (8, .v (.pointer (some ⟨b2, 0, none⟩))), (10, .p 0 0), (11, .v (.bool true)), (57, .v (.slice (some ⟨b1, o1, none⟩) l.length c1)), (58, .v (.int .i64 l.length)), (59, .v (.int .i64 k))]⟩ := sub_env ⟨rfl, rfl, rfl, rfl, rfl, rfl, rfl, trivial⟩
          exact ⟨Mem.le_refl _, [0, 9, 10, 6, 7, 8], [Ob.blk 84 [.int .i64 kd, .int .i64 th, .int .i64 j], Ob.nblk (.pointer (some ⟨b2, 0, none⟩)) 94 [.int .i64 T.length, u3], Ob.nrow u3 90 3 (takeL (T.length : Int) L th (j : Int) false).2.length ((takeL (T.length : Int) L th (j : Int) false).2.flatMap holdK)], [(5, .v (.pointer (some ⟨b, 0, none⟩))), (8, .v (.pointer (some ⟨b2, 0, none⟩))), (10, .p 0 0), (11, .v (.bool true)), (57, .v (.slice (some ⟨b1, o1, none⟩) l.length c1)), (58, .v (.int .i64 l.length)), (59, .v (.int .i64 k))], ⟨u2, (tkR th T[j].who T[j].how 1).2.1, (tkR th T[j].who T[j].how 1).2.2⟩, ⟨rfl, rfl, ⟨rfl, rfl, rfl, rfl, rfl, rfl, trivial⟩, ⟨rfl, rfl, rfl, rfl, rfl, rfl, rfl, trivial⟩⟩, rfl, rfl, _, (T.set j ⟨u2, (tkR th T[j].who T[j].how 1).2.1, (tkR th T[j].who T[j].how 1).2.2⟩), (takeL (T.length : Int) L th (j : Int) false).2, u3, hS, by rw [List.length_set], t2 u2 hu2, hu3, by have := takeL_len (T.length : Int) L th (j : Int) false; omega⟩
        · have f0 : (IntKind.u64.wrap kd % 7 == 0) = false := by rw [hr]; rfl
          have f1 : (IntKind.u64.wrap kd % 7 == 1) = true := by rw [hr]; rfl
          obtain ⟨t1, t2⟩ := hR.take hgj th 1 (.inl rfl)
          have t1b : ((tkR th T[j].who T[j].how 1).1 == (takeL (T.length : Int) L th (j : Int) false).1) = true := beq_iff_eq.2 t1.symm
          refine VC_lendSlot (T := T) (b := b) (g := g) (cc := c) [.blk 84 [.int .i64 kd, .int .i64 th, .int .i64 j], .nblk (.pointer (some ⟨b2, 0, none⟩)) 94 [.int .i64 T.length, u], .nrow u 90 3 L.length (L.flatMap holdK)] j hj (by rfl) (fun M' hle => ?_)
          repeat' (first
            | refine VC_hold ?_
            | refine VC_seq ?_
            | refine VC_region ?_
            | refine VL_nil ?_
            | refine VC_ret ?_
            | refine VC_exit ?_
            | refine VC_block ?_
            | refine VC_skip ?_
            | refine kbox ?_
            | refine kall ?_
            | refine kst ?_
            | refine ksN ?_
            | refine klt ?_
            | refine kl1 ?_
            | refine klK ?_
            | refine kap ?_
            | ((first | apply VL_q | apply VG_q | apply VS_q2); (first | exact QS_indexAddr (k) (by rfl) (by rfl) (by omega) (by omega) | exact QS_mload1 (by rfl) (hcA 0 _ (by rfl)) | exact QS_mload1 (by rfl) (hcA _ _ (by rfl)) | exact QS_mloadN _ (by rfl) hcA _ (by rfl) | exact QS_convertI (by rfl) rfl | exact QS_bin (by rfl) (by rfl) (B_remu hw0.1 (by omega) hw0.2) | exact qeqV (by rfl) (by rfl) f0 | exact qeqV (by rfl) (by rfl) f1 | exact qmv (by rfl) | exact qas (by rfl) | exact ql1 (by rfl) | exact qlA (by rfl) | exact qfa (by rfl) | exact qmf (by rfl) | exact qfd (by rfl) | exact qm1 (by rfl) | exact qbd (by rfl) | exact qno (by rfl) | exact qex (by rfl) | exact qln (by rfl) | exact qls (by rfl) | exact qlr (by rfl) | exact qpt (by rfl) | exact qpf (by rfl) | exact qcp (by rfl) | exact qbe (by rfl) | exact qbn (by rfl) | exact qsn (by rfl) | exact qad (by rfl) | exact qsa (by rfl) | exact qsu (by rfl) | exact QS_bin (by rfl) (by rfl) (by first | exact B_slnil | exact Bq_eql_Msg | exact Bq_neq_Msg | exact Bq_eql_Pair | exact Bq_neq_Pair | exact Bq_eql_Op | exact Bq_neq_Op | exact Bq_eql_Cfg | exact Bq_neq_Cfg)); rfl)
            | refine sst ?_
            | refine VS_nil ?_
            | refine eeq ?_
            | refine ees ?_ (by first | exact es1 (by rfl) | exact esN (by rfl))
            | refine VE_nil ?_
            | refine kyes ?_
            | refine kno ?_
            | refine gyes ?_
            | refine gno ?_
            | refine knoU ?_
            | refine gnoU ?_
            | refine VG_nil ⟨by rfl, ?_⟩
            | refine VG_nil ?_
            | refine dT ?_
            | refine d1 ?_
            | refine dQ ?_
            | refine ctr ?_
            | refine cfa ?_
            | refine kdec (fun hq => ?_) (fun hq => ?_)
            | refine gdec (fun hq => ?_) (fun hq => ?_)
            | refine cco (fun hq => ?_) (fun hq => ?_))
          refine ⟨?_⟩
          refine VC_drawG [1, 2, 3, 4, 5] [5, 11, 12, 13] (by decide +kernel) (by rfl) (by rfl) ?_
          repeat' (first
            | refine VQm_nil ?_
            | refine VQm_e (by rfl) ?_
            | refine VQm_q (by rfl) _ (by first | exact wno (by first | exact qeqV (by rfl) (by rfl) t1b | exact qmv (by rfl) | exact qas (by rfl) | exact ql1 (by rfl) | exact qlA (by rfl) | exact qfa (by rfl) | exact qmf (by rfl) | exact qfd (by rfl) | exact qm1 (by rfl) | exact qbd (by rfl) | exact qno (by rfl) | exact qex (by rfl) | exact qln (by rfl) | exact qls (by rfl) | exact qlr (by rfl) | exact qpt (by rfl) | exact qpf (by rfl) | exact qcp (by rfl) | exact qbe (by rfl) | exact qbn (by rfl) | exact qsn (by rfl) | exact qad (by rfl) | exact qsa (by rfl) | exact qsu (by rfl) | exact QS_bin (by rfl) (by rfl) (by first | exact B_slnil | exact Bq_eql_Msg | exact Bq_neq_Msg | exact Bq_eql_Pair | exact Bq_neq_Pair | exact Bq_eql_Op | exact Bq_neq_Op | exact Bq_eql_Cfg | exact Bq_neq_Cfg)) | exact wnot (by rfl) | exact wU (by rfl) | exact wyes (by first | exact qeqV (by rfl) (by rfl) t1b | exact qmv (by rfl) | exact qas (by rfl) | exact ql1 (by rfl) | exact qlA (by rfl) | exact qfa (by rfl) | exact qmf (by rfl) | exact qfd (by rfl) | exact qm1 (by rfl) | exact qbd (by rfl) | exact qno (by rfl) | exact qex (by rfl) | exact qln (by rfl) | exact qls (by rfl) | exact qlr (by rfl) | exact qpt (by rfl) | exact qpf (by rfl) | exact qcp (by rfl) | exact qbe (by rfl) | exact qbn (by rfl) | exact qsn (by rfl) | exact qad (by rfl) | exact qsa (by rfl) | exact qsu (by rfl) | exact QS_bin (by rfl) (by rfl) (by first | exact B_slnil | exact Bq_eql_Msg | exact Bq_neq_Msg | exact Bq_eql_Pair | exact Bq_neq_Pair | exact Bq_eql_Op | exact Bq_neq_Op | exact Bq_eql_Cfg | exact Bq_neq_Cfg))) (by rfl) (by rfl) ?_
            | refine VF_done ?_
            | refine VF_step ?_
            | exact VFs_nil
            | refine VFs_x _ _ _ _ (by rfl) (EX_callX (own1 := slOb b g c T.length (T.flatMap oneK) T[j].u T[j].who) [3, 4, 5] (by rfl) (by rfl) ⟨rfl, rfl, rfl, trivial⟩ (fun M2 _ => latch_Read b g c T.length j (T.flatMap oneK) T[j].u T[j].who th T[j].how M2 hj (by omega) (flat_get2 hj).1 (flat_get2 hj).2 (flat_len2 T) hsj.2.1 (by have := hsj.2.2.1; omega) hsj.1)) (by rfl) (slI hj (fun u2 hu2 _ => ⟨Mem.le_refl _, by rfl, ?_⟩)) ?_ | refine VFs_x _ _ _ _ (by rfl) (EX_callX (own1 := rfOb b2 (T.length : Int) u L) [1, 2] (by rfl) (by rfl) ⟨rfl, rfl, trivial⟩ (fun M2 _ => ref_TakeX b2 (T.length : Int) u L th (j : Int) false M2 hu hL3)) (by rfl) (rfI (fun u3 hu3 _ => ⟨Mem.le_refl _, by rfl, ?_⟩)) ?_
            | refine VFs_e (by rfl) _ _ (by first | exact fno (by first  | exact EF_alloc | exact elt (by rfl) | exact el1 (by rfl) | exact elK (by rfl) | exact eap (by rfl) | exact fst1 (by rfl) | exact fstN (by rfl) | exact fq (by first | exact qeqV (by rfl) (by rfl) t1b | exact qmv (by rfl) | exact qas (by rfl) | exact ql1 (by rfl) | exact qlA (by rfl) | exact qfa (by rfl) | exact qmf (by rfl) | exact qfd (by rfl) | exact qm1 (by rfl) | exact qbd (by rfl) | exact qno (by rfl) | exact qex (by rfl) | exact qln (by rfl) | exact qls (by rfl) | exact qlr (by rfl) | exact qpt (by rfl) | exact qpf (by rfl) | exact qcp (by rfl) | exact qbe (by rfl) | exact qbn (by rfl) | exact qsn (by rfl) | exact qad (by rfl) | exact qsa (by rfl) | exact qsu (by rfl) | exact QS_bin (by rfl) (by rfl) (by first | exact B_slnil | exact Bq_eql_Msg | exact Bq_neq_Msg | exact Bq_eql_Pair | exact Bq_neq_Pair | exact Bq_eql_Op | exact Bq_neq_Op | exact Bq_eql_Cfg | exact Bq_neq_Cfg))) | exact fnot (by rfl) | exact fU (by rfl) | exact fyes (by first  | exact EF_alloc | exact elt (by rfl) | exact el1 (by rfl) | exact elK (by rfl) | exact eap (by rfl) | exact fst1 (by rfl) | exact fstN (by rfl) | exact fq (by first | exact qeqV (by rfl) (by rfl) t1b | exact qmv (by rfl) | exact qas (by rfl) | exact ql1 (by rfl) | exact qlA (by rfl) | exact qfa (by rfl) | exact qmf (by rfl) | exact qfd (by rfl) | exact qm1 (by rfl) | exact qbd (by rfl) | exact qno (by rfl) | exact qex (by rfl) | exact qln (by rfl) | exact qls (by rfl) | exact qlr (by rfl) | exact qpt (by rfl) | exact qpf (by rfl) | exact qcp (by rfl) | exact qbe (by rfl) | exact qbn (by rfl) | exact qsn (by rfl) | exact qad (by rfl) | exact qsa (by rfl) | exact qsu (by rfl) | exact QS_bin (by rfl) (by rfl) (by first | exact B_slnil | exact Bq_eql_Msg | exact Bq_neq_Msg | exact Bq_eql_Pair | exact Bq_neq_Pair | exact Bq_eql_Op | exact Bq_neq_Op | exact Bq_eql_Cfg | exact Bq_neq_Cfg)))) (by rfl) (by rfl) ?_ ?_)
          have hS : Sub (List.range' 0 ([Ob.blk 84 [.int .i64 kd, .int .i64 th, .int .i64 j], Ob.nblk (.pointer (some ⟨b2, 0, none⟩)) 94 [.int .i64 T.length, u3], Ob.nrow u3 90 3 (takeL (T.length : Int) L th (j : Int) false).2.length ((takeL (T.length : Int) L th (j : Int) false).2.flatMap holdK)] ++ tabOb b g c (T.set j ⟨u2, (tkR th T[j].who T[j].how 1).2.1, (tkR th T[j].who T[j].how 1).2.2⟩)).length) ⟨Mem.of w, [Ob.blk 84 [.int .i64 kd, .int .i64 th, .int .i64 j], Ob.nblk (.pointer (some ⟨b2, 0, none⟩)) 94 [.int .i64 T.length, u3], Ob.nrow u3 90 3 (takeL (T.length : Int) L th (j : Int) false).2.length ((takeL (T.length : Int) L th (j : Int) false).2.flatMap holdK)] ++ tabOb b g c (T.set j ⟨u2, (tkR th T[j].who T[j].how 1).2.1, (tkR th T[j].who T[j].how 1).2.2⟩), [(5, .v (.pointer (some ⟨b, 0, none⟩))), (8, .v (.pointer (some ⟨b2, 0, none⟩))), (10, .p 0 0), (11, .v (.bool true)), (57, .v (.slice (some ⟨b1, o1, none⟩) l.length c1)), (58, .v (.int .i64 l.length)), (59, .v (.int .i64 k))]⟩ ⟨Mem.of w, [Ob.blk 84 [.int .i64 kd, .int .i64 th, .int .i64 j], Ob.nblk (.pointer (some ⟨b2, 0, none⟩)) 94 [.int .i64 T.length, u3], Ob.nrow u3 90 3 (takeL (T.length : Int) L th (j : Int) false).2.length ((takeL (T.length : Int) L th (j : Int) false).2.flatMap holdK)] ++ tabOb b g c (T.set j ⟨u2, (tkR th T[j].who T[j].how 1).2.1, (tkR th T[j].who T[j].how 1).2.2⟩), [(5, .v (.pointer (some ⟨b, 0, none⟩))), (8, .v (.pointer (some ⟨b2, 0, none⟩))), (10, .p 0 0), (11, .v (.bool true)), (57, .v (.slice (some ⟨b1, o1, none⟩) l.length c1)), (58, .v (.int .i64 l.length)), (59, .v (.int .i64 k))]⟩ := sub_env ⟨rfl, rfl, rfl, rfl, rfl, rfl, rfl, trivial⟩
          exact ⟨Mem.le_refl _, [0, 9, 10, 6, 7, 8], [Ob.blk 84 [.int .i64 kd, .int .i64 th, .int .i64 j], Ob.nblk (.pointer (some ⟨b2, 0, none⟩)) 94 [.int .i64 T.length, u3], Ob.nrow u3 90 3 (takeL (T.length : Int) L th (j : Int) false).2.length ((takeL (T.length : Int) L th (j : Int) false).2.flatMap holdK)], [(5, .v (.pointer (some ⟨b, 0, none⟩))), (8, .v (.pointer (some ⟨b2, 0, none⟩))), (10, .p 0 0), (11, .v (.bool true)), (57, .v (.slice (some ⟨b1, o1, none⟩) l.length c1)), (58, .v (.int .i64 l.length)), (59, .v (.int .i64 k))], ⟨u2, (tkR th T[j].who T[j].how 1).2.1, (tkR th T[j].who T[j].how 1).2.2⟩, ⟨rfl, rfl, ⟨rfl, rfl, rfl, rfl, rfl, rfl, trivial⟩, ⟨rfl, rfl, rfl, rfl, rfl, rfl, rfl, trivial⟩⟩, rfl, rfl, _, (T.set j ⟨u2, (tkR th T[j].who T[j].how 1).2.1, (tkR th T[j].who T[j].how 1).2.2⟩), (takeL (T.length : Int) L th (j : Int) false).2, u3, hS, by rw [List.length_set], t2 u2 hu2, hu3, by have := takeL_len (T.length : Int) L th (j : Int) false; omega⟩
        · have f0 : (IntKind.u64.wrap kd % 7 == 0) = false := by rw [hr]; rfl
          have f1 : (IntKind.u64.wrap kd % 7 == 1) = false := by rw [hr]; rfl
          have f2 : (IntKind.u64.wrap kd % 7 == 2) = true := by rw [hr]; rfl
          obtain ⟨t1, t2⟩ := hR.take hgj th 2 (.inr rfl)
          have t1b : ((tkR th T[j].who T[j].how 2).1 == (takeL (T.length : Int) L th (j : Int) true).1) = true := beq_iff_eq.2 t1.symm
          refine VC_lendSlot (T := T) (b := b) (g := g) (cc := c) [.blk 84 [.int .i64 kd, .int .i64 th, .int .i64 j], .nblk (.pointer (some ⟨b2, 0, none⟩)) 94 [.int .i64 T.length, u], .nrow u 90 3 L.length (L.flatMap holdK)] j hj (by rfl) (fun M' hle => ?_)
          repeat' (first
            | refine VC_hold ?_
            | refine VC_seq ?_
            | refine VC_region ?_
            | refine VL_nil ?_
            | refine VC_ret ?_
            | refine VC_exit ?_
            | refine VC_block ?_
            | refine VC_skip ?_
            | refine kbox ?_
            | refine kall ?_
            | refine kst ?_
            | refine ksN ?_
            | refine klt ?_
            | refine kl1 ?_
            | refine klK ?_
            | refine kap ?_
            | ((first | apply VL_q | apply VG_q | apply VS_q2); (first | exact QS_indexAddr (k) (by rfl) (by rfl) (by omega) (by omega) | exact QS_mload1 (by rfl) (hcA 0 _ (by rfl)) | exact QS_mload1 (by rfl) (hcA _ _ (by rfl)) | exact QS_mloadN _ (by rfl) hcA _ (by rfl) | exact QS_convertI (by rfl) rfl | exact QS_bin (by rfl) (by rfl) (B_remu hw0.1 (by omega) hw0.2) | exact qeqV (by rfl) (by rfl) f0 | exact qeqV (by rfl) (by rfl) f1 | exact qeqV (by rfl) (by rfl) f2 | exact qmv (by rfl) | exact qas (by rfl) | exact ql1 (by rfl) | exact qlA (by rfl) | exact qfa (by rfl) | exact qmf (by rfl) | exact qfd (by rfl) | exact qm1 (by rfl) | exact qbd (by rfl) | exact qno (by rfl) | exact qex (by rfl) | exact qln (by rfl) | exact qls (by rfl) | exact qlr (by rfl) | exact qpt (by rfl) | exact qpf (by rfl) | exact qcp (by rfl) | exact qbe (by rfl) | exact qbn (by rfl) | exact qsn (by rfl) | exact qad (by rfl) | exact qsa (by rfl) | exact qsu (by rfl) | exact QS_bin (by rfl) (by rfl) (by first | exact B_slnil | exact Bq_eql_Msg | exact Bq_neq_Msg | exact Bq_eql_Pair | exact Bq_neq_Pair | exact Bq_eql_Op | exact Bq_neq_Op | exact Bq_eql_Cfg | exact Bq_neq_Cfg)); rfl)
            | refine sst ?_
            | refine VS_nil ?_
            | refine eeq ?_
            | refine ees ?_ (by first | exact es1 (by rfl) | exact esN (by rfl))
            | refine VE_nil ?_
            | refine kyes ?_
            | refine kno ?_
            | refine gyes ?_
            | refine gno ?_
            | refine knoU ?_
            | refine gnoU ?_
            | refine VG_nil ⟨by rfl, ?_⟩
            | refine VG_nil ?_
            | refine dT ?_
            | refine d1 ?_
            | refine dQ ?_
            | refine ctr ?_
            | refine cfa ?_
            | refine kdec (fun hq => ?_) (fun hq => ?_)
            | refine gdec (fun hq => ?_) (fun hq => ?_)
            | refine cco (fun hq => ?_) (fun hq => ?_))
          refine ⟨?_⟩
          refine VC_drawG [1, 2, 3, 4, 5] [5, 11, 12, 13] (by decide +kernel) (by rfl) (by rfl) ?_
          repeat' (first
            | refine VQm_nil ?_
            | refine VQm_e (by rfl) ?_
            | refine VQm_q (by rfl) _ (by first | exact wno (by first | exact qeqV (by rfl) (by rfl) t1b | exact qmv (by rfl) | exact qas (by rfl) | exact ql1 (by rfl) | exact qlA (by rfl) | exact qfa (by rfl) | exact qmf (by rfl) | exact qfd (by rfl) | exact qm1 (by rfl) | exact qbd (by rfl) | exact qno (by rfl) | exact qex (by rfl) | exact qln (by rfl) | exact qls (by rfl) | exact qlr (by rfl) | exact qpt (by rfl) | exact qpf (by rfl) | exact qcp (by rfl) | exact qbe (by rfl) | exact qbn (by rfl) | exact qsn (by rfl) | exact qad (by rfl) | exact qsa (by rfl) | exact qsu (by rfl) | exact QS_bin (by rfl) (by rfl) (by first | exact B_slnil | exact Bq_eql_Msg | exact Bq_neq_Msg | exact Bq_eql_Pair | exact Bq_neq_Pair | exact Bq_eql_Op | exact Bq_neq_Op | exact Bq_eql_Cfg | exact Bq_neq_Cfg)) | exact wnot (by rfl) | exact wU (by rfl) | exact wyes (by first | exact qeqV (by rfl) (by rfl) t1b | exact qmv (by rfl) | exact qas (by rfl) | exact ql1 (by rfl) | exact qlA (by rfl) | exact qfa (by rfl) | exact qmf (by rfl) | exact qfd (by rfl) | exact qm1 (by rfl) | exact qbd (by rfl) | exact qno (by rfl) | exact qex (by rfl) | exact qln (by rfl) | exact qls (by rfl) | exact qlr (by rfl) | exact qpt (by rfl) | exact qpf (by rfl) | exact qcp (by rfl) | exact qbe (by rfl) | exact qbn (by rfl) | exact qsn (by rfl) | exact qad (by rfl) | exact qsa (by rfl) | exact qsu (by rfl) | exact QS_bin (by rfl) (by rfl) (by first | exact B_slnil | exact Bq_eql_Msg | exact Bq_neq_Msg | exact Bq_eql_Pair | exact Bq_neq_Pair | exact Bq_eql_Op | exact Bq_neq_Op | exact Bq_eql_Cfg | exact Bq_neq_Cfg))) (by rfl) (by rfl) ?_
            | refine VF_done ?_
            | refine VF_step ?_
            | exact VFs_nil
            | refine VFs_x _ _ _ _ (by rfl) (EX_callX (own1 := slOb b g c T.length (T.flatMap oneK) T[j].u T[j].who) [3, 4, 5] (by rfl) (by rfl) ⟨rfl, rfl, rfl, trivial⟩ (fun M2 _ => latch_Write b g c T.length j (T.flatMap oneK) T[j].u T[j].who th T[j].how M2 hj (by omega) (flat_get2 hj).1 (flat_get2 hj).2 (flat_len2 T) hsj.2.1 (by have := hsj.2.2.1; omega) hsj.1)) (by rfl) (slI hj (fun u2 hu2 _ => ⟨Mem.le_refl _, by rfl, ?_⟩)) ?_ | refine VFs_x _ _ _ _ (by rfl) (EX_callX (own1 := rfOb b2 (T.length : Int) u L) [1, 2] (by rfl) (by rfl) ⟨rfl, rfl, trivial⟩ (fun M2 _ => ref_TakeX b2 (T.length : Int) u L th (j : Int) true M2 hu hL3)) (by rfl) (rfI (fun u3 hu3 _ => ⟨Mem.le_refl _, by rfl, ?_⟩)) ?_
            | refine VFs_e (by rfl) _ _ (by first | exact fno (by first  | exact EF_alloc | exact elt (by rfl) | exact el1 (by rfl) | exact elK (by rfl) | exact eap (by rfl) | exact fst1 (by rfl) | exact fstN (by rfl) | exact fq (by first | exact qeqV (by rfl) (by rfl) t1b | exact qmv (by rfl) | exact qas (by rfl) | exact ql1 (by rfl) | exact qlA (by rfl) | exact qfa (by rfl) | exact qmf (by rfl) | exact qfd (by rfl) | exact qm1 (by rfl) | exact qbd (by rfl) | exact qno (by rfl) | exact qex (by rfl) | exact qln (by rfl) | exact qls (by rfl) | exact qlr (by rfl) | exact qpt (by rfl) | exact qpf (by rfl) | exact qcp (by rfl) | exact qbe (by rfl) | exact qbn (by rfl) | exact qsn (by rfl) | exact qad (by rfl) | exact qsa (by rfl) | exact qsu (by rfl) | exact QS_bin (by rfl) (by rfl) (by first | exact B_slnil | exact Bq_eql_Msg | exact Bq_neq_Msg | exact Bq_eql_Pair | exact Bq_neq_Pair | exact Bq_eql_Op | exact Bq_neq_Op | exact Bq_eql_Cfg | exact Bq_neq_Cfg))) | exact fnot (by rfl) | exact fU (by rfl) | exact fyes (by first  | exact EF_alloc | exact elt (by rfl) | exact el1 (by rfl) | exact elK (by rfl) | exact eap (by rfl) | exact fst1 (by rfl) | exact fstN (by rfl) | exact fq (by first | exact qeqV (by rfl) (by rfl) t1b | exact qmv (by rfl) | exact qas (by rfl) | exact ql1 (by rfl) | exact qlA (by rfl) | exact qfa (by rfl) | exact qmf (by rfl) | exact qfd (by rfl) | exact qm1 (by rfl) | exact qbd (by rfl) | exact qno (by rfl) | exact qex (by rfl) | exact qln (by rfl) | exact qls (by rfl) | exact qlr (by rfl) | exact qpt (by rfl) | exact qpf (by rfl) | exact qcp (by rfl) | exact qbe (by rfl) | exact qbn (by rfl) | exact qsn (by rfl) | exact qad (by rfl) | exact qsa (by rfl) | exact qsu (by rfl) | exact QS_bin (by rfl) (by rfl) (by first | exact B_slnil | exact Bq_eql_Msg | exact Bq_neq_Msg | exact Bq_eql_Pair | exact Bq_neq_Pair | exact Bq_eql_Op | exact Bq_neq_Op | exact Bq_eql_Cfg | exact Bq_neq_Cfg)))) (by rfl) (by rfl) ?_ ?_)
          have hS : Sub (List.range' 0 ([Ob.blk 84 [.int .i64 kd, .int .i64 th, .int .i64 j], Ob.nblk (.pointer (some ⟨b2, 0, none⟩)) 94 [.int .i64 T.length, u3], Ob.nrow u3 90 3 (takeL (T.length : Int) L th (j : Int) true).2.length ((takeL (T.length : Int) L th (j : Int) true).2.flatMap holdK)] ++ tabOb b g c (T.set j ⟨u2, (tkR th T[j].who T[j].how 2).2.1, (tkR th T[j].who T[j].how 2).2.2⟩)).length) ⟨Mem.of w, [Ob.blk 84 [.int .i64 kd, .int .i64 th, .int .i64 j], Ob.nblk (.pointer (some ⟨b2, 0, none⟩)) 94 [.int .i64 T.length, u3], Ob.nrow u3 90 3 (takeL (T.length : Int) L th (j : Int) true).2.length ((takeL (T.length : Int) L th (j : Int) true).2.flatMap holdK)] ++ tabOb b g c (T.set j ⟨u2, (tkR th T[j].who T[j].how 2).2.1, (tkR th T[j].who T[j].how 2).2.2⟩), [(5, .v (.pointer (some ⟨b, 0, none⟩))), (8, .v (.pointer (some ⟨b2, 0, none⟩))), (10, .p 0 0), (11, .v (.bool true)), (57, .v (.slice (some ⟨b1, o1, none⟩) l.length c1)), (58, .v (.int .i64 l.length)), (59, .v (.int .i64 k))]⟩ ⟨Mem.of w, [Ob.blk 84 [.int .i64 kd, .int .i64 th, .int .i64 j], Ob.nblk (.pointer (some ⟨b2, 0, none⟩)) 94 [.int .i64 T.length, u3], Ob.nrow u3 90 3 (takeL (T.length : Int) L th (j : Int) true).2.length ((takeL (T.length : Int) L th (j : Int) true).2.flatMap holdK)] ++ tabOb b g c (T.set j ⟨u2, (tkR th T[j].who T[j].how 2).2.1, (tkR th T[j].who T[j].how 2).2.2⟩), [(5, .v (.pointer (some ⟨b, 0, none⟩))), (8, .v (.pointer (some ⟨b2, 0, none⟩))), (10, .p 0 0), (11, .v (.bool true)), (57, .v (.slice (some ⟨b1, o1, none⟩) l.length c1)), (58, .v (.int .i64 l.length)), (59, .v (.int .i64 k))]⟩ := sub_env ⟨rfl, rfl, rfl, rfl, rfl, rfl, rfl, trivial⟩
          exact ⟨Mem.le_refl _, [0, 9, 10, 6, 7, 8], [Ob.blk 84 [.int .i64 kd, .int .i64 th, .int .i64 j], Ob.nblk (.pointer (some ⟨b2, 0, none⟩)) 94 [.int .i64 T.length, u3], Ob.nrow u3 90 3 (takeL (T.length : Int) L th (j : Int) true).2.length ((takeL (T.length : Int) L th (j : Int) true).2.flatMap holdK)], [(5, .v (.pointer (some ⟨b, 0, none⟩))), (8, .v (.pointer (some ⟨b2, 0, none⟩))), (10, .p 0 0), (11, .v (.bool true)), (57, .v (.slice (some ⟨b1, o1, none⟩) l.length c1)), (58, .v (.int .i64 l.length)), (59, .v (.int .i64 k))], ⟨u2, (tkR th T[j].who T[j].how 2).2.1, (tkR th T[j].who T[j].how 2).2.2⟩, ⟨rfl, rfl, ⟨rfl, rfl, rfl, rfl, rfl, rfl, trivial⟩, ⟨rfl, rfl, rfl, rfl, rfl, rfl, rfl, trivial⟩⟩, rfl, rfl, _, (T.set j ⟨u2, (tkR th T[j].who T[j].how 2).2.1, (tkR th T[j].who T[j].how 2).2.2⟩), (takeL (T.length : Int) L th (j : Int) true).2, u3, hS, by rw [List.length_set], t2 u2 hu2, hu3, by have := takeL_len (T.length : Int) L th (j : Int) true; omega⟩
        · have f0 : (IntKind.u64.wrap kd % 7 == 0) = false := by rw [hr]; rfl
          have f1 : (IntKind.u64.wrap kd % 7 == 1) = false := by rw [hr]; rfl
          have f2 : (IntKind.u64.wrap kd % 7 == 2) = false := by rw [hr]; rfl
          have f3 : (IntKind.u64.wrap kd % 7 == 3) = true := by rw [hr]; rfl
          obtain ⟨t1, t2⟩ := hR.take hgj th 2 (.inr rfl)
          have t1b : ((tkR th T[j].who T[j].how 2).1 == (takeL (T.length : Int) L th (j : Int) true).1) = true := beq_iff_eq.2 t1.symm
          refine VC_lendSlot (T := T) (b := b) (g := g) (cc := c) [.blk 84 [.int .i64 kd, .int .i64 th, .int .i64 j], .nblk (.pointer (some ⟨b2, 0, none⟩)) 94 [.int .i64 T.length, u], .nrow u 90 3 L.length (L.flatMap holdK)] j hj (by rfl) (fun M' hle => ?_)
          repeat' (first
            | refine VC_hold ?_
            | refine VC_seq ?_
            | refine VC_region ?_
            | refine VL_nil ?_
            | refine VC_ret ?_
            | refine VC_exit ?_
            | refine VC_block ?_
            | refine VC_skip ?_
            | refine kbox ?_
            | refine kall ?_
            | refine kst ?_
            | refine ksN ?_
            | refine klt ?_
            | refine kl1 ?_
            | refine klK ?_
            | refine kap ?_
            | ((first | apply VL_q | apply VG_q | apply VS_q2); (first | exact QS_indexAddr (k) (by rfl) (by rfl) (by omega) (by omega) | exact QS_mload1 (by rfl) (hcA 0 _ (by rfl)) | exact QS_mload1 (by rfl) (hcA _ _ (by rfl)) | exact QS_mloadN _ (by rfl) hcA _ (by rfl) | exact QS_convertI (by rfl) rfl | exact QS_bin (by rfl) (by rfl) (B_remu hw0.1 (by omega) hw0.2) | exact qeqV (by rfl) (by rfl) f0 | exact qeqV (by rfl) (by rfl) f1 | exact qeqV (by rfl) (by rfl) f2 | exact qeqV (by rfl) (by rfl) f3 | exact qmv (by rfl) | exact qas (by rfl) | exact ql1 (by rfl) | exact qlA (by rfl) | exact qfa (by rfl) | exact qmf (by rfl) | exact qfd (by rfl) | exact qm1 (by rfl) | exact qbd (by rfl) | exact qno (by rfl) | exact qex (by rfl) | exact qln (by rfl) | exact qls (by rfl) | exact qlr (by rfl) | exact qpt (by rfl) | exact qpf (by rfl) | exact qcp (by rfl) | exact qbe (by rfl) | exact qbn (by rfl) | exact qsn (by rfl) | exact qad (by rfl) | exact qsa (by rfl) | exact qsu (by rfl) | exact QS_bin (by rfl) (by rfl) (by first | exact B_slnil | exact Bq_eql_Msg | exact Bq_neq_Msg | exact Bq_eql_Pair | exact Bq_neq_Pair | exact Bq_eql_Op | exact Bq_neq_Op | exact Bq_eql_Cfg | exact Bq_neq_Cfg)); rfl)
            | refine sst ?_
            | refine VS_nil ?_
            | refine eeq ?_
            | refine ees ?_ (by first | exact es1 (by rfl) | exact esN (by rfl))
            | refine VE_nil ?_
            | refine kyes ?_
            | refine kno ?_
            | refine gyes ?_
            | refine gno ?_
            | refine knoU ?_
            | refine gnoU ?_
            | refine VG_nil ⟨by rfl, ?_⟩
            | refine VG_nil ?_
            | refine dT ?_
            | refine d1 ?_
            | refine dQ ?_
            | refine ctr ?_
            | refine cfa ?_
            | refine kdec (fun hq => ?_) (fun hq => ?_)
            | refine gdec (fun hq => ?_) (fun hq => ?_)
            | refine cco (fun hq => ?_) (fun hq => ?_))
          refine ⟨?_⟩
          refine VC_drawG [1, 2, 3, 4, 5] [5, 11, 12, 13] (by decide +kernel) (by rfl) (by rfl) ?_
          repeat' (first
            | refine VQm_nil ?_
            | refine VQm_e (by rfl) ?_
            | refine VQm_q (by rfl) _ (by first | exact wno (by first | exact qeqV (by rfl) (by rfl) t1b | exact qmv (by rfl) | exact qas (by rfl) | exact ql1 (by rfl) | exact qlA (by rfl) | exact qfa (by rfl) | exact qmf (by rfl) | exact qfd (by rfl) | exact qm1 (by rfl) | exact qbd (by rfl) | exact qno (by rfl) | exact qex (by rfl) | exact qln (by rfl) | exact qls (by rfl) | exact qlr (by rfl) | exact qpt (by rfl) | exact qpf (by rfl) | exact qcp (by rfl) | exact qbe (by rfl) | exact qbn (by rfl) | exact qsn (by rfl) | exact qad (by rfl) | exact qsa (by rfl) | exact qsu (by rfl) | exact QS_bin (by rfl) (by rfl) (by first | exact B_slnil | exact Bq_eql_Msg | exact Bq_neq_Msg | exact Bq_eql_Pair | exact Bq_neq_Pair | exact Bq_eql_Op | exact Bq_neq_Op | exact Bq_eql_Cfg | exact Bq_neq_Cfg)) | exact wnot (by rfl) | exact wU (by rfl) | exact wyes (by first | exact qeqV (by rfl) (by rfl) t1b | exact qmv (by rfl) | exact qas (by rfl) | exact ql1 (by rfl) | exact qlA (by rfl) | exact qfa (by rfl) | exact qmf (by rfl) | exact qfd (by rfl) | exact qm1 (by rfl) | exact qbd (by rfl) | exact qno (by rfl) | exact qex (by rfl) | exact qln (by rfl) | exact qls (by rfl) | exact qlr (by rfl) | exact qpt (by rfl) | exact qpf (by rfl) | exact qcp (by rfl) | exact qbe (by rfl) | exact qbn (by rfl) | exact qsn (by rfl) | exact qad (by rfl) | exact qsa (by rfl) | exact qsu (by rfl) | exact QS_bin (by rfl) (by rfl) (by first | exact B_slnil | exact Bq_eql_Msg | exact Bq_neq_Msg | exact Bq_eql_Pair | exact Bq_neq_Pair | exact Bq_eql_Op | exact Bq_neq_Op | exact Bq_eql_Cfg | exact Bq_neq_Cfg))) (by rfl) (by rfl) ?_
            | refine VF_done ?_
            | refine VF_step ?_
            | exact VFs_nil
            | refine VFs_x _ _ _ _ (by rfl) (EX_callX (own1 := slOb b g c T.length (T.flatMap oneK) T[j].u T[j].who) [3, 4, 5] (by rfl) (by rfl) ⟨rfl, rfl, rfl, trivial⟩ (fun M2 _ => latch_Write b g c T.length j (T.flatMap oneK) T[j].u T[j].who th T[j].how M2 hj (by omega) (flat_get2 hj).1 (flat_get2 hj).2 (flat_len2 T) hsj.2.1 (by have := hsj.2.2.1; omega) hsj.1)) (by rfl) (slI hj (fun u2 hu2 _ => ⟨Mem.le_refl _, by rfl, ?_⟩)) ?_ | refine VFs_x _ _ _ _ (by rfl) (EX_callX (own1 := rfOb b2 (T.length : Int) u L) [1, 2] (by rfl) (by rfl) ⟨rfl, rfl, trivial⟩ (fun M2 _ => ref_TakeX b2 (T.length : Int) u L th (j : Int) true M2 hu hL3)) (by rfl) (rfI (fun u3 hu3 _ => ⟨Mem.le_refl _, by rfl, ?_⟩)) ?_
            | refine VFs_e (by rfl) _ _ (by first | exact fno (by first  | exact EF_alloc | exact elt (by rfl) | exact el1 (by rfl) | exact elK (by rfl) | exact eap (by rfl) | exact fst1 (by rfl) | exact fstN (by rfl) | exact fq (by first | exact qeqV (by rfl) (by rfl) t1b | exact qmv (by rfl) | exact qas (by rfl) | exact ql1 (by rfl) | exact qlA (by rfl) | exact qfa (by rfl) | exact qmf (by rfl) | exact qfd (by rfl) | exact qm1 (by rfl) | exact qbd (by rfl) | exact qno (by rfl) | exact qex (by rfl) | exact qln (by rfl) | exact qls (by rfl) | exact qlr (by rfl) | exact qpt (by rfl) | exact qpf (by rfl) | exact qcp (by rfl) | exact qbe (by rfl) | exact qbn (by rfl) | exact qsn (by rfl) | exact qad (by rfl) | exact qsa (by rfl) | exact qsu (by rfl) | exact QS_bin (by rfl) (by rfl) (by first | exact B_slnil | exact Bq_eql_Msg | exact Bq_neq_Msg | exact Bq_eql_Pair | exact Bq_neq_Pair | exact Bq_eql_Op | exact Bq_neq_Op | exact Bq_eql_Cfg | exact Bq_neq_Cfg))) | exact fnot (by rfl) | exact fU (by rfl) | exact fyes (by first  | exact EF_alloc | exact elt (by rfl) | exact el1 (by rfl) | exact elK (by rfl) | exact eap (by rfl) | exact fst1 (by rfl) | exact fstN (by rfl) | exact fq (by first | exact qeqV (by rfl) (by rfl) t1b | exact qmv (by rfl) | exact qas (by rfl) | exact ql1 (by rfl) | exact qlA (by rfl) | exact qfa (by rfl) | exact qmf (by rfl) | exact qfd (by rfl) | exact qm1 (by rfl) | exact qbd (by rfl) | exact qno (by rfl) | exact qex (by rfl) | exact qln (by rfl) | exact qls (by rfl) | exact qlr (by rfl) | exact qpt (by rfl) | exact qpf (by rfl) | exact qcp (by rfl) | exact qbe (by rfl) | exact qbn (by rfl) | exact qsn (by rfl) | exact qad (by rfl) | exact qsa (by rfl) | exact qsu (by rfl) | exact QS_bin (by rfl) (by rfl) (by first | exact B_slnil | exact Bq_eql_Msg | exact Bq_neq_Msg | exact Bq_eql_Pair | exact Bq_neq_Pair | exact Bq_eql_Op | exact Bq_neq_Op | exact Bq_eql_Cfg | exact Bq_neq_Cfg)))) (by rfl) (by rfl) ?_ ?_)
          have hS : Sub (List.range' 0 ([Ob.blk 84 [.int .i64 kd, .int .i64 th, .int .i64 j], Ob.nblk (.pointer (some ⟨b2, 0, none⟩)) 94 [.int .i64 T.length, u3], Ob.nrow u3 90 3 (takeL (T.length : Int) L th (j : Int) true).2.length ((takeL (T.length : Int) L th (j : Int) true).2.flatMap holdK)] ++ tabOb b g c (T.set j ⟨u2, (tkR th T[j].who T[j].how 2).2.1, (tkR th T[j].who T[j].how 2).2.2⟩)).length) ⟨Mem.of w, [Ob.blk 84 [.int .i64 kd, .int .i64 th, .int .i64 j], Ob.nblk (.pointer (some ⟨b2, 0, none⟩)) 94 [.int .i64 T.length, u3], Ob.nrow u3 90 3 (takeL (T.length : Int) L th (j : Int) true).2.length ((takeL (T.length : Int) L th (j : Int) true).2.flatMap holdK)] ++ tabOb b g c (T.set j ⟨u2, (tkR th T[j].who T[j].how 2).2.1, (tkR th T[j].who T[j].how 2).2.2⟩), [(5, .v (.pointer (some ⟨b, 0, none⟩))), (8, .v (.pointer (some ⟨b2, 0, none⟩))), (10, .p 0 0), (11, .v (.bool true)), (57, .v (.slice (some ⟨b1, o1, none⟩) l.length c1)), (58, .v (.int .i64 l.length)), (59, .v (.int .i64 k))]⟩ ⟨Mem.of w, [Ob.blk 84 [.int .i64 kd, .int .i64 th, .int .i64 j], Ob.nblk (.pointer (some ⟨b2, 0, none⟩)) 94 [.int .i64 T.length, u3], Ob.nrow u3 90 3 (takeL (T.length : Int) L th (j : Int) true).2.length ((takeL (T.length : Int) L th (j : Int) true).2.flatMap holdK)] ++ tabOb b g c (T.set j ⟨u2, (tkR th T[j].who T[j].how 2).2.1, (tkR th T[j].who T[j].how 2).2.2⟩), [(5, .v (.pointer (some ⟨b, 0, none⟩))), (8, .v (.pointer (some ⟨b2, 0, none⟩))), (10, .p 0 0), (11, .v (.bool true)), (57, .v (.slice (some ⟨b1, o1, none⟩) l.length c1)), (58, .v (.int .i64 l.length)), (59, .v (.int .i64 k))]⟩ := sub_env ⟨rfl, rfl, rfl, rfl, rfl, rfl, rfl, trivial⟩
          exact ⟨Mem.le_refl _, [0, 9, 10, 6, 7, 8], [Ob.blk 84 [.int .i64 kd, .int .i64 th, .int .i64 j], Ob.nblk (.pointer (some ⟨b2, 0, none⟩)) 94 [.int .i64 T.length, u3], Ob.nrow u3 90 3 (takeL (T.length : Int) L th (j : Int) true).2.length ((takeL (T.length : Int) L th (j : Int) true).2.flatMap holdK)], [(5, .v (.pointer (some ⟨b, 0, none⟩))), (8, .v (.pointer (some ⟨b2, 0, none⟩))), (10, .p 0 0), (11, .v (.bool true)), (57, .v (.slice (some ⟨b1, o1, none⟩) l.length c1)), (58, .v (.int .i64 l.length)), (59, .v (.int .i64 k))], ⟨u2, (tkR th T[j].who T[j].how 2).2.1, (tkR th T[j].who T[j].how 2).2.2⟩, ⟨rfl, rfl, ⟨rfl, rfl, rfl, rfl, rfl, rfl, trivial⟩, ⟨rfl, rfl, rfl, rfl, rfl, rfl, rfl, trivial⟩⟩, rfl, rfl, _, (T.set j ⟨u2, (tkR th T[j].who T[j].how 2).2.1, (tkR th T[j].who T[j].how 2).2.2⟩), (takeL (T.length : Int) L th (j : Int) true).2, u3, hS, by rw [List.length_set], t2 u2 hu2, hu3, by have := takeL_len (T.length : Int) L th (j : Int) true; omega⟩
        · have f0 : (IntKind.u64.wrap kd % 7 == 0) = false := by rw [hr]; rfl
          have f1 : (IntKind.u64.wrap kd % 7 == 1) = false := by rw [hr]; rfl
          have f2 : (IntKind.u64.wrap kd % 7 == 2) = false := by rw [hr]; rfl
          have f3 : (IntKind.u64.wrap kd % 7 == 3) = false := by rw [hr]; rfl
          have f4 : (IntKind.u64.wrap kd % 7 == 4) = true := by rw [hr]; rfl
          have hcn := hR.count th (j : Int)
          rw [hR.has hgj th] at hcn
          refine VC_lendSlot (T := T) (b := b) (g := g) (cc := c) [.blk 84 [.int .i64 kd, .int .i64 th, .int .i64 j], .nblk (.pointer (some ⟨b2, 0, none⟩)) 94 [.int .i64 T.length, u], .nrow u 90 3 L.length (L.flatMap holdK)] j hj (by rfl) (fun M' hle => ?_)
          by_cases hm : th ∈ T[j].who
          · have h1 : (rlR th T[j].who T[j].how).1 = 0 := by rw [rl_one, if_pos hm]
            have g1 : ((rlR th T[j].who T[j].how).1 == 0) = true := by rw [h1]; rfl
            have g3 := g1
            have g2 : (((L.length : Int) - ((L.filter (keepW th (j : Int) false)).length : Nat)) == 1) = true := by rw [hcn]; exact decide_eq_true hm
            repeat' (first
              | refine VL_callX (own1 := slOb b g c T.length (T.flatMap oneK) T[j].u T[j].who) [3, 4, 5] (by rfl) (by rfl) ⟨rfl, rfl, rfl, trivial⟩ (fun M2 _ => latch_Release b g c T.length j (T.flatMap oneK) T[j].u T[j].who th T[j].how M2 hj (by omega) (flat_get2 hj).1 (flat_get2 hj).2 (flat_len2 T) hsj.2.1 (by have := hsj.2.2.1; omega) hsj.1) (by rfl) (by rfl) (slV hj (fun u2 hu2 => ?_)) | refine VL_callX (own1 := rfOb b2 (T.length : Int) u L) [1, 2] (by rfl) (by rfl) ⟨rfl, rfl, trivial⟩ (fun M2 _ => ref_WithoutX b2 (T.length : Int) u L th (j : Int) false M2 hu hL3) (by rfl) (by rfl) (rfV (fun u3 hu3 => ?_))
              | refine VC_seq ?_
              | refine VC_region ?_
              | refine VL_nil ?_
              | refine VC_ret ?_
              | refine VC_exit ?_
              | refine VC_block ?_
              | refine VC_skip ?_
              | refine kbox ?_
              | refine kall ?_
              | refine kst ?_
              | refine ksN ?_
              | refine klt ?_
              | refine kl1 ?_
              | refine klK ?_
              | refine kap ?_
              | ((first | apply VL_q | apply VG_q | apply VS_q2); (first | exact QS_indexAddr (k) (by rfl) (by rfl) (by omega) (by omega) | exact QS_mload1 (by rfl) (hcA 0 _ (by rfl)) | exact QS_mload1 (by rfl) (hcA _ _ (by rfl)) | exact QS_mloadN _ (by rfl) hcA _ (by rfl) | exact QS_convertI (by rfl) rfl | exact QS_bin (by rfl) (by rfl) (B_remu hw0.1 (by omega) hw0.2) | exact qeqV (by rfl) (by rfl) f0 | exact qeqV (by rfl) (by rfl) f1 | exact qeqV (by rfl) (by rfl) f2 | exact qeqV (by rfl) (by rfl) f3 | exact qeqV (by rfl) (by rfl) f4 | exact qeqV (by rfl) (by rfl) g1 | exact qeqV (by rfl) (by rfl) g2 | exact qeqV (by rfl) (by rfl) g3 | exact qmv (by rfl) | exact qas (by rfl) | exact ql1 (by rfl) | exact qlA (by rfl) | exact qfa (by rfl) | exact qmf (by rfl) | exact qfd (by rfl) | exact qm1 (by rfl) | exact qbd (by rfl) | exact qno (by rfl) | exact qex (by rfl) | exact qln (by rfl) | exact qls (by rfl) | exact qlr (by rfl) | exact qpt (by rfl) | exact qpf (by rfl) | exact qcp (by rfl) | exact qbe (by rfl) | exact qbn (by rfl) | exact qsn (by rfl) | exact qad (by rfl) | exact qsa (by rfl) | exact qsu (by rfl) | exact QS_bin (by rfl) (by rfl) (by first | exact B_slnil | exact Bq_eql_Msg | exact Bq_neq_Msg | exact Bq_eql_Pair | exact Bq_neq_Pair | exact Bq_eql_Op | exact Bq_neq_Op | exact Bq_eql_Cfg | exact Bq_neq_Cfg)); rfl)
              | refine sst ?_
              | refine VS_nil ?_
              | refine eeq ?_
              | refine ees ?_ (by first | exact es1 (by rfl) | exact esN (by rfl))
              | refine VE_nil ?_
              | refine kyes ?_
              | refine kno ?_
              | refine gyes ?_
              | refine gno ?_
              | refine knoU ?_
              | refine gnoU ?_
              | refine VG_nil ⟨by rfl, ?_⟩
              | refine VG_nil ?_
              | refine dT ?_
              | refine d1 ?_
              | refine dQ ?_
              | refine ctr ?_
              | refine cfa ?_
              | refine kdec (fun hq => ?_) (fun hq => ?_)
              | refine gdec (fun hq => ?_) (fun hq => ?_)
              | refine cco (fun hq => ?_) (fun hq => ?_))
            have hS : Sub (List.range' 0 ([Ob.blk 84 [.int .i64 kd, .int .i64 th, .int .i64 j], Ob.nblk (.pointer (some ⟨b2, 0, none⟩)) 94 [.int .i64 T.length, u3], Ob.nrow u3 90 3 (L.filter (keepW th (j : Int) false)).length ((L.filter (keepW th (j : Int) false)).flatMap holdK)] ++ tabOb b g c (T.set j ⟨u2, (rlR th T[j].who T[j].how).2.1, (rlR th T[j].who T[j].how).2.2⟩)).length) ⟨Mem.of w, [Ob.blk 84 [.int .i64 kd, .int .i64 th, .int .i64 j], Ob.nblk (.pointer (some ⟨b2, 0, none⟩)) 94 [.int .i64 T.length, u3], Ob.nrow u3 90 3 (L.filter (keepW th (j : Int) false)).length ((L.filter (keepW th (j : Int) false)).flatMap holdK)] ++ tabOb b g c (T.set j ⟨u2, (rlR th T[j].who T[j].how).2.1, (rlR th T[j].who T[j].how).2.2⟩), [(5, .v (.pointer (some ⟨b, 0, none⟩))), (8, .v (.pointer (some ⟨b2, 0, none⟩))), (10, .p 0 0), (11, .v (.bool true)), (57, .v (.slice (some ⟨b1, o1, none⟩) l.length c1)), (58, .v (.int .i64 l.length)), (59, .v (.int .i64 k))]⟩ ⟨Mem.of w, [Ob.blk 84 [.int .i64 kd, .int .i64 th, .int .i64 j], Ob.nblk (.pointer (some ⟨b2, 0, none⟩)) 94 [.int .i64 T.length, u3], Ob.nrow u3 90 3 (L.filter (keepW th (j : Int) false)).length ((L.filter (keepW th (j : Int) false)).flatMap holdK)] ++ tabOb b g c (T.set j ⟨u2, (rlR th T[j].who T[j].how).2.1, (rlR th T[j].who T[j].how).2.2⟩), [(5, .v (.pointer (some ⟨b, 0, none⟩))), (8, .v (.pointer (some ⟨b2, 0, none⟩))), (10, .p 0 0), (11, .v (.bool true)), (57, .v (.slice (some ⟨b1, o1, none⟩) l.length c1)), (58, .v (.int .i64 l.length)), (59, .v (.int .i64 k))]⟩ := sub_env ⟨rfl, rfl, rfl, rfl, rfl, rfl, rfl, trivial⟩
            exact ⟨Mem.le_refl _, [0, 9, 10, 6, 7, 8], [Ob.blk 84 [.int .i64 kd, .int .i64 th, .int .i64 j], Ob.nblk (.pointer (some ⟨b2, 0, none⟩)) 94 [.int .i64 T.length, u3], Ob.nrow u3 90 3 (L.filter (keepW th (j : Int) false)).length ((L.filter (keepW th (j : Int) false)).flatMap holdK)], [(5, .v (.pointer (some ⟨b, 0, none⟩))), (8, .v (.pointer (some ⟨b2, 0, none⟩))), (10, .p 0 0), (11, .v (.bool true)), (57, .v (.slice (some ⟨b1, o1, none⟩) l.length c1)), (58, .v (.int .i64 l.length)), (59, .v (.int .i64 k))], ⟨u2, (rlR th T[j].who T[j].how).2.1, (rlR th T[j].who T[j].how).2.2⟩, ⟨rfl, rfl, ⟨rfl, rfl, rfl, rfl, rfl, rfl, trivial⟩, ⟨rfl, rfl, rfl, rfl, rfl, rfl, rfl, trivial⟩⟩, rfl, rfl, _, (T.set j ⟨u2, (rlR th T[j].who T[j].how).2.1, (rlR th T[j].who T[j].how).2.2⟩), (L.filter (keepW th (j : Int) false)), u3, hS, by rw [List.length_set], (hR.release hgj th u2 hu2).mono (Nat.le_succ k), hu3, Nat.le_trans (List.length_filter_le _ _) (by omega)⟩
          · have h1 : (rlR th T[j].who T[j].how).1 = 8 := by rw [rl_one, if_neg hm]
            have g1 : ((rlR th T[j].who T[j].how).1 == 0) = false := by rw [h1]; rfl
            have g3 : ((rlR th T[j].who T[j].how).1 == 8) = true := by rw [h1]; rfl
            have g2 : (((L.length : Int) - ((L.filter (keepW th (j : Int) false)).length : Nat)) == 1) = false := by rw [hcn]; exact decide_eq_false hm
            repeat' (first
              | refine VL_callX (own1 := slOb b g c T.length (T.flatMap oneK) T[j].u T[j].who) [3, 4, 5] (by rfl) (by rfl) ⟨rfl, rfl, rfl, trivial⟩ (fun M2 _ => latch_Release b g c T.length j (T.flatMap oneK) T[j].u T[j].who th T[j].how M2 hj (by omega) (flat_get2 hj).1 (flat_get2 hj).2 (flat_len2 T) hsj.2.1 (by have := hsj.2.2.1; omega) hsj.1) (by rfl) (by rfl) (slV hj (fun u2 hu2 => ?_)) | refine VL_callX (own1 := rfOb b2 (T.length : Int) u L) [1, 2] (by rfl) (by rfl) ⟨rfl, rfl, trivial⟩ (fun M2 _ => ref_WithoutX b2 (T.length : Int) u L th (j : Int) false M2 hu hL3) (by rfl) (by rfl) (rfV (fun u3 hu3 => ?_))
              | refine VC_seq ?_
              | refine VC_region ?_
              | refine VL_nil ?_
              | refine VC_ret ?_
              | refine VC_exit ?_
              | refine VC_block ?_
              | refine VC_skip ?_
              | refine kbox ?_
              | refine kall ?_
              | refine kst ?_
              | refine ksN ?_
              | refine klt ?_
              | refine kl1 ?_
              | refine klK ?_
              | refine kap ?_
              | ((first | apply VL_q | apply VG_q | apply VS_q2); (first | exact QS_indexAddr (k) (by rfl) (by rfl) (by omega) (by omega) | exact QS_mload1 (by rfl) (hcA 0 _ (by rfl)) | exact QS_mload1 (by rfl) (hcA _ _ (by rfl)) | exact QS_mloadN _ (by rfl) hcA _ (by rfl) | exact QS_convertI (by rfl) rfl | exact QS_bin (by rfl) (by rfl) (B_remu hw0.1 (by omega) hw0.2) | exact qeqV (by rfl) (by rfl) f0 | exact qeqV (by rfl) (by rfl) f1 | exact qeqV (by rfl) (by rfl) f2 | exact qeqV (by rfl) (by rfl) f3 | exact qeqV (by rfl) (by rfl) f4 | exact qeqV (by rfl) (by rfl) g1 | exact qeqV (by rfl) (by rfl) g2 | exact qeqV (by rfl) (by rfl) g3 | exact qmv (by rfl) | exact qas (by rfl) | exact ql1 (by rfl) | exact qlA (by rfl) | exact qfa (by rfl) | exact qmf (by rfl) | exact qfd (by rfl) | exact qm1 (by rfl) | exact qbd (by rfl) | exact qno (by rfl) | exact qex (by rfl) | exact qln (by rfl) | exact qls (by rfl) | exact qlr (by rfl) | exact qpt (by rfl) | exact qpf (by rfl) | exact qcp (by rfl) | exact qbe (by rfl) | exact qbn (by rfl) | exact qsn (by rfl) | exact qad (by rfl) | exact qsa (by rfl) | exact qsu (by rfl) | exact QS_bin (by rfl) (by rfl) (by first | exact B_slnil | exact Bq_eql_Msg | exact Bq_neq_Msg | exact Bq_eql_Pair | exact Bq_neq_Pair | exact Bq_eql_Op | exact Bq_neq_Op | exact Bq_eql_Cfg | exact Bq_neq_Cfg)); rfl)
              | refine sst ?_
              | refine VS_nil ?_
              | refine eeq ?_
              | refine ees ?_ (by first | exact es1 (by rfl) | exact esN (by rfl))
              | refine VE_nil ?_
              | refine kyes ?_
              | refine kno ?_
              | refine gyes ?_
              | refine gno ?_
              | refine knoU ?_
              | refine gnoU ?_
              | refine VG_nil ⟨by rfl, ?_⟩
              | refine VG_nil ?_
              | refine dT ?_
              | refine d1 ?_
              | refine dQ ?_
              | refine ctr ?_
              | refine cfa ?_
              | refine kdec (fun hq => ?_) (fun hq => ?_)
              | refine gdec (fun hq => ?_) (fun hq => ?_)
              | refine cco (fun hq => ?_) (fun hq => ?_))
            have hS : Sub (List.range' 0 ([Ob.blk 84 [.int .i64 kd, .int .i64 th, .int .i64 j], Ob.nblk (.pointer (some ⟨b2, 0, none⟩)) 94 [.int .i64 T.length, u3], Ob.nrow u3 90 3 (L.filter (keepW th (j : Int) false)).length ((L.filter (keepW th (j : Int) false)).flatMap holdK)] ++ tabOb b g c (T.set j ⟨u2, (rlR th T[j].who T[j].how).2.1, (rlR th T[j].who T[j].how).2.2⟩)).length) ⟨Mem.of w, [Ob.blk 84 [.int .i64 kd, .int .i64 th, .int .i64 j], Ob.nblk (.pointer (some ⟨b2, 0, none⟩)) 94 [.int .i64 T.length, u3], Ob.nrow u3 90 3 (L.filter (keepW th (j : Int) false)).length ((L.filter (keepW th (j : Int) false)).flatMap holdK)] ++ tabOb b g c (T.set j ⟨u2, (rlR th T[j].who T[j].how).2.1, (rlR th T[j].who T[j].how).2.2⟩), [(5, .v (.pointer (some ⟨b, 0, none⟩))), (8, .v (.pointer (some ⟨b2, 0, none⟩))), (10, .p 0 0), (11, .v (.bool true)), (57, .v (.slice (some ⟨b1, o1, none⟩) l.length c1)), (58, .v (.int .i64 l.length)), (59, .v (.int .i64 k))]⟩ ⟨Mem.of w, [Ob.blk 84 [.int .i64 kd, .int .i64 th, .int .i64 j], Ob.nblk (.pointer (some ⟨b2, 0, none⟩)) 94 [.int .i64 T.length, u3], Ob.nrow u3 90 3 (L.filter (keepW th (j : Int) false)).length ((L.filter (keepW th (j : Int) false)).flatMap holdK)] ++ tabOb b g c (T.set j ⟨u2, (rlR th T[j].who T[j].how).2.1, (rlR th T[j].who T[j].how).2.2⟩), [(5, .v (.pointer (some ⟨b, 0, none⟩))), (8, .v (.pointer (some ⟨b2, 0, none⟩))), (10, .p 0 0), (11, .v (.bool true)), (57, .v (.slice (some ⟨b1, o1, none⟩) l.length c1)), (58, .v (.int .i64 l.length)), (59, .v (.int .i64 k))]⟩ := sub_env ⟨rfl, rfl, rfl, rfl, rfl, rfl, rfl, trivial⟩
            exact ⟨Mem.le_refl _, [0, 9, 10, 6, 7, 8], [Ob.blk 84 [.int .i64 kd, .int .i64 th, .int .i64 j], Ob.nblk (.pointer (some ⟨b2, 0, none⟩)) 94 [.int .i64 T.length, u3], Ob.nrow u3 90 3 (L.filter (keepW th (j : Int) false)).length ((L.filter (keepW th (j : Int) false)).flatMap holdK)], [(5, .v (.pointer (some ⟨b, 0, none⟩))), (8, .v (.pointer (some ⟨b2, 0, none⟩))), (10, .p 0 0), (11, .v (.bool true)), (57, .v (.slice (some ⟨b1, o1, none⟩) l.length c1)), (58, .v (.int .i64 l.length)), (59, .v (.int .i64 k))], ⟨u2, (rlR th T[j].who T[j].how).2.1, (rlR th T[j].who T[j].how).2.2⟩, ⟨rfl, rfl, ⟨rfl, rfl, rfl, rfl, rfl, rfl, trivial⟩, ⟨rfl, rfl, rfl, rfl, rfl, rfl, rfl, trivial⟩⟩, rfl, rfl, _, (T.set j ⟨u2, (rlR th T[j].who T[j].how).2.1, (rlR th T[j].who T[j].how).2.2⟩), (L.filter (keepW th (j : Int) false)), u3, hS, by rw [List.length_set], (hR.release hgj th u2 hu2).mono (Nat.le_succ k), hu3, Nat.le_trans (List.length_filter_le _ _) (by omega)⟩
        · have f0 : (IntKind.u64.wrap kd % 7 == 0) = false := by rw [hr]; rfl
          have f1 : (IntKind.u64.wrap kd % 7 == 1) = false := by rw [hr]; rfl
          have f2 : (IntKind.u64.wrap kd % 7 == 2) = false := by rw [hr]; rfl
          have f3 : (IntKind.u64.wrap kd % 7 == 3) = false := by rw [hr]; rfl
          have f4 : (IntKind.u64.wrap kd % 7 == 4) = false := by rw [hr]; rfl
          have f5 : (IntKind.u64.wrap kd % 7 == 5) = true := by rw [hr]; rfl
          have hcn := hR.count th (j : Int)
          rw [hR.has hgj th] at hcn
          refine VC_lendSlot (T := T) (b := b) (g := g) (cc := c) [.blk 84 [.int .i64 kd, .int .i64 th, .int .i64 j], .nblk (.pointer (some ⟨b2, 0, none⟩)) 94 [.int .i64 T.length, u], .nrow u 90 3 L.length (L.flatMap holdK)] j hj (by rfl) (fun M' hle => ?_)
          by_cases hm : th ∈ T[j].who
          · have h1 : (rlR th T[j].who T[j].how).1 = 0 := by rw [rl_one, if_pos hm]
            have g1 : ((rlR th T[j].who T[j].how).1 == 0) = true := by rw [h1]; rfl
            have g3 := g1
            have g2 : (((L.length : Int) - ((L.filter (keepW th (j : Int) false)).length : Nat)) == 1) = true := by rw [hcn]; exact decide_eq_true hm
            repeat' (first
              | refine VL_callX (own1 := slOb b g c T.length (T.flatMap oneK) T[j].u T[j].who) [3, 4, 5] (by rfl) (by rfl) ⟨rfl, rfl, rfl, trivial⟩ (fun M2 _ => latch_Release b g c T.length j (T.flatMap oneK) T[j].u T[j].who th T[j].how M2 hj (by omega) (flat_get2 hj).1 (flat_get2 hj).2 (flat_len2 T) hsj.2.1 (by have := hsj.2.2.1; omega) hsj.1) (by rfl) (by rfl) (slV hj (fun u2 hu2 => ?_)) | refine VL_callX (own1 := rfOb b2 (T.length : Int) u L) [1, 2] (by rfl) (by rfl) ⟨rfl, rfl, trivial⟩ (fun M2 _ => ref_WithoutX b2 (T.length : Int) u L th (j : Int) false M2 hu hL3) (by rfl) (by rfl) (rfV (fun u3 hu3 => ?_))
              | refine VC_seq ?_
              | refine VC_region ?_
              | refine VL_nil ?_
              | refine VC_ret ?_
              | refine VC_exit ?_
              | refine VC_block ?_
              | refine VC_skip ?_
              | refine kbox ?_
              | refine kall ?_
              | refine kst ?_
              | refine ksN ?_
              | refine klt ?_
              | refine kl1 ?_
              | refine klK ?_
              | refine kap ?_
              | ((first | apply VL_q | apply VG_q | apply VS_q2); (first | exact QS_indexAddr (k) (by rfl) (by rfl) (by omega) (by omega) | exact QS_mload1 (by rfl) (hcA 0 _ (by rfl)) | exact QS_mload1 (by rfl) (hcA _ _ (by rfl)) | exact QS_mloadN _ (by rfl) hcA _ (by rfl) | exact QS_convertI (by rfl) rfl | exact QS_bin (by rfl) (by rfl) (B_remu hw0.1 (by omega) hw0.2) | exact qeqV (by rfl) (by rfl) f0 | exact qeqV (by rfl) (by rfl) f1 | exact qeqV (by rfl) (by rfl) f2 | exact qeqV (by rfl) (by rfl) f3 | exact qeqV (by rfl) (by rfl) f4 | exact qeqV (by rfl) (by rfl) f5 | exact qeqV (by rfl) (by rfl) g1 | exact qeqV (by rfl) (by rfl) g2 | exact qeqV (by rfl) (by rfl) g3 | exact qmv (by rfl) | exact qas (by rfl) | exact ql1 (by rfl) | exact qlA (by rfl) | exact qfa (by rfl) | exact qmf (by rfl) | exact qfd (by rfl) | exact qm1 (by rfl) | exact qbd (by rfl) | exact qno (by rfl) | exact qex (by rfl) | exact qln (by rfl) | exact qls (by rfl) | exact qlr (by rfl) | exact qpt (by rfl) | exact qpf (by rfl) | exact qcp (by rfl) | exact qbe (by rfl) | exact qbn (by rfl) | exact qsn (by rfl) | exact qad (by rfl) | exact qsa (by rfl) | exact qsu (by rfl) | exact QS_bin (by rfl) (by rfl) (by first | exact B_slnil | exact Bq_eql_Msg | exact Bq_neq_Msg | exact Bq_eql_Pair | exact Bq_neq_Pair | exact Bq_eql_Op | exact Bq_neq_Op | exact Bq_eql_Cfg | exact Bq_neq_Cfg)); rfl)
              | refine sst ?_
              | refine VS_nil ?_
              | refine eeq ?_
              | refine ees ?_ (by first | exact es1 (by rfl) | exact esN (by rfl))
              | refine VE_nil ?_
              | refine kyes ?_
              | refine kno ?_
              | refine gyes ?_
              | refine gno ?_
              | refine knoU ?_
              | refine gnoU ?_
              | refine VG_nil ⟨by rfl, ?_⟩
              | refine VG_nil ?_
              | refine dT ?_
              | refine d1 ?_
              | refine dQ ?_
              | refine ctr ?_
              | refine cfa ?_
              | refine kdec (fun hq => ?_) (fun hq => ?_)
              | refine gdec (fun hq => ?_) (fun hq => ?_)
              | refine cco (fun hq => ?_) (fun hq => ?_))
            have hS : Sub (List.range' 0 ([Ob.blk 84 [.int .i64 kd, .int .i64 th, .int .i64 j], Ob.nblk (.pointer (some ⟨b2, 0, none⟩)) 94 [.int .i64 T.length, u3], Ob.nrow u3 90 3 (L.filter (keepW th (j : Int) false)).length ((L.filter (keepW th (j : Int) false)).flatMap holdK)] ++ tabOb b g c (T.set j ⟨u2, (rlR th T[j].who T[j].how).2.1, (rlR th T[j].who T[j].how).2.2⟩)).length) ⟨Mem.of w, [Ob.blk 84 [.int .i64 kd, .int .i64 th, .int .i64 j], Ob.nblk (.pointer (some ⟨b2, 0, none⟩)) 94 [.int .i64 T.length, u3], Ob.nrow u3 90 3 (L.filter (keepW th (j : Int) false)).length ((L.filter (keepW th (j : Int) false)).flatMap holdK)] ++ tabOb b g c (T.set j ⟨u2, (rlR th T[j].who T[j].how).2.1, (rlR th T[j].who T[j].how).2.2⟩), [(5, .v (.pointer (some ⟨b, 0, none⟩))), (8, .v (.pointer (some ⟨b2, 0, none⟩))), (10, .p 0 0), (11, .v (.bool true)), (57, .v (.slice (some ⟨b1, o1, none⟩) l.length c1)), (58, .v (.int .i64 l.length)), (59, .v (.int .i64 k))]⟩ ⟨Mem.of w, [Ob.blk 84 [.int .i64 kd, .int .i64 th, .int .i64 j], Ob.nblk (.pointer (some ⟨b2, 0, none⟩)) 94 [.int .i64 T.length, u3], Ob.nrow u3 90 3 (L.filter (keepW th (j : Int) false)).length ((L.filter (keepW th (j : Int) false)).flatMap holdK)] ++ tabOb b g c (T.set j ⟨u2, (rlR th T[j].who T[j].how).2.1, (rlR th T[j].who T[j].how).2.2⟩), [(5, .v (.pointer (some ⟨b, 0, none⟩))), (8, .v (.pointer (some ⟨b2, 0, none⟩))), (10, .p 0 0), (11, .v (.bool true)), (57, .v (.slice (some ⟨b1, o1, none⟩) l.length c1)), (58, .v (.int .i64 l.length)), (59, .v (.int .i64 k))]⟩ := sub_env ⟨rfl, rfl, rfl, rfl, rfl, rfl, rfl, trivial⟩
            exact ⟨Mem.le_refl _, [0, 9, 10, 6, 7, 8], [Ob.blk 84 [.int .i64 kd, .int .i64 th, .int .i64 j], Ob.nblk (.pointer (some ⟨b2, 0, none⟩)) 94 [.int .i64 T.length, u3], Ob.nrow u3 90 3 (L.filter (keepW th (j : Int) false)).length ((L.filter (keepW th (j : Int) false)).flatMap holdK)], [(5, .v (.pointer (some ⟨b, 0, none⟩))), (8, .v (.pointer (some ⟨b2, 0, none⟩))), (10, .p 0 0), (11, .v (.bool true)), (57, .v (.slice (some ⟨b1, o1, none⟩) l.length c1)), (58, .v (.int .i64 l.length)), (59, .v (.int .i64 k))], ⟨u2, (rlR th T[j].who T[j].how).2.1, (rlR th T[j].who T[j].how).2.2⟩, ⟨rfl, rfl, ⟨rfl, rfl, rfl, rfl, rfl, rfl, trivial⟩, ⟨rfl, rfl, rfl, rfl, rfl, rfl, rfl, trivial⟩⟩, rfl, rfl, _, (T.set j ⟨u2, (rlR th T[j].who T[j].how).2.1, (rlR th T[j].who T[j].how).2.2⟩), (L.filter (keepW th (j : Int) false)), u3, hS, by rw [List.length_set], (hR.release hgj th u2 hu2).mono (Nat.le_succ k), hu3, Nat.le_trans (List.length_filter_le _ _) (by omega)⟩
          · have h1 : (rlR th T[j].who T[j].how).1 = 8 := by rw [rl_one, if_neg hm]
            have g1 : ((rlR th T[j].who T[j].how).1 == 0) = false := by rw [h1]; rfl
            have g3 : ((rlR th T[j].who T[j].how).1 == 8) = true := by rw [h1]; rfl
            have g2 : (((L.length : Int) - ((L.filter (keepW th (j : Int) false)).length : Nat)) == 1) = false := by rw [hcn]; exact decide_eq_false hm
            repeat' (first
              | refine VL_callX (own1 := slOb b g c T.length (T.flatMap oneK) T[j].u T[j].who) [3, 4, 5] (by rfl) (by rfl) ⟨rfl, rfl, rfl, trivial⟩ (fun M2 _ => latch_Release b g c T.length j (T.flatMap oneK) T[j].u T[j].who th T[j].how M2 hj (by omega) (flat_get2 hj).1 (flat_get2 hj).2 (flat_len2 T) hsj.2.1 (by have := hsj.2.2.1; omega) hsj.1) (by rfl) (by rfl) (slV hj (fun u2 hu2 => ?_)) | refine VL_callX (own1 := rfOb b2 (T.length : Int) u L) [1, 2] (by rfl) (by rfl) ⟨rfl, rfl, trivial⟩ (fun M2 _ => ref_WithoutX b2 (T.length : Int) u L th (j : Int) false M2 hu hL3) (by rfl) (by rfl) (rfV (fun u3 hu3 => ?_))
              | refine VC_seq ?_
              | refine VC_region ?_
              | refine VL_nil ?_
              | refine VC_ret ?_
              | refine VC_exit ?_
              | refine VC_block ?_
              | refine VC_skip ?_
              | refine kbox ?_
              | refine kall ?_
              | refine kst ?_
              | refine ksN ?_
              | refine klt ?_
              | refine kl1 ?_
              | refine klK ?_
              | refine kap ?_
              | ((first | apply VL_q | apply VG_q | apply VS_q2); (first | exact QS_indexAddr (k) (by rfl) (by rfl) (by omega) (by omega) | exact QS_mload1 (by rfl) (hcA 0 _ (by rfl)) | exact QS_mload1 (by rfl) (hcA _ _ (by rfl)) | exact QS_mloadN _ (by rfl) hcA _ (by rfl) | exact QS_convertI (by rfl) rfl | exact QS_bin (by rfl) (by rfl) (B_remu hw0.1 (by omega) hw0.2) | exact qeqV (by rfl) (by rfl) f0 | exact qeqV (by rfl) (by rfl) f1 | exact qeqV (by rfl) (by rfl) f2 | exact qeqV (by rfl) (by rfl) f3 | exact qeqV (by rfl) (by rfl) f4 | exact qeqV (by rfl) (by rfl) f5 | exact qeqV (by rfl) (by rfl) g1 | exact qeqV (by rfl) (by rfl) g2 | exact qeqV (by rfl) (by rfl) g3 | exact qmv (by rfl) | exact qas (by rfl) | exact ql1 (by rfl) | exact qlA (by rfl) | exact qfa (by rfl) | exact qmf (by rfl) | exact qfd (by rfl) | exact qm1 (by rfl) | exact qbd (by rfl) | exact qno (by rfl) | exact qex (by rfl) | exact qln (by rfl) | exact qls (by rfl) | exact qlr (by rfl) | exact qpt (by rfl) | exact qpf (by rfl) | exact qcp (by rfl) | exact qbe (by rfl) | exact qbn (by rfl) | exact qsn (by rfl) | exact qad (by rfl) | exact qsa (by rfl) | exact qsu (by rfl) | exact QS_bin (by rfl) (by rfl) (by first | exact B_slnil | exact Bq_eql_Msg | exact Bq_neq_Msg | exact Bq_eql_Pair | exact Bq_neq_Pair | exact Bq_eql_Op | exact Bq_neq_Op | exact Bq_eql_Cfg | exact Bq_neq_Cfg)); rfl)
              | refine sst ?_
              | refine VS_nil ?_
              | refine eeq ?_
              | refine ees ?_ (by first | exact es1 (by rfl) | exact esN (by rfl))
              | refine VE_nil ?_
              | refine kyes ?_
              | refine kno ?_
              | refine gyes ?_
              | refine gno ?_
              | refine knoU ?_
              | refine gnoU ?_
              | refine VG_nil ⟨by rfl, ?_⟩
              | refine VG_nil ?_
              | refine dT ?_
              | refine d1 ?_
              | refine dQ ?_
              | refine ctr ?_
              | refine cfa ?_
              | refine kdec (fun hq => ?_) (fun hq => ?_)
              | refine gdec (fun hq => ?_) (fun hq => ?_)
              | refine cco (fun hq => ?_) (fun hq => ?_))
            have hS : Sub (List.range' 0 ([Ob.blk 84 [.int .i64 kd, .int .i64 th, .int .i64 j], Ob.nblk (.pointer (some ⟨b2, 0, none⟩)) 94 [.int .i64 T.length, u3], Ob.nrow u3 90 3 (L.filter (keepW th (j : Int) false)).length ((L.filter (keepW th (j : Int) false)).flatMap holdK)] ++ tabOb b g c (T.set j ⟨u2, (rlR th T[j].who T[j].how).2.1, (rlR th T[j].who T[j].how).2.2⟩)).length) ⟨Mem.of w, [Ob.blk 84 [.int .i64 kd, .int .i64 th, .int .i64 j], Ob.nblk (.pointer (some ⟨b2, 0, none⟩)) 94 [.int .i64 T.length, u3], Ob.nrow u3 90 3 (L.filter (keepW th (j : Int) false)).length ((L.filter (keepW th (j : Int) false)).flatMap holdK)] ++ tabOb b g c (T.set j ⟨u2, (rlR th T[j].who T[j].how).2.1, (rlR th T[j].who T[j].how).2.2⟩), [(5, .v (.pointer (some ⟨b, 0, none⟩))), (8, .v (.pointer (some ⟨b2, 0, none⟩))), (10, .p 0 0), (11, .v (.bool true)), (57, .v (.slice (some ⟨b1, o1, none⟩) l.length c1)), (58, .v (.int .i64 l.length)), (59, .v (.int .i64 k))]⟩ ⟨Mem.of w, [Ob.blk 84 [.int .i64 kd, .int .i64 th, .int .i64 j], Ob.nblk (.pointer (some ⟨b2, 0, none⟩)) 94 [.int .i64 T.length, u3], Ob.nrow u3 90 3 (L.filter (keepW th (j : Int) false)).length ((L.filter (keepW th (j : Int) false)).flatMap holdK)] ++ tabOb b g c (T.set j ⟨u2, (rlR th T[j].who T[j].how).2.1, (rlR th T[j].who T[j].how).2.2⟩), [(5, .v (.pointer (some ⟨b, 0, none⟩))), (8, .v (.pointer (some ⟨b2, 0, none⟩))), (10, .p 0 0), (11, .v (.bool true)), (57, .v (.slice (some ⟨b1, o1, none⟩) l.length c1)), (58, .v (.int .i64 l.length)), (59, .v (.int .i64 k))]⟩ := sub_env ⟨rfl, rfl, rfl, rfl, rfl, rfl, rfl, trivial⟩
            exact ⟨Mem.le_refl _, [0, 9, 10, 6, 7, 8], [Ob.blk 84 [.int .i64 kd, .int .i64 th, .int .i64 j], Ob.nblk (.pointer (some ⟨b2, 0, none⟩)) 94 [.int .i64 T.length, u3], Ob.nrow u3 90 3 (L.filter (keepW th (j : Int) false)).length ((L.filter (keepW th (j : Int) false)).flatMap holdK)], [(5, .v (.pointer (some ⟨b, 0, none⟩))), (8, .v (.pointer (some ⟨b2, 0, none⟩))), (10, .p 0 0), (11, .v (.bool true)), (57, .v (.slice (some ⟨b1, o1, none⟩) l.length c1)), (58, .v (.int .i64 l.length)), (59, .v (.int .i64 k))], ⟨u2, (rlR th T[j].who T[j].how).2.1, (rlR th T[j].who T[j].how).2.2⟩, ⟨rfl, rfl, ⟨rfl, rfl, rfl, rfl, rfl, rfl, trivial⟩, ⟨rfl, rfl, rfl, rfl, rfl, rfl, rfl, trivial⟩⟩, rfl, rfl, _, (T.set j ⟨u2, (rlR th T[j].who T[j].how).2.1, (rlR th T[j].who T[j].how).2.2⟩), (L.filter (keepW th (j : Int) false)), u3, hS, by rw [List.length_set], (hR.release hgj th u2 hu2).mono (Nat.le_succ k), hu3, Nat.le_trans (List.length_filter_le _ _) (by omega)⟩
        · have f0 : (IntKind.u64.wrap kd % 7 == 0) = false := by rw [hr]; rfl
          have f1 : (IntKind.u64.wrap kd % 7 == 1) = false := by rw [hr]; rfl
          have f2 : (IntKind.u64.wrap kd % 7 == 2) = false := by rw [hr]; rfl
          have f3 : (IntKind.u64.wrap kd % 7 == 3) = false := by rw [hr]; rfl
          have f4 : (IntKind.u64.wrap kd % 7 == 4) = false := by rw [hr]; rfl
          have f5 : (IntKind.u64.wrap kd % 7 == 5) = false := by rw [hr]; rfl
          have h0 : (goneAt ([1, 2] ++ List.range' 3 (tabOb b g c T).length) ([Ob.blk 84 [.int .i64 kd, .int .i64 th, .int .i64 j], Ob.nblk (.pointer (some ⟨b2, 0, none⟩)) 94 [.int .i64 T.length, u], Ob.nrow u 90 3 L.length (L.flatMap holdK)] ++ tabOb b g c T))[0]? = some (Ob.blk 84 [.int .i64 kd, .int .i64 th, .int .i64 j]) := by rw [goneAt_ne _ _ _ (by simp [List.mem_range'_1])]; rfl
          repeat' (first
            | refine VC_hold ?_
            | refine VC_seq ?_
            | refine VC_region ?_
            | refine VL_nil ?_
            | refine VC_ret ?_
            | refine VC_exit ?_
            | refine VC_block ?_
            | refine VC_skip ?_
            | refine kbox ?_
            | refine kall ?_
            | refine kst ?_
            | refine ksN ?_
            | refine klt ?_
            | refine kl1 ?_
            | refine klK ?_
            | refine kap ?_
            | ((first | apply VL_q | apply VG_q | apply VS_q2); (first | exact QS_indexAddr (k) (by rfl) (by rfl) (by omega) (by omega) | exact QS_mload1 (by rfl) (hcA 0 _ (by rfl)) | exact QS_mload1 (by rfl) (hcA _ _ (by rfl)) | exact QS_mloadN _ (by rfl) hcA _ (by rfl) | exact QS_convertI (by rfl) rfl | exact QS_bin (by rfl) (by rfl) (B_remu hw0.1 (by omega) hw0.2) | exact qeqV (by rfl) (by rfl) f0 | exact qeqV (by rfl) (by rfl) f1 | exact qeqV (by rfl) (by rfl) f2 | exact qeqV (by rfl) (by rfl) f3 | exact qeqV (by rfl) (by rfl) f4 | exact qeqV (by rfl) (by rfl) f5 | exact qmv (by rfl) | exact qas (by rfl) | exact ql1 (by rfl) | exact qlA (by rfl) | exact qfa (by rfl) | exact qmf (by rfl) | exact qfd (by rfl) | exact qm1 (by rfl) | exact qbd (by rfl) | exact qno (by rfl) | exact qex (by rfl) | exact qln (by rfl) | exact qls (by rfl) | exact qlr (by rfl) | exact qpt (by rfl) | exact qpf (by rfl) | exact qcp (by rfl) | exact qbe (by rfl) | exact qbn (by rfl) | exact qsn (by rfl) | exact qad (by rfl) | exact qsa (by rfl) | exact qsu (by rfl) | exact QS_bin (by rfl) (by rfl) (by first | exact B_slnil | exact Bq_eql_Msg | exact Bq_neq_Msg | exact Bq_eql_Pair | exact Bq_neq_Pair | exact Bq_eql_Op | exact Bq_neq_Op | exact Bq_eql_Cfg | exact Bq_neq_Cfg)); rfl)
            | refine sst ?_
            | refine VS_nil ?_
            | refine eeq ?_
            | refine ees ?_ (by first | exact es1 (by rfl) | exact esN (by rfl))
            | refine VE_nil ?_
            | refine kyes ?_
            | refine kno ?_
            | refine gyes ?_
            | refine gno ?_
            | refine knoU ?_
            | refine gnoU ?_
            | refine VG_nil ⟨by rfl, ?_⟩
            | refine VG_nil ?_
            | refine dT ?_
            | refine d1 ?_
            | refine dQ ?_
            | refine ctr ?_
            | refine cfa ?_
            | refine kdec (fun hq => ?_) (fun hq => ?_)
            | refine gdec (fun hq => ?_) (fun hq => ?_)
            | refine cco (fun hq => ?_) (fun hq => ?_))
          refine ⟨?_⟩
          refine VC_ownE (own' := ([Ob.blk 84 [.int .i64 kd, .int .i64 th, .int .i64 j], Ob.nblk (.pointer (some ⟨b2, 0, none⟩)) 94 [.int .i64 T.length, u], Ob.nrow u 90 3 L.length (L.flatMap holdK)] ++ tabOb b g c T)) (by rfl) ?_
          have h00 : Nat.blt 0 (goneAt ([1, 2] ++ List.range' 3 (tabOb b g c T).length) ([Ob.blk 84 [.int .i64 kd, .int .i64 th, .int .i64 j], Ob.nblk (.pointer (some ⟨b2, 0, none⟩)) 94 [.int .i64 T.length, u], Ob.nrow u 90 3 L.length (L.flatMap holdK)] ++ tabOb b g c T)).length = true := by rw [len_goneAt]; rfl
          refine VC_drawG ([1, 2] ++ List.range' 3 (tabOb b g c T).length) [3, 7, 8, 9] (by decide +kernel) (by rfl) (by rfl) ?_
          repeat' (first
            | refine VQm_nil ?_
            | refine VQm_e (by rfl) ?_
            | refine VQm_q (by rfl) _ (by first | exact wno (by first | exact ql1 (by rfl) h0 (by rfl) | exact qeqV (by rfl) (by rfl) (beq_iff_eq.2 (hR.drop th hl4 hok4 hr4).2) | exact qmv (by rfl) | exact qas (by rfl) | exact ql1 (by rfl) | exact qlA (by rfl) | exact qfa (by rfl) | exact qmf (by rfl) | exact qfd (by rfl) | exact qm1 (by rfl) | exact qbd (by rfl) | exact qno (by rfl) | exact qex (by rfl) | exact qln (by rfl) | exact qls (by rfl) | exact qlr (by rfl) | exact qpt (by rfl) | exact qpf (by rfl) | exact qcp (by rfl) | exact qbe (by rfl) | exact qbn (by rfl) | exact qsn (by rfl) | exact qad (by rfl) | exact qsa (by rfl) | exact qsu (by rfl) | exact QS_bin (by rfl) (by rfl) (by first | exact B_slnil | exact Bq_eql_Msg | exact Bq_neq_Msg | exact Bq_eql_Pair | exact Bq_neq_Pair | exact Bq_eql_Op | exact Bq_neq_Op | exact Bq_eql_Cfg | exact Bq_neq_Cfg)) | exact wnot (by rfl) | exact wU (by rfl) | exact wyes (by first | exact ql1 (by rfl) h0 (by rfl) | exact qeqV (by rfl) (by rfl) (beq_iff_eq.2 (hR.drop th hl4 hok4 hr4).2) | exact qmv (by rfl) | exact qas (by rfl) | exact ql1 (by rfl) | exact qlA (by rfl) | exact qfa (by rfl) | exact qmf (by rfl) | exact qfd (by rfl) | exact qm1 (by rfl) | exact qbd (by rfl) | exact qno (by rfl) | exact qex (by rfl) | exact qln (by rfl) | exact qls (by rfl) | exact qlr (by rfl) | exact qpt (by rfl) | exact qpf (by rfl) | exact qcp (by rfl) | exact qbe (by rfl) | exact qbn (by rfl) | exact qsn (by rfl) | exact qad (by rfl) | exact qsa (by rfl) | exact qsu (by rfl) | exact QS_bin (by rfl) (by rfl) (by first | exact B_slnil | exact Bq_eql_Msg | exact Bq_neq_Msg | exact Bq_eql_Pair | exact Bq_neq_Pair | exact Bq_eql_Op | exact Bq_neq_Op | exact Bq_eql_Cfg | exact Bq_neq_Cfg))) (by rfl) (by rfl) ?_
            | refine VF_done ?_
            | refine VF_step ?_
            | exact VFs_nil
            | refine VQm_q (by rfl) _ (wno (qfa (by rfl))) (by rfl) h00 ?_ | refine VFs_x _ _ _ _ (by rfl) (EX_callX (own1 := tabOb b g c T) (List.range' 3 (tabOb b g c T).length) (by rfl) (nodupB_range _ _) (sub_drop (tabOb b g c T) [_, _, _]) (fun M2 _ => latch_Drop b g c k T th M2 (by omega) (by omega) hR.ok)) (by rfl) (dropI (fun T4 hl4 hok4 hr4 _ => ⟨Mem.le_refl _, gone_take (fun i hi => List.mem_append_right _ hi) (Nat.le_refl _), ?_⟩)) ?_ | refine VFs_x _ _ _ _ (by rfl) (EX_callX (own1 := rfOb b2 (T.length : Int) u L) [1, 2] (by rfl) (by rfl) own12 (fun M2 _ => ref_WithoutX b2 (T.length : Int) u L th 0 true M2 hu hL3)) (by rfl) (rfI (fun u3 hu3 _ => ⟨Mem.le_refl _, gone_take (fun i hi => List.mem_append_left _ hi) le_gone, ?_⟩)) ?_
            | refine VFs_e (by rfl) _ _ (by first | exact fno (by first  | exact EF_alloc | exact elt (by rfl) | exact el1 (by rfl) | exact elK (by rfl) | exact eap (by rfl) | exact fst1 (by rfl) | exact fstN (by rfl) | exact fq (by first | exact ql1 (by rfl) h0 (by rfl) | exact qeqV (by rfl) (by rfl) (beq_iff_eq.2 (hR.drop th hl4 hok4 hr4).2) | exact qmv (by rfl) | exact qas (by rfl) | exact ql1 (by rfl) | exact qlA (by rfl) | exact qfa (by rfl) | exact qmf (by rfl) | exact qfd (by rfl) | exact qm1 (by rfl) | exact qbd (by rfl) | exact qno (by rfl) | exact qex (by rfl) | exact qln (by rfl) | exact qls (by rfl) | exact qlr (by rfl) | exact qpt (by rfl) | exact qpf (by rfl) | exact qcp (by rfl) | exact qbe (by rfl) | exact qbn (by rfl) | exact qsn (by rfl) | exact qad (by rfl) | exact qsa (by rfl) | exact qsu (by rfl) | exact QS_bin (by rfl) (by rfl) (by first | exact B_slnil | exact Bq_eql_Msg | exact Bq_neq_Msg | exact Bq_eql_Pair | exact Bq_neq_Pair | exact Bq_eql_Op | exact Bq_neq_Op | exact Bq_eql_Cfg | exact Bq_neq_Cfg))) | exact fnot (by rfl) | exact fU (by rfl) | exact fyes (by first  | exact EF_alloc | exact elt (by rfl) | exact el1 (by rfl) | exact elK (by rfl) | exact eap (by rfl) | exact fst1 (by rfl) | exact fstN (by rfl) | exact fq (by first | exact ql1 (by rfl) h0 (by rfl) | exact qeqV (by rfl) (by rfl) (beq_iff_eq.2 (hR.drop th hl4 hok4 hr4).2) | exact qmv (by rfl) | exact qas (by rfl) | exact ql1 (by rfl) | exact qlA (by rfl) | exact qfa (by rfl) | exact qmf (by rfl) | exact qfd (by rfl) | exact qm1 (by rfl) | exact qbd (by rfl) | exact qno (by rfl) | exact qex (by rfl) | exact qln (by rfl) | exact qls (by rfl) | exact qlr (by rfl) | exact qpt (by rfl) | exact qpf (by rfl) | exact qcp (by rfl) | exact qbe (by rfl) | exact qbn (by rfl) | exact qsn (by rfl) | exact qad (by rfl) | exact qsa (by rfl) | exact qsu (by rfl) | exact QS_bin (by rfl) (by rfl) (by first | exact B_slnil | exact Bq_eql_Msg | exact Bq_neq_Msg | exact Bq_eql_Pair | exact Bq_neq_Pair | exact Bq_eql_Op | exact Bq_neq_Op | exact Bq_eql_Cfg | exact Bq_neq_Cfg)))) (by rfl) (by rfl) ?_ ?_)
          exact ⟨rfl, _, T4, L.filter (keepW th 0 true), u3, sub_drop3 (a := Ob.blk 84 [.int .i64 kd, .int .i64 th, .int .i64 j]) (b0 := Ob.nblk (.pointer (some ⟨b2, 0, none⟩)) 94 [.int .i64 T.length, u]) (c0 := Ob.nrow u 90 3 L.length (L.flatMap holdK)) (tab := tabOb b g c T) (tab' := tabOb b g c T4) (rf0 := Ob.nblk (.pointer (some ⟨b2, 0, none⟩)) 94 [.int .i64 T.length, u3]) (rf1 := Ob.nrow u3 90 3 (L.filter (keepW th 0 true)).length ((L.filter (keepW th 0 true)).flatMap holdK)) ⟨rfl, rfl, rfl, rfl, rfl, rfl, rfl, trivial⟩, hl4, (hR.drop th hl4 hok4 hr4).1.mono (Nat.le_succ k), hu3, Nat.le_trans (List.length_filter_le _ _) (by omega)⟩
      · have hso : sl < 0 ∨ (T.length : Int) ≤ sl := by omega
        rcases (by omega : IntKind.u64.wrap kd % 7 = 0 ∨ IntKind.u64.wrap kd % 7 = 1 ∨ IntKind.u64.wrap kd % 7 = 2 ∨ IntKind.u64.wrap kd % 7 = 3 ∨ IntKind.u64.wrap kd % 7 = 4 ∨ IntKind.u64.wrap kd % 7 = 5 ∨ IntKind.u64.wrap kd % 7 = 6) with hr | hr | hr | hr | hr | hr | hr
        · have f0 : (IntKind.u64.wrap kd % 7 == 0) = true := by rw [hr]; rfl
          have tO := RL.takeO (N := k) (L := L) hso th false
          have t1b : ((2 : Int) == 2) = true := by decide
          refine VC_lendOut (T := T) (b := b) (g := g) (cc := c) [.blk 84 [.int .i64 kd, .int .i64 th, .int .i64 sl], .nblk (.pointer (some ⟨b2, 0, none⟩)) 94 [.int .i64 T.length, u], .nrow u 90 3 L.length (L.flatMap holdK)] (by rfl) (fun M' hle => ?_)
          repeat' (first
            | refine VC_hold ?_
            | refine VC_seq ?_
            | refine VC_region ?_
            | refine VL_nil ?_
            | refine VC_ret ?_
            | refine VC_exit ?_
            | refine VC_block ?_
            | refine VC_skip ?_
            | refine kbox ?_
            | refine kall ?_
            | refine kst ?_
            | refine ksN ?_
            | refine klt ?_
            | refine kl1 ?_
            | refine klK ?_
            | refine kap ?_
            | ((first | apply VL_q | apply VG_q | apply VS_q2); (first | exact QS_indexAddr (k) (by rfl) (by rfl) (by omega) (by omega) | exact QS_mload1 (by rfl) (hcA 0 _ (by rfl)) | exact QS_mload1 (by rfl) (hcA _ _ (by rfl)) | exact QS_mloadN _ (by rfl) hcA _ (by rfl) | exact QS_convertI (by rfl) rfl | exact QS_bin (by rfl) (by rfl) (B_remu hw0.1 (by omega) hw0.2) | exact qeqV (by rfl) (by rfl) f0 | exact qmv (by rfl) | exact qas (by rfl) | exact ql1 (by rfl) | exact qlA (by rfl) | exact qfa (by rfl) | exact qmf (by rfl) | exact qfd (by rfl) | exact qm1 (by rfl) | exact qbd (by rfl) | exact qno (by rfl) | exact qex (by rfl) | exact qln (by rfl) | exact qls (by rfl) | exact qlr (by rfl) | exact qpt (by rfl) | exact qpf (by rfl) | exact qcp (by rfl) | exact qbe (by rfl) | exact qbn (by rfl) | exact qsn (by rfl) | exact qad (by rfl) | exact qsa (by rfl) | exact qsu (by rfl) | exact QS_bin (by rfl) (by rfl) (by first | exact B_slnil | exact Bq_eql_Msg | exact Bq_neq_Msg | exact Bq_eql_Pair | exact Bq_neq_Pair | exact Bq_eql_Op | exact Bq_neq_Op | exact Bq_eql_Cfg | exact Bq_neq_Cfg)); rfl)
            | refine sst ?_
            | refine VS_nil ?_
            | refine eeq ?_
            | refine ees ?_ (by first | exact es1 (by rfl) | exact esN (by rfl))
            | refine VE_nil ?_
            | refine kyes ?_
            | refine kno ?_
            | refine gyes ?_
            | refine gno ?_
            | refine knoU ?_
            | refine gnoU ?_
            | refine VG_nil ⟨by rfl, ?_⟩
            | refine VG_nil ?_
            | refine dT ?_
            | refine d1 ?_
            | refine dQ ?_
            | refine ctr ?_
            | refine cfa ?_
            | refine kdec (fun hq => ?_) (fun hq => ?_)
            | refine gdec (fun hq => ?_) (fun hq => ?_)
            | refine cco (fun hq => ?_) (fun hq => ?_))
          refine ⟨?_⟩
          refine VC_drawG [1, 2, 3] [5, 11, 12, 13] (by decide +kernel) (by rfl) (by rfl) ?_
          repeat' (first
            | refine VQm_nil ?_
            | refine VQm_e (by rfl) ?_
            | refine VQm_q (by rfl) _ (by first | exact wno (by first | exact qeqV (by rfl) (by rfl) t1b | exact qmv (by rfl) | exact qas (by rfl) | exact ql1 (by rfl) | exact qlA (by rfl) | exact qfa (by rfl) | exact qmf (by rfl) | exact qfd (by rfl) | exact qm1 (by rfl) | exact qbd (by rfl) | exact qno (by rfl) | exact qex (by rfl) | exact qln (by rfl) | exact qls (by rfl) | exact qlr (by rfl) | exact qpt (by rfl) | exact qpf (by rfl) | exact qcp (by rfl) | exact qbe (by rfl) | exact qbn (by rfl) | exact qsn (by rfl) | exact qad (by rfl) | exact qsa (by rfl) | exact qsu (by rfl) | exact QS_bin (by rfl) (by rfl) (by first | exact B_slnil | exact Bq_eql_Msg | exact Bq_neq_Msg | exact Bq_eql_Pair | exact Bq_neq_Pair | exact Bq_eql_Op | exact Bq_neq_Op | exact Bq_eql_Cfg | exact Bq_neq_Cfg)) | exact wnot (by rfl) | exact wU (by rfl) | exact wyes (by first | exact qeqV (by rfl) (by rfl) t1b | exact qmv (by rfl) | exact qas (by rfl) | exact ql1 (by rfl) | exact qlA (by rfl) | exact qfa (by rfl) | exact qmf (by rfl) | exact qfd (by rfl) | exact qm1 (by rfl) | exact qbd (by rfl) | exact qno (by rfl) | exact qex (by rfl) | exact qln (by rfl) | exact qls (by rfl) | exact qlr (by rfl) | exact qpt (by rfl) | exact qpf (by rfl) | exact qcp (by rfl) | exact qbe (by rfl) | exact qbn (by rfl) | exact qsn (by rfl) | exact qad (by rfl) | exact qsa (by rfl) | exact qsu (by rfl) | exact QS_bin (by rfl) (by rfl) (by first | exact B_slnil | exact Bq_eql_Msg | exact Bq_neq_Msg | exact Bq_eql_Pair | exact Bq_neq_Pair | exact Bq_eql_Op | exact Bq_neq_Op | exact Bq_eql_Cfg | exact Bq_neq_Cfg))) (by rfl) (by rfl) ?_
            | refine VF_done ?_
            | refine VF_step ?_
            | exact VFs_nil
            | refine VFs_x _ _ _ _ (by rfl) (EX_callX (own1 := [.nblk (.pointer (some ⟨b, 0, none⟩)) 154 (tbC g T.length c)]) [3] (by rfl) (by rfl) ⟨rfl, trivial⟩ (fun M2 _ => latch_ReadO b g c T.length th sl M2 hso)) (by rfl) (eqI (fun _ => ⟨Mem.le_refl _, by rfl, ?_⟩)) ?_ | refine VFs_x _ _ _ _ (by rfl) (EX_callX (own1 := rfOb b2 (T.length : Int) u L) (Post := RfPost b2 (T.length : Int) (2, L)) [1, 2] (by rfl) (by rfl) ⟨rfl, rfl, trivial⟩ (fun M2 _ => tO ▸ ref_TakeX b2 (T.length : Int) u L th sl false M2 hu hL3)) (by rfl) (rfI (fun u3 hu3 _ => ⟨Mem.le_refl _, by rfl, ?_⟩)) ?_
            | refine VFs_e (by rfl) _ _ (by first | exact fno (by first  | exact EF_alloc | exact elt (by rfl) | exact el1 (by rfl) | exact elK (by rfl) | exact eap (by rfl) | exact fst1 (by rfl) | exact fstN (by rfl) | exact fq (by first | exact qeqV (by rfl) (by rfl) t1b | exact qmv (by rfl) | exact qas (by rfl) | exact ql1 (by rfl) | exact qlA (by rfl) | exact qfa (by rfl) | exact qmf (by rfl) | exact qfd (by rfl) | exact qm1 (by rfl) | exact qbd (by rfl) | exact qno (by rfl) | exact qex (by rfl) | exact qln (by rfl) | exact qls (by rfl) | exact qlr (by rfl) | exact qpt (by rfl) | exact qpf (by rfl) | exact qcp (by rfl) | exact qbe (by rfl) | exact qbn (by rfl) | exact qsn (by rfl) | exact qad (by rfl) | exact qsa (by rfl) | exact qsu (by rfl) | exact QS_bin (by rfl) (by rfl) (by first | exact B_slnil | exact Bq_eql_Msg | exact Bq_neq_Msg | exact Bq_eql_Pair | exact Bq_neq_Pair | exact Bq_eql_Op | exact Bq_neq_Op | exact Bq_eql_Cfg | exact Bq_neq_Cfg))) | exact fnot (by rfl) | exact fU (by rfl) | exact fyes (by first  | exact EF_alloc | exact elt (by rfl) | exact el1 (by rfl) | exact elK (by rfl) | exact eap (by rfl) | exact fst1 (by rfl) | exact fstN (by rfl) | exact fq (by first | exact qeqV (by rfl) (by rfl) t1b | exact qmv (by rfl) | exact qas (by rfl) | exact ql1 (by rfl) | exact qlA (by rfl) | exact qfa (by rfl) | exact qmf (by rfl) | exact qfd (by rfl) | exact qm1 (by rfl) | exact qbd (by rfl) | exact qno (by rfl) | exact qex (by rfl) | exact qln (by rfl) | exact qls (by rfl) | exact qlr (by rfl) | exact qpt (by rfl) | exact qpf (by rfl) | exact qcp (by rfl) | exact qbe (by rfl) | exact qbn (by rfl) | exact qsn (by rfl) | exact qad (by rfl) | exact qsa (by rfl) | exact qsu (by rfl) | exact QS_bin (by rfl) (by rfl) (by first | exact B_slnil | exact Bq_eql_Msg | exact Bq_neq_Msg | exact Bq_eql_Pair | exact Bq_neq_Pair | exact Bq_eql_Op | exact Bq_neq_Op | exact Bq_eql_Cfg | exact Bq_neq_Cfg)))) (by rfl) (by rfl) ?_ ?_)
          have hS : Sub (List.range' 0 ([Ob.blk 84 [.int .i64 kd, .int .i64 th, .int .i64 sl], Ob.nblk (.pointer (some ⟨b2, 0, none⟩)) 94 [.int .i64 T.length, u3], Ob.nrow u3 90 3 L.length (L.flatMap holdK)] ++ tabOb b g c T).length) ⟨Mem.of w, [Ob.blk 84 [.int .i64 kd, .int .i64 th, .int .i64 sl], Ob.nblk (.pointer (some ⟨b2, 0, none⟩)) 94 [.int .i64 T.length, u3], Ob.nrow u3 90 3 L.length (L.flatMap holdK)] ++ tabOb b g c T, [(5, .v (.pointer (some ⟨b, 0, none⟩))), (8, .v (.pointer (some ⟨b2, 0, none⟩))), (10, .p 0 0), (11, .v (.bool true)), (57, .v (.slice (some ⟨b1, o1, none⟩) l.length c1)), (58, .v (.int .i64 l.length)), (59, .v (.int .i64 k))]⟩ ⟨Mem.of w, [Ob.blk 84 [.int .i64 kd, .int .i64 th, .int .i64 sl], Ob.nblk (.pointer (some ⟨b2, 0, none⟩)) 94 [.int .i64 T.length, u3], Ob.nrow u3 90 3 L.length (L.flatMap holdK)] ++ tabOb b g c T, [(5, .v (.pointer (some ⟨b, 0, none⟩))), (8, .v (.pointer (some ⟨b2, 0, none⟩))), (10, .p 0 0), (11, .v (.bool true)), (57, .v (.slice (some ⟨b1, o1, none⟩) l.length c1)), (58, .v (.int .i64 l.length)), (59, .v (.int .i64 k))]⟩ := sub_env ⟨rfl, rfl, rfl, rfl, rfl, rfl, rfl, trivial⟩
          exact ⟨Mem.le_refl _, [0, 5, 6, 4], [Ob.blk 84 [.int .i64 kd, .int .i64 th, .int .i64 sl], Ob.nblk (.pointer (some ⟨b2, 0, none⟩)) 94 [.int .i64 T.length, u3], Ob.nrow u3 90 3 L.length (L.flatMap holdK)], [(5, .v (.pointer (some ⟨b, 0, none⟩))), (8, .v (.pointer (some ⟨b2, 0, none⟩))), (10, .p 0 0), (11, .v (.bool true)), (57, .v (.slice (some ⟨b1, o1, none⟩) l.length c1)), (58, .v (.int .i64 l.length)), (59, .v (.int .i64 k))], ⟨rfl, rfl, ⟨rfl, rfl, rfl, rfl, trivial⟩, ⟨rfl, rfl, rfl, rfl, rfl, rfl, rfl, trivial⟩⟩, rfl, rfl, _, T, L, u3, hS, rfl, hR.mono (Nat.le_succ k), hu3, by omega⟩
        · have f0 : (IntKind.u64.wrap kd % 7 == 0) = false := by rw [hr]; rfl
          have f1 : (IntKind.u64.wrap kd % 7 == 1) = true := by rw [hr]; rfl
          have tO := RL.takeO (N := k) (L := L) hso th false
          have t1b : ((2 : Int) == 2) = true := by decide
          refine VC_lendOut (T := T) (b := b) (g := g) (cc := c) [.blk 84 [.int .i64 kd, .int .i64 th, .int .i64 sl], .nblk (.pointer (some ⟨b2, 0, none⟩)) 94 [.int .i64 T.length, u], .nrow u 90 3 L.length (L.flatMap holdK)] (by rfl) (fun M' hle => ?_)
          repeat' (first
            | refine VC_hold ?_
            | refine VC_seq ?_
            | refine VC_region ?_
            | refine VL_nil ?_
            | refine VC_ret ?_
            | refine VC_exit ?_
            | refine VC_block ?_
            | refine VC_skip ?_
            | refine kbox ?_
            | refine kall ?_
            | refine kst ?_
            | refine ksN ?_
            | refine klt ?_
            | refine kl1 ?_
            | refine klK ?_
            | refine kap ?_
            | ((first | apply VL_q | apply VG_q | apply VS_q2); (first | exact QS_indexAddr (k) (by rfl) (by rfl) (by omega) (by omega) | exact QS_mload1 (by rfl) (hcA 0 _ (by rfl)) | exact QS_mload1 (by rfl) (hcA _ _ (by rfl)) | exact QS_mloadN _ (by rfl) hcA _ (by rfl) | exact QS_convertI (by rfl) rfl | exact QS_bin (by rfl) (by rfl) (B_remu hw0.1 (by omega) hw0.2) | exact qeqV (by rfl) (by rfl) f0 | exact qeqV (by rfl) (by rfl) f1 | exact qmv (by rfl) | exact qas (by rfl) | exact ql1 (by rfl) | exact qlA (by rfl) | exact qfa (by rfl) | exact qmf (by rfl) | exact qfd (by rfl) | exact qm1 (by rfl) | exact qbd (by rfl) | exact qno (by rfl) | exact qex (by rfl) | exact qln (by rfl) | exact qls (by rfl) | exact qlr (by rfl) | exact qpt (by rfl) | exact qpf (by rfl) | exact qcp (by rfl) | exact qbe (by rfl) | exact qbn (by rfl) | exact qsn (by rfl) | exact qad (by rfl) | exact qsa (by rfl) | exact qsu (by rfl) | exact QS_bin (by rfl) (by rfl) (by first | exact B_slnil | exact Bq_eql_Msg | exact Bq_neq_Msg | exact Bq_eql_Pair | exact Bq_neq_Pair | exact Bq_eql_Op | exact Bq_neq_Op | exact Bq_eql_Cfg | exact Bq_neq_Cfg)); rfl)
            | refine sst ?_
            | refine VS_nil ?_
            | refine eeq ?_
            | refine ees ?_ (by first | exact es1 (by rfl) | exact esN (by rfl))
            | refine VE_nil ?_
            | refine kyes ?_
            | refine kno ?_
            | refine gyes ?_
            | refine gno ?_
            | refine knoU ?_
            | refine gnoU ?_
            | refine VG_nil ⟨by rfl, ?_⟩
            | refine VG_nil ?_
            | refine dT ?_
            | refine d1 ?_
            | refine dQ ?_
            | refine ctr ?_
            | refine cfa ?_
            | refine kdec (fun hq => ?_) (fun hq => ?_)
            | refine gdec (fun hq => ?_) (fun hq => ?_)
            | refine cco (fun hq => ?_) (fun hq => ?_))
          refine ⟨?_⟩
          refine VC_drawG [1, 2, 3] [5, 11, 12, 13] (by decide +kernel) (by rfl) (by rfl) ?_
          repeat' (first
            | refine VQm_nil ?_
            | refine VQm_e (by rfl) ?_
            | refine VQm_q (by rfl) _ (by first | exact wno (by first | exact qeqV (by rfl) (by rfl) t1b | exact qmv (by rfl) | exact qas (by rfl) | exact ql1 (by rfl) | exact qlA (by rfl) | exact qfa (by rfl) | exact qmf (by rfl) | exact qfd (by rfl) | exact qm1 (by rfl) | exact qbd (by rfl) | exact qno (by rfl) | exact qex (by rfl) | exact qln (by rfl) | exact qls (by rfl) | exact qlr (by rfl) | exact qpt (by rfl) | exact qpf (by rfl) | exact qcp (by rfl) | exact qbe (by rfl) | exact qbn (by rfl) | exact qsn (by rfl) | exact qad (by rfl) | exact qsa (by rfl) | exact qsu (by rfl) | exact QS_bin (by rfl) (by rfl) (by first | exact B_slnil | exact Bq_eql_Msg | exact Bq_neq_Msg | exact Bq_eql_Pair | exact Bq_neq_Pair | exact Bq_eql_Op | exact Bq_neq_Op | exact Bq_eql_Cfg | exact Bq_neq_Cfg)) | exact wnot (by rfl) | exact wU (by rfl) | exact wyes (by first | exact qeqV (by rfl) (by rfl) t1b | exact qmv (by rfl) | exact qas (by rfl) | exact ql1 (by rfl) | exact qlA (by rfl) | exact qfa (by rfl) | exact qmf (by rfl) | exact qfd (by rfl) | exact qm1 (by rfl) | exact qbd (by rfl) | exact qno (by rfl) | exact qex (by rfl) | exact qln (by rfl) | exact qls (by rfl) | exact qlr (by rfl) | exact qpt (by rfl) | exact qpf (by rfl) | exact qcp (by rfl) | exact qbe (by rfl) | exact qbn (by rfl) | exact qsn (by rfl) | exact qad (by rfl) | exact qsa (by rfl) | exact qsu (by rfl) | exact QS_bin (by rfl) (by rfl) (by first | exact B_slnil | exact Bq_eql_Msg | exact Bq_neq_Msg | exact Bq_eql_Pair | exact Bq_neq_Pair | exact Bq_eql_Op | exact Bq_neq_Op | exact Bq_eql_Cfg | exact Bq_neq_Cfg))) (by rfl) (by rfl) ?_
            | refine VF_done ?_
            | refine VF_step ?_
            | exact VFs_nil
            | refine VFs_x _ _ _ _ (by rfl) (EX_callX (own1 := [.nblk (.pointer (some ⟨b, 0, none⟩)) 154 (tbC g T.length c)]) [3] (by rfl) (by rfl) ⟨rfl, trivial⟩ (fun M2 _ => latch_ReadO b g c T.length th sl M2 hso)) (by rfl) (eqI (fun _ => ⟨Mem.le_refl _, by rfl, ?_⟩)) ?_ | refine VFs_x _ _ _ _ (by rfl) (EX_callX (own1 := rfOb b2 (T.length : Int) u L) (Post := RfPost b2 (T.length : Int) (2, L)) [1, 2] (by rfl) (by rfl) ⟨rfl, rfl, trivial⟩ (fun M2 _ => tO ▸ ref_TakeX b2 (T.length : Int) u L th sl false M2 hu hL3)) (by rfl) (rfI (fun u3 hu3 _ => ⟨Mem.le_refl _, by rfl, ?_⟩)) ?_
            | refine VFs_e (by rfl) _ _ (by first | exact fno (by first  | exact EF_alloc | exact elt (by rfl) | exact el1 (by rfl) | exact elK (by rfl) | exact eap (by rfl) | exact fst1 (by rfl) | exact fstN (by rfl) | exact fq (by first | exact qeqV (by rfl) (by rfl) t1b | exact qmv (by rfl) | exact qas (by rfl) | exact ql1 (by rfl) | exact qlA (by rfl) | exact qfa (by rfl) | exact qmf (by rfl) | exact qfd (by rfl) | exact qm1 (by rfl) | exact qbd (by rfl) | exact qno (by rfl) | exact qex (by rfl) | exact qln (by rfl) | exact qls (by rfl) | exact qlr (by rfl) | exact qpt (by rfl) | exact qpf (by rfl) | exact qcp (by rfl) | exact qbe (by rfl) | exact qbn (by rfl) | exact qsn (by rfl) | exact qad (by rfl) | exact qsa (by rfl) | exact qsu (by rfl) | exact QS_bin (by rfl) (by rfl) (by first | exact B_slnil | exact Bq_eql_Msg | exact Bq_neq_Msg | exact Bq_eql_Pair | exact Bq_neq_Pair | exact Bq_eql_Op | exact Bq_neq_Op | exact Bq_eql_Cfg | exact Bq_neq_Cfg))) | exact fnot (by rfl) | exact fU (by rfl) | exact fyes (by first  | exact EF_alloc | exact elt (by rfl) | exact el1 (by rfl) | exact elK (by rfl) | exact eap (by rfl) | exact fst1 (by rfl) | exact fstN (by rfl) | exact fq (by first | exact qeqV (by rfl) (by rfl) t1b | exact qmv (by rfl) | exact qas (by rfl) | exact ql1 (by rfl) | exact qlA (by rfl) | exact qfa (by rfl) | exact qmf (by rfl) | exact qfd (by rfl) | exact qm1 (by rfl) | exact qbd (by rfl) | exact qno (by rfl) | exact qex (by rfl) | exact qln (by rfl) | exact qls (by rfl) | exact qlr (by rfl) | exact qpt (by rfl) | exact qpf (by rfl) | exact qcp (by rfl) | exact qbe (by rfl) | exact qbn (by rfl) | exact qsn (by rfl) | exact qad (by rfl) | exact qsa (by rfl) | exact qsu (by rfl) | exact QS_bin (by rfl) (by rfl) (by first | exact B_slnil | exact Bq_eql_Msg | exact Bq_neq_Msg | exact Bq_eql_Pair | exact Bq_neq_Pair | exact Bq_eql_Op | exact Bq_neq_Op | exact Bq_eql_Cfg | exact Bq_neq_Cfg)))) (by rfl) (by rfl) ?_ ?_)
          have hS : Sub (List.range' 0 ([Ob.blk 84 [.int .i64 kd, .int .i64 th, .int .i64 sl], Ob.nblk (.pointer (some ⟨b2, 0, none⟩)) 94 [.int .i64 T.length, u3], Ob.nrow u3 90 3 L.length (L.flatMap holdK)] ++ tabOb b g c T).length) ⟨Mem.of w, [Ob.blk 84 [.int .i64 kd, .int .i64 th, .int .i64 sl], Ob.nblk (.pointer (some ⟨b2, 0, none⟩)) 94 [.int .i64 T.length, u3], Ob.nrow u3 90 3 L.length (L.flatMap holdK)] ++ tabOb b g c T, [(5, .v (.pointer (some ⟨b, 0, none⟩))), (8, .v (.pointer (some ⟨b2, 0, none⟩))), (10, .p 0 0), (11, .v (.bool true)), (57, .v (.slice (some ⟨b1, o1, none⟩) l.length c1)), (58, .v (.int .i64 l.length)), (59, .v (.int .i64 k))]⟩ ⟨Mem.of w, [Ob.blk 84 [.int .i64 kd, .int .i64 th, .int .i64 sl], Ob.nblk (.pointer (some ⟨b2, 0, none⟩)) 94 [.int .i64 T.length, u3], Ob.nrow u3 90 3 L.length (L.flatMap holdK)] ++ tabOb b g c T, [(5, .v (.pointer (some ⟨b, 0, none⟩))), (8, .v (.pointer (some ⟨b2, 0, none⟩))), (10, .p 0 0), (11, .v (.bool true)), (57, .v (.slice (some ⟨b1, o1, none⟩) l.length c1)), (58, .v (.int .i64 l.length)), (59, .v (.int .i64 k))]⟩ := sub_env ⟨rfl, rfl, rfl, rfl, rfl, rfl, rfl, trivial⟩
          exact ⟨Mem.le_refl _, [0, 5, 6, 4], [Ob.blk 84 [.int .i64 kd, .int .i64 th, .int .i64 sl], Ob.nblk (.pointer (some ⟨b2, 0, none⟩)) 94 [.int .i64 T.length, u3], Ob.nrow u3 90 3 L.length (L.flatMap holdK)], [(5, .v (.pointer (some ⟨b, 0, none⟩))), (8, .v (.pointer (some ⟨b2, 0, none⟩))), (10, .p 0 0), (11, .v (.bool true)), (57, .v (.slice (some ⟨b1, o1, none⟩) l.length c1)), (58, .v (.int .i64 l.length)), (59, .v (.int .i64 k))], ⟨rfl, rfl, ⟨rfl, rfl, rfl, rfl, trivial⟩, ⟨rfl, rfl, rfl, rfl, rfl, rfl, rfl, trivial⟩⟩, rfl, rfl, _, T, L, u3, hS, rfl, hR.mono (Nat.le_succ k), hu3, by omega⟩
        · have f0 : (IntKind.u64.wrap kd % 7 == 0) = false := by rw [hr]; rfl
          have f1 : (IntKind.u64.wrap kd % 7 == 1) = false := by rw [hr]; rfl
          have f2 : (IntKind.u64.wrap kd % 7 == 2) = true := by rw [hr]; rfl
          have tO := RL.takeO (N := k) (L := L) hso th true
          have t1b : ((2 : Int) == 2) = true := by decide
          refine VC_lendOut (T := T) (b := b) (g := g) (cc := c) [.blk 84 [.int .i64 kd, .int .i64 th, .int .i64 sl], .nblk (.pointer (some ⟨b2, 0, none⟩)) 94 [.int .i64 T.length, u], .nrow u 90 3 L.length (L.flatMap holdK)] (by rfl) (fun M' hle => ?_)
          repeat' (first
            | refine VC_hold ?_
            | refine VC_seq ?_
            | refine VC_region ?_
            | refine VL_nil ?_
            | refine VC_ret ?_
            | refine VC_exit ?_
            | refine VC_block ?_
            | refine VC_skip ?_
            | refine kbox ?_
            | refine kall ?_
            | refine kst ?_
            | refine ksN ?_
            | refine klt ?_
            | refine kl1 ?_
            | refine klK ?_
            | refine kap ?_
            | ((first | apply VL_q | apply VG_q | apply VS_q2); (first | exact QS_indexAddr (k) (by rfl) (by rfl) (by omega) (by omega) | exact QS_mload1 (by rfl) (hcA 0 _ (by rfl)) | exact QS_mload1 (by rfl) (hcA _ _ (by rfl)) | exact QS_mloadN _ (by rfl) hcA _ (by rfl) | exact QS_convertI (by rfl) rfl | exact QS_bin (by rfl) (by rfl) (B_remu hw0.1 (by omega) hw0.2) | exact qeqV (by rfl) (by rfl) f0 | exact qeqV (by rfl) (by rfl) f1 | exact qeqV (by rfl) (by rfl) f2 | exact qmv (by rfl) | exact qas (by rfl) | exact ql1 (by rfl) | exact qlA (by rfl) | exact qfa (by rfl) | exact qmf (by rfl) | exact qfd (by rfl) | exact qm1 (by rfl) | exact qbd (by rfl) | exact qno (by rfl) | exact qex (by rfl) | exact qln (by rfl) | exact qls (by rfl) | exact qlr (by rfl) | exact qpt (by rfl) | exact qpf (by rfl) | exact qcp (by rfl) | exact qbe (by rfl) | exact qbn (by rfl) | exact qsn (by rfl) | exact qad (by rfl) | exact qsa (by rfl) | exact qsu (by rfl) | exact QS_bin (by rfl) (by rfl) (by first | exact B_slnil | exact Bq_eql_Msg | exact Bq_neq_Msg | exact Bq_eql_Pair | exact Bq_neq_Pair | exact Bq_eql_Op | exact Bq_neq_Op | exact Bq_eql_Cfg | exact Bq_neq_Cfg)); rfl)
            | refine sst ?_
            | refine VS_nil ?_
            | refine eeq ?_
            | refine ees ?_ (by first | exact es1 (by rfl) | exact esN (by rfl))
            | refine VE_nil ?_
            | refine kyes ?_
            | refine kno ?_
            | refine gyes ?_
            | refine gno ?_
            | refine knoU ?_
            | refine gnoU ?_
            | refine VG_nil ⟨by rfl, ?_⟩
            | refine VG_nil ?_
            | refine dT ?_
            | refine d1 ?_
            | refine dQ ?_
            | refine ctr ?_
            | refine cfa ?_
            | refine kdec (fun hq => ?_) (fun hq => ?_)
            | refine gdec (fun hq => ?_) (fun hq => ?_)
            | refine cco (fun hq => ?_) (fun hq => ?_))
          refine ⟨?_⟩
          refine VC_drawG [1, 2, 3] [5, 11, 12, 13] (by decide +kernel) (by rfl) (by rfl) ?_
          repeat' (first
            | refine VQm_nil ?_
            | refine VQm_e (by rfl) ?_
            | refine VQm_q (by rfl) _ (by first | exact wno (by first | exact qeqV (by rfl) (by rfl) t1b | exact qmv (by rfl) | exact qas (by rfl) | exact ql1 (by rfl) | exact qlA (by rfl) | exact qfa (by rfl) | exact qmf (by rfl) | exact qfd (by rfl) | exact qm1 (by rfl) | exact qbd (by rfl) | exact qno (by rfl) | exact qex (by rfl) | exact qln (by rfl) | exact qls (by rfl) | exact qlr (by rfl) | exact qpt (by rfl) | exact qpf (by rfl) | exact qcp (by rfl) | exact qbe (by rfl) | exact qbn (by rfl) | exact qsn (by rfl) | exact qad (by rfl) | exact qsa (by rfl) | exact qsu (by rfl) | exact QS_bin (by rfl) (by rfl) (by first | exact B_slnil | exact Bq_eql_Msg | exact Bq_neq_Msg | exact Bq_eql_Pair | exact Bq_neq_Pair | exact Bq_eql_Op | exact Bq_neq_Op | exact Bq_eql_Cfg | exact Bq_neq_Cfg)) | exact wnot (by rfl) | exact wU (by rfl) | exact wyes (by first | exact qeqV (by rfl) (by rfl) t1b | exact qmv (by rfl) | exact qas (by rfl) | exact ql1 (by rfl) | exact qlA (by rfl) | exact qfa (by rfl) | exact qmf (by rfl) | exact qfd (by rfl) | exact qm1 (by rfl) | exact qbd (by rfl) | exact qno (by rfl) | exact qex (by rfl) | exact qln (by rfl) | exact qls (by rfl) | exact qlr (by rfl) | exact qpt (by rfl) | exact qpf (by rfl) | exact qcp (by rfl) | exact qbe (by rfl) | exact qbn (by rfl) | exact qsn (by rfl) | exact qad (by rfl) | exact qsa (by rfl) | exact qsu (by rfl) | exact QS_bin (by rfl) (by rfl) (by first | exact B_slnil | exact Bq_eql_Msg | exact Bq_neq_Msg | exact Bq_eql_Pair | exact Bq_neq_Pair | exact Bq_eql_Op | exact Bq_neq_Op | exact Bq_eql_Cfg | exact Bq_neq_Cfg))) (by rfl) (by rfl) ?_
            | refine VF_done ?_
            | refine VF_step ?_
            | exact VFs_nil
            | refine VFs_x _ _ _ _ (by rfl) (EX_callX (own1 := [.nblk (.pointer (some ⟨b, 0, none⟩)) 154 (tbC g T.length c)]) [3] (by rfl) (by rfl) ⟨rfl, trivial⟩ (fun M2 _ => latch_WriteO b g c T.length th sl M2 hso)) (by rfl) (eqI (fun _ => ⟨Mem.le_refl _, by rfl, ?_⟩)) ?_ | refine VFs_x _ _ _ _ (by rfl) (EX_callX (own1 := rfOb b2 (T.length : Int) u L) (Post := RfPost b2 (T.length : Int) (2, L)) [1, 2] (by rfl) (by rfl) ⟨rfl, rfl, trivial⟩ (fun M2 _ => tO ▸ ref_TakeX b2 (T.length : Int) u L th sl true M2 hu hL3)) (by rfl) (rfI (fun u3 hu3 _ => ⟨Mem.le_refl _, by rfl, ?_⟩)) ?_
            | refine VFs_e (by rfl) _ _ (by first | exact fno (by first  | exact EF_alloc | exact elt (by rfl) | exact el1 (by rfl) | exact elK (by rfl) | exact eap (by rfl) | exact fst1 (by rfl) | exact fstN (by rfl) | exact fq (by first | exact qeqV (by rfl) (by rfl) t1b | exact qmv (by rfl) | exact qas (by rfl) | exact ql1 (by rfl) | exact qlA (by rfl) | exact qfa (by rfl) | exact qmf (by rfl) | exact qfd (by rfl) | exact qm1 (by rfl) | exact qbd (by rfl) | exact qno (by rfl) | exact qex (by rfl) | exact qln (by rfl) | exact qls (by rfl) | exact qlr (by rfl) | exact qpt (by rfl) | exact qpf (by rfl) | exact qcp (by rfl) | exact qbe (by rfl) | exact qbn (by rfl) | exact qsn (by rfl) | exact qad (by rfl) | exact qsa (by rfl) | exact qsu (by rfl) | exact QS_bin (by rfl) (by rfl) (by first | exact B_slnil | exact Bq_eql_Msg | exact Bq_neq_Msg | exact Bq_eql_Pair | exact Bq_neq_Pair | exact Bq_eql_Op | exact Bq_neq_Op | exact Bq_eql_Cfg | exact Bq_neq_Cfg))) | exact fnot (by rfl) | exact fU (by rfl) | exact fyes (by first  | exact EF_alloc | exact elt (by rfl) | exact el1 (by rfl) | exact elK (by rfl) | exact eap (by rfl) | exact fst1 (by rfl) | exact fstN (by rfl) | exact fq (by first | exact qeqV (by rfl) (by rfl) t1b | exact qmv (by rfl) | exact qas (by rfl) | exact ql1 (by rfl) | exact qlA (by rfl) | exact qfa (by rfl) | exact qmf (by rfl) | exact qfd (by rfl) | exact qm1 (by rfl) | exact qbd (by rfl) | exact qno (by rfl) | exact qex (by rfl) | exact qln (by rfl) | exact qls (by rfl) | exact qlr (by rfl) | exact qpt (by rfl) | exact qpf (by rfl) | exact qcp (by rfl) | exact qbe (by rfl) | exact qbn (by rfl) | exact qsn (by rfl) | exact qad (by rfl) | exact qsa (by rfl) | exact qsu (by rfl) | exact QS_bin (by rfl) (by rfl) (by first | exact B_slnil | exact Bq_eql_Msg | exact Bq_neq_Msg | exact Bq_eql_Pair | exact Bq_neq_Pair | exact Bq_eql_Op | exact Bq_neq_Op | exact Bq_eql_Cfg | exact Bq_neq_Cfg)))) (by rfl) (by rfl) ?_ ?_)
          have hS : Sub (List.range' 0 ([Ob.blk 84 [.int .i64 kd, .int .i64 th, .int .i64 sl], Ob.nblk (.pointer (some ⟨b2, 0, none⟩)) 94 [.int .i64 T.length, u3], Ob.nrow u3 90 3 L.length (L.flatMap holdK)] ++ tabOb b g c T).length) ⟨Mem.of w, [Ob.blk 84 [.int .i64 kd, .int .i64 th, .int .i64 sl], Ob.nblk (.pointer (some ⟨b2, 0, none⟩)) 94 [.int .i64 T.length, u3], Ob.nrow u3 90 3 L.length (L.flatMap holdK)] ++ tabOb b g c T, [(5, .v (.pointer (some ⟨b, 0, none⟩))), (8, .v (.pointer (some ⟨b2, 0, none⟩))), (10, .p 0 0), (11, .v (.bool true)), (57, .v (.slice (some ⟨b1, o1, none⟩) l.length c1)), (58, .v (.int .i64 l.length)), (59, .v (.int .i64 k))]⟩ ⟨Mem.of w, [Ob.blk 84 [.int .i64 kd, .int .i64 th, .int .i64 sl], Ob.nblk (.pointer (some ⟨b2, 0, none⟩)) 94 [.int .i64 T.length, u3], Ob.nrow u3 90 3 L.length (L.flatMap holdK)] ++ tabOb b g c T, [(5, .v (.pointer (some ⟨b, 0, none⟩))), (8, .v (.pointer (some ⟨b2, 0, none⟩))), (10, .p 0 0), (11, .v (.bool true)), (57, .v (.slice (some ⟨b1, o1, none⟩) l.length c1)), (58, .v (.int .i64 l.length)), (59, .v (.int .i64 k))]⟩ := sub_env ⟨rfl, rfl, rfl, rfl, rfl, rfl, rfl, trivial⟩
          exact ⟨Mem.le_refl _, [0, 5, 6, 4], [Ob.blk 84 [.int .i64 kd, .int .i64 th, .int .i64 sl], Ob.nblk (.pointer (some ⟨b2, 0, none⟩)) 94 [.int .i64 T.length, u3], Ob.nrow u3 90 3 L.length (L.flatMap holdK)], [(5, .v (.pointer (some ⟨b, 0, none⟩))), (8, .v (.pointer (some ⟨b2, 0, none⟩))), (10, .p 0 0), (11, .v (.bool true)), (57, .v (.slice (some ⟨b1, o1, none⟩) l.length c1)), (58, .v (.int .i64 l.length)), (59, .v (.int .i64 k))], ⟨rfl, rfl, ⟨rfl, rfl, rfl, rfl, trivial⟩, ⟨rfl, rfl, rfl, rfl, rfl, rfl, rfl, trivial⟩⟩, rfl, rfl, _, T, L, u3, hS, rfl, hR.mono (Nat.le_succ k), hu3, by omega⟩
        · have f0 : (IntKind.u64.wrap kd % 7 == 0) = false := by rw [hr]; rfl
          have f1 : (IntKind.u64.wrap kd % 7 == 1) = false := by rw [hr]; rfl
          have f2 : (IntKind.u64.wrap kd % 7 == 2) = false := by rw [hr]; rfl
          have f3 : (IntKind.u64.wrap kd % 7 == 3) = true := by rw [hr]; rfl
          have tO := RL.takeO (N := k) (L := L) hso th true
          have t1b : ((2 : Int) == 2) = true := by decide
          refine VC_lendOut (T := T) (b := b) (g := g) (cc := c) [.blk 84 [.int .i64 kd, .int .i64 th, .int .i64 sl], .nblk (.pointer (some ⟨b2, 0, none⟩)) 94 [.int .i64 T.length, u], .nrow u 90 3 L.length (L.flatMap holdK)] (by rfl) (fun M' hle => ?_)
          repeat' (first
            | refine VC_hold ?_
            | refine VC_seq ?_
            | refine VC_region ?_
            | refine VL_nil ?_
            | refine VC_ret ?_
            | refine VC_exit ?_
            | refine VC_block ?_
            | refine VC_skip ?_
            | refine kbox ?_
            | refine kall ?_
            | refine kst ?_
            | refine ksN ?_
            | refine klt ?_
            | refine kl1 ?_
            | refine klK ?_
            | refine kap ?_
            | ((first | apply VL_q | apply VG_q | apply VS_q2); (first | exact QS_indexAddr (k) (by rfl) (by rfl) (by omega) (by omega) | exact QS_mload1 (by rfl) (hcA 0 _ (by rfl)) | exact QS_mload1 (by rfl) (hcA _ _ (by rfl)) | exact QS_mloadN _ (by rfl) hcA _ (by rfl) | exact QS_convertI (by rfl) rfl | exact QS_bin (by rfl) (by rfl) (B_remu hw0.1 (by omega) hw0.2) | exact qeqV (by rfl) (by rfl) f0 | exact qeqV (by rfl) (by rfl) f1 | exact qeqV (by rfl) (by rfl) f2 | exact qeqV (by rfl) (by rfl) f3 | exact qmv (by rfl) | exact qas (by rfl) | exact ql1 (by rfl) | exact qlA (by rfl) | exact qfa (by rfl) | exact qmf (by rfl) | exact qfd (by rfl) | exact qm1 (by rfl) | exact qbd (by rfl) | exact qno (by rfl) | exact qex (by rfl) | exact qln (by rfl) | exact qls (by rfl) | exact qlr (by rfl) | exact qpt (by rfl) | exact qpf (by rfl) | exact qcp (by rfl) | exact qbe (by rfl) | exact qbn (by rfl) | exact qsn (by rfl) | exact qad (by rfl) | exact qsa (by rfl) | exact qsu (by rfl) | exact QS_bin (by rfl) (by rfl) (by first | exact B_slnil | exact Bq_eql_Msg | exact Bq_neq_Msg | exact Bq_eql_Pair | exact Bq_neq_Pair | exact Bq_eql_Op | exact Bq_neq_Op | exact Bq_eql_Cfg | exact Bq_neq_Cfg)); rfl)
            | refine sst ?_
            | refine VS_nil ?_
            | refine eeq ?_
            | refine ees ?_ (by first | exact es1 (by rfl) | exact esN (by rfl))
            | refine VE_nil ?_
            | refine kyes ?_
            | refine kno ?_
            | refine gyes ?_
            | refine gno ?_
            | refine knoU ?_
            | refine gnoU ?_
            | refine VG_nil ⟨by rfl, ?_⟩
            | refine VG_nil ?_
            | refine dT ?_
            | refine d1 ?_
            | refine dQ ?_
            | refine ctr ?_
            | refine cfa ?_
            | refine kdec (fun hq => ?_) (fun hq => ?_)
            | refine gdec (fun hq => ?_) (fun hq => ?_)
            | refine cco (fun hq => ?_) (fun hq => ?_))
          refine ⟨?_⟩
          refine VC_drawG [1, 2, 3] [5, 11, 12, 13] (by decide +kernel) (by rfl) (by rfl) ?_
          repeat' (first
            | refine VQm_nil ?_
            | refine VQm_e (by rfl) ?_
            | refine VQm_q (by rfl) _ (by first | exact wno (by first | exact qeqV (by rfl) (by rfl) t1b | exact qmv (by rfl) | exact qas (by rfl) | exact ql1 (by rfl) | exact qlA (by rfl) | exact qfa (by rfl) | exact qmf (by rfl) | exact qfd (by rfl) | exact qm1 (by rfl) | exact qbd (by rfl) | exact qno (by rfl) | exact qex (by rfl) | exact qln (by rfl) | exact qls (by rfl) | exact qlr (by rfl) | exact qpt (by rfl) | exact qpf (by rfl) | exact qcp (by rfl) | exact qbe (by rfl) | exact qbn (by rfl) | exact qsn (by rfl) | exact qad (by rfl) | exact qsa (by rfl) | exact qsu (by rfl) | exact QS_bin (by rfl) (by rfl) (by first | exact B_slnil | exact Bq_eql_Msg | exact Bq_neq_Msg | exact Bq_eql_Pair | exact Bq_neq_Pair | exact Bq_eql_Op | exact Bq_neq_Op | exact Bq_eql_Cfg | exact Bq_neq_Cfg)) | exact wnot (by rfl) | exact wU (by rfl) | exact wyes (by first | exact qeqV (by rfl) (by rfl) t1b | exact qmv (by rfl) | exact qas (by rfl) | exact ql1 (by rfl) | exact qlA (by rfl) | exact qfa (by rfl) | exact qmf (by rfl) | exact qfd (by rfl) | exact qm1 (by rfl) | exact qbd (by rfl) | exact qno (by rfl) | exact qex (by rfl) | exact qln (by rfl) | exact qls (by rfl) | exact qlr (by rfl) | exact qpt (by rfl) | exact qpf (by rfl) | exact qcp (by rfl) | exact qbe (by rfl) | exact qbn (by rfl) | exact qsn (by rfl) | exact qad (by rfl) | exact qsa (by rfl) | exact qsu (by rfl) | exact QS_bin (by rfl) (by rfl) (by first | exact B_slnil | exact Bq_eql_Msg | exact Bq_neq_Msg | exact Bq_eql_Pair | exact Bq_neq_Pair | exact Bq_eql_Op | exact Bq_neq_Op | exact Bq_eql_Cfg | exact Bq_neq_Cfg))) (by rfl) (by rfl) ?_
            | refine VF_done ?_
            | refine VF_step ?_
            | exact VFs_nil
            | refine VFs_x _ _ _ _ (by rfl) (EX_callX (own1 := [.nblk (.pointer (some ⟨b, 0, none⟩)) 154 (tbC g T.length c)]) [3] (by rfl) (by rfl) ⟨rfl, trivial⟩ (fun M2 _ => latch_WriteO b g c T.length th sl M2 hso)) (by rfl) (eqI (fun _ => ⟨Mem.le_refl _, by rfl, ?_⟩)) ?_ | refine VFs_x _ _ _ _ (by rfl) (EX_callX (own1 := rfOb b2 (T.length : Int) u L) (Post := RfPost b2 (T.length : Int) (2, L)) [1, 2] (by rfl) (by rfl) ⟨rfl, rfl, trivial⟩ (fun M2 _ => tO ▸ ref_TakeX b2 (T.length : Int) u L th sl true M2 hu hL3)) (by rfl) (rfI (fun u3 hu3 _ => ⟨Mem.le_refl _, by rfl, ?_⟩)) ?_
            | refine VFs_e (by rfl) _ _ (by first | exact fno (by first  | exact EF_alloc | exact elt (by rfl) | exact el1 (by rfl) | exact elK (by rfl) | exact eap (by rfl) | exact fst1 (by rfl) | exact fstN (by rfl) | exact fq (by first | exact qeqV (by rfl) (by rfl) t1b | exact qmv (by rfl) | exact qas (by rfl) | exact ql1 (by rfl) | exact qlA (by rfl) | exact qfa (by rfl) | exact qmf (by rfl) | exact qfd (by rfl) | exact qm1 (by rfl) | exact qbd (by rfl) | exact qno (by rfl) | exact qex (by rfl) | exact qln (by rfl) | exact qls (by rfl) | exact qlr (by rfl) | exact qpt (by rfl) | exact qpf (by rfl) | exact qcp (by rfl) | exact qbe (by rfl) | exact qbn (by rfl) | exact qsn (by rfl) | exact qad (by rfl) | exact qsa (by rfl) | exact qsu (by rfl) | exact QS_bin (by rfl) (by rfl) (by first | exact B_slnil | exact Bq_eql_Msg | exact Bq_neq_Msg | exact Bq_eql_Pair | exact Bq_neq_Pair | exact Bq_eql_Op | exact Bq_neq_Op | exact Bq_eql_Cfg | exact Bq_neq_Cfg))) | exact fnot (by rfl) | exact fU (by rfl) | exact fyes (by first  | exact EF_alloc | exact elt (by rfl) | exact el1 (by rfl) | exact elK (by rfl) | exact eap (by rfl) | exact fst1 (by rfl) | exact fstN (by rfl) | exact fq (by first | exact qeqV (by rfl) (by rfl) t1b | exact qmv (by rfl) | exact qas (by rfl) | exact ql1 (by rfl) | exact qlA (by rfl) | exact qfa (by rfl) | exact qmf (by rfl) | exact qfd (by rfl) | exact qm1 (by rfl) | exact qbd (by rfl) | exact qno (by rfl) | exact qex (by rfl) | exact qln (by rfl) | exact qls (by rfl) | exact qlr (by rfl) | exact qpt (by rfl) | exact qpf (by rfl) | exact qcp (by rfl) | exact qbe (by rfl) | exact qbn (by rfl) | exact qsn (by rfl) | exact qad (by rfl) | exact qsa (by rfl) | exact qsu (by rfl) | exact QS_bin (by rfl) (by rfl) (by first | exact B_slnil | exact Bq_eql_Msg | exact Bq_neq_Msg | exact Bq_eql_Pair | exact Bq_neq_Pair | exact Bq_eql_Op | exact Bq_neq_Op | exact Bq_eql_Cfg | exact Bq_neq_Cfg)))) (by rfl) (by rfl) ?_ ?_)
          have hS : Sub (List.range' 0 ([Ob.blk 84 [.int .i64 kd, .int .i64 th, .int .i64 sl], Ob.nblk (.pointer (some ⟨b2, 0, none⟩)) 94 [.int .i64 T.length, u3], Ob.nrow u3 90 3 L.length (L.flatMap holdK)] ++ tabOb b g c T).length) ⟨Mem.of w, [Ob.blk 84 [.int .i64 kd, .int .i64 th, .int .i64 sl], Ob.nblk (.pointer (some ⟨b2, 0, none⟩)) 94 [.int .i64 T.length, u3], Ob.nrow u3 90 3 L.length (L.flatMap holdK)] ++ tabOb b g c T, [(5, .v (.pointer (some ⟨b, 0, none⟩))), (8, .v (.pointer (some ⟨b2, 0, none⟩))), (10, .p 0 0), (11, .v (.bool true)), (57, .v (.slice (some ⟨b1, o1, none⟩) l.length c1)), (58, .v (.int .i64 l.length)), (59, .v (.int .i64 k))]⟩ ⟨Mem.of w, [Ob.blk 84 [.int .i64 kd, .int .i64 th, .int .i64 sl], Ob.nblk (.pointer (some ⟨b2, 0, none⟩)) 94 [.int .i64 T.length, u3], Ob.nrow u3 90 3 L.length (L.flatMap holdK)] ++ tabOb b g c T, [(5, .v (.pointer (some ⟨b, 0, none⟩))), (8, .v (.pointer (some ⟨b2, 0, none⟩))), (10, .p 0 0), (11, .v (.bool true)), (57, .v (.slice (some ⟨b1, o1, none⟩) l.length c1)), (58, .v (.int .i64 l.length)), (59, .v (.int .i64 k))]⟩ := sub_env ⟨rfl, rfl, rfl, rfl, rfl, rfl, rfl, trivial⟩
          exact ⟨Mem.le_refl _, [0, 5, 6, 4], [Ob.blk 84 [.int .i64 kd, .int .i64 th, .int .i64 sl], Ob.nblk (.pointer (some ⟨b2, 0, none⟩)) 94 [.int .i64 T.length, u3], Ob.nrow u3 90 3 L.length (L.flatMap holdK)], [(5, .v (.pointer (some ⟨b, 0, none⟩))), (8, .v (.pointer (some ⟨b2, 0, none⟩))), (10, .p 0 0), (11, .v (.bool true)), (57, .v (.slice (some ⟨b1, o1, none⟩) l.length c1)), (58, .v (.int .i64 l.length)), (59, .v (.int .i64 k))], ⟨rfl, rfl, ⟨rfl, rfl, rfl, rfl, trivial⟩, ⟨rfl, rfl, rfl, rfl, rfl, rfl, rfl, trivial⟩⟩, rfl, rfl, _, T, L, u3, hS, rfl, hR.mono (Nat.le_succ k), hu3, by omega⟩
        · have f0 : (IntKind.u64.wrap kd % 7 == 0) = false := by rw [hr]; rfl
          have f1 : (IntKind.u64.wrap kd % 7 == 1) = false := by rw [hr]; rfl
          have f2 : (IntKind.u64.wrap kd % 7 == 2) = false := by rw [hr]; rfl
          have f3 : (IntKind.u64.wrap kd % 7 == 3) = false := by rw [hr]; rfl
          have f4 : (IntKind.u64.wrap kd % 7 == 4) = true := by rw [hr]; rfl
          have hF := hR.releaseO hso th
          have g2 : ((L.length : Int) - (L.length : Nat) == 1) = false := beq_eq_false_iff_ne.2 (by omega)
          have g1 : ((8 : Int) == 0) = false := by decide
          have g3 : ((8 : Int) == 8) = true := by decide
          refine VC_lendOut (T := T) (b := b) (g := g) (cc := c) [.blk 84 [.int .i64 kd, .int .i64 th, .int .i64 sl], .nblk (.pointer (some ⟨b2, 0, none⟩)) 94 [.int .i64 T.length, u], .nrow u 90 3 L.length (L.flatMap holdK)] (by rfl) (fun M' hle => ?_)
          repeat' (first
            | refine VL_callX (own1 := [.nblk (.pointer (some ⟨b, 0, none⟩)) 154 (tbC g T.length c)]) [3] (by rfl) (by rfl) ⟨rfl, trivial⟩ (fun M2 _ => latch_ReleaseO b g c T.length th sl M2 hso (by omega)) (by rfl) (by rfl) (eqV ?_) | refine VL_callX (own1 := rfOb b2 (T.length : Int) u L) (Post := RfPost b2 (T.length : Int) ((L.length : Int) - (L.length : Nat), L)) [1, 2] (by rfl) (by rfl) ⟨rfl, rfl, trivial⟩ (fun M2 _ => by have := ref_WithoutX b2 (T.length : Int) u L th sl false M2 hu hL3; rwa [hF] at this) (by rfl) (by rfl) (rfV (fun u3 hu3 => ?_))
            | refine VC_seq ?_
            | refine VC_region ?_
            | refine VL_nil ?_
            | refine VC_ret ?_
            | refine VC_exit ?_
            | refine VC_block ?_
            | refine VC_skip ?_
            | refine kbox ?_
            | refine kall ?_
            | refine kst ?_
            | refine ksN ?_
            | refine klt ?_
            | refine kl1 ?_
            | refine klK ?_
            | refine kap ?_
            | ((first | apply VL_q | apply VG_q | apply VS_q2); (first | exact QS_indexAddr (k) (by rfl) (by rfl) (by omega) (by omega) | exact QS_mload1 (by rfl) (hcA 0 _ (by rfl)) | exact QS_mload1 (by rfl) (hcA _ _ (by rfl)) | exact QS_mloadN _ (by rfl) hcA _ (by rfl) | exact QS_convertI (by rfl) rfl | exact QS_bin (by rfl) (by rfl) (B_remu hw0.1 (by omega) hw0.2) | exact qeqV (by rfl) (by rfl) f0 | exact qeqV (by rfl) (by rfl) f1 | exact qeqV (by rfl) (by rfl) f2 | exact qeqV (by rfl) (by rfl) f3 | exact qeqV (by rfl) (by rfl) f4 | exact qeqV (by rfl) (by rfl) g1 | exact qeqV (by rfl) (by rfl) g2 | exact qeqV (by rfl) (by rfl) g3 | exact qmv (by rfl) | exact qas (by rfl) | exact ql1 (by rfl) | exact qlA (by rfl) | exact qfa (by rfl) | exact qmf (by rfl) | exact qfd (by rfl) | exact qm1 (by rfl) | exact qbd (by rfl) | exact qno (by rfl) | exact qex (by rfl) | exact qln (by rfl) | exact qls (by rfl) | exact qlr (by rfl) | exact qpt (by rfl) | exact qpf (by rfl) | exact qcp (by rfl) | exact qbe (by rfl) | exact qbn (by rfl) | exact qsn (by rfl) | exact qad (by rfl) | exact qsa (by rfl) | exact qsu (by rfl) | exact QS_bin (by rfl) (by rfl) (by first | exact B_slnil | exact Bq_eql_Msg | exact Bq_neq_Msg | exact Bq_eql_Pair | exact Bq_neq_Pair | exact Bq_eql_Op | exact Bq_neq_Op | exact Bq_eql_Cfg | exact Bq_neq_Cfg)); rfl)
            | refine sst ?_
            | refine VS_nil ?_
            | refine eeq ?_
            | refine ees ?_ (by first | exact es1 (by rfl) | exact esN (by rfl))
            | refine VE_nil ?_
            | refine kyes ?_
            | refine kno ?_
            | refine gyes ?_
            | refine gno ?_
            | refine knoU ?_
            | refine gnoU ?_
            | refine VG_nil ⟨by rfl, ?_⟩
            | refine VG_nil ?_
            | refine dT ?_
            | refine d1 ?_
            | refine dQ ?_
            | refine ctr ?_
            | refine cfa ?_
            | refine kdec (fun hq => ?_) (fun hq => ?_)
            | refine gdec (fun hq => ?_) (fun hq => ?_)
            | refine cco (fun hq => ?_) (fun hq => ?_))
          have hS : Sub (List.range' 0 ([Ob.blk 84 [.int .i64 kd, .int .i64 th, .int .i64 sl], Ob.nblk (.pointer (some ⟨b2, 0, none⟩)) 94 [.int .i64 T.length, u3], Ob.nrow u3 90 3 L.length (L.flatMap holdK)] ++ tabOb b g c T).length) ⟨Mem.of w, [Ob.blk 84 [.int .i64 kd, .int .i64 th, .int .i64 sl], Ob.nblk (.pointer (some ⟨b2, 0, none⟩)) 94 [.int .i64 T.length, u3], Ob.nrow u3 90 3 L.length (L.flatMap holdK)] ++ tabOb b g c T, [(5, .v (.pointer (some ⟨b, 0, none⟩))), (8, .v (.pointer (some ⟨b2, 0, none⟩))), (10, .p 0 0), (11, .v (.bool true)), (57, .v (.slice (some ⟨b1, o1, none⟩) l.length c1)), (58, .v (.int .i64 l.length)), (59, .v (.int .i64 k))]⟩ ⟨Mem.of w, [Ob.blk 84 [.int .i64 kd, .int .i64 th, .int .i64 sl], Ob.nblk (.pointer (some ⟨b2, 0, none⟩)) 94 [.int .i64 T.length, u3], Ob.nrow u3 90 3 L.length (L.flatMap holdK)] ++ tabOb b g c T, [(5, .v (.pointer (some ⟨b, 0, none⟩))), (8, .v (.pointer (some ⟨b2, 0, none⟩))), (10, .p 0 0), (11, .v (.bool true)), (57, .v (.slice (some ⟨b1, o1, none⟩) l.length c1)), (58, .v (.int .i64 l.length)), (59, .v (.int .i64 k))]⟩ := sub_env ⟨rfl, rfl, rfl, rfl, rfl, rfl, rfl, trivial⟩
          exact ⟨Mem.le_refl _, [0, 5, 6, 4], [Ob.blk 84 [.int .i64 kd, .int .i64 th, .int .i64 sl], Ob.nblk (.pointer (some ⟨b2, 0, none⟩)) 94 [.int .i64 T.length, u3], Ob.nrow u3 90 3 L.length (L.flatMap holdK)], [(5, .v (.pointer (some ⟨b, 0, none⟩))), (8, .v (.pointer (some ⟨b2, 0, none⟩))), (10, .p 0 0), (11, .v (.bool true)), (57, .v (.slice (some ⟨b1, o1, none⟩) l.length c1)), (58, .v (.int .i64 l.length)), (59, .v (.int .i64 k))], ⟨rfl, rfl, ⟨rfl, rfl, rfl, rfl, trivial⟩, ⟨rfl, rfl, rfl, rfl, rfl, rfl, rfl, trivial⟩⟩, rfl, rfl, _, T, L, u3, hS, rfl, hR.mono (Nat.le_succ k), hu3, by omega⟩
        · have f0 : (IntKind.u64.wrap kd % 7 == 0) = false := by rw [hr]; rfl
          have f1 : (IntKind.u64.wrap kd % 7 == 1) = false := by rw [hr]; rfl
          have f2 : (IntKind.u64.wrap kd % 7 == 2) = false := by rw [hr]; rfl
          have f3 : (IntKind.u64.wrap kd % 7 == 3) = false := by rw [hr]; rfl
          have f4 : (IntKind.u64.wrap kd % 7 == 4) = false := by rw [hr]; rfl
          have f5 : (IntKind.u64.wrap kd % 7 == 5) = true := by rw [hr]; rfl
          have hF := hR.releaseO hso th
          have g2 : ((L.length : Int) - (L.length : Nat) == 1) = false := beq_eq_false_iff_ne.2 (by omega)
          have g1 : ((8 : Int) == 0) = false := by decide
          have g3 : ((8 : Int) == 8) = true := by decide
          refine VC_lendOut (T := T) (b := b) (g := g) (cc := c) [.blk 84 [.int .i64 kd, .int .i64 th, .int .i64 sl], .nblk (.pointer (some ⟨b2, 0, none⟩)) 94 [.int .i64 T.length, u], .nrow u 90 3 L.length (L.flatMap holdK)] (by rfl) (fun M' hle => ?_)
          repeat' (first
            | refine VL_callX (own1 := [.nblk (.pointer (some ⟨b, 0, none⟩)) 154 (tbC g T.length c)]) [3] (by rfl) (by rfl) ⟨rfl, trivial⟩ (fun M2 _ => latch_ReleaseO b g c T.length th sl M2 hso (by omega)) (by rfl) (by rfl) (eqV ?_) | refine VL_callX (own1 := rfOb b2 (T.length : Int) u L) (Post := RfPost b2 (T.length : Int) ((L.length : Int) - (L.length : Nat), L)) [1, 2] (by rfl) (by rfl) ⟨rfl, rfl, trivial⟩ (fun M2 _ => by have := ref_WithoutX b2 (T.length : Int) u L th sl false M2 hu hL3; rwa [hF] at this) (by rfl) (by rfl) (rfV (fun u3 hu3 => ?_))
            | refine VC_seq ?_
            | refine VC_region ?_
            | refine VL_nil ?_
            | refine VC_ret ?_
            | refine VC_exit ?_
            | refine VC_block ?_
            | refine VC_skip ?_
            | refine kbox ?_
            | refine kall ?_
            | refine kst ?_
            | refine ksN ?_
            | refine klt ?_
            | refine kl1 ?_
            | refine klK ?_
            | refine kap ?_
            | ((first | apply VL_q | apply VG_q | apply VS_q2); (first | exact QS_indexAddr (k) (by rfl) (by rfl) (by omega) (by omega) | exact QS_mload1 (by rfl) (hcA 0 _ (by rfl)) | exact QS_mload1 (by rfl) (hcA _ _ (by rfl)) | exact QS_mloadN _ (by rfl) hcA _ (by rfl) | exact QS_convertI (by rfl) rfl | exact QS_bin (by rfl) (by rfl) (B_remu hw0.1 (by omega) hw0.2) | exact qeqV (by rfl) (by rfl) f0 | exact qeqV (by rfl) (by rfl) f1 | exact qeqV (by rfl) (by rfl) f2 | exact qeqV (by rfl) (by rfl) f3 | exact qeqV (by rfl) (by rfl) f4 | exact qeqV (by rfl) (by rfl) f5 | exact qeqV (by rfl) (by rfl) g1 | exact qeqV (by rfl) (by rfl) g2 | exact qeqV (by rfl) (by rfl) g3 | exact qmv (by rfl) | exact qas (by rfl) | exact ql1 (by rfl) | exact qlA (by rfl) | exact qfa (by rfl) | exact qmf (by rfl) | exact qfd (by rfl) | exact qm1 (by rfl) | exact qbd (by rfl) | exact qno (by rfl) | exact qex (by rfl) | exact qln (by rfl) | exact qls (by rfl) | exact qlr (by rfl) | exact qpt (by rfl) | exact qpf (by rfl) | exact qcp (by rfl) | exact qbe (by rfl) | exact qbn (by rfl) | exact qsn (by rfl) | exact qad (by rfl) | exact qsa (by rfl) | exact qsu (by rfl) | exact QS_bin (by rfl) (by rfl) (by first | exact B_slnil | exact Bq_eql_Msg | exact Bq_neq_Msg | exact Bq_eql_Pair | exact Bq_neq_Pair | exact Bq_eql_Op | exact Bq_neq_Op | exact Bq_eql_Cfg | exact Bq_neq_Cfg)); rfl)
            | refine sst ?_
            | refine VS_nil ?_
            | refine eeq ?_
            | refine ees ?_ (by first | exact es1 (by rfl) | exact esN (by rfl))
            | refine VE_nil ?_
            | refine kyes ?_
            | refine kno ?_
            | refine gyes ?_
            | refine gno ?_
            | refine knoU ?_
            | refine gnoU ?_
            | refine VG_nil ⟨by rfl, ?_⟩
            | refine VG_nil ?_
            | refine dT ?_
            | refine d1 ?_
            | refine dQ ?_
            | refine ctr ?_
            | refine cfa ?_
            | refine kdec (fun hq => ?_) (fun hq => ?_)
            | refine gdec (fun hq => ?_) (fun hq => ?_)
            | refine cco (fun hq => ?_) (fun hq => ?_))
          have hS : Sub (List.range' 0 ([Ob.blk 84 [.int .i64 kd, .int .i64 th, .int .i64 sl], Ob.nblk (.pointer (some ⟨b2, 0, none⟩)) 94 [.int .i64 T.length, u3], Ob.nrow u3 90 3 L.length (L.flatMap holdK)] ++ tabOb b g c T).length) ⟨Mem.of w, [Ob.blk 84 [.int .i64 kd, .int .i64 th, .int .i64 sl], Ob.nblk (.pointer (some ⟨b2, 0, none⟩)) 94 [.int .i64 T.length, u3], Ob.nrow u3 90 3 L.length (L.flatMap holdK)] ++ tabOb b g c T, [(5, .v (.pointer (some ⟨b, 0, none⟩))), (8, .v (.pointer (some ⟨b2, 0, none⟩))), (10, .p 0 0), (11, .v (.bool true)), (57, .v (.slice (some ⟨b1, o1, none⟩) l.length c1)), (58, .v (.int .i64 l.length)), (59, .v (.int .i64 k))]⟩ ⟨Mem.of w, [Ob.blk 84 [.int .i64 kd, .int .i64 th, .int .i64 sl], Ob.nblk (.pointer (some ⟨b2, 0, none⟩)) 94 [.int .i64 T.length, u3], Ob.nrow u3 90 3 L.length (L.flatMap holdK)] ++ tabOb b g c T, [(5, .v (.pointer (some ⟨b, 0, none⟩))), (8, .v (.pointer (some ⟨b2, 0, none⟩))), (10, .p 0 0), (11, .v (.bool true)), (57, .v (.slice (some ⟨b1, o1, none⟩) l.length c1)), (58, .v (.int .i64 l.length)), (59, .v (.int .i64 k))]⟩ := sub_env ⟨rfl, rfl, rfl, rfl, rfl, rfl, rfl, trivial⟩
          exact ⟨Mem.le_refl _, [0, 5, 6, 4], [Ob.blk 84 [.int .i64 kd, .int .i64 th, .int .i64 sl], Ob.nblk (.pointer (some ⟨b2, 0, none⟩)) 94 [.int .i64 T.length, u3], Ob.nrow u3 90 3 L.length (L.flatMap holdK)], [(5, .v (.pointer (some ⟨b, 0, none⟩))), (8, .v (.pointer (some ⟨b2, 0, none⟩))), (10, .p 0 0), (11, .v (.bool true)), (57, .v (.slice (some ⟨b1, o1, none⟩) l.length c1)), (58, .v (.int .i64 l.length)), (59, .v (.int .i64 k))], ⟨rfl, rfl, ⟨rfl, rfl, rfl, rfl, trivial⟩, ⟨rfl, rfl, rfl, rfl, rfl, rfl, rfl, trivial⟩⟩, rfl, rfl, _, T, L, u3, hS, rfl, hR.mono (Nat.le_succ k), hu3, by omega⟩
        · have f0 : (IntKind.u64.wrap kd % 7 == 0) = false := by rw [hr]; rfl
          have f1 : (IntKind.u64.wrap kd % 7 == 1) = false := by rw [hr]; rfl
          have f2 : (IntKind.u64.wrap kd % 7 == 2) = false := by rw [hr]; rfl
          have f3 : (IntKind.u64.wrap kd % 7 == 3) = false := by rw [hr]; rfl
          have f4 : (IntKind.u64.wrap kd % 7 == 4) = false := by rw [hr]; rfl
          have f5 : (IntKind.u64.wrap kd % 7 == 5) = false := by rw [hr]; rfl
          have h0 : (goneAt ([1, 2] ++ List.range' 3 (tabOb b g c T).length) ([Ob.blk 84 [.int .i64 kd, .int .i64 th, .int .i64 sl], Ob.nblk (.pointer (some ⟨b2, 0, none⟩)) 94 [.int .i64 T.length, u], Ob.nrow u 90 3 L.length (L.flatMap holdK)] ++ tabOb b g c T))[0]? = some (Ob.blk 84 [.int .i64 kd, .int .i64 th, .int .i64 sl]) := by rw [goneAt_ne _ _ _ (by simp [List.mem_range'_1])]; rfl
          repeat' (first
            | refine VC_hold ?_
            | refine VC_seq ?_
            | refine VC_region ?_
            | refine VL_nil ?_
            | refine VC_ret ?_
            | refine VC_exit ?_
            | refine VC_block ?_
            | refine VC_skip ?_
            | refine kbox ?_
            | refine kall ?_
            | refine kst ?_
            | refine ksN ?_
            | refine klt ?_
            | refine kl1 ?_
            | refine klK ?_
            | refine kap ?_
            | ((first | apply VL_q | apply VG_q | apply VS_q2); (first | exact QS_indexAddr (k) (by rfl) (by rfl) (by omega) (by omega) | exact QS_mload1 (by rfl) (hcA 0 _ (by rfl)) | exact QS_mload1 (by rfl) (hcA _ _ (by rfl)) | exact QS_mloadN _ (by rfl) hcA _ (by rfl) | exact QS_convertI (by rfl) rfl | exact QS_bin (by rfl) (by rfl) (B_remu hw0.1 (by omega) hw0.2) | exact qeqV (by rfl) (by rfl) f0 | exact qeqV (by rfl) (by rfl) f1 | exact qeqV (by rfl) (by rfl) f2 | exact qeqV (by rfl) (by rfl) f3 | exact qeqV (by rfl) (by rfl) f4 | exact qeqV (by rfl) (by rfl) f5 | exact qmv (by rfl) | exact qas (by rfl) | exact ql1 (by rfl) | exact qlA (by rfl) | exact qfa (by rfl) | exact qmf (by rfl) | exact qfd (by rfl) | exact qm1 (by rfl) | exact qbd (by rfl) | exact qno (by rfl) | exact qex (by rfl) | exact qln (by rfl) | exact qls (by rfl) | exact qlr (by rfl) | exact qpt (by rfl) | exact qpf (by rfl) | exact qcp (by rfl) | exact qbe (by rfl) | exact qbn (by rfl) | exact qsn (by rfl) | exact qad (by rfl) | exact qsa (by rfl) | exact qsu (by rfl) | exact QS_bin (by rfl) (by rfl) (by first | exact B_slnil | exact Bq_eql_Msg | exact Bq_neq_Msg | exact Bq_eql_Pair | exact Bq_neq_Pair | exact Bq_eql_Op | exact Bq_neq_Op | exact Bq_eql_Cfg | exact Bq_neq_Cfg)); rfl)
            | refine sst ?_
            | refine VS_nil ?_
            | refine eeq ?_
            | refine ees ?_ (by first | exact es1 (by rfl) | exact esN (by rfl))
            | refine VE_nil ?_
            | refine kyes ?_
            | refine kno ?_
            | refine gyes ?_
            | refine gno ?_
            | refine knoU ?_
            | refine gnoU ?_
            | refine VG_nil ⟨by rfl, ?_⟩
            | refine VG_nil ?_
            | refine dT ?_
            | refine d1 ?_
            | refine dQ ?_
            | refine ctr ?_
            | refine cfa ?_
            | refine kdec (fun hq => ?_) (fun hq => ?_)
            | refine gdec (fun hq => ?_) (fun hq => ?_)
            | refine cco (fun hq => ?_) (fun hq => ?_))
          refine ⟨?_⟩
          refine VC_ownE (own' := ([Ob.blk 84 [.int .i64 kd, .int .i64 th, .int .i64 sl], Ob.nblk (.pointer (some ⟨b2, 0, none⟩)) 94 [.int .i64 T.length, u], Ob.nrow u 90 3 L.length (L.flatMap holdK)] ++ tabOb b g c T)) (by rfl) ?_
          have h00 : Nat.blt 0 (goneAt ([1, 2] ++ List.range' 3 (tabOb b g c T).length) ([Ob.blk 84 [.int .i64 kd, .int .i64 th, .int .i64 sl], Ob.nblk (.pointer (some ⟨b2, 0, none⟩)) 94 [.int .i64 T.length, u], Ob.nrow u 90 3 L.length (L.flatMap holdK)] ++ tabOb b g c T)).length = true := by rw [len_goneAt]; rfl
          refine VC_drawG ([1, 2] ++ List.range' 3 (tabOb b g c T).length) [3, 7, 8, 9] (by decide +kernel) (by rfl) (by rfl) ?_
          repeat' (first
            | refine VQm_nil ?_
            | refine VQm_e (by rfl) ?_
            | refine VQm_q (by rfl) _ (by first | exact wno (by first | exact ql1 (by rfl) h0 (by rfl) | exact qeqV (by rfl) (by rfl) (beq_iff_eq.2 (hR.drop th hl4 hok4 hr4).2) | exact qmv (by rfl) | exact qas (by rfl) | exact ql1 (by rfl) | exact qlA (by rfl) | exact qfa (by rfl) | exact qmf (by rfl) | exact qfd (by rfl) | exact qm1 (by rfl) | exact qbd (by rfl) | exact qno (by rfl) | exact qex (by rfl) | exact qln (by rfl) | exact qls (by rfl) | exact qlr (by rfl) | exact qpt (by rfl) | exact qpf (by rfl) | exact qcp (by rfl) | exact qbe (by rfl) | exact qbn (by rfl) | exact qsn (by rfl) | exact qad (by rfl) | exact qsa (by rfl) | exact qsu (by rfl) | exact QS_bin (by rfl) (by rfl) (by first | exact B_slnil | exact Bq_eql_Msg | exact Bq_neq_Msg | exact Bq_eql_Pair | exact Bq_neq_Pair | exact Bq_eql_Op | exact Bq_neq_Op | exact Bq_eql_Cfg | exact Bq_neq_Cfg)) | exact wnot (by rfl) | exact wU (by rfl) | exact wyes (by first | exact ql1 (by rfl) h0 (by rfl) | exact qeqV (by rfl) (by rfl) (beq_iff_eq.2 (hR.drop th hl4 hok4 hr4).2) | exact qmv (by rfl) | exact qas (by rfl) | exact ql1 (by rfl) | exact qlA (by rfl) | exact qfa (by rfl) | exact qmf (by rfl) | exact qfd (by rfl) | exact qm1 (by rfl) | exact qbd (by rfl) | exact qno (by rfl) | exact qex (by rfl) | exact qln (by rfl) | exact qls (by rfl) | exact qlr (by rfl) | exact qpt (by rfl) | exact qpf (by rfl) | exact qcp (by rfl) | exact qbe (by rfl) | exact qbn (by rfl) | exact qsn (by rfl) | exact qad (by rfl) | exact qsa (by rfl) | exact qsu (by rfl) | exact QS_bin (by rfl) (by rfl) (by first | exact B_slnil | exact Bq_eql_Msg | exact Bq_neq_Msg | exact Bq_eql_Pair | exact Bq_neq_Pair | exact Bq_eql_Op | exact Bq_neq_Op | exact Bq_eql_Cfg | exact Bq_neq_Cfg))) (by rfl) (by rfl) ?_
            | refine VF_done ?_
            | refine VF_step ?_
            | exact VFs_nil
            | refine VQm_q (by rfl) _ (wno (qfa (by rfl))) (by rfl) h00 ?_ | refine VFs_x _ _ _ _ (by rfl) (EX_callX (own1 := tabOb b g c T) (List.range' 3 (tabOb b g c T).length) (by rfl) (nodupB_range _ _) (sub_drop (tabOb b g c T) [_, _, _]) (fun M2 _ => latch_Drop b g c k T th M2 (by omega) (by omega) hR.ok)) (by rfl) (dropI (fun T4 hl4 hok4 hr4 _ => ⟨Mem.le_refl _, gone_take (fun i hi => List.mem_append_right _ hi) (Nat.le_refl _), ?_⟩)) ?_ | refine VFs_x _ _ _ _ (by rfl) (EX_callX (own1 := rfOb b2 (T.length : Int) u L) [1, 2] (by rfl) (by rfl) own12 (fun M2 _ => ref_WithoutX b2 (T.length : Int) u L th 0 true M2 hu hL3)) (by rfl) (rfI (fun u3 hu3 _ => ⟨Mem.le_refl _, gone_take (fun i hi => List.mem_append_left _ hi) le_gone, ?_⟩)) ?_
            | refine VFs_e (by rfl) _ _ (by first | exact fno (by first  | exact EF_alloc | exact elt (by rfl) | exact el1 (by rfl) | exact elK (by rfl) | exact eap (by rfl) | exact fst1 (by rfl) | exact fstN (by rfl) | exact fq (by first | exact ql1 (by rfl) h0 (by rfl) | exact qeqV (by rfl) (by rfl) (beq_iff_eq.2 (hR.drop th hl4 hok4 hr4).2) | exact qmv (by rfl) | exact qas (by rfl) | exact ql1 (by rfl) | exact qlA (by rfl) | exact qfa (by rfl) | exact qmf (by rfl) | exact qfd (by rfl) | exact qm1 (by rfl) | exact qbd (by rfl) | exact qno (by rfl) | exact qex (by rfl) | exact qln (by rfl) | exact qls (by rfl) | exact qlr (by rfl) | exact qpt (by rfl) | exact qpf (by rfl) | exact qcp (by rfl) | exact qbe (by rfl) | exact qbn (by rfl) | exact qsn (by rfl) | exact qad (by rfl) | exact qsa (by rfl) | exact qsu (by rfl) | exact QS_bin (by rfl) (by rfl) (by first | exact B_slnil | exact Bq_eql_Msg | exact Bq_neq_Msg | exact Bq_eql_Pair | exact Bq_neq_Pair | exact Bq_eql_Op | exact Bq_neq_Op | exact Bq_eql_Cfg | exact Bq_neq_Cfg))) | exact fnot (by rfl) | exact fU (by rfl) | exact fyes (by first  | exact EF_alloc | exact elt (by rfl) | exact el1 (by rfl) | exact elK (by rfl) | exact eap (by rfl) | exact fst1 (by rfl) | exact fstN (by rfl) | exact fq (by first | exact ql1 (by rfl) h0 (by rfl) | exact qeqV (by rfl) (by rfl) (beq_iff_eq.2 (hR.drop th hl4 hok4 hr4).2) | exact qmv (by rfl) | exact qas (by rfl) | exact ql1 (by rfl) | exact qlA (by rfl) | exact qfa (by rfl) | exact qmf (by rfl) | exact qfd (by rfl) | exact qm1 (by rfl) | exact qbd (by rfl) | exact qno (by rfl) | exact qex (by rfl) | exact qln (by rfl) | exact qls (by rfl) | exact qlr (by rfl) | exact qpt (by rfl) | exact qpf (by rfl) | exact qcp (by rfl) | exact qbe (by rfl) | exact qbn (by rfl) | exact qsn (by rfl) | exact qad (by rfl) | exact qsa (by rfl) | exact qsu (by rfl) | exact QS_bin (by rfl) (by rfl) (by first | exact B_slnil | exact Bq_eql_Msg | exact Bq_neq_Msg | exact Bq_eql_Pair | exact Bq_neq_Pair | exact Bq_eql_Op | exact Bq_neq_Op | exact Bq_eql_Cfg | exact Bq_neq_Cfg)))) (by rfl) (by rfl) ?_ ?_)
          exact ⟨rfl, _, T4, L.filter (keepW th 0 true), u3, sub_drop3 (a := Ob.blk 84 [.int .i64 kd, .int .i64 th, .int .i64 sl]) (b0 := Ob.nblk (.pointer (some ⟨b2, 0, none⟩)) 94 [.int .i64 T.length, u]) (c0 := Ob.nrow u 90 3 L.length (L.flatMap holdK)) (tab := tabOb b g c T) (tab' := tabOb b g c T4) (rf0 := Ob.nblk (.pointer (some ⟨b2, 0, none⟩)) 94 [.int .i64 T.length, u3]) (rf1 := Ob.nrow u3 90 3 (L.filter (keepW th 0 true)).length ((L.filter (keepW th 0 true)).flatMap holdK)) ⟨rfl, rfl, rfl, rfl, rfl, rfl, rfl, trivial⟩, hl4, (hR.drop th hl4 hok4 hr4).1.mono (Nat.le_succ k), hu3, Nat.le_trans (List.length_filter_le _ _) (by omega)⟩
      --END
    rintro s' ⟨ρ, T', L', u', hS, hT', hR', hu', hL'⟩
    refine VC_sub ρ _ hS ?_
    refine VC_lendAll [_] (by rfl) (fun M' hle hTM hRM => ?_)
    have cH1 := fun W (hW : M'.le (Mem.of W)) => has_tab hR' hTM (by omega) (by omega) th sl W hW
    have cH2 := fun W (hW : M'.le (Mem.of W)) => ref_HasL b2 m u' L' th sl W M' hW hRM
    generalize hasL L' th sl = hh at *
    obtain ⟨h1, h2⟩ := hh
    have x1 : (!(h1 == h1)) = false := by simp
    have x2 : (!(h2 == h2)) = false := by simp
    repeat' (first
      | refine VC_hold ?_
      | refine VC_seq ?_
      | refine VC_region ?_
      | refine VL_nil ?_
      | refine VC_ret ?_
      | refine VC_exit ?_
      | refine VC_block ?_
      | refine VC_skip ?_
      | refine kbox ?_
      | refine kall ?_
      | refine kst ?_
      | refine ksN ?_
      | refine klt ?_
      | refine kl1 ?_
      | refine klK ?_
      | refine kap ?_
      | ((first | apply VL_q | apply VG_q | apply VS_q2); (first | exact QS_call (by rfl) cH1 | exact QS_call (by rfl) cH2 | exact qmv (by rfl) | exact qas (by rfl) | exact ql1 (by rfl) | exact qlA (by rfl) | exact qfa (by rfl) | exact qmf (by rfl) | exact qfd (by rfl) | exact qm1 (by rfl) | exact qbd (by rfl) | exact qno (by rfl) | exact qex (by rfl) | exact qln (by rfl) | exact qls (by rfl) | exact qlr (by rfl) | exact qpt (by rfl) | exact qpf (by rfl) | exact qcp (by rfl) | exact qbe (by rfl) | exact qbn (by rfl) | exact qsn (by rfl) | exact qad (by rfl) | exact qsa (by rfl) | exact qsu (by rfl) | exact QS_bin (by rfl) (by rfl) (by first | exact B_slnil | exact Bq_eql_Msg | exact Bq_neq_Msg | exact Bq_eql_Pair | exact Bq_neq_Pair | exact Bq_eql_Op | exact Bq_neq_Op | exact Bq_eql_Cfg | exact Bq_neq_Cfg)); rfl)
      | refine sst ?_
      | refine VS_nil ?_
      | refine eeq ?_
      | refine ees ?_ (by first | exact es1 (by rfl) | exact esN (by rfl))
      | refine VE_nil ?_
      | refine kyes ?_
      | refine kno ?_
      | refine gyes ?_
      | refine gno ?_
      | refine knoU ?_
      | refine gnoU ?_
      | refine VG_nil ⟨by rfl, ?_⟩
      | refine VG_nil ?_
      | refine dT ?_
      | refine d1 ?_
      | refine dQ ?_
      | refine ctr ?_
      | refine cfa ?_
      | refine kdec (fun hq => ?_) (fun hq => ?_)
      | refine gdec (fun hq => ?_) (fun hq => ?_)
      | refine cco (fun hq => ?_) (fun hq => ?_))
    refine ⟨?_⟩
    have cS : ∀ (v1 v2 : Value) (M2 : Mem) (hd : Nat → Value) (W : World), (ObOk w.heap.size W (hd 1) (.nrow v1 90 3 (pickL (fun h => h.thread == th) T').length ((pickL (fun h => h.thread == th) T').flatMap holdK))) → SlM M2 3 holdK v2 (allL L' th false) → M2.le (Mem.of W) → Calls Try.prog 50 #[v1, v2] W fun e W' => e = .returned (.bool true) ∧ Below W.heap.size W W' := fun v1 v2 M2 hd W hO hS hW => by
      have h2 := hO.2
      rw [hO.1] at h2
      have hl := ObOk.sl (base := w.heap.size) (e := 90) (cs := (pickL (fun h => h.thread == th) T').flatMap holdK) (pickL (fun h => h.thread == th) T') h2 rfl (fun _ _ => rfl) rfl
      have e : pickL (fun h => h.thread == th) T' = allL L' th false := by
        rw [← hR'.all th false]
        rfl
      rw [e] at hl
      have := ref_SameH v1 v2 _ _ W hl (SlM.toSl hS hW)
      rw [decide_eq_true rfl] at this
      exact this
    have hwn : ∀ s ∈ T', s.who.length ≤ 10000 := fun s hs => by have := (hR'.ok s hs).2.2.1; omega
    refine VC_drawG [] [16, 20, 21, 22, 23] (by decide +kernel) (by rfl) (by rfl) ?_
    repeat' (first
      | refine VQm_nil ?_
      | refine VQm_e (by rfl) ?_
      | refine VQm_q (by rfl) _ (by first | exact wno (by first | exact qbnS (by rfl) (by rfl) | exact qmv (by rfl) | exact qas (by rfl) | exact ql1 (by rfl) | exact qlA (by rfl) | exact qfa (by rfl) | exact qmf (by rfl) | exact qfd (by rfl) | exact qm1 (by rfl) | exact qbd (by rfl) | exact qno (by rfl) | exact qex (by rfl) | exact qln (by rfl) | exact qls (by rfl) | exact qlr (by rfl) | exact qpt (by rfl) | exact qpf (by rfl) | exact qcp (by rfl) | exact qbe (by rfl) | exact qbn (by rfl) | exact qsn (by rfl) | exact qad (by rfl) | exact qsa (by rfl) | exact qsu (by rfl) | exact QS_bin (by rfl) (by rfl) (by first | exact B_slnil | exact Bq_eql_Msg | exact Bq_neq_Msg | exact Bq_eql_Pair | exact Bq_neq_Pair | exact Bq_eql_Op | exact Bq_neq_Op | exact Bq_eql_Cfg | exact Bq_neq_Cfg)) | exact wnot (by rfl) | exact wU (by rfl) | exact wyes (by first | exact qbnS (by rfl) (by rfl) | exact qmv (by rfl) | exact qas (by rfl) | exact ql1 (by rfl) | exact qlA (by rfl) | exact qfa (by rfl) | exact qmf (by rfl) | exact qfd (by rfl) | exact qm1 (by rfl) | exact qbd (by rfl) | exact qno (by rfl) | exact qex (by rfl) | exact qln (by rfl) | exact qls (by rfl) | exact qlr (by rfl) | exact qpt (by rfl) | exact qpf (by rfl) | exact qcp (by rfl) | exact qbe (by rfl) | exact qbn (by rfl) | exact qsn (by rfl) | exact qad (by rfl) | exact qsa (by rfl) | exact qsu (by rfl) | exact QS_bin (by rfl) (by rfl) (by first | exact B_slnil | exact Bq_eql_Msg | exact Bq_neq_Msg | exact Bq_eql_Pair | exact Bq_neq_Pair | exact Bq_eql_Op | exact Bq_neq_Op | exact Bq_eql_Cfg | exact Bq_neq_Cfg))) (by rfl) (by rfl) ?_
      | refine VF_done ?_
      | refine VF_step ?_
      | exact VFs_nil
      | refine VFs_y _ _ _ _ (by rfl) _ _ _ (by rfl) (by rfl) (by rfl) (by rfl) ((EX_callN (e := 90) (k := 3) (by rfl) (fun W hW => latch_Of b T' th W M' hW hTM (by omega) hwn))) (by rfl) (fun ⟨v1, hv1⟩ => ⟨Mem.le_refl _, by rfl, ?_⟩) ?_ | refine VFs_y _ _ _ _ (by rfl) _ _ _ (by rfl) (by rfl) (by rfl) (by rfl) ((EX_callM (by rfl) (fun W hW => ref_AllL b2 m u' L' th false W M' hW hRM (by omega)))) (by rfl) (fun ⟨⟨v2, M2⟩, hle2, hS2⟩ => ⟨hle2, by rfl, ?_⟩) ?_
      | refine VFs_e (by rfl) _ _ (by first | exact fno (by first | exact EF_q (QS_callR (vs := [.v v1, .v v2]) (r := .bool true) (by rfl) (fun hd W hO hW => cS v1 v2 M2 hd W (hO 1 _ rfl) hS2 hW)) (by rfl) | exact EF_alloc | exact elt (by rfl) | exact el1 (by rfl) | exact elK (by rfl) | exact eap (by rfl) | exact fst1 (by rfl) | exact fstN (by rfl) | exact fq (by first | exact qbnS (by rfl) (by rfl) | exact qmv (by rfl) | exact qas (by rfl) | exact ql1 (by rfl) | exact qlA (by rfl) | exact qfa (by rfl) | exact qmf (by rfl) | exact qfd (by rfl) | exact qm1 (by rfl) | exact qbd (by rfl) | exact qno (by rfl) | exact qex (by rfl) | exact qln (by rfl) | exact qls (by rfl) | exact qlr (by rfl) | exact qpt (by rfl) | exact qpf (by rfl) | exact qcp (by rfl) | exact qbe (by rfl) | exact qbn (by rfl) | exact qsn (by rfl) | exact qad (by rfl) | exact qsa (by rfl) | exact qsu (by rfl) | exact QS_bin (by rfl) (by rfl) (by first | exact B_slnil | exact Bq_eql_Msg | exact Bq_neq_Msg | exact Bq_eql_Pair | exact Bq_neq_Pair | exact Bq_eql_Op | exact Bq_neq_Op | exact Bq_eql_Cfg | exact Bq_neq_Cfg))) | exact fnot (by rfl) | exact fU (by rfl) | exact fyes (by first | exact EF_q (QS_callR (vs := [.v v1, .v v2]) (r := .bool true) (by rfl) (fun hd W hO hW => cS v1 v2 M2 hd W (hO 1 _ rfl) hS2 hW)) (by rfl) | exact EF_alloc | exact elt (by rfl) | exact el1 (by rfl) | exact elK (by rfl) | exact eap (by rfl) | exact fst1 (by rfl) | exact fstN (by rfl) | exact fq (by first | exact qbnS (by rfl) (by rfl) | exact qmv (by rfl) | exact qas (by rfl) | exact ql1 (by rfl) | exact qlA (by rfl) | exact qfa (by rfl) | exact qmf (by rfl) | exact qfd (by rfl) | exact qm1 (by rfl) | exact qbd (by rfl) | exact qno (by rfl) | exact qex (by rfl) | exact qln (by rfl) | exact qls (by rfl) | exact qlr (by rfl) | exact qpt (by rfl) | exact qpf (by rfl) | exact qcp (by rfl) | exact qbe (by rfl) | exact qbn (by rfl) | exact qsn (by rfl) | exact qad (by rfl) | exact qsa (by rfl) | exact qsu (by rfl) | exact QS_bin (by rfl) (by rfl) (by first | exact B_slnil | exact Bq_eql_Msg | exact Bq_neq_Msg | exact Bq_eql_Pair | exact Bq_neq_Pair | exact Bq_eql_Op | exact Bq_neq_Op | exact Bq_eql_Cfg | exact Bq_neq_Cfg)))) (by rfl) (by rfl) ?_ ?_)
    repeat' (first
      | refine VC_seq ?_
      | refine VC_region ?_
      | refine VL_nil ?_
      | refine VC_ret ?_
      | refine VC_exit ?_
      | refine VC_block ?_
      | refine VC_skip ?_
      | refine kbox ?_
      | refine kall ?_
      | refine kst ?_
      | refine ksN ?_
      | refine klt ?_
      | refine kl1 ?_
      | refine klK ?_
      | refine kap ?_
      | ((first | apply VL_q | apply VG_q | apply VS_q2); (first  | exact qmv (by rfl) | exact qas (by rfl) | exact ql1 (by rfl) | exact qlA (by rfl) | exact qfa (by rfl) | exact qmf (by rfl) | exact qfd (by rfl) | exact qm1 (by rfl) | exact qbd (by rfl) | exact qno (by rfl) | exact qex (by rfl) | exact qln (by rfl) | exact qls (by rfl) | exact qlr (by rfl) | exact qpt (by rfl) | exact qpf (by rfl) | exact qcp (by rfl) | exact qbe (by rfl) | exact qbn (by rfl) | exact qsn (by rfl) | exact qad (by rfl) | exact qsa (by rfl) | exact qsu (by rfl) | exact QS_bin (by rfl) (by rfl) (by first | exact B_slnil | exact Bq_eql_Msg | exact Bq_neq_Msg | exact Bq_eql_Pair | exact Bq_neq_Pair | exact Bq_eql_Op | exact Bq_neq_Op | exact Bq_eql_Cfg | exact Bq_neq_Cfg)); rfl)
      | refine sst ?_
      | refine VS_nil ?_
      | refine eeq ?_
      | refine ees ?_ (by first | exact es1 (by rfl) | exact esN (by rfl))
      | refine VE_nil ?_
      | refine kyes ?_
      | refine kno ?_
      | refine gyes ?_
      | refine gno ?_
      | refine knoU ?_
      | refine gnoU ?_
      | refine VG_nil ⟨by rfl, ?_⟩
      | refine VG_nil ?_
      | refine dT ?_
      | refine d1 ?_
      | refine dQ ?_
      | refine ctr ?_
      | refine cfa ?_
      | refine kdec (fun hq => ?_) (fun hq => ?_)
      | refine gdec (fun hq => ?_) (fun hq => ?_)
      | refine cco (fun hq => ?_) (fun hq => ?_))
    refine ⟨hle2, [0], [.blk 84 [.int .i64 kd, .int .i64 th, .int .i64 sl]], [(5, .v (.pointer (some ⟨b, 0, none⟩))), (8, .v (.pointer (some ⟨b2, 0, none⟩))), (57, .v (.slice (some ⟨b1, o1, none⟩) l.length c1)), (58, .v (.int .i64 l.length)), (59, .v (.int .i64 k))], ⟨rfl, rfl, ⟨rfl, trivial⟩, ⟨rfl, rfl, rfl, rfl, rfl, trivial⟩⟩, rfl, ?_⟩
    repeat' (first
      | refine VC_seq ?_
      | refine VC_region ?_
      | refine VL_nil ?_
      | refine VC_ret ?_
      | refine VC_exit ?_
      | refine VC_block ?_
      | refine VC_skip ?_
      | refine kbox ?_
      | refine kall ?_
      | refine kst ?_
      | refine ksN ?_
      | refine klt ?_
      | refine kl1 ?_
      | refine klK ?_
      | refine kap ?_
      | ((first | apply VL_q | apply VG_q | apply VS_q2); (first  | exact qmv (by rfl) | exact qas (by rfl) | exact ql1 (by rfl) | exact qlA (by rfl) | exact qfa (by rfl) | exact qmf (by rfl) | exact qfd (by rfl) | exact qm1 (by rfl) | exact qbd (by rfl) | exact qno (by rfl) | exact qex (by rfl) | exact qln (by rfl) | exact qls (by rfl) | exact qlr (by rfl) | exact qpt (by rfl) | exact qpf (by rfl) | exact qcp (by rfl) | exact qbe (by rfl) | exact qbn (by rfl) | exact qsn (by rfl) | exact qad (by rfl) | exact qsa (by rfl) | exact qsu (by rfl) | exact QS_bin (by rfl) (by rfl) (by first | exact B_slnil | exact Bq_eql_Msg | exact Bq_neq_Msg | exact Bq_eql_Pair | exact Bq_neq_Pair | exact Bq_eql_Op | exact Bq_neq_Op | exact Bq_eql_Cfg | exact Bq_neq_Cfg)); rfl)
      | refine sst ?_
      | refine VS_nil ?_
      | refine eeq ?_
      | refine ees ?_ (by first | exact es1 (by rfl) | exact esN (by rfl))
      | refine VE_nil ?_
      | refine kyes ?_
      | refine kno ?_
      | refine gyes ?_
      | refine gno ?_
      | refine knoU ?_
      | refine gnoU ?_
      | refine VG_nil ⟨by rfl, ?_⟩
      | refine VG_nil ?_
      | refine dT ?_
      | refine d1 ?_
      | refine dQ ?_
      | refine ctr ?_
      | refine cfa ?_
      | refine kdec (fun hq => ?_) (fun hq => ?_)
      | refine gdec (fun hq => ?_) (fun hq => ?_)
      | refine cco (fun hq => ?_) (fun hq => ?_))
    exact forQ_next (Q := fun _ _ => True) _ (T', L', u', k + 1) (Sub.tab (pre := [_]) (own := rfOb b2 m u' L' ++ tabOb b g c T') ⟨rfl, rfl, rfl, rfl, rfl, trivial⟩) ⟨Nat.succ_le_of_lt hlt, hT', hR', hu', hL'⟩ (by show l.length - (k + 1) < l.length - k; omega)
  · have hd := dge hge
    have hwn : ∀ s ∈ T, s.who.length ≤ 10000 := fun s hs => by have := (hR.ok s hs).2.2.1; omega
    repeat' (first
      | refine VC_lendEnd [] (by rfl) (fun M' hle hTM hRM => ?_)
      | refine VC_seq ?_
      | refine VC_region ?_
      | refine VL_nil ?_
      | refine VC_ret ?_
      | refine VC_exit ?_
      | refine VC_block ?_
      | refine VC_skip ?_
      | refine kbox ?_
      | refine kall ?_
      | refine kst ?_
      | refine ksN ?_
      | refine klt ?_
      | refine kl1 ?_
      | refine klK ?_
      | refine kap ?_
      | ((first | apply VL_q | apply VG_q | apply VS_q2); (first  | exact qmv (by rfl) | exact qas (by rfl) | exact ql1 (by rfl) | exact qlA (by rfl) | exact qfa (by rfl) | exact qmf (by rfl) | exact qfd (by rfl) | exact qm1 (by rfl) | exact qbd (by rfl) | exact qno (by rfl) | exact qex (by rfl) | exact qln (by rfl) | exact qls (by rfl) | exact qlr (by rfl) | exact qpt (by rfl) | exact qpf (by rfl) | exact qcp (by rfl) | exact qbe (by rfl) | exact qbn (by rfl) | exact qsn (by rfl) | exact qad (by rfl) | exact qsa (by rfl) | exact qsu (by rfl) | exact QS_bin (by rfl) (by rfl) (by first | exact B_slnil | exact Bq_eql_Msg | exact Bq_neq_Msg | exact Bq_eql_Pair | exact Bq_neq_Pair | exact Bq_eql_Op | exact Bq_neq_Op | exact Bq_eql_Cfg | exact Bq_neq_Cfg)); rfl)
      | refine sst ?_
      | refine VS_nil ?_
      | refine eeq ?_
      | refine ees ?_ (by first | exact es1 (by rfl) | exact esN (by rfl))
      | refine VE_nil ?_
      | refine kyes ?_
      | refine kno ?_
      | refine gyes ?_
      | refine gno ?_
      | refine knoU ?_
      | refine gnoU ?_
      | refine VG_nil ⟨by rfl, ?_⟩
      | refine VG_nil ?_
      | refine dT ?_
      | refine d1 ?_
      | refine dQ ?_
      | refine ctr ?_
      | refine cfa ?_
      | refine kdec (fun hq => ?_) (fun hq => ?_)
      | refine gdec (fun hq => ?_) (fun hq => ?_)
      | refine cco (fun hq => ?_) (fun hq => ?_))
    refine VL_callO (e := 90) (k := 3) (by rfl) (fun W hW => latch_All b T W M' hW hTM (by omega) hwn) (by rfl) (by rfl) ?_
    repeat' (first
      | refine VC_seq ?_
      | refine VC_region ?_
      | refine VL_nil ?_
      | refine VC_ret ?_
      | refine VC_exit ?_
      | refine VC_block ?_
      | refine VC_skip ?_
      | refine kbox ?_
      | refine kall ?_
      | refine kst ?_
      | refine ksN ?_
      | refine klt ?_
      | refine kl1 ?_
      | refine klK ?_
      | refine kap ?_
      | ((first | apply VL_q | apply VG_q | apply VS_q2); (first  | exact qmv (by rfl) | exact qas (by rfl) | exact ql1 (by rfl) | exact qlA (by rfl) | exact qfa (by rfl) | exact qmf (by rfl) | exact qfd (by rfl) | exact qm1 (by rfl) | exact qbd (by rfl) | exact qno (by rfl) | exact qex (by rfl) | exact qln (by rfl) | exact qls (by rfl) | exact qlr (by rfl) | exact qpt (by rfl) | exact qpf (by rfl) | exact qcp (by rfl) | exact qbe (by rfl) | exact qbn (by rfl) | exact qsn (by rfl) | exact qad (by rfl) | exact qsa (by rfl) | exact qsu (by rfl) | exact QS_bin (by rfl) (by rfl) (by first | exact B_slnil | exact Bq_eql_Msg | exact Bq_neq_Msg | exact Bq_eql_Pair | exact Bq_neq_Pair | exact Bq_eql_Op | exact Bq_neq_Op | exact Bq_eql_Cfg | exact Bq_neq_Cfg)); rfl)
      | refine sst ?_
      | refine VS_nil ?_
      | refine eeq ?_
      | refine ees ?_ (by first | exact es1 (by rfl) | exact esN (by rfl))
      | refine VE_nil ?_
      | refine kyes ?_
      | refine kno ?_
      | refine gyes ?_
      | refine gno ?_
      | refine knoU ?_
      | refine gnoU ?_
      | refine VG_nil ⟨by rfl, ?_⟩
      | refine VG_nil ?_
      | refine dT ?_
      | refine d1 ?_
      | refine dQ ?_
      | refine ctr ?_
      | refine cfa ?_
      | refine kdec (fun hq => ?_) (fun hq => ?_)
      | refine gdec (fun hq => ?_) (fun hq => ?_)
      | refine cco (fun hq => ?_) (fun hq => ?_))
    refine VL_callM (by rfl) (fun W hW => ref_AllL b2 m u L 0 true W M' hW hRM (by omega)) (by rfl) (fun v2 M2 hle2 hS2 => ?_)
    have cS : ∀ (hd : Nat → Value) (W : World), (ObOk w.heap.size W (hd 0) (.row 90 3 (pickL (fun _ => true) T).length ((pickL (fun _ => true) T).flatMap holdK))) → M2.le (Mem.of W) → Calls Try.prog 50 #[hd 0, v2] W fun e W' => e = .returned (.bool true) ∧ Below W.heap.size W W' := fun hd W hO hW => by
      have hl := ObOk.sl (base := w.heap.size) (e := 90) (cs := (pickL (fun _ => true) T).flatMap holdK) (pickL (fun _ => true) T) hO rfl (fun _ _ => rfl) rfl
      have e : pickL (fun _ => true) T = allL L 0 true := by
        rw [← hR.all 0 true]
        rfl
      rw [e] at hl
      have := ref_SameH (hd 0) v2 _ _ W hl (SlM.toSl hS2 hW)
      rw [decide_eq_true rfl] at this
      exact this
    repeat' (first
      | refine VC_seq ?_
      | refine VC_region ?_
      | refine VL_nil ?_
      | refine VC_ret ?_
      | refine VC_exit ?_
      | refine VC_block ?_
      | refine VC_skip ?_
      | refine kbox ?_
      | refine kall ?_
      | refine kst ?_
      | refine ksN ?_
      | refine klt ?_
      | refine kl1 ?_
      | refine klK ?_
      | refine kap ?_
      | ((first | apply VL_q | apply VG_q | apply VS_q2); (first | exact QS_callR (vs := [.r 0, .v v2]) (r := .bool true) (by rfl) (fun hd W hO hW => cS hd W (hO 0 _ rfl) hW) | exact QS_call (by rfl) (fun W _ => cA W) | exact qmv (by rfl) | exact qas (by rfl) | exact ql1 (by rfl) | exact qlA (by rfl) | exact qfa (by rfl) | exact qmf (by rfl) | exact qfd (by rfl) | exact qm1 (by rfl) | exact qbd (by rfl) | exact qno (by rfl) | exact qex (by rfl) | exact qln (by rfl) | exact qls (by rfl) | exact qlr (by rfl) | exact qpt (by rfl) | exact qpf (by rfl) | exact qcp (by rfl) | exact qbe (by rfl) | exact qbn (by rfl) | exact qsn (by rfl) | exact qad (by rfl) | exact qsa (by rfl) | exact qsu (by rfl) | exact QS_bin (by rfl) (by rfl) (by first | exact B_slnil | exact Bq_eql_Msg | exact Bq_neq_Msg | exact Bq_eql_Pair | exact Bq_neq_Pair | exact Bq_eql_Op | exact Bq_neq_Op | exact Bq_eql_Cfg | exact Bq_neq_Cfg)); rfl)
      | refine sst ?_
      | refine VS_nil ?_
      | refine eeq ?_
      | refine ees ?_ (by first | exact es1 (by rfl) | exact esN (by rfl))
      | refine VE_nil ?_
      | refine kyes ?_
      | refine kno ?_
      | refine gyes ?_
      | refine gno ?_
      | refine knoU ?_
      | refine gnoU ?_
      | refine VG_nil ⟨by rfl, ?_⟩
      | refine VG_nil ?_
      | refine dT ?_
      | refine d1 ?_
      | refine dQ ?_
      | refine ctr ?_
      | refine cfa ?_
      | refine kdec (fun hq => ?_) (fun hq => ?_)
      | refine gdec (fun hq => ?_) (fun hq => ?_)
      | refine cco (fun hq => ?_) (fun hq => ?_))
    refine ⟨hle2, [], [], [(4, .v (.bool true))], ⟨rfl, rfl, trivial, ⟨rfl, trivial⟩⟩, rfl, ?_⟩
    show Res _ _ _ _
    refine Res.one (by rfl) (ResV_tmp (by rfl) ?_)
    rfl
end Go.Proofs.Ytdgcdfngpimmmaa.lawLatchPlays
