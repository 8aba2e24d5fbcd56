/- The bulk layer: the next level, exactly. -/
import Derived.Test.YtclbmfepdlffnaaPBx4
namespace Go.Proofs.Ytclbmfepdlffnaa
open Go Go.RowKit
attribute [local irreducible] Calls
set_option linter.unusedVariables false
set_option maxRecDepth 20000
set_option linter.unusedSimpArgs false
set_option maxHeartbeats 4000000
def psJ (ps : List Bn) (o m : Nat) : List ByteArray := (List.range (m - 1)).map fun j => loP ps (o + j + 1)
def ksJ (from0 o m : Nat) : List Int := (List.range m).map fun j => ((from0 + (o + j) : Nat) : Int)
def aboveX (ps : List Bn) (p from0 : Nat) (lev : Int) (k : Nat) : Bn :=
  (⟨0, lev + 1, nil0, psJ ps (offE ps.length p k) (partE ps.length p k), nil0, ksJ from0 (offE ps.length p k) (partE ps.length p k), em, false, 0, 0, nil0, [], nil0, []⟩, loP ps (offE ps.length p k))
theorem ksJ_len (from0 o m : Nat) : (ksJ from0 o m).length = m := by unfold ksJ; simp
theorem psJ_len (ps : List Bn) (o m : Nat) : (psJ ps o m).length = m - 1 := by unfold psJ; simp
theorem ksJ_step (from0 o j : Nat) : (ksJ from0 o (j + 1)).flatMap intCells = (ksJ from0 o j).flatMap intCells ++ [Value.int .i64 ((from0 : Int) + ((o + j : Nat) : Int))] := by
  unfold ksJ
  rw [List.range_succ, List.map_append, List.flatMap_append]
  show _ ++ [Value.int .i64 ((from0 + (o + j) : Nat) : Int)] = _
  rw [show ((from0 + (o + j) : Nat) : Int) = (from0 : Int) + ((o + j : Nat) : Int) by omega]
theorem psJ_step (ps : List Bn) (o j : Nat) (h : 0 < j) : (psJ ps o (j + 1)).flatMap strCells = (psJ ps o j).flatMap strCells ++ [Value.string (loP ps (o + j))] := by
  obtain ⟨i, rfl⟩ : ∃ i, j = i + 1 := ⟨j - 1, by omega⟩
  unfold psJ
  rw [show i + 1 + 1 - 1 = i + 1 by omega, show i + 1 - 1 = i by omega, List.range_succ, List.map_append, List.flatMap_append]
  rfl
theorem bulk_above (v : Value) (ps : List Bn) (p from0 : Nat) (lev : Int) (w : World) (M : Mem) (hM : M.le (Mem.of w)) (hl : SlM M 11 bnCells v ps) (hp : 0 < p) (hpn : p ≤ ps.length) (hn : ps.length ≤ 1000000) (hf : from0 ≤ 1000000) (hlv : ∀ q, ps[0]? = some q → q.1.level = lev) (hl0 : 0 ≤ lev) (hl1 : lev ≤ 1000000) :
    Calls Try.prog 87 #[v, .int .i64 p, .int .i64 from0] w (RetM M w (fun u M' => ∃ qs : List Bn, SlM M' 11 bnCells u qs ∧ (∀ a ∈ qs, a.1.Ok M') ∧ qs.map stripB = (List.range p).map (aboveX ps p from0 lev))) := by
  obtain ⟨A, c, rfl, hc1, hc2, _⟩ := id hl
  unfold maxLen at hc2
  refine V_ret (args := [.slice A ps.length c, .int .i64 p, .int .i64 from0]) (M := M) Try.func87 rfl Try.ntmps87 (by rfl) hM _ ?_
  refine VC_frzQ ?_
  refine VC_seq ?_
  refine VC_region ?_
  apply VL_q
  · exact qas (by rfl)
  · rfl
  refine VL_nil ?_
  refine VC_seq ?_
  refine VC_region ?_
  apply VL_q
  · exact qas (by rfl)
  · rfl
  refine VL_nil ?_
  refine VC_nilR 7 174 11 (by rfl) (by rfl) ?_
  have cE := fun W => bulk_Even (ps.length : Int) (p : Int) W (by omega)
  rw [evenX_nat hp (by omega)] at cE
  repeat' (first | refine VC_seq ?_ | refine VC_region ?_ | refine VL_nil ?_ | ((apply VL_q); (first | exact qmv (by rfl) | exact qas (by rfl) | exact qln (by rfl)); rfl))
  refine VL_callO (by rfl) (fun W _ => cE W) (by rfl) (by rfl) ?_
  refine VL_frz 1 (by rfl) (fun us M1 hle1 hus => ?_)
  have hS : SlM M1 1 intK us (evenL ps.length p) := hus.slM (fun _ _ => rfl)
  obtain ⟨B, cb, hus', hd1, hd2, _⟩ := id hS
  have hlen := evenL_len ps.length p
  have hgs : ∀ k (h : k < (evenL ps.length p).length), (evenL ps.length p)[k] = ((partE ps.length p k : Nat) : Int) := fun k h => evenL_get _ p h
  generalize evenL ps.length p = L at *
  subst hus'
  unfold maxLen at hd2
  obtain ⟨b0, off0, hA0, hc0⟩ := (hl.mono hle1).get (i := 0) (by omega)
  subst hA0
  have hlv0 := hlv _ (List.getElem?_eq_getElem (show 0 < ps.length by omega))
  repeat' (first | refine VL_nil ?_ | refine VC_block ?_ | ((apply VL_q); (first | exact qmv (by rfl) | exact qln (by rfl)); rfl))
  refine VC_for (fun x : List Bn × Mem => ⟨x.2, [.row 174 11 x.1.length (x.1.flatMap bnCells)], [(0, .v (.slice (some ⟨b0, off0, none⟩) ps.length c)), (2, .v (.int .i64 from0)), (7, .r 0), (8, .v (.int .i64 ((offE ps.length p x.1.length : Nat) : Int))), (16, .v (.slice B L.length cb)), (17, .v (.int .i64 L.length)), (18, .v (.int .i64 x.1.length))]⟩) (fun x => M1.le x.2 ∧ x.1.length ≤ p ∧ (∀ a ∈ x.1, a.1.Ok x.2) ∧ x.1.map stripB = (List.range x.1.length).map (aboveX ps p from0 lev)) (fun x => p - x.1.length) [0] ([], M1) ⟨rfl, rfl, ⟨rfl, trivial⟩, ⟨rfl, rfl, rfl, by rw [show offE ps.length p ([] : List Bn).length = 0 by unfold offE; simp]; rfl, rfl, rfl, rfl, trivial⟩⟩ ⟨Mem.le_refl _, Nat.zero_le _, fun a h => (by cases h), rfl⟩ ?_
  rintro ⟨acc, Mx⟩ ⟨hMx, hk, hokx, hacc⟩
  dsimp only at hMx hk hokx hacc ⊢
  have hlx := (hl.mono hle1).mono hMx
  have hSx := hS.mono hMx
  generalize hkk : acc.length = k at *
  rcases Nat.lt_or_ge k p with hlt' | hge
  · have hkl : k < L.length := by omega
    have hd := dlt hkl
    obtain ⟨b, off, rfl, hcA⟩ := hSx.get hkl
    rw [hgs k hkl] at hcA
    have hst := offE_step ps.length p k
    have hle : offE ps.length p (k + 1) ≤ ps.length := offE_le hp (by omega)
    have hpp := partE_pos hp hpn k
    have hab : aboveX ps p from0 lev k = (⟨0, lev + 1, nil0, psJ ps (offE ps.length p k) (partE ps.length p k), nil0, ksJ from0 (offE ps.length p k) (partE ps.length p k), em, false, 0, 0, nil0, [], nil0, []⟩, loP ps (offE ps.length p k)) := rfl
    generalize ho2 : offE ps.length p (k + 1) = o2 at *
    generalize hat : offE ps.length p k = at0 at *
    generalize hz0 : partE ps.length p k = sz at *
    have hsum : ((at0 : Int) + (sz : Int)) = ((at0 + sz : Nat) : Int) := by omega
    have e9 : ((offE ps.length p (k + 1) : Nat) : Int) = (at0 : Int) + (sz : Int) := by rw [ho2, hst, hsum]
    have row : ∀ (x : Bn), some (Ob.row 174 11 (k + 1) (acc.flatMap bnCells ++ bnCells x)) = some (Ob.row 174 11 (acc ++ [x]).length ((acc ++ [x]).flatMap bnCells)) := fun x => by
      rw [List.length_append, List.flatMap_append, hkk]
      simp only [List.flatMap_cons, List.flatMap_nil, List.append_nil, List.length_cons, List.length_nil]
    have lenx : ∀ (x : Bn), (acc ++ [x]).length = k + 1 := fun x => by rw [List.length_append, hkk]; rfl
    have hat0 : at0 < ps.length := by omega
    obtain ⟨b9, off9, he9, hcP⟩ := hlx.get hat0
    injection he9 with he9
    injection he9 with he1 he2
    subst he1 he2
    have hc0x : ∀ j x, (bnCells ps[0])[j]? = some x → Mx.cell b0 (off0 + 0 * 11 + j) = some x := fun j x h => hMx.cell (hc0 j x h)
    have hloat := loP_at hat0
    generalize hlo : ps[at0] = eat at *
    generalize ps[0] = e0 at *
    have hl0' : 0 ≤ e0.1.level := by omega
    have hl1' : e0.1.level ≤ 1000000 := by omega
    repeat' (first | refine VC_seq ?_ | refine VC_region ?_ | refine VL_nil ?_ | refine VC_block ?_ | refine VC_skip ?_ | refine ksN ?_ | ((first | apply VL_q | apply VG_q); (first | exact QS_indexAddr k (by rfl) (by rfl) (by omega) (by omega) | exact QS_indexAddr 0 (by rfl) (by rfl) (by omega) (by omega) | exact QS_indexAddr at0 (by rfl) (by rfl) (by omega) (by omega) | exact QS_mload1 (by rfl) (hcA 0 _ (by rfl)) | exact QS_mload1 (by rfl) (hc0x _ _ (by rfl)) | exact QS_mload1 (by rfl) (hcP _ _ (by rfl)) | exact qbk (by rfl) | exact qmv (by rfl) | exact qas (by rfl) | exact qmf (by rfl) | exact qbd (by rfl) | exact qcp (by rfl) | exact qad (by rfl)); rfl) | refine VG_nil ⟨by rfl, ?_⟩ | refine d1 ?_ | refine ctr ?_)
    refine VC_nil0 9 1 (by rfl) ?_
    refine VC_nil0 3 1 (by rfl) ?_
    refine VC_for (fun x : Nat × Value × Value => ⟨Mx, [.row 174 11 k (acc.flatMap bnCells), .blk 174 [.int .i64 0, .int .i64 (e0.1.level + 1), x.2.1, x.2.2, .string ⟨#[]⟩, .bool false, .int .i64 0, .int .i64 0, .slice none 0 0, .slice none 0 0, .string eat.2], .nrow x.2.1 9 1 (x.1 - 1) ((psJ ps at0 x.1).flatMap strCells), .nrow x.2.2 3 1 x.1 ((ksJ from0 at0 x.1).flatMap intCells)], [(0, .v (.slice (some ⟨b0, off0, none⟩) ps.length c)), (2, .v (.int .i64 from0)), (7, .r 0), (8, .v (.int .i64 at0)), (10, .v (.int .i64 sz)), (11, .p 1 0), (12, .v (.int .i64 ((at0 + x.1 : Nat) : Int))), (16, .v (.slice (some ⟨b, off, none⟩) L.length cb)), (17, .v (.int .i64 L.length)), (18, .v (.int .i64 k))]⟩)
      (fun x => x.1 ≤ sz ∧ (∃ A c, x.2.1 = .slice A (x.1 - 1) c) ∧ (∃ A c, x.2.2 = .slice A x.1 c)) (fun x => sz - x.1) [0, 1, 2, 3] (0, .slice none 0 0, .slice none 0 0) ⟨rfl, rfl, ⟨rfl, rfl, rfl, rfl, trivial⟩, ⟨rfl, rfl, rfl, rfl, rfl, rfl, rfl, rfl, rfl, rfl, trivial⟩⟩ ⟨Nat.zero_le _, ⟨none, 0, rfl⟩, ⟨none, 0, rfl⟩⟩ ?_
    rintro ⟨j, uP, uK⟩ ⟨hj, hsP, hsK⟩
    dsimp only at hj hsP hsK ⊢
    have hjK : j ≤ 1000000 := by omega
    have hkst := ksJ_step from0 at0 j
    have hpst := psJ_step ps at0 j
    rcases Nat.lt_or_ge j sz with hjl | hjg
    · have dj : decide (((at0 + j : Nat) : Int) < (at0 : Int) + (sz : Int)) = true := decide_eq_true (by omega)
      have haj : at0 + j < ps.length := by omega
      obtain ⟨b8, off8, he8, hcJ⟩ := hlx.get haj
      injection he8 with he8
      injection he8 with he81 he82
      subst he81 he82
      by_cases hj0 : j = 0
      · have d0 : decide ((at0 : Int) < ((at0 + j : Nat) : Int)) = false := decide_eq_false (by omega)
        repeat' (first | refine VC_seq ?_ | refine VC_region ?_ | refine VL_nil ?_ | refine VC_block ?_ | refine VC_skip ?_ | refine klt ?_ | ((apply VL_q); (first | exact qmv (by rfl) | exact ql1 (by rfl) | exact qfa (by rfl) | exact qcp (by rfl) | exact qad (by rfl)); rfl) | refine ctr ?_)
        refine VL_unname 3 45 (by rfl) (by rfl) ?_
        repeat' (first | refine kap ?_ | ((apply VL_q); (exact qfa (by rfl)); rfl))
        refine VL_nameR 5 (by rfl) (fun vK hvK => ?_)
        obtain ⟨gK, kK, rfl⟩ := hvK.some (by omega)
        repeat' (first | refine VC_seq ?_ | refine VC_region ?_ | refine VL_nil ?_ | refine VC_skip ?_ | refine kst ?_ | ((apply VL_q); (first | exact qmv (by rfl) | exact qas (by rfl) | exact qcp (by rfl) | exact qad (by rfl)); rfl) | refine cfa ?_)
        have hp0 : psJ ps at0 (j + 1) = psJ ps at0 j := by rw [hj0]; rfl
        refine forQ_next (Q := fun _ _ => True) [0, 1, 2, 5] (j + 1, uP, .slice (some ⟨gK, 0, none⟩) (j + 1) kK) ⟨rfl, rfl, ⟨rfl, rfl, ?_, ?_, trivial⟩, ⟨rfl, rfl, rfl, rfl, rfl, rfl, rfl, rfl, rfl, rfl, trivial⟩⟩ ⟨Nat.succ_le_of_lt hjl, ?_, ⟨some ⟨gK, 0, none⟩, kK, rfl⟩⟩ (by show sz - (j + 1) < sz - j; omega)
        · show _ = some (Ob.nrow uP _ 1 (j + 1 - 1) ((psJ ps at0 (j + 1)).flatMap strCells))
          rw [hp0, show j + 1 - 1 = j - 1 by omega]; rfl
        · show _ = some (Ob.nrow (.slice (some ⟨gK, 0, none⟩) (j + 1) kK) _ 1 (j + 1) ((ksJ from0 at0 (j + 1)).flatMap intCells))
          rw [hkst]; rfl
        · show ∃ A c, uP = .slice A (j + 1 - 1) c
          rw [show j + 1 - 1 = j - 1 by omega]; exact hsP
      · have d0 : decide ((at0 : Int) < ((at0 + j : Nat) : Int)) = true := decide_eq_true (by omega)
        have hloj := loP_at haj
        generalize ps[at0 + j] = ej at *
        have hpst' := hpst (by omega)
        rw [hloj] at hpst'
        obtain ⟨AP0, cP0, rfl⟩ := hsP
        repeat' (first | refine VC_seq ?_ | refine VC_region ?_ | refine VL_nil ?_ | refine VC_block ?_ | refine VC_skip ?_ | refine klt ?_ | ((apply VL_q); (first | exact qmv (by rfl) | exact ql1 (by rfl) | exact qfa (by rfl) | exact qcp (by rfl) | exact qad (by rfl)); rfl) | refine ctr ?_)
        refine VL_unname 3 45 (by rfl) (by rfl) ?_
        repeat' (first | refine kap ?_ | ((apply VL_q); (exact qfa (by rfl)); rfl))
        refine VL_nameR 5 (by rfl) (fun vK hvK => ?_)
        obtain ⟨gK, kK, rfl⟩ := hvK.some (by omega)
        repeat' (first | refine VC_seq ?_ | refine VC_region ?_ | refine VL_nil ?_ | refine kst ?_ | ((apply VL_q); (first | exact qmv (by rfl) | exact qcp (by rfl)); rfl) | refine ctr ?_)
        refine VC_drawG [1, 2] [2, 8, 9, 12] (by decide +kernel) (by rfl) (by rfl) ?_
        repeat' (first | refine VQm_nil ?_ | refine VQm_e (by rfl) ?_ | refine VQm_q (by rfl) _ (by exact wno (by first | exact QS_indexAddr (at0 + j) (by rfl) (by rfl) (by omega) (by omega) | exact QS_mload1 (by rfl) (hcJ _ _ (by rfl)) | exact qmv (by rfl) | exact qfa (by rfl) | exact qmf (by rfl))) (by rfl) (by rfl) ?_ | refine VF_done ?_ | refine VF_step ?_ | exact VFs_nil | refine VFs_x _ _ _ _ (by rfl) (EX_appendN (i := 2) (j := 6) (bytes := 16) (by rfl) (by rfl) (by rfl) (by rfl) (by decide) (by omega) rfl (by unfold maxLen; omega) (by omega)) (by rfl) (fun ⟨gP, kP⟩ => ⟨Mem.le_refl _, by rfl, ?_⟩) ?_ | refine VFs_e (by rfl) _ _ (by exact fno (by first | exact elt (by rfl) | exact fst1 (by rfl) | exact fq (by exact ql1 (by rfl)))) (by rfl) (by rfl) ?_ ?_)
        all_goals
          repeat' (first | refine VC_region ?_ | refine VL_nil ?_ | ((apply VL_q); (first | exact qmv (by rfl) | exact qas (by rfl) | exact qad (by rfl)); rfl))
          refine forQ_next (Q := fun _ _ => True) [0, 1, 7, 5] (j + 1, .slice (some ⟨gP, 0, none⟩) (j - 1 + 1) kP, .slice (some ⟨gK, 0, none⟩) (j + 1) kK) ⟨rfl, rfl, ⟨rfl, rfl, ?_, ?_, trivial⟩, ⟨rfl, rfl, rfl, rfl, rfl, rfl, rfl, rfl, rfl, rfl, trivial⟩⟩ ⟨Nat.succ_le_of_lt hjl, ⟨some ⟨gP, 0, none⟩, kP, by show Value.slice _ (j - 1 + 1) _ = Value.slice _ (j + 1 - 1) _; rw [show j - 1 + 1 = j + 1 - 1 by omega]⟩, ⟨some ⟨gK, 0, none⟩, kK, rfl⟩⟩ (by show sz - (j + 1) < sz - j; omega)
          · show _ = some (Ob.nrow (.slice (some ⟨gP, 0, none⟩) (j - 1 + 1) kP) _ 1 (j + 1 - 1) ((psJ ps at0 (j + 1)).flatMap strCells))
            rw [hpst', show j + 1 - 1 = j - 1 + 1 by omega]; rfl
          · show _ = some (Ob.nrow (.slice (some ⟨gK, 0, none⟩) (j + 1) kK) _ 1 (j + 1) ((ksJ from0 at0 (j + 1)).flatMap intCells))
            rw [hkst]; rfl
    · have dj : decide (((at0 + j : Nat) : Int) < (at0 : Int) + (sz : Int)) = false := decide_eq_false (by omega)
      obtain rfl : j = sz := by omega
      obtain ⟨AP, cP, rfl⟩ := hsP
      obtain ⟨AK, cK, rfl⟩ := hsK
      refine VC_frzN 2 (by rfl) (fun M2 hle2 hr2 => ?_)
      refine VC_frzN 3 (by rfl) (fun M3 hle3 hr3 => ?_)
      have hlP := psJ_len ps at0 j
      have hlK := ksJ_len from0 at0 j
      have hsl2 : SlM M2 1 strCells (.slice AP (j - 1) cP) (psJ ps at0 j) := RowM.slM (fun _ _ => rfl) (by rw [hlP]; exact hr2)
      have hsl3 : SlM M3 1 intCells (.slice AK j cK) (ksJ from0 at0 j) := RowM.slM (fun _ _ => rfl) (by rw [hlK]; exact hr3)
      have hM3 := hle2.trans hle3
      have fin1 : ∀ a ∈ acc ++ [((⟨0, e0.1.level + 1, .slice AP (j - 1) cP, psJ ps at0 j, .slice AK j cK, ksJ from0 at0 j, ⟨#[]⟩, false, 0, 0, .slice none 0 0, [], .slice none 0 0, []⟩, eat.2) : Bn)], a.1.Ok M3 := fun a ha => by
        rcases List.mem_append.1 ha with h | h
        · exact (hokx a h).mono hM3
        · rw [List.mem_singleton.1 h]
          exact ⟨hsl2.mono hle3, hsl3, SlM.nil _ _ _, SlM.nil _ _ _⟩
      have fin2 := map_snoc (f := stripB) (g := aboveX ps p from0 lev) (acc := acc) (x := ((⟨0, e0.1.level + 1, .slice AP (j - 1) cP, psJ ps at0 j, .slice AK j cK, ksJ from0 at0 j, ⟨#[]⟩, false, 0, 0, .slice none 0 0, [], .slice none 0 0, []⟩, eat.2) : Bn)) (by rw [hkk]; exact hacc) (by rw [hkk, hab, hloat, ← hlv0]; rfl)
      repeat' (first | refine VC_seq ?_ | refine VC_region ?_ | refine VL_nil ?_ | refine VC_exit ?_ | refine kl1 ?_ | refine kap ?_ | ((apply VL_q); (first | exact qmv (by rfl) | exact qas (by rfl) | exact qlA (by rfl) | exact qcp (by rfl) | exact qad (by rfl)); rfl) | refine cfa ?_)
      refine forQ_next (Q := fun _ _ => True) [5] (acc ++ [((⟨0, e0.1.level + 1, .slice AP (j - 1) cP, psJ ps at0 j, .slice AK j cK, ksJ from0 at0 j, ⟨#[]⟩, false, 0, 0, .slice none 0 0, [], .slice none 0 0, []⟩, eat.2) : Bn)], M3) ⟨rfl, rfl, ⟨row ((⟨0, e0.1.level + 1, .slice AP (j - 1) cP, psJ ps at0 j, .slice AK j cK, ksJ from0 at0 j, ⟨#[]⟩, false, 0, 0, .slice none 0 0, [], .slice none 0 0, []⟩, eat.2) : Bn), trivial⟩, ⟨rfl, rfl, rfl, ?_, rfl, rfl, ?_, trivial⟩⟩ ⟨(hMx.trans hle2).trans hle3, by rw [lenx]; omega, fin1, fin2⟩ (by show p - (acc ++ [_]).length < p - k; rw [lenx]; omega)
      · show _ = some (SV.v (.int .i64 ((offE ps.length p (acc ++ [_]).length : Nat) : Int)))
        refine Eq.trans (b := some (SV.v (.int .i64 ((at0 : Int) + (j : Int))))) rfl ?_
        rw [lenx, e9]
      · show _ = some (SV.v (.int .i64 (((acc ++ [_]).length : Nat) : Int)))
        rw [lenx]; rfl
  · have hdk : decide (((k : Nat) : Int) < (L.length : Int)) = false := dge (by omega)
    obtain rfl : k = p := by omega
    repeat' (first | refine VC_seq ?_ | refine VC_region ?_ | refine VL_nil ?_ | refine VC_ret ?_ | refine VC_exit ?_ | ((apply VL_q); (first | exact qmv (by rfl) | exact qas (by rfl) | exact qcp (by rfl)); rfl) | refine cfa ?_)
    refine .inr ⟨0, _, _, _, _, rfl, fun u M' hle hu => ⟨_, Res.one (by rfl) (ResV_tmp (by rfl) rfl), acc, RowM.slM (fun _ _ => rfl) (by rw [hkk]; exact hu), fun a ha => (hokx a ha).mono hle, hacc⟩⟩
end Go.Proofs.Ytclbmfepdlffnaa
