/- The walk of ImageBytes. -/
import Derived.Test.YtlapnbklbpeddaaGreatPIm23
namespace Go.Proofs.YtlapnbklbpeddaaGreat.lawImageBytes
open Go Go.RowKit
set_option linter.unusedVariables false
set_option maxRecDepth 20000
set_option linter.unusedSimpArgs false
set_option maxHeartbeats 4000000
attribute [local irreducible] Calls
/-- Are the first k nodes placed? -/
def plK (l : List Nd) (k : Nat) : Bool := decide (∀ i (h : i < l.length), i < k → l[i].slot = (i : Int))
theorem plK_zero (l : List Nd) : plK l 0 = true := decide_eq_true fun i _ h => absurd h (by omega)
theorem plK_all (l : List Nd) : plK l l.length = placedB l := by
  unfold plK placedB
  exact decide_eq_decide.2 ⟨fun h i hi => h i hi hi, fun h i hi _ => h i hi⟩
theorem plK_step {l : List Nd} {k : Nat} (h : k < l.length) : plK l (k + 1) = (plK l k && (l[k].slot == (k : Int))) := by
  unfold plK
  by_cases hp : ∀ i (h : i < l.length), i < k → l[i].slot = (i : Int)
  · rw [decide_eq_true hp, Bool.true_and]
    by_cases he : l[k].slot = (k : Int)
    · rw [beq_iff_eq.2 he]
      refine decide_eq_true fun i hi hik => ?_
      rcases Nat.lt_or_ge i k with h2 | h2
      · exact hp i hi h2
      · obtain rfl : i = k := by omega
        exact he
    · rw [beq_eq_false_iff_ne.2 he]
      exact decide_eq_false fun hh => he (hh k h (by omega))
  · rw [decide_eq_false hp, Bool.false_and]
    exact decide_eq_false fun hh => hp fun i hi hik => hh i hi (by omega)
theorem walk (c : Cfg) (v : Value) (l : List Nd) (w : World) (hl : Sl w 10 ndCells v l) (hn : ∀ a ∈ l, a.Ok (Mem.of w) ∧ a.In) (hlen : l.length * 152 ≤ 140737488351232) :
    Calls Tryz.prog 3 #[.agg #[.int .i64 c.fanout, .int .i64 c.leaf, .int .i64 c.budget, .int .i64 c.slots, .int .i64 c.restarts], v] w fun e w' => e = .returned (.bool true) ∧ Below w.heap.size w w' := by
  have hM := hl.toM
  have cA := fun W => image_awake W
  have c1 := fun W (hW : (Mem.of w).le (Mem.of W)) => ref_LightN v l 60 1000 W (Mem.of w) hW hM (fun a ha => (hn a ha).1) (fun a ha => (hn a ha).2) (by omega) (by omega) (by omega)
  obtain ⟨A, ca, rfl, hc1, hc2, _⟩ := id hM
  cases hL : lightL 60 1000 l with
  | false =>
    rw [hL] at c1
    refine V_flat (args := [.agg #[.int .i64 c.fanout, .int .i64 c.leaf, .int .i64 c.budget, .int .i64 c.slots, .int .i64 c.restarts], .slice A l.length ca]) (M := Mem.of w) Tryz.func3 rfl Tryz.ntmps3 (by rfl) (Mem.le_refl _) ?_
    repeat' (first | refine VC_seq ?_ | refine VC_region ?_ | refine VL_nil ?_ | refine VC_ret ?_ | refine kbox ?_ | ((apply VL_q); (first | exact QS_call (by rfl) c1 | exact QS_call (by rfl) (fun W _ => cA W) | exact qmv (by rfl) | exact qas (by rfl) | exact qno (by rfl)); rfl) | refine ctr ?_)
    show Res _ _ _ _
    refine Res.one (by rfl) (ResV_tmp (by rfl) ?_)
    rfl
  | true =>
    rw [hL] at c1
    have hN := light_nds (M := Mem.of w) (fun a ha => (hn a ha).1) (fun a ha => (hn a ha).2) (by omega) (by omega) hL
    have c2 := fun W (hW : (Mem.of w).le (Mem.of W)) => image_Bytes c _ l W (Mem.of w) hW hM hN
    have c3 := fun W (hW : (Mem.of w).le (Mem.of W)) => image_Size c _ l W (Mem.of w) hW hM hN
    have c4 := fun W => ref_RightC c W
    have c5 := fun W (hW : (Mem.of w).le (Mem.of W)) => ref_Sound c _ l W (Mem.of w) hW hM hN
    have hlen2 := hN.len
    have hpa0 : Unit → plK l l.length = placedB l := fun _ => plK_all l
    have h60 : l.length ≤ 60 := by
      unfold lightL at hL
      simp only [Bool.and_eq_true, Bool.not_eq_true', decide_eq_false_iff_not] at hL
      omega
    clear hL
    by_cases hq : okC c = true ∧ placedB l = true
    · obtain ⟨q1, q2⟩ := hq
      rw [q1] at c4
      have hpa : Unit → plK l l.length = true := fun _ => by rw [hpa0 (), q2]
      cases hs : soundR c l with
      | false =>
        rw [bytes_bad q1 q2 hs] at c2 c3
        rw [hs] at c5
        clear hs q1 q2
        refine V_flat (args := [.agg #[.int .i64 c.fanout, .int .i64 c.leaf, .int .i64 c.budget, .int .i64 c.slots, .int .i64 c.restarts], .slice A l.length ca]) (M := Mem.of w) Tryz.func3 rfl Tryz.ntmps3 (by rfl) (Mem.le_refl _) ?_
        repeat' (first | refine VC_seq ?_ | refine VC_region ?_ | refine VL_nil ?_ | refine VC_block ?_ | refine VC_skip ?_ | refine kbox ?_ | ((apply VL_q); (first | exact QS_call (by rfl) c1 | exact QS_call (by rfl) c2 | exact qmv (by rfl) | exact qas (by rfl) | exact qlA (by rfl) | exact qno (by rfl) | exact qex (by rfl) | exact qln (by rfl)); rfl) | refine cfa ?_)
        refine VC_for (fun k : Nat => ⟨Mem.of w, [.blk 23 [.int .i64 c.fanout, .int .i64 c.leaf, .int .i64 c.budget, .int .i64 c.slots, .int .i64 c.restarts]], [(1, .v (.slice A l.length ca)), (2, .p 0 0), (5, .v (.string (em))), (6, .v (.int .i64 3)), (7, .v (.bool (plK l k))), (23, .v (.slice A l.length ca)), (24, .v (.int .i64 l.length)), (25, .v (.int .i64 k))]⟩) (fun k => k ≤ l.length) (fun k => l.length - k) [0] 0 ⟨rfl, rfl, ⟨rfl, trivial⟩, ⟨rfl, rfl, rfl, rfl, by rw [plK_zero]; rfl, rfl, rfl, rfl, trivial⟩⟩ (by omega) ?_
        intro k hk
        rcases Nat.lt_or_ge k l.length with hlt | hge
        · have hd := dlt hlt
          have hst := plK_step hlt
          obtain ⟨b, off, rfl, hcA⟩ := hM.get hlt
          have h1 := nd_one (hN.ok _ (List.getElem_mem hlt))
          generalize l[k] = nk at *
          generalize hp0 : plK l k = pk at hst ⊢
          clear hp0
          have hst0 : Unit → plK l (k + 1) = (pk && (nk.slot == (k : Int))) := fun _ => hst
          clear hst
          cases pk with
          | false =>
            have hst : Unit → plK l (k + 1) = false := fun _ => by rw [hst0 (), Bool.false_and]
            repeat' (first | refine ksN ?_ (hu := h1) | refine VC_seq ?_ | refine VC_region ?_ | refine VL_nil ?_ | refine VC_block ?_ | refine VC_skip ?_ | refine kall ?_ | ((apply VL_q); (first | exact QS_indexAddr (k) (by rfl) (by rfl) (by omega) (by omega) | exact QS_mloadN _ (by rfl) hcA _ (by rfl) | exact qmv (by rfl) | exact qas (by rfl) | exact qpf (by rfl) | exact qcp (by rfl) | exact qad (by rfl)); rfl) | refine kno ?_ | refine ctr ?_)
            exact forQ_next (Q := fun _ _ => True) [0] (k + 1) ⟨rfl, rfl, ⟨rfl, trivial⟩, ⟨rfl, rfl, rfl, rfl, by rw [hst ()]; rfl, rfl, rfl, rfl, trivial⟩⟩ (by omega) (by omega)
          | true =>
            have hst : Unit → plK l (k + 1) = (nk.slot == (k : Int)) := fun _ => by rw [hst0 (), Bool.true_and]
            repeat' (first | refine ksN ?_ (hu := h1) | refine VC_seq ?_ | refine VC_region ?_ | refine VL_nil ?_ | refine VC_block ?_ | refine VC_skip ?_ | refine kall ?_ | ((apply VL_q); (first | exact QS_indexAddr (k) (by rfl) (by rfl) (by omega) (by omega) | exact QS_mloadN _ (by rfl) hcA _ (by rfl) | exact qmv (by rfl) | exact qas (by rfl) | exact ql1 (by rfl) | exact qfa (by rfl) | exact qpt (by rfl) | exact qcp (by rfl) | exact qad (by rfl)); rfl) | refine kyes ?_ | refine ctr ?_)
            exact forQ_next (Q := fun _ _ => True) [0] (k + 1) ⟨rfl, rfl, ⟨rfl, trivial⟩, ⟨rfl, rfl, rfl, rfl, by rw [hst ()]; rfl, rfl, rfl, rfl, trivial⟩⟩ (by omega) (by omega)
        have hd := dge hge
        obtain rfl : k = l.length := by omega
        rw [hpa ()]
        repeat' (first | refine VC_seq ?_ | refine VC_region ?_ | refine VL_nil ?_ | refine VC_ret ?_ | refine VC_exit ?_ | refine VC_skip ?_ | ((apply VL_q); (first | exact QS_call (by rfl) (fun W _ => c4 W) | exact QS_call (by rfl) c3 | exact QS_call (by rfl) c5 | exact QS_call (by rfl) (fun W _ => cA W) | exact qmv (by rfl) | exact qas (by rfl) | exact qlA (by rfl) | exact qno (by rfl) | exact qpt (by rfl) | exact qpf (by rfl) | exact qcp (by rfl)); rfl) | refine kyes ?_ | refine ctr ?_ | refine cfa ?_)
        show Res _ _ _ _
        refine Res.one (by rfl) (ResV_tmp (by rfl) ?_)
        rfl
      | true =>
        obtain ⟨hn4, hfit⟩ := sound_fit q1 hN.inn hs
        have hz := imgB_le (c := c) hn4 hfit
        have hz2 : (imgB c l).size ≤ 100000000 := by
          have a1 := catB_le nodeB (n := 80000) l (fun a ha => nodeB_le (hfit a ha))
          unfold imgB cfgB
          simp only [size_app, numB_size]
          have : markB.size = 4 := rfl
          omega
        obtain ⟨r1, r2, r3⟩ := rd_back q1 q2 hs hn4 hfit
        have hr1 : (rdC (imgB c l)).1 = c := by rw [r1]
        have hr2 : (rdL (imgB c l)).1 = l.map strip := by rw [r2]
        have c6 : ∀ W, (Mem.of w).le (Mem.of W) → Calls Tryz.prog 11 #[.string (imgB c l)] W (RetM (Mem.of w) W (ReadPost (imgB c l))) := fun W hW => image_Read _ W (Mem.of w) hW hz2 (by
          rw [hr2]
          intro a ha
          obtain ⟨x, hx, rfl⟩ := List.mem_map.1 ha
          exact big_strip (b := x) (strip_strip x) ⟨hN.big x hx, hN.inn x hx⟩) (by rw [hr2, List.length_map]; exact hlen2)
        have c7 := fun W (hW : (Mem.of w).le (Mem.of W)) => ref_ImageB c _ l W (Mem.of w) hW hM hN.ok q1 hn4 hfit
        rw [bytes_ok q1 q2 hs] at c2 c3
        rw [hs] at c5
        have hr3 : Unit → rdB (imgB c l) = true := fun _ => r3
        have hr2' : Unit → (rdL (imgB c l)).1 = l.map strip := fun _ => hr2
        have hr1' : Unit → (rdC (imgB c l)).1 = c := fun _ => hr1
        clear r1 r2 r3 hs q1 q2 hr1 hr2
        generalize imgB c l = s at *
        refine V_flat (args := [.agg #[.int .i64 c.fanout, .int .i64 c.leaf, .int .i64 c.budget, .int .i64 c.slots, .int .i64 c.restarts], .slice A l.length ca]) (M := Mem.of w) Tryz.func3 rfl Tryz.ntmps3 (by rfl) (Mem.le_refl _) ?_
        repeat' (first | refine VC_seq ?_ | refine VC_region ?_ | refine VL_nil ?_ | refine VC_block ?_ | refine VC_skip ?_ | refine kbox ?_ | ((apply VL_q); (first | exact QS_call (by rfl) c1 | exact QS_call (by rfl) c2 | exact qmv (by rfl) | exact qas (by rfl) | exact qlA (by rfl) | exact qno (by rfl) | exact qex (by rfl) | exact qln (by rfl)); rfl) | refine cfa ?_)
        refine VC_for (fun k : Nat => ⟨Mem.of w, [.blk 23 [.int .i64 c.fanout, .int .i64 c.leaf, .int .i64 c.budget, .int .i64 c.slots, .int .i64 c.restarts]], [(1, .v (.slice A l.length ca)), (2, .p 0 0), (5, .v (.string (s))), (6, .v (.int .i64 0)), (7, .v (.bool (plK l k))), (23, .v (.slice A l.length ca)), (24, .v (.int .i64 l.length)), (25, .v (.int .i64 k))]⟩) (fun k => k ≤ l.length) (fun k => l.length - k) [0] 0 ⟨rfl, rfl, ⟨rfl, trivial⟩, ⟨rfl, rfl, rfl, rfl, by rw [plK_zero]; rfl, rfl, rfl, rfl, trivial⟩⟩ (by omega) ?_
        intro k hk
        rcases Nat.lt_or_ge k l.length with hlt | hge
        · have hd := dlt hlt
          have hst := plK_step hlt
          obtain ⟨b, off, rfl, hcA⟩ := hM.get hlt
          have h1 := nd_one (hN.ok _ (List.getElem_mem hlt))
          generalize l[k] = nk at *
          generalize hp0 : plK l k = pk at hst ⊢
          clear hp0
          have hst0 : Unit → plK l (k + 1) = (pk && (nk.slot == (k : Int))) := fun _ => hst
          clear hst
          cases pk with
          | false =>
            have hst : Unit → plK l (k + 1) = false := fun _ => by rw [hst0 (), Bool.false_and]
            repeat' (first | refine ksN ?_ (hu := h1) | refine VC_seq ?_ | refine VC_region ?_ | refine VL_nil ?_ | refine VC_block ?_ | refine VC_skip ?_ | refine kall ?_ | ((apply VL_q); (first | exact QS_indexAddr (k) (by rfl) (by rfl) (by omega) (by omega) | exact QS_mloadN _ (by rfl) hcA _ (by rfl) | exact qmv (by rfl) | exact qas (by rfl) | exact qpf (by rfl) | exact qcp (by rfl) | exact qad (by rfl)); rfl) | refine kno ?_ | refine ctr ?_)
            exact forQ_next (Q := fun _ _ => True) [0] (k + 1) ⟨rfl, rfl, ⟨rfl, trivial⟩, ⟨rfl, rfl, rfl, rfl, by rw [hst ()]; rfl, rfl, rfl, rfl, trivial⟩⟩ (by omega) (by omega)
          | true =>
            have hst : Unit → plK l (k + 1) = (nk.slot == (k : Int)) := fun _ => by rw [hst0 (), Bool.true_and]
            repeat' (first | refine ksN ?_ (hu := h1) | refine VC_seq ?_ | refine VC_region ?_ | refine VL_nil ?_ | refine VC_block ?_ | refine VC_skip ?_ | refine kall ?_ | ((apply VL_q); (first | exact QS_indexAddr (k) (by rfl) (by rfl) (by omega) (by omega) | exact QS_mloadN _ (by rfl) hcA _ (by rfl) | exact qmv (by rfl) | exact qas (by rfl) | exact ql1 (by rfl) | exact qfa (by rfl) | exact qpt (by rfl) | exact qcp (by rfl) | exact qad (by rfl)); rfl) | refine kyes ?_ | refine ctr ?_)
            exact forQ_next (Q := fun _ _ => True) [0] (k + 1) ⟨rfl, rfl, ⟨rfl, trivial⟩, ⟨rfl, rfl, rfl, rfl, by rw [hst ()]; rfl, rfl, rfl, rfl, trivial⟩⟩ (by omega) (by omega)
        have hd := dge hge
        obtain rfl : k = l.length := by omega
        rw [hpa ()]
        repeat' (first | refine VC_seq ?_ | refine VC_region ?_ | refine VL_nil ?_ | refine VC_exit ?_ | refine VC_skip ?_ | ((apply VL_q); (first | exact QS_call (by rfl) (fun W _ => c4 W) | exact QS_call (by rfl) c5 | exact qmv (by rfl) | exact qlA (by rfl) | exact qno (by rfl) | exact qpf (by rfl) | exact qcp (by rfl)); rfl) | refine kyes ?_ | refine cfa ?_)
        refine VL_callM (by rfl) c6 (by rfl) (fun r M2 hle2 hpost => ?_)
        rcases hpost with ⟨-, X, u, rfl, hX, hXs, hXn⟩ | ⟨hb, -⟩
        · rw [hr2' ()] at hXs
          rw [hr1' ()]
          have hM2 := hM.mono hle2
          have c8 := fun W (hW : M2.le (Mem.of W)) => ref_AllS u _ X l W M2 hW hX hM2 hXn.ok (fun a ha => (hN.ok a ha).mono hle2) hXs (by omega)
          obtain ⟨B, cb, rfl, _⟩ := id hX
          have c3' := fun W (hW : M2.le (Mem.of W)) => c3 W (hle2.trans hW)
          have c7' := fun W (hW : M2.le (Mem.of W)) => c7 W (hle2.trans hW)
          have e1 : decide (s = s) = true := decide_eq_true rfl
          have e2 : ((s.size : Int) == (s.size : Int)) = true := by simp
          have e3 : eqv c c = true := eqv_self _
          repeat' (first | refine VC_seq ?_ | refine VC_region ?_ | refine VL_nil ?_ | refine VC_ret ?_ | refine kall ?_ | refine ksN ?_ | ((apply VL_q); (first | exact QS_call (by rfl) c3' | exact QS_call (by rfl) c7' | exact QS_call (by rfl) c8 | exact QS_call (by rfl) (fun W _ => cA W) | exact qmv (by rfl) | exact qas (by rfl) | exact qlA (by rfl) | exact qex (by rfl) | exact qls (by rfl) | exact qpt (by rfl) | exact qcp (by rfl) | exact QS_bin (by rfl) (by rfl) (by exact Bq_eql_Cfg)); rfl) | refine kyes ?_)
          show Res _ _ _ _
          refine Res.one (by rfl) (ResV_tmp (by rfl) ?_)
          rfl
        · rw [hr3 ()] at hb; cases hb
    · rw [bytes_no (by
        cases h1 : okC c with
        | false => exact .inl rfl
        | true =>
          refine .inr ?_
          cases h2 : placedB l with
          | false => rfl
          | true => exact absurd ⟨h1, h2⟩ hq)] at c2 c3
      have hpa := hpa0
      have hqq : Unit → ¬(okC c = true ∧ placedB l = true) := fun _ => hq
      clear hq
      refine V_flat (args := [.agg #[.int .i64 c.fanout, .int .i64 c.leaf, .int .i64 c.budget, .int .i64 c.slots, .int .i64 c.restarts], .slice A l.length ca]) (M := Mem.of w) Tryz.func3 rfl Tryz.ntmps3 (by rfl) (Mem.le_refl _) ?_
      repeat' (first | refine VC_seq ?_ | refine VC_region ?_ | refine VL_nil ?_ | refine VC_block ?_ | refine VC_skip ?_ | refine kbox ?_ | ((apply VL_q); (first | exact QS_call (by rfl) c1 | exact QS_call (by rfl) c2 | exact qmv (by rfl) | exact qas (by rfl) | exact qlA (by rfl) | exact qno (by rfl) | exact qex (by rfl) | exact qln (by rfl)); rfl) | refine cfa ?_)
      refine VC_for (fun k : Nat => ⟨Mem.of w, [.blk 23 [.int .i64 c.fanout, .int .i64 c.leaf, .int .i64 c.budget, .int .i64 c.slots, .int .i64 c.restarts]], [(1, .v (.slice A l.length ca)), (2, .p 0 0), (5, .v (.string (em))), (6, .v (.int .i64 2)), (7, .v (.bool (plK l k))), (23, .v (.slice A l.length ca)), (24, .v (.int .i64 l.length)), (25, .v (.int .i64 k))]⟩) (fun k => k ≤ l.length) (fun k => l.length - k) [0] 0 ⟨rfl, rfl, ⟨rfl, trivial⟩, ⟨rfl, rfl, rfl, rfl, by rw [plK_zero]; rfl, rfl, rfl, rfl, trivial⟩⟩ (by omega) ?_
      intro k hk
      rcases Nat.lt_or_ge k l.length with hlt | hge
      · have hd := dlt hlt
        have hst := plK_step hlt
        obtain ⟨b, off, rfl, hcA⟩ := hM.get hlt
        have h1 := nd_one (hN.ok _ (List.getElem_mem hlt))
        generalize l[k] = nk at *
        generalize hp0 : plK l k = pk at hst ⊢
        clear hp0
        have hst0 : Unit → plK l (k + 1) = (pk && (nk.slot == (k : Int))) := fun _ => hst
        clear hst
        cases pk with
        | false =>
          have hst : Unit → plK l (k + 1) = false := fun _ => by rw [hst0 (), Bool.false_and]
          repeat' (first | refine ksN ?_ (hu := h1) | refine VC_seq ?_ | refine VC_region ?_ | refine VL_nil ?_ | refine VC_block ?_ | refine VC_skip ?_ | refine kall ?_ | ((apply VL_q); (first | exact QS_indexAddr (k) (by rfl) (by rfl) (by omega) (by omega) | exact QS_mloadN _ (by rfl) hcA _ (by rfl) | exact qmv (by rfl) | exact qas (by rfl) | exact qpf (by rfl) | exact qcp (by rfl) | exact qad (by rfl)); rfl) | refine kno ?_ | refine ctr ?_)
          exact forQ_next (Q := fun _ _ => True) [0] (k + 1) ⟨rfl, rfl, ⟨rfl, trivial⟩, ⟨rfl, rfl, rfl, rfl, by rw [hst ()]; rfl, rfl, rfl, rfl, trivial⟩⟩ (by omega) (by omega)
        | true =>
          have hst : Unit → plK l (k + 1) = (nk.slot == (k : Int)) := fun _ => by rw [hst0 (), Bool.true_and]
          repeat' (first | refine ksN ?_ (hu := h1) | refine VC_seq ?_ | refine VC_region ?_ | refine VL_nil ?_ | refine VC_block ?_ | refine VC_skip ?_ | refine kall ?_ | ((apply VL_q); (first | exact QS_indexAddr (k) (by rfl) (by rfl) (by omega) (by omega) | exact QS_mloadN _ (by rfl) hcA _ (by rfl) | exact qmv (by rfl) | exact qas (by rfl) | exact ql1 (by rfl) | exact qfa (by rfl) | exact qpt (by rfl) | exact qcp (by rfl) | exact qad (by rfl)); rfl) | refine kyes ?_ | refine ctr ?_)
          exact forQ_next (Q := fun _ _ => True) [0] (k + 1) ⟨rfl, rfl, ⟨rfl, trivial⟩, ⟨rfl, rfl, rfl, rfl, by rw [hst ()]; rfl, rfl, rfl, rfl, trivial⟩⟩ (by omega) (by omega)
      have hd := dge hge
      obtain rfl : k = l.length := by omega
      rw [hpa ()]
      cases h1 : okC c with
      | false =>
        rw [h1] at c4
        clear hpa hpa0 hqq h1
        generalize placedB l = pb at *
        repeat' (first | refine VC_seq ?_ | refine VC_region ?_ | refine VL_nil ?_ | refine VC_ret ?_ | refine VC_exit ?_ | ((apply VL_q); (first | exact QS_call (by rfl) (fun W _ => c4 W) | exact QS_call (by rfl) c3 | exact QS_call (by rfl) (fun W _ => cA W) | exact qmv (by rfl) | exact qas (by rfl) | exact qlA (by rfl) | exact qno (by rfl) | exact qpt (by rfl) | exact qcp (by rfl)); rfl) | refine kyes ?_ | refine kno ?_ | refine ctr ?_ | refine cfa ?_)
        show Res _ _ _ _
        refine Res.one (by rfl) (ResV_tmp (by rfl) ?_)
        rfl
      | true =>
        rw [h1] at c4
        have h2 : placedB l = false := by
          cases h2 : placedB l with
          | false => rfl
          | true => exact absurd ⟨h1, h2⟩ (hqq ())
        rw [h2]
        clear h2
        repeat' (first | refine VC_seq ?_ | refine VC_region ?_ | refine VL_nil ?_ | refine VC_ret ?_ | refine VC_exit ?_ | ((apply VL_q); (first | exact QS_call (by rfl) (fun W _ => c4 W) | exact QS_call (by rfl) c3 | exact QS_call (by rfl) (fun W _ => cA W) | exact qmv (by rfl) | exact qas (by rfl) | exact qlA (by rfl) | exact qno (by rfl) | exact qpt (by rfl) | exact qpf (by rfl) | exact qcp (by rfl)); rfl) | refine kyes ?_ | refine ctr ?_ | refine cfa ?_)
        show Res _ _ _ _
        refine Res.one (by rfl) (ResV_tmp (by rfl) ?_)
        rfl
end Go.Proofs.YtlapnbklbpeddaaGreat.lawImageBytes
