/- The walk of SoundParts. -/
import Derived.Test.YtlapnbklbpeddaaPSpB
namespace Go.Proofs.Ytlapnbklbpeddaa.lawSoundParts
open Go Go.RowKit
set_option linter.unusedVariables false
set_option maxRecDepth 20000
set_option linter.unusedSimpArgs false
set_option maxHeartbeats 8000000
attribute [local irreducible] Calls
theorem wrapu_bd (n : Int) : 0 ≤ IntKind.u64.wrap n ∧ IntKind.u64.wrap n ≤ 18446744073709551615 := by
  have h : IntKind.u64.wrap n = n % 18446744073709551616 := by simp [IntKind.wrap, IntKind.bits, IntKind.signed]
  rw [h]
  omega
theorem B_remw {P : Program} {x y : Operand} {t : TypeId} {a b : Int} (ha : 0 ≤ a) (hb : 0 < b) (hm : a ≤ 18446744073709551615) : Bin P .rem t x y (.int .u64 a) (.int .u64 b) (.int .u64 (a % b)) := .mk fun W => by
  have h1 : 0 ≤ a % b := Int.emod_nonneg a (by omega)
  have h2 : a % b ≤ a := by
    rcases Int.lt_or_le a b with h | h
    · rw [Int.emod_eq_of_lt ha h]; omega
    · have := Int.emod_lt_of_pos a hb; omega
  have h3 : a.tmod b = a % b := Int.tmod_eq_emod_of_nonneg ha
  have h4 : b ≠ 0 := by omega
  have h5 : IntKind.u64.wrap (a % b) = a % b := by
    have h : IntKind.u64.wrap (a % b) = (a % b) % 18446744073709551616 := by simp [IntKind.wrap, IntKind.bits, IntKind.signed]
    rw [h]; omega
  simp [go_sem, h3, h4, h5]
theorem flat_set (f : Nd → Nd) (j : Nat) (v : Value) (hj : ∀ n, (ndCells n).set j v = ndCells (f n)) (hj10 : j < 10) : ∀ (l : List Nd) (i : Nat) (hi : i < l.length), (l.flatMap ndCells).set (i * 10 + j) v = (l.set i (f l[i])).flatMap ndCells
  | [], _, hi => by simp at hi
  | n :: l, 0, _ => by
    show (ndCells n ++ l.flatMap ndCells).set (0 * 10 + j) v = ndCells (f n) ++ l.flatMap ndCells
    rw [Nat.zero_mul, Nat.zero_add, List.set_append_left _ _ (show j < (ndCells n).length from hj10), hj]
  | n :: l, i + 1, hi => by
    have ih := flat_set f j v hj hj10 l i (by simpa using hi)
    have hi' : i < l.length := by simpa using hi
    show (ndCells n ++ l.flatMap ndCells).set ((i + 1) * 10 + j) v = ndCells n ++ (l.set i (f (l[i]'hi'))).flatMap ndCells
    have h10 : (ndCells n).length = 10 := rfl
    rw [List.set_append_right _ _ (by rw [h10]; omega), h10, show (i + 1) * 10 + j - 10 = i * 10 + j by omega, ih]
theorem flat_len10 (l : List Nd) : (l.flatMap ndCells).length = l.length * 10 := by
  induction l with
  | nil => rfl
  | cons a l ih =>
    show (ndCells a ++ l.flatMap ndCells).length = (l.length + 1) * 10
    have h10 : (ndCells a).length = 10 := rfl
    rw [List.length_append, ih, h10]; omega
theorem nds_gR {M : Mem} {l : List Nd} (h : NdsOk M l) (i r : Int) (hr : I64 r) : NdsOk M (l.map (gR i r)) := by
  refine ⟨fun a ha => ?_, fun a ha => ?_, fun a ha => ?_, by rw [List.length_map]; exact h.len⟩
  all_goals
    obtain ⟨n, hn, rfl⟩ := List.mem_map.1 ha
    unfold gR
    split
  · exact h.ok n hn
  · exact h.ok n hn
  · have b := h.big n hn
    exact ⟨b.high, b.ps, b.psn, b.ksn, b.ms, b.msn, b.rs, b.rsn, b.min⟩
  · exact h.big n hn
  · have b := h.inn n hn
    exact ⟨b.slot, b.level, hr, b.seen, b.high, b.ps, b.ks, b.ms, b.rs⟩
  · exact h.inn n hn
theorem nds_gS {M : Mem} {l : List Nd} (h : NdsOk M l) (i r : Int) (hr : I64 r) : NdsOk M (l.map (gS i r)) := by
  refine ⟨fun a ha => ?_, fun a ha => ?_, fun a ha => ?_, by rw [List.length_map]; exact h.len⟩
  all_goals
    obtain ⟨n, hn, rfl⟩ := List.mem_map.1 ha
    unfold gS
    split
  · exact h.ok n hn
  · exact h.ok n hn
  · have b := h.big n hn
    exact ⟨b.high, b.ps, b.psn, b.ksn, b.ms, b.msn, b.rs, b.rsn, b.min⟩
  · exact h.big n hn
  · have b := h.inn n hn
    exact ⟨b.slot, b.level, b.right, hr, b.high, b.ps, b.ks, b.ms, b.rs⟩
  · exact h.inn n hn
theorem walk (c : Cfg) (v : Value) (l : List Nd) (wh ri se : Int) (w : World) (hl : Sl w 10 ndCells v l) (hn : ∀ a ∈ l, a.Ok (Mem.of w) ∧ a.In) (hlen : l.length * 152 ≤ 140737488351232) (hri : I64 ri) (hse : I64 se) :
    Calls Try.prog 4 #[.agg #[.int .i64 c.fanout, .int .i64 c.leaf, .int .i64 c.budget, .int .i64 c.slots, .int .i64 c.restarts], v, .int .i64 wh, .int .i64 ri, .int .i64 se] w fun e w' => e = .returned (.bool true) ∧ Below w.heap.size w w' := by
  have hM := hl.toM
  have cA := fun W => sound_awake W
  have cT := fun W (hW : (Mem.of w).le (Mem.of W)) => ref_Tree c v l 60 W (Mem.of w) hW hM (fun a ha => (hn a ha).1) (fun a ha => (hn a ha).2) (by omega)
  cases hT : treeR c l 60 with
  | false =>
    rw [hT] at cT
    refine V_flat (args := [.agg #[.int .i64 c.fanout, .int .i64 c.leaf, .int .i64 c.budget, .int .i64 c.slots, .int .i64 c.restarts], v, .int .i64 wh, .int .i64 ri, .int .i64 se]) (M := Mem.of w) Try.func4 rfl Try.ntmps4 (by rfl) (Mem.le_refl _) ?_
    repeat' (first | refine VC_seq ?_ | refine VC_region ?_ | refine VL_nil ?_ | refine VC_ret ?_ | refine kbox ?_ | ((apply VL_q); (first | exact QS_call (by rfl) cT | exact QS_call (by rfl) (fun W _ => cA W) | exact qmv (by rfl) | exact qas (by rfl) | exact qlA (by rfl) | exact qno (by rfl)); rfl) | refine ctr ?_)
    show Res _ _ _ _
    refine Res.one (by rfl) (ResV_tmp (by rfl) ?_)
    rfl
  | true =>
    rw [hT] at cT
    obtain ⟨h0, hL, hP, hS⟩ := tree_facts hT
    have hN := light_nds (M := Mem.of w) (fun a ha => (hn a ha).1) (fun a ha => (hn a ha).2) (by omega) (by omega) hL
    have hl60 : l.length ≤ 60 := by
      unfold lightL at hL
      simp only [Bool.and_eq_true, Bool.not_eq_true', decide_eq_false_iff_not] at hL
      omega
    obtain ⟨A, c0, rfl, hc1, hc2, _⟩ := id hM
    unfold maxLen at hc2
    obtain ⟨hw1, hw2⟩ := wrapu_bd wh
    generalize hwx : IntKind.u64.wrap wh = wx at *
    have hm1 := Int.emod_nonneg wx (show (l.length : Int) ≠ 0 by omega)
    have hm2 := Int.emod_lt_of_pos wx (show (0 : Int) < l.length by omega)
    obtain ⟨i, hi⟩ : ∃ i : Nat, wx % (l.length : Int) = (i : Int) := ⟨(wx % (l.length : Int)).toNat, by omega⟩
    have hil : i < l.length := by omega
    have hB : IntKind.u64.wrap (l.length : Int) = (l.length : Int) := by
      have h : IntKind.u64.wrap (l.length : Int) = (l.length : Int) % 18446744073709551616 := by simp [IntKind.wrap, IntKind.bits, IntKind.signed]
      rw [h]; omega
    have hC : IntKind.i64.wrap (i : Int) = (i : Int) := wrap64 (by omega) (by omega)
    obtain ⟨b, off, he, hcl, hcells⟩ := SlM.flat (k := 10) (cells := ndCells) (fun a _ => rfl) hM (fun e => by rw [e] at h0; simp at h0)
    subst he
    have h1c : ((l.flatMap ndCells).all (·.oneCell')) = true := by
      rw [List.all_flatMap, List.all_eq_true]
      exact fun a ha => nd_one (hn a ha).1
    have hfl := flat_len10 l
    have fR := flat_set (fun n => { n with right := ri }) 6 (.int .i64 ri) (fun n => rfl) (by omega) l i hil
    have fS := flat_set (fun n => { n with seen := se }) 7 (.int .i64 se) (fun n => rfl) (by omega) l i hil
    rw [set_gR hP hil] at fR
    rw [set_gS hP hil] at fS
    refine V_flat (args := [.agg #[.int .i64 c.fanout, .int .i64 c.leaf, .int .i64 c.budget, .int .i64 c.slots, .int .i64 c.restarts], .slice (some ⟨b, off, none⟩) l.length c0, .int .i64 wh, .int .i64 ri, .int .i64 se]) (M := Mem.of w) Try.func4 rfl Try.ntmps4 (by rfl) (Mem.le_refl _) ?_
    repeat' (first | refine VC_seq ?_ | refine VC_region ?_ | refine VL_nil ?_ | refine VC_skip ?_ | refine kbox ?_ | refine klK ?_ | ((apply VL_q); (first | exact QS_call (by rfl) cT | exact QS_convertI (by rfl) hwx | exact QS_convertI (by rfl) hB | exact QS_convertI (by rfl) hC | exact QS_is (congrArg (Value.int .u64) hi) (QS_bin (by rfl) (by rfl) (B_remw hw1 (by omega) hw2)) | exact qmv (by rfl) | exact qas (by rfl) | exact qlA (by rfl) | exact qno (by rfl) | exact qln (by rfl)); rfl) | refine cfa ?_)
    refine VL_e _ _ (EF_appendM (l.flatMap ndCells) (by rfl) (by rfl) (by rfl) hcl hcells h0 h1c (by unfold maxLen; omega) (by omega)) (by rfl) (by rfl) ?_
    have e0 : 0 + l.length = l.length := Nat.zero_add _
    repeat' (first | refine VC_seq ?_ | refine VC_region ?_ | refine VL_nil ?_ | ((apply VL_q); (first | exact QS_indexRow i (by rfl) (by rfl) (by rfl) rfl (by omega) | exact qmv (by rfl) | exact qas (by rfl) | exact qfa (by rfl)); rfl))
    refine VL_row1 (by rfl) (by rfl) (by rfl) (by show i * 10 + 6 < (l.flatMap ndCells).length; rw [hfl]; omega) rfl (by rfl) (by rfl) ?_
    refine VL_frz 2 (by rfl) (fun ua M1 hle1 hrA => ?_)
    have hrA : RowM M1 10 (0 + l.length) ((l.flatMap ndCells).set (i * 10 + 6) (.int .i64 ri)) ua := hrA
    rw [fR, e0] at hrA
    have hSa : SlM M1 10 ndCells ua (l.map (gR i ri)) := RowM.slM (k := 10) (cells := ndCells) (fun _ _ => rfl) (by rw [List.length_map]; exact hrA)
    clear hrA
    repeat' (first | refine VC_seq ?_ | refine VC_region ?_ | refine VL_nil ?_ | refine klK ?_ | ((apply VL_q); (exact qmv (by rfl)); rfl))
    refine VL_e _ _ (EF_appendM (l.flatMap ndCells) (by rfl) (by rfl) (by rfl) hcl (fun q u hq => hle1.cell (hcells q u hq)) h0 h1c (by unfold maxLen; omega) (by omega)) (by rfl) (by rfl) ?_
    repeat' (first | refine VC_seq ?_ | refine VC_region ?_ | refine VL_nil ?_ | ((apply VL_q); (first | exact QS_indexRow i (by rfl) (by rfl) (by rfl) rfl (by omega) | exact qmv (by rfl) | exact qas (by rfl) | exact qfa (by rfl)); rfl))
    refine VL_row1 (by rfl) (by rfl) (by rfl) (by show i * 10 + 7 < (l.flatMap ndCells).length; rw [hfl]; omega) rfl (by rfl) (by rfl) ?_
    refine VL_frz 4 (by rfl) (fun ub M2 hle2 hrB => ?_)
    have hrB : RowM M2 10 (0 + l.length) ((l.flatMap ndCells).set (i * 10 + 7) (.int .i64 se)) ub := hrB
    rw [fS, e0] at hrB
    have hSb : SlM M2 10 ndCells ub (l.map (gS i se)) := RowM.slM (k := 10) (cells := ndCells) (fun _ _ => rfl) (by rw [List.length_map]; exact hrB)
    clear hrB
    have hl2 : (Mem.of w).le M2 := hle1.trans hle2
    repeat' (first | refine VC_seq ?_ | refine VC_region ?_ | refine VL_nil ?_ | ((apply VL_q); (exact qmv (by rfl)); rfl))
    refine VL_callM (by rfl) (fun W hW => ref_Seats _ l W M2 hW (hM.mono hl2) (hN.mono hl2)) (by rfl) (fun u M3 hle3 ⟨xv, b3, hu, ht, hf⟩ => ?_)
    subst hu
    have hsome : ∃ ss, seatsL l = some ss := by
      unfold soundR at hS
      cases hq : seatsL l with
      | none => rw [hq] at hS; cases hS
      | some ss => exact ⟨ss, rfl⟩
    obtain ⟨ss, hss⟩ := hsome
    have hb3 : b3 = true := by
      cases b3 with
      | true => rfl
      | false => have := hf rfl; rw [hss] at this; cases this
    subst hb3
    obtain ⟨X, hX, hXs, hXo⟩ := ht rfl
    rw [hss] at hXs
    have hXs := Option.some.inj hXs
    have hXn : X.length ≤ l.length := by have := seats_len hss; rw [hXs, List.length_map] at this; exact this
    have hself := parts_self hS
    have hpl := parts_link hS hP hil ri
    have hpo := parts_ord hS (i : Int) se hss
    rw [hXs] at hpo
    clear ht hf hXs hss
    obtain ⟨B, d, rfl, hd1, hd2, _⟩ := id hX
    unfold maxLen at hd2
    have hl3 : (Mem.of w).le M3 := hl2.trans hle3
    have hNl : NdsOk M3 l := hN.mono hl3
    have hNa := nds_gR hNl (i : Int) ri hri
    have hNb := nds_gS hNl (i : Int) se hse
    repeat' (first | refine VC_seq ?_ | refine VC_region ?_ | refine VL_nil ?_ | refine VC_block ?_ | ((apply VL_q); (first | exact qmv (by rfl) | exact qas (by rfl) | exact qex (by rfl) | exact qln (by rfl)); rfl))
    refine VC_for (fun k : Nat => ⟨M3, [], [(1, .v (.slice (some ⟨b, off, none⟩) l.length c0)), (3, .v (.int .i64 ri)), (4, .v (.int .i64 se)), (11, .v (.int .i64 (i : Nat))), (12, .v ua), (13, .v ub), (16, .v (.bool (youngL i se ((X.take k).map (·.1))))), (54, .v (.slice B X.length d)), (55, .v (.int .i64 X.length)), (56, .v (.int .i64 k))]⟩) (fun k => k ≤ X.length) (fun k => X.length - k) [] 0 ⟨rfl, rfl, trivial, ⟨rfl, rfl, rfl, rfl, rfl, rfl, rfl, rfl, rfl, rfl, trivial⟩⟩ (by omega) ?_
    intro k hk
    rcases Nat.lt_or_ge k X.length with hlt | hge
    · have hd := dlt hlt
      have hx := hXo X[k] (List.getElem_mem hlt)
      obtain ⟨b4, off4, rfl, hcX⟩ := hX.get hlt
      have hone := sq_one hx
      have hst : youngL i se ((X.take (k + 1)).map (·.1)) = (youngL i se ((X.take k).map (·.1)) && (!(X[k].1.n.slot == (i : Int)) || X[k].1.ms.all fun m => decide (se < m.stamp))) := by
        unfold youngL
        rw [List.take_succ_eq_append_getElem hlt, List.map_append, List.all_append]
        simp
      generalize youngL i se ((X.take k).map (·.1)) = Y at *
      generalize X[k] = x at *
      cases q1 : (x.1.n.slot != (i : Int)) with
      | true =>
        rw [show (x.1.n.slot == (i : Int)) = false by simpa using q1] at hst
        repeat' (first | refine ksN ?_ (hu := hone) | refine VC_seq ?_ | refine VC_region ?_ | refine VL_nil ?_ | refine VC_exit ?_ | refine VC_block ?_ | refine VC_skip ?_ | refine kall ?_ | ((apply VL_q); (first | exact QS_indexAddr (k) (by rfl) (by rfl) (by omega) (by omega) | exact QS_mloadN _ (by rfl) hcX _ (by rfl) | exact qmv (by rfl) | exact ql1 (by rfl) | exact qfa (by rfl) | exact qcp (by rfl) | exact qad (by rfl)); rfl) | refine ctr ?_)
        exact forQ_next (Q := fun _ _ => True) [] (k + 1) ⟨rfl, rfl, trivial, ⟨rfl, rfl, rfl, rfl, rfl, rfl, by rw [hst]; simp; rfl, rfl, rfl, rfl, trivial⟩⟩ (by omega) (by omega)
      | false =>
        rw [show (x.1.n.slot == (i : Int)) = true by simpa using q1] at hst
        obtain ⟨V, e, hqv, he1, he2, _⟩ := id hx.ms
        unfold maxLen at he2
        have hms : SlM M3 6 msgCells (.slice V x.1.ms.length e) x.1.ms := by rw [← hqv]; exact hx.ms
        repeat' (first | refine ksN ?_ (hu := hone) | refine VC_seq ?_ | refine VC_region ?_ | refine VL_nil ?_ | refine VC_block ?_ | refine VC_skip ?_ | refine kall ?_ | ((apply VL_q); (first | exact QS_indexAddr (k) (by rfl) (by rfl) (by omega) (by omega) | exact QS_mloadN _ (by rfl) hcX _ (by rfl) | exact QS_load1 (by rfl) (by rfl) (congrArg some hqv) | exact qmv (by rfl) | exact ql1 (by rfl) | exact qfa (by rfl) | exact qln (by rfl) | exact qcp (by rfl)); rfl) | refine ctr ?_ | refine cfa ?_)
        refine VC_for (fun j : Nat => ⟨M3, [], [(1, .v (.slice (some ⟨b, off, none⟩) l.length c0)), (3, .v (.int .i64 ri)), (4, .v (.int .i64 se)), (11, .v (.int .i64 (i : Nat))), (12, .v ua), (13, .v ub), (16, .v (.bool (Y && (x.1.ms.take j).all fun m => decide (se < m.stamp)))), (54, .v (.slice (some ⟨b4, off4, none⟩) X.length d)), (55, .v (.int .i64 X.length)), (56, .v (.int .i64 k)), (66, .v (.slice V x.1.ms.length e)), (67, .v (.int .i64 x.1.ms.length)), (68, .v (.int .i64 j))]⟩) (fun j => j ≤ x.1.ms.length) (fun j => x.1.ms.length - j) [] 0 ⟨rfl, rfl, trivial, ⟨rfl, rfl, rfl, rfl, rfl, rfl, by show some (SV.v (.bool Y)) = some (SV.v (.bool (Y && true))); rw [Bool.and_true], rfl, rfl, rfl, rfl, rfl, rfl, trivial⟩⟩ (by omega) ?_
        intro j hj
        rcases Nat.lt_or_ge j x.1.ms.length with hlj | hgj
        · have hdj := dlt hlj
          obtain ⟨b5, off5, rfl, hcM⟩ := hms.get hlj
          have hsj := allG_step hlj (fun m => decide (se < m.stamp))
          generalize x.1.ms[j] = m at *
          generalize (x.1.ms.take j).all (fun m => decide (se < m.stamp)) = Z at *
          cases hyz : (Y && Z) with
          | false =>
            repeat' (first | refine VC_seq ?_ | refine VC_region ?_ | refine VL_nil ?_ | refine VC_block ?_ | refine VC_skip ?_ | refine kall ?_ | refine ksN ?_ | ((apply VL_q); (first | exact QS_indexAddr (j) (by rfl) (by rfl) (by omega) (by omega) | exact QS_mloadN _ (by rfl) hcM _ (by rfl) | exact qmv (by rfl) | exact qas (by rfl) | exact qpf (by rfl) | exact qcp (by rfl) | exact qad (by rfl)); rfl) | refine kno ?_ | refine ctr ?_)
            exact forQ_next (Q := fun _ _ => True) [] (j + 1) ⟨rfl, rfl, trivial, ⟨rfl, rfl, rfl, rfl, rfl, rfl, by rw [hsj, ← Bool.and_assoc, hyz]; rfl, rfl, rfl, rfl, rfl, rfl, rfl, trivial⟩⟩ (by omega) (by omega)
          | true =>
            repeat' (first | refine VC_seq ?_ | refine VC_region ?_ | refine VL_nil ?_ | refine VC_block ?_ | refine VC_skip ?_ | refine kall ?_ | refine ksN ?_ | ((apply VL_q); (first | exact QS_indexAddr (j) (by rfl) (by rfl) (by omega) (by omega) | exact QS_mloadN _ (by rfl) hcM _ (by rfl) | exact qmv (by rfl) | exact qas (by rfl) | exact ql1 (by rfl) | exact qfa (by rfl) | exact qpt (by rfl) | exact qcp (by rfl) | exact qad (by rfl)); rfl) | refine kyes ?_ | refine ctr ?_)
            exact forQ_next (Q := fun _ _ => True) [] (j + 1) ⟨rfl, rfl, trivial, ⟨rfl, rfl, rfl, rfl, rfl, rfl, by rw [hsj, ← Bool.and_assoc, hyz]; rfl, rfl, rfl, rfl, rfl, rfl, rfl, trivial⟩⟩ (by omega) (by omega)
        · have hdj := dge hgj
          rw [List.take_of_length_le hgj]
          repeat' (first | refine VC_seq ?_ | refine VC_region ?_ | refine VL_nil ?_ | refine VC_exit ?_ | ((apply VL_q); (first | exact qmv (by rfl) | exact qcp (by rfl) | exact qad (by rfl)); rfl) | refine cfa ?_)
          exact forQ_next (Q := fun _ _ => True) [] (k + 1) ⟨rfl, rfl, trivial, ⟨rfl, rfl, rfl, rfl, rfl, rfl, by rw [hst]; rfl, rfl, rfl, rfl, trivial⟩⟩ (by omega) (by omega)
    · have hd := dge hge
      rw [List.take_of_length_le hge]
      have c1 := fun W (hW : M3.le (Mem.of W)) => sound_Linked _ l W M3 hW (hM.mono hl3) hNl
      have c2 := fun W (hW : M3.le (Mem.of W)) => sound_Ordered _ l W M3 hW (hM.mono hl3) hNl
      have c3 := fun W (hW : M3.le (Mem.of W)) => sound_Linked ua _ W M3 hW ((hSa.mono hle2).mono hle3) hNa
      have c4 := fun W (hW : M3.le (Mem.of W)) => sound_Ordered ub _ W M3 hW (hSb.mono hle3) hNb
      rw [hself.1] at c1
      rw [hself.2] at c2
      rw [hpl] at c3
      rw [hpo] at c4
      obtain ⟨b6, off6, he6, hcI⟩ := (hM.mono hl3).get hil
      injection he6 with he6
      injection he6 with he61 he62
      subst he61 he62
      have qq : ((ri == l[i].right) == (ri == l[i].right)) = true := by simp
      generalize youngL i se (X.map (·.1)) = Y at *
      have qy : (Y == Y) = true := by simp
      repeat' (first | refine VC_seq ?_ | refine VC_region ?_ | refine VL_nil ?_ | refine VC_ret ?_ | refine VC_exit ?_ | ((first | apply VL_q | apply VG_q); (first | exact QS_call (by rfl) c1 | exact QS_call (by rfl) c2 | exact QS_call (by rfl) c3 | exact QS_call (by rfl) c4 | exact QS_indexAddr (i) (by rfl) (by rfl) (by omega) (by omega) | exact QS_mload1 (by rfl) (hcI _ _ (by rfl)) | exact QS_call (by rfl) (fun W _ => cA W) | exact qmv (by rfl) | exact qas (by rfl) | exact qmf (by rfl) | exact qpt (by rfl) | exact qcp (by rfl) | exact qbe (by rfl)); rfl) | refine gyes ?_ | refine VG_nil ?_ | refine dQ ?_ | refine cfa ?_)
      show Res _ _ _ _
      refine Res.one (by rfl) (ResV_tmp (by rfl) ?_)
      rfl
end Go.Proofs.Ytlapnbklbpeddaa.lawSoundParts
