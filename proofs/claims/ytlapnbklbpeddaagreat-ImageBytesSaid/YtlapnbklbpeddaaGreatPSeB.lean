/- The code's Linked, Ordered and Check: it is what the document says. -/
import Derived.Test.YtlapnbklbpeddaaGreatPSeA
namespace Go.Proofs.YtlapnbklbpeddaaGreat
open Go Go.RowKit
attribute [local irreducible] Calls
set_option linter.unusedVariables false
set_option maxRecDepth 20000
set_option linter.unusedSimpArgs false
set_option maxHeartbeats 8000000
theorem slices_IdxRow (f : FuncId) [hf : CalT Tryz.prog f] (caps : Array Value) (p : (Value × List Sq) → Bool) (v : Value) (l : List (Value × List Sq)) (w : World) (hl : Sl w 1 rvCells v l) (hn : l.length ≤ 1000000000)
    (hp : ∀ m ∈ l, ∀ W, (Mem.of w).le (Mem.of W) → Calls Tryz.prog f (#[m.1] ++ caps) W fun e w' => e = .returned (.bool (p m)) ∧ Below W.heap.size W w') :
    Calls Tryz.prog 105 #[v, .func (.func f) #[] caps] w fun e w' => e = .returned (.int .i64 (idxG p l)) ∧ Below w.heap.size w w' := by
  obtain ⟨A, c, rfl, hc1, hc2, _⟩ := id hl
  have hM := hl.toM
  unfold maxLen at hc2
  refine V_flat (args := [.slice A l.length c, .func (.func f) #[] caps]) (M := Mem.of w) Tryz.func105 rfl Tryz.ntmps105 (by rfl) (Mem.le_refl _) ?_
  repeat' (first | refine VC_seq ?_ | refine VC_region ?_ | refine VL_nil ?_ | refine VC_block ?_ | ((apply VL_q); (first | exact qmv (by rfl) | exact qas (by rfl) | exact qln (by rfl)); rfl))
  refine VC_for (fun k : Nat => ⟨Mem.of w, [], [(0, .v (.slice A l.length c)), (1, .v (.func (.func f) #[] caps)), (7, .v (.int .i64 l.length)), (8, .v (.int .i64 k))]⟩) (fun k => k ≤ l.length ∧ (l.take k).all (fun m => !p m) = true) (fun k => l.length - k) [] 0 ⟨rfl, rfl, trivial, ⟨rfl, rfl, rfl, rfl, trivial⟩⟩ ⟨by omega, rfl⟩ ?_
  rintro k ⟨hk, hr⟩
  rcases Nat.lt_or_ge k l.length with hlt | hge
  · have hd := dlt hlt
    obtain ⟨b, off, rfl, hcA⟩ := hM.get hlt
    have hpk := hp l[k] (List.getElem_mem hlt)
    cases hq : p l[k] with
    | true =>
      rw [hq] at hpk
      repeat' (first | refine VC_seq ?_ | refine VC_region ?_ | refine VL_nil ?_ | refine VC_ret ?_ | refine VC_block ?_ | refine VC_skip ?_ | ((apply VL_q); (first | exact QS_indexAddr (k) (by rfl) (by rfl) (by omega) (by omega) | exact QS_mload1 (by rfl) (hcA 0 _ (by rfl)) | exact QS_callV (by rfl) (by rfl) (fun W hW => hpk W hW) | exact qmv (by rfl) | exact qas (by rfl) | exact qcp (by rfl)); rfl) | refine ctr ?_)
      show Res _ _ _ _
      refine Res.one (by rfl) (ResV_tmp (by rfl) ?_)
      refine congrArg (Value.int .i64) ?_
      exact (idxG_at hlt hr hq).symm
    | false =>
      rw [hq] at hpk
      repeat' (first | refine VC_seq ?_ | refine VC_region ?_ | refine VL_nil ?_ | refine VC_block ?_ | refine VC_skip ?_ | ((apply VL_q); (first | exact QS_indexAddr (k) (by rfl) (by rfl) (by omega) (by omega) | exact QS_mload1 (by rfl) (hcA 0 _ (by rfl)) | exact QS_callV (by rfl) (by rfl) (fun W hW => hpk W hW) | exact qmv (by rfl) | exact qas (by rfl) | exact qcp (by rfl) | exact qad (by rfl)); rfl) | refine ctr ?_ | refine cfa ?_)
      refine forQ_next (Q := fun _ _ => True) [] (k + 1) ⟨rfl, rfl, trivial, ⟨rfl, rfl, rfl, rfl, trivial⟩⟩ ⟨by omega, ?_⟩ (by omega)
      rw [allG_step hlt (fun m => !p m), hr, hq]; rfl
  · have hd := dge hge
    obtain rfl : k = l.length := by omega
    rw [List.take_length] at hr
    repeat' (first | refine VC_seq ?_ | refine VC_region ?_ | refine VL_nil ?_ | refine VC_ret ?_ | refine VC_exit ?_ | ((apply VL_q); (first | exact qas (by rfl) | exact qcp (by rfl)); rfl) | refine cfa ?_)
    show Res _ _ _ _
    refine Res.one (by rfl) (ResV_tmp (by rfl) ?_)
    rw [idxG_no hr]
theorem slices_ConRow (f : FuncId) [hf : CalT Tryz.prog f] (caps : Array Value) (p : (Value × List Sq) → Bool) (v : Value) (l : List (Value × List Sq)) (w : World) (hl : Sl w 1 rvCells v l) (hn : l.length ≤ 1000000000)
    (hp : ∀ m ∈ l, ∀ W, (Mem.of w).le (Mem.of W) → Calls Tryz.prog f (#[m.1] ++ caps) W fun e w' => e = .returned (.bool (p m)) ∧ Below W.heap.size W w') :
    Calls Tryz.prog 80 #[v, .func (.func f) #[] caps] w fun e w' => e = .returned (.bool (l.any p)) ∧ Below w.heap.size w w' := by
  have hM := hl.toM
  have c1 : ∀ W, (Mem.of w).le (Mem.of W) → Calls Tryz.prog 105 #[v, .func (.func f) #[] caps] W fun e w' => e = .returned (.int .i64 (idxG p l)) ∧ Below W.heap.size W w' :=
    fun W hW => slices_IdxRow f caps p v l W (hM.toSl hW) hn (fun m hm W' hW' => hp m hm W' (hW.trans hW'))
  refine V_flat (args := [v, .func (.func f) #[] caps]) (M := Mem.of w) Tryz.func80 rfl Tryz.ntmps80 (by rfl) (Mem.le_refl _) ?_
  repeat' (first | refine VC_seq ?_ | refine VC_region ?_ | refine VL_nil ?_ | refine VC_ret ?_ | ((apply VL_q); (first | exact QS_call (by rfl) c1 | exact qmv (by rfl) | exact qas (by rfl) | exact qcp (by rfl)); rfl))
  show Res _ _ _ _
  refine Res.one (by rfl) (ResV_tmp (by rfl) ?_)
  rw [idxG_any]
theorem sound_LinkedFn (v : Value) (X : List Sq) (w : World) (M : Mem) (hMw : M.le (Mem.of w)) (hl : SlM M 13 plCells v X) (hok : ∀ x ∈ X, PlOk M x) (hn : X.length ≤ 1000000000) :
    Calls Tryz.prog 81 #[v] w fun e w' => e = .returned (.bool (!linkedW X)) ∧ Below w.heap.size w w' := by
  have c1 := fun W (hW : M.le (Mem.of W)) => sound_linkedW v X W M hW hl hok hn
  refine V_flat (args := [v]) (M := M) Tryz.func81 rfl Tryz.ntmps81 (by rfl) (hMw) ?_
  repeat' (first | refine VC_seq ?_ | refine VC_region ?_ | refine VL_nil ?_ | refine VC_ret ?_ | ((apply VL_q); (first | exact QS_call (by rfl) c1 | exact qmv (by rfl) | exact qas (by rfl) | exact qno (by rfl)); rfl))
  show Res _ _ _ _
  refine Res.one (by rfl) (ResV_tmp (by rfl) ?_)
  rfl
/-- Whether nodes are a tree at all, and some rows' test holds. -/
def treeB (l : List Nd) (f : List (List Sq) → Bool) : Bool := match rowsL l with
  | none => false
  | some rows => distB (slots l) && ((rows.flatten.length : Int) == (l.length : Int)) && f rows
theorem tree_yes {l : List Nd} {R : List (Value × List Sq)} (h : LevOut l true R) (f : List (List Sq) → Bool) : treeB l f = f (R.map (·.2)) := by
  obtain ⟨h1, h2, h3⟩ := h.yes rfl
  unfold treeB
  rw [h2]
  show (distB (slots l) && (((R.map (·.2)).flatten.length : Int) == (l.length : Int)) && f (R.map (·.2))) = _
  rw [h1, h3]
  simp
theorem tree_no {l : List Nd} {R : List (Value × List Sq)} (h : LevOut l false R) (f : List (List Sq) → Bool) : treeB l f = false := by
  unfold treeB
  rcases h.no rfl with h1 | h1 | ⟨h1, h2⟩
  · rw [h1]; cases rowsL l <;> rfl
  · rw [h1]
  · rw [h1]
    show (distB (slots l) && (((R.map (·.2)).flatten.length : Int) == (l.length : Int)) && f (R.map (·.2))) = _
    rw [show (((R.map (·.2)).flatten.length : Int) == (l.length : Int)) = false from beq_eq_false_iff_ne.2 (by omega)]
    simp
def linkC (l : List Nd) : Bool := treeB l fun rows => rows.all linkedW
def ordC (l : List Nd) : Bool := treeB l ordT
theorem any_not_all (R : List (Value × List Sq)) : (!R.any fun p => !linkedW p.2) = (R.map (·.2)).all linkedW := by
  rw [anyG_not, List.all_map]; rfl
theorem sound_Linked (v : Value) (l : List Nd) (w : World) (M : Mem) (hMw : M.le (Mem.of w)) (hl : SlM M 10 ndCells v l) (hN : NdsOk M l) :
    Calls Tryz.prog 40 #[v] w fun e w' => e = .returned (.bool (linkC l)) ∧ Below w.heap.size w w' := by
  obtain ⟨A, c, rfl, _⟩ := id hl
  refine V_flat (args := [.slice A l.length c]) (M := M) Tryz.func40 rfl Tryz.ntmps40 (by rfl) (hMw) ?_
  repeat' (first | refine VC_seq ?_ | refine VC_region ?_ | refine VL_nil ?_ | ((apply VL_q); (first | exact qmv (by rfl) | exact qas (by rfl)); rfl))
  refine VL_callM (by rfl) (fun W hW => sound_levels _ l W M hW hl hN) (by rfl) (fun u M1 hle1 ⟨xv, ok, R, hu, hR, hRo, hRn, hRm, hL⟩ => ?_)
  subst hu
  cases ok with
  | false =>
    unfold linkC
    rw [tree_no hL]
    repeat' (first | refine VC_seq ?_ | refine VC_region ?_ | refine VL_nil ?_ | refine VC_ret ?_ | ((apply VL_q); (first | exact qmv (by rfl) | exact qas (by rfl) | exact qex (by rfl) | exact qpf (by rfl)); rfl) | refine kno ?_)
    show Res _ _ _ _
    refine Res.one (by rfl) (ResV_tmp (by rfl) ?_)
    rfl
  | true =>
    unfold linkC
    rw [tree_yes hL, ← any_not_all]
    have cC := fun W (hW : M1.le (Mem.of W)) => slices_ConRow 81 #[] (fun p => !linkedW p.2) xv R W (hR.toSl hW) (by omega) (fun p hp W' hW' => sound_LinkedFn p.1 p.2 W' M1 (hW.trans hW') (hRo p hp).sl (hRo p hp).ok (by have := hRm p hp; omega))
    generalize R.any (fun p => !linkedW p.2) = bb at *
    repeat' (first | refine VC_seq ?_ | refine VC_region ?_ | refine VL_nil ?_ | refine VC_ret ?_ | ((apply VL_q); (first | exact QS_call (by rfl) cC | exact qmv (by rfl) | exact qas (by rfl) | exact qno (by rfl) | exact qex (by rfl) | exact qpt (by rfl)); rfl) | refine kyes ?_)
    show Res _ _ _ _
    refine Res.one (by rfl) (ResV_tmp (by rfl) ?_)
    rfl
theorem ord_cons (p : Value × List Sq) (L : List (Value × List Sq)) : ordT ((p :: L).map (·.2)) = ((L.all fun b => p.2.all fun x => ordQ x b.2) && ordT (L.map (·.2))) := by
  rw [List.map_cons, ordT, List.all_map]; rfl
theorem sound_Ordered (v : Value) (l : List Nd) (w : World) (M : Mem) (hMw : M.le (Mem.of w)) (hl : SlM M 10 ndCells v l) (hN : NdsOk M l) :
    Calls Tryz.prog 41 #[v] w fun e w' => e = .returned (.bool (ordC l)) ∧ Below w.heap.size w w' := by
  obtain ⟨A, c, rfl, _⟩ := id hl
  refine V_flat (args := [.slice A l.length c]) (M := M) Tryz.func41 rfl Tryz.ntmps41 (by rfl) (hMw) ?_
  repeat' (first | refine VC_seq ?_ | refine VC_region ?_ | refine VL_nil ?_ | ((apply VL_q); (first | exact qmv (by rfl) | exact qas (by rfl)); rfl))
  refine VL_callM (by rfl) (fun W hW => sound_levels _ l W M hW hl hN) (by rfl) (fun u M1 hle1 ⟨xv, ok, R, hu, hR, hRo, hRn, hRm, hL⟩ => ?_)
  subst hu
  have hfin : ordC l = (ok && ordT (R.map (·.2))) := by
    unfold ordC
    cases ok with
    | false => rw [tree_no hL]; rfl
    | true => rw [tree_yes hL]; rfl
  rw [hfin]
  clear hfin hL
  obtain ⟨B, d, rfl, hd1, hd2, _⟩ := id hR
  unfold maxLen at hd2
  repeat' (first | refine VC_seq ?_ | refine VC_region ?_ | refine VL_nil ?_ | refine VC_block ?_ | ((apply VL_q); (first | exact qmv (by rfl) | exact qas (by rfl) | exact qex (by rfl) | exact qln (by rfl)); rfl))
  refine VC_for (fun k : Nat => ⟨M1, [], [(3, .v (.slice B R.length d)), (4, .v (.bool ok)), (16, .v (.slice B R.length d)), (17, .v (.int .i64 R.length)), (18, .v (.int .i64 k))]⟩) (fun k => k ≤ R.length ∧ ordT (R.map (·.2)) = ordT ((R.drop k).map (·.2))) (fun k => R.length - k) [] 0 ⟨rfl, rfl, trivial, ⟨rfl, rfl, rfl, rfl, rfl, trivial⟩⟩ ⟨by omega, rfl⟩ ?_
  rintro i ⟨hi, hr⟩
  rcases Nat.lt_or_ge i R.length with hlt | hge
  · have hd := dlt hlt
    obtain ⟨b, off, rfl, hcA⟩ := hR.get hlt
    have hp := hRo R[i] (List.getElem_mem hlt)
    have hpn := hRm R[i] (List.getElem_mem hlt)
    rw [List.drop_eq_getElem_cons hlt, ord_cons] at hr
    have hpart := hR.part (p := i + 1) (q := R.length) (m := d) (by omega) (by omega) (by omega) (by omega)
    rw [List.take_length] at hpart
    have hLm : ∀ q ∈ R.drop (i + 1), q ∈ R := fun q hq => List.mem_of_mem_drop hq
    have hLn : (R.drop (i + 1)).length = R.length - (i + 1) := List.length_drop
    generalize hLe : R.drop (i + 1) = L at *
    obtain ⟨A2, c2, hsl, hc3, hc4, _⟩ := id hpart
    unfold maxLen at hc4
    rw [hsl] at hpart
    generalize R[i] = p at *
    obtain ⟨pv, row⟩ := p
    obtain ⟨hps, hpo⟩ := hp
    dsimp only at hps hpo hpn hr hcA
    obtain ⟨P, e, rfl, he1, he2, _⟩ := id hps
    unfold maxLen at he2
    repeat' (first | refine VC_seq ?_ | refine VC_region ?_ | refine VL_nil ?_ | refine VC_block ?_ | refine VC_skip ?_ | ((apply VL_q); (first | exact QS_indexAddr (i) (by rfl) (by rfl) (by omega) (by omega) | exact QS_mload1 (by rfl) (hcA 0 _ (by rfl)) | exact QS_is hsl (QS_slice (i + 1) R.length d (by rfl) (by rfl) rfl rfl (by omega) (by omega) (by omega) (by omega)) | exact qmv (by rfl) | exact qas (by rfl) | exact qln (by rfl) | exact qcp (by rfl) | exact qad (by rfl)); rfl) | refine ctr ?_)
    refine VC_for (fun j : Nat => ⟨M1, [], [(3, .v (.slice (some ⟨b, off, none⟩) R.length d)), (4, .v (.bool ok)), (16, .v (.slice (some ⟨b, off, none⟩) R.length d)), (17, .v (.int .i64 R.length)), (18, .v (.int .i64 i)), (6, .v (.slice P row.length e)), (26, .v (.slice A2 L.length c2)), (27, .v (.int .i64 L.length)), (28, .v (.int .i64 j))]⟩) (fun j => j ≤ L.length ∧ (L.take j).all (fun b => row.all fun x => ordQ x b.2) = true) (fun j => L.length - j) [] 0 ⟨rfl, rfl, trivial, ⟨rfl, rfl, rfl, rfl, rfl, rfl, rfl, rfl, rfl, trivial⟩⟩ ⟨by omega, rfl⟩ ?_
    rintro j ⟨hj, hrj⟩
    rcases Nat.lt_or_ge j L.length with hlj | hgj
    · have hdj := dlt hlj
      obtain ⟨b2, off2, rfl, hcB⟩ := hpart.get hlj
      have hq := hRo L[j] (hLm _ (List.getElem_mem hlj))
      have hqn := hRm L[j] (hLm _ (List.getElem_mem hlj))
      have stp := fun h => allG_stop hlj (p := fun b : Value × List Sq => row.all fun x => ordQ x b.2) h
      have stn := allG_step hlj (fun b : Value × List Sq => row.all fun x => ordQ x b.2)
      generalize L[j] = q at *
      obtain ⟨qv, below⟩ := q
      obtain ⟨hqs, hqo⟩ := hq
      dsimp only at hqs hqo hqn stp stn hcB
      repeat' (first | refine VC_seq ?_ | refine VC_region ?_ | refine VL_nil ?_ | refine VC_block ?_ | refine VC_skip ?_ | ((apply VL_q); (first | exact QS_indexAddr (j) (by rfl) (by rfl) (by omega) (by omega) | exact QS_mload1 (by rfl) (hcB 0 _ (by rfl)) | exact qmv (by rfl) | exact qas (by rfl) | exact qln (by rfl) | exact qcp (by rfl)); rfl) | refine ctr ?_)
      refine VC_for (fun k : Nat => ⟨M1, [], [(3, .v (.slice (some ⟨b, off, none⟩) R.length d)), (4, .v (.bool ok)), (16, .v (.slice (some ⟨b, off, none⟩) R.length d)), (17, .v (.int .i64 R.length)), (18, .v (.int .i64 i)), (6, .v (.slice P row.length e)), (26, .v (.slice (some ⟨b2, off2, none⟩) L.length c2)), (27, .v (.int .i64 L.length)), (28, .v (.int .i64 j)), (8, .v qv), (32, .v (.slice P row.length e)), (33, .v (.int .i64 row.length)), (34, .v (.int .i64 k))]⟩) (fun k => k ≤ row.length ∧ (row.take k).all (fun x => ordQ x below) = true) (fun k => row.length - k) [] 0 ⟨rfl, rfl, trivial, ⟨rfl, rfl, rfl, rfl, rfl, rfl, rfl, rfl, rfl, rfl, rfl, rfl, rfl, trivial⟩⟩ ⟨by omega, rfl⟩ ?_
      rintro k ⟨hk, hrk⟩
      rcases Nat.lt_or_ge k row.length with hlk | hgk
      · have hdk := dlt hlk
        obtain ⟨b3, off3, rfl, hcC⟩ := hps.get hlk
        have hxo := hpo row[k] (List.getElem_mem hlk)
        have hone := pl_one hxo
        have stp2 := fun h => allG_stop hlk (p := fun x : Sq => ordQ x below) h
        have stn2 := allG_step hlk (fun x : Sq => ordQ x below)
        have cO := fun W (hW : M1.le (Mem.of W)) => sound_ordered row[k] qv below W M1 hW hxo hqs hqo (by omega)
        generalize row[k] = x at *
        cases h5 : ordQ x below with
        | false =>
          rw [h5] at cO
          repeat' (first | refine ksN ?_ (hu := hone) | refine VC_seq ?_ | refine VC_region ?_ | refine VL_nil ?_ | refine VC_ret ?_ | refine VC_block ?_ | refine VC_skip ?_ | refine kall ?_ | ((apply VL_q); (first | exact QS_indexAddr (k) (by rfl) (by rfl) (by omega) (by omega) | exact QS_mloadN _ (by rfl) hcC _ (by rfl) | exact QS_call (by rfl) cO | exact qmv (by rfl) | exact qas (by rfl) | exact qlA (by rfl) | exact qno (by rfl) | exact qcp (by rfl)); rfl) | refine ctr ?_)
          show Res _ _ _ _
          refine Res.one (by rfl) (ResV_tmp (by rfl) ?_)
          rw [hr, stp (stp2 h5)]; simp
        | true =>
          rw [h5] at cO stn2
          repeat' (first | refine ksN ?_ (hu := hone) | refine VC_seq ?_ | refine VC_region ?_ | refine VL_nil ?_ | refine VC_block ?_ | refine VC_skip ?_ | refine kall ?_ | ((apply VL_q); (first | exact QS_indexAddr (k) (by rfl) (by rfl) (by omega) (by omega) | exact QS_mloadN _ (by rfl) hcC _ (by rfl) | exact QS_call (by rfl) cO | exact qmv (by rfl) | exact qlA (by rfl) | exact qno (by rfl) | exact qcp (by rfl) | exact qad (by rfl)); rfl) | refine ctr ?_ | refine cfa ?_)
          exact forQ_next (Q := fun _ _ => True) [] (k + 1) ⟨rfl, rfl, trivial, ⟨rfl, rfl, rfl, rfl, rfl, rfl, rfl, rfl, rfl, rfl, rfl, rfl, rfl, trivial⟩⟩ ⟨by omega, by rw [stn2, hrk]; rfl⟩ (by omega)
      · have hdk := dge hgk
        rw [List.take_of_length_le hgk] at hrk
        repeat' (first | refine VC_seq ?_ | refine VC_region ?_ | refine VL_nil ?_ | refine VC_exit ?_ | ((apply VL_q); (first | exact qmv (by rfl) | exact qcp (by rfl) | exact qad (by rfl)); rfl) | refine cfa ?_)
        exact forQ_next (Q := fun _ _ => True) [] (j + 1) ⟨rfl, rfl, trivial, ⟨rfl, rfl, rfl, rfl, rfl, rfl, rfl, rfl, rfl, trivial⟩⟩ ⟨by omega, by rw [stn, hrj, hrk]; rfl⟩ (by omega)
    · have hdj := dge hgj
      rw [List.take_of_length_le hgj] at hrj
      repeat' (first | refine VC_seq ?_ | refine VC_region ?_ | refine VL_nil ?_ | refine VC_exit ?_ | ((apply VL_q); (first | exact qmv (by rfl) | exact qcp (by rfl) | exact qad (by rfl)); rfl) | refine cfa ?_)
      exact forQ_next (Q := fun _ _ => True) [] (i + 1) ⟨rfl, rfl, trivial, ⟨rfl, rfl, rfl, rfl, rfl, trivial⟩⟩ ⟨by omega, by rw [hr, hrj, hLe]; rfl⟩ (by omega)
  · have hd := dge hge
    rw [List.drop_eq_nil_of_le hge] at hr
    repeat' (first | refine VC_seq ?_ | refine VC_region ?_ | refine VL_nil ?_ | refine VC_ret ?_ | refine VC_exit ?_ | ((apply VL_q); (first | exact qmv (by rfl) | exact qas (by rfl) | exact qcp (by rfl)); rfl) | refine cfa ?_)
    show Res _ _ _ _
    refine Res.one (by rfl) (ResV_tmp (by rfl) ?_)
    rw [hr]; simp [ordT]
theorem soundC_tree (c : Cfg) (l : List Nd) : soundC c l = treeB l fun rows => distB (slotQ rows.flatten) && !decide (c.slots < (l.length : Int)) && (rows.all fun r => r.all (seatB c)) && rows.all linkedW && ordT rows := by
  unfold soundC treeB
  cases rowsL l with
  | none => rfl
  | some rows => simp only [Bool.and_assoc]
theorem sound_Check (c : Cfg) (v : Value) (l : List Nd) (w : World) (M : Mem) (hMw : M.le (Mem.of w)) (hl : SlM M 10 ndCells v l) (hN : NdsOk M l) :
    Calls Tryz.prog 18 #[.agg #[.int .i64 c.fanout, .int .i64 c.leaf, .int .i64 c.budget, .int .i64 c.slots, .int .i64 c.restarts], v] w fun e w' => e = .returned (.bool (soundC c l)) ∧ Below w.heap.size w w' := by
  obtain ⟨A, c0, rfl, hc1, hc2, _⟩ := id hl
  unfold maxLen at hc2
  have hlen := hN.len
  have cL := fun W (hW : M.le (Mem.of W)) => sound_Linked _ l W M hW hl hN
  have cO := fun W (hW : M.le (Mem.of W)) => sound_Ordered _ l W M hW hl hN
  rw [soundC_tree]
  unfold linkC at cL
  unfold ordC at cO
  refine V_flat (args := [.agg #[.int .i64 c.fanout, .int .i64 c.leaf, .int .i64 c.budget, .int .i64 c.slots, .int .i64 c.restarts], .slice A l.length c0]) (M := M) Tryz.func18 rfl Tryz.ntmps18 (by rfl) (hMw) ?_
  repeat' (first | refine VC_seq ?_ | refine VC_region ?_ | refine VL_nil ?_ | refine kbox ?_ | ((apply VL_q); (first | exact qmv (by rfl) | exact qas (by rfl)); rfl))
  refine VL_callM (by rfl) (fun W hW => sound_levels _ l W M hW hl hN) (by rfl) (fun u M1 hle1 ⟨xv, ok, R, hu, hR, hRo, hRn, hRm, hL⟩ => ?_)
  subst hu
  cases ok with
  | false =>
    rw [tree_no hL]
    repeat' (first | refine VC_seq ?_ | refine VC_region ?_ | refine VL_nil ?_ | refine VC_ret ?_ | ((apply VL_q); (first | exact qmv (by rfl) | exact qas (by rfl) | exact qno (by rfl) | exact qex (by rfl) | exact qpt (by rfl)); rfl) | refine kno ?_ | refine ctr ?_)
    show Res _ _ _ _
    refine Res.one (by rfl) (ResV_tmp (by rfl) ?_)
    rfl
  | true =>
    rw [tree_yes hL] at cL cO ⊢
    obtain ⟨B, d, rfl, hd1, hd2, _⟩ := id hR
    unfold maxLen at hd2
    have c1 := fun W (hW : M1.le (Mem.of W)) => sound_once _ R W M1 hW hR hRo (by omega) (fun p hp => by have := hRm p hp; omega)
    cases h1 : distB (slotQ (R.map (·.2)).flatten) with
    | false =>
      rw [h1] at c1
      repeat' (first | refine VC_seq ?_ | refine VC_region ?_ | refine VL_nil ?_ | refine VC_ret ?_ | ((apply VL_q); (first | exact QS_call (by rfl) c1 | exact qmv (by rfl) | exact qas (by rfl) | exact qno (by rfl) | exact qex (by rfl) | exact qpt (by rfl) | exact qpf (by rfl)); rfl) | refine kyes ?_ | refine kno ?_ | refine ctr ?_)
      show Res _ _ _ _
      refine Res.one (by rfl) (ResV_tmp (by rfl) ?_)
      rfl
    | true =>
      rw [h1] at c1
      cases h3 : decide (c.slots < (l.length : Int)) with
      | true =>
        repeat' (first | refine VC_seq ?_ | refine VC_region ?_ | refine VL_nil ?_ | refine VC_ret ?_ | ((apply VL_q); (first | exact QS_call (by rfl) c1 | exact qmv (by rfl) | exact qas (by rfl) | exact ql1 (by rfl) | exact qfa (by rfl) | exact qno (by rfl) | exact qex (by rfl) | exact qln (by rfl) | exact qpf (by rfl) | exact qcp (by rfl)); rfl) | refine kyes ?_ | refine ctr ?_)
        show Res _ _ _ _
        refine Res.one (by rfl) (ResV_tmp (by rfl) ?_)
        rfl
      | false =>
        have hfold : (true && !false && ((R.map (·.2)).all fun r => r.all (seatB c)) && (R.map (·.2)).all linkedW && ordT (R.map (·.2))) = ((R.all fun p => p.2.all (seatB c)) && ((R.map (·.2)).all linkedW && ordT (R.map (·.2)))) := by rw [List.all_map]; simp only [Bool.true_and, Bool.not_false, Bool.and_assoc]; rfl
        rw [hfold]
        repeat' (first | refine VC_seq ?_ | refine VC_region ?_ | refine VL_nil ?_ | refine VC_block ?_ | refine VC_skip ?_ | ((apply VL_q); (first | exact QS_call (by rfl) c1 | exact qmv (by rfl) | exact qas (by rfl) | exact ql1 (by rfl) | exact qfa (by rfl) | exact qno (by rfl) | exact qex (by rfl) | exact qln (by rfl) | exact qpf (by rfl) | exact qcp (by rfl)); rfl) | refine kyes ?_ | refine cfa ?_)
        refine VC_for (fun k : Nat => ⟨M1, [.blk 23 [.int .i64 c.fanout, .int .i64 c.leaf, .int .i64 c.budget, .int .i64 c.slots, .int .i64 c.restarts]], [(1, .v (.slice A l.length c0)), (2, .p 0 0), (30, .v (.slice B R.length d)), (31, .v (.int .i64 R.length)), (32, .v (.int .i64 k))]⟩) (fun k => k ≤ R.length ∧ (R.take k).all (fun p => p.2.all (seatB c)) = true) (fun k => R.length - k) [0] 0 ⟨rfl, rfl, ⟨rfl, trivial⟩, ⟨rfl, rfl, rfl, rfl, rfl, trivial⟩⟩ ⟨by omega, rfl⟩ ?_
        rintro i ⟨hi, hr⟩
        rcases Nat.lt_or_ge i R.length with hlt | hge
        · have hd := dlt hlt
          obtain ⟨b, off, rfl, hcA⟩ := hR.get hlt
          have hp := hRo R[i] (List.getElem_mem hlt)
          have hpn := hRm R[i] (List.getElem_mem hlt)
          have stp := fun h => allG_stop hlt (p := fun p : Value × List Sq => p.2.all (seatB c)) h
          have stn := allG_step hlt (fun p : Value × List Sq => p.2.all (seatB c))
          generalize R[i] = p at *
          obtain ⟨pv, row⟩ := p
          obtain ⟨hps, hpo⟩ := hp
          dsimp only at hps hpo hpn stp stn hcA
          obtain ⟨P, e, rfl, he1, he2, _⟩ := id hps
          unfold maxLen at he2
          repeat' (first | refine VC_seq ?_ | refine VC_region ?_ | refine VL_nil ?_ | refine VC_block ?_ | refine VC_skip ?_ | ((apply VL_q); (first | exact QS_indexAddr (i) (by rfl) (by rfl) (by omega) (by omega) | exact QS_mload1 (by rfl) (hcA 0 _ (by rfl)) | exact qmv (by rfl) | exact qas (by rfl) | exact qln (by rfl) | exact qcp (by rfl)); rfl) | refine ctr ?_)
          refine VC_for (fun j : Nat => ⟨M1, [.blk 23 [.int .i64 c.fanout, .int .i64 c.leaf, .int .i64 c.budget, .int .i64 c.slots, .int .i64 c.restarts]], [(1, .v (.slice A l.length c0)), (2, .p 0 0), (30, .v (.slice (some ⟨b, off, none⟩) R.length d)), (31, .v (.int .i64 R.length)), (32, .v (.int .i64 i)), (36, .v (.slice P row.length e)), (37, .v (.int .i64 row.length)), (38, .v (.int .i64 j))]⟩) (fun j => j ≤ row.length ∧ (row.take j).all (seatB c) = true) (fun j => row.length - j) [0] 0 ⟨rfl, rfl, ⟨rfl, trivial⟩, ⟨rfl, rfl, rfl, rfl, rfl, rfl, rfl, rfl, trivial⟩⟩ ⟨by omega, rfl⟩ ?_
          rintro j ⟨hj, hrj⟩
          rcases Nat.lt_or_ge j row.length with hlj | hgj
          · have hdj := dlt hlj
            obtain ⟨b2, off2, rfl, hcB⟩ := hps.get hlj
            have hx := hpo row[j] (List.getElem_mem hlj)
            have hone := pl_one hx
            have stp2 := fun h => allG_stop hlj (p := seatB c) h
            have stn2 := allG_step hlj (seatB c)
            have cR := fun W (hW : M1.le (Mem.of W)) => node_Right c row[j].n W (hx.ok.mono hW) hx.big
            have cP := fun W (hW : M1.le (Mem.of W)) => sound_placed row[j] W M1 hW hx
            have hsb : seatB c row[j] = (rightN c row[j].n && placedQ row[j] && !decide (c.slots ≤ row[j].n.slot)) := rfl
            generalize row[j] = x at *
            cases q1 : rightN c x.n with
            | false =>
              rw [q1] at cR
              repeat' (first | refine ksN ?_ (hu := hone) | refine VC_seq ?_ | refine VC_region ?_ | refine VL_nil ?_ | refine VC_ret ?_ | refine VC_block ?_ | refine VC_skip ?_ | refine kall ?_ | ((apply VL_q); (first | exact QS_indexAddr (j) (by rfl) (by rfl) (by omega) (by omega) | exact QS_mloadN _ (by rfl) hcB _ (by rfl) | exact qlN (by rfl) | exact QS_call (by rfl) cR | exact qmv (by rfl) | exact qas (by rfl) | exact qfa (by rfl) | exact qno (by rfl) | exact qpt (by rfl) | exact qcp (by rfl)); rfl) | refine kno ?_ | refine ctr ?_)
              show Res _ _ _ _
              refine Res.one (by rfl) (ResV_tmp (by rfl) ?_)
              rw [stp (stp2 (by rw [hsb, q1]; rfl))]; simp
            | true =>
              rw [q1] at cR
              cases q2 : placedQ x with
              | false =>
                rw [q2] at cP
                repeat' (first | refine ksN ?_ (hu := hone) | refine VC_seq ?_ | refine VC_region ?_ | refine VL_nil ?_ | refine VC_ret ?_ | refine VC_block ?_ | refine VC_skip ?_ | refine kall ?_ | ((apply VL_q); (first | exact QS_indexAddr (j) (by rfl) (by rfl) (by omega) (by omega) | exact QS_mloadN _ (by rfl) hcB _ (by rfl) | exact qlN (by rfl) | exact QS_call (by rfl) cR | exact QS_call (by rfl) cP | exact qmv (by rfl) | exact qas (by rfl) | exact qfa (by rfl) | exact qno (by rfl) | exact qpt (by rfl) | exact qpf (by rfl) | exact qcp (by rfl)); rfl) | refine kyes ?_ | refine kno ?_ | refine ctr ?_)
                show Res _ _ _ _
                refine Res.one (by rfl) (ResV_tmp (by rfl) ?_)
                rw [stp (stp2 (by rw [hsb, q1, q2]; rfl))]; simp
              | true =>
                rw [q2] at cP
                cases q3 : decide (c.slots ≤ x.n.slot) with
                | true =>
                  repeat' (first | refine ksN ?_ (hu := hone) | refine VC_seq ?_ | refine VC_region ?_ | refine VL_nil ?_ | refine VC_ret ?_ | refine VC_block ?_ | refine VC_skip ?_ | refine kall ?_ | ((apply VL_q); (first | exact QS_indexAddr (j) (by rfl) (by rfl) (by omega) (by omega) | exact QS_mloadN _ (by rfl) hcB _ (by rfl) | exact qlN (by rfl) | exact QS_call (by rfl) cR | exact QS_call (by rfl) cP | exact qmv (by rfl) | exact qas (by rfl) | exact ql1 (by rfl) | exact qfa (by rfl) | exact qno (by rfl) | exact qpf (by rfl) | exact qcp (by rfl)); rfl) | refine kyes ?_ | refine ctr ?_)
                  show Res _ _ _ _
                  refine Res.one (by rfl) (ResV_tmp (by rfl) ?_)
                  rw [stp (stp2 (by rw [hsb, q1, q2, q3]; rfl))]; simp
                | false =>
                  repeat' (first | refine ksN ?_ (hu := hone) | refine VC_seq ?_ | refine VC_region ?_ | refine VL_nil ?_ | refine VC_block ?_ | refine VC_skip ?_ | refine kall ?_ | ((apply VL_q); (first | exact QS_indexAddr (j) (by rfl) (by rfl) (by omega) (by omega) | exact QS_mloadN _ (by rfl) hcB _ (by rfl) | exact qlN (by rfl) | exact QS_call (by rfl) cR | exact QS_call (by rfl) cP | exact qmv (by rfl) | exact ql1 (by rfl) | exact qfa (by rfl) | exact qno (by rfl) | exact qpf (by rfl) | exact qcp (by rfl) | exact qad (by rfl)); rfl) | refine kyes ?_ | refine ctr ?_ | refine cfa ?_)
                  exact forQ_next (Q := fun _ _ => True) [0] (j + 1) ⟨rfl, rfl, ⟨rfl, trivial⟩, ⟨rfl, rfl, rfl, rfl, rfl, rfl, rfl, rfl, trivial⟩⟩ ⟨by omega, by rw [stn2, hrj, hsb, q1, q2, q3]; rfl⟩ (by omega)
          · have hdj := dge hgj
            rw [List.take_of_length_le hgj] at hrj
            repeat' (first | refine VC_seq ?_ | refine VC_region ?_ | refine VL_nil ?_ | refine VC_exit ?_ | ((apply VL_q); (first | exact qmv (by rfl) | exact qcp (by rfl) | exact qad (by rfl)); rfl) | refine cfa ?_)
            exact forQ_next (Q := fun _ _ => True) [0] (i + 1) ⟨rfl, rfl, ⟨rfl, trivial⟩, ⟨rfl, rfl, rfl, rfl, rfl, trivial⟩⟩ ⟨by omega, by rw [stn, hr, hrj]; rfl⟩ (by omega)
        · have hd := dge hge
          rw [List.take_of_length_le hge] at hr
          rw [hr]
          have cL' := fun W (hW : M1.le (Mem.of W)) => cL W (hle1.trans hW)
          have cO' := fun W (hW : M1.le (Mem.of W)) => cO W (hle1.trans hW)
          clear cL cO
          cases h5 : (R.map (·.2)).all linkedW with
          | false =>
            rw [h5] at cL'
            repeat' (first | refine VC_seq ?_ | refine VC_region ?_ | refine VL_nil ?_ | refine VC_ret ?_ | refine VC_exit ?_ | ((apply VL_q); (first | exact QS_call (by rfl) cL' | exact qmv (by rfl) | exact qas (by rfl) | exact qpf (by rfl) | exact qcp (by rfl)); rfl) | refine kno ?_ | refine cfa ?_)
            show Res _ _ _ _
            refine Res.one (by rfl) (ResV_tmp (by rfl) ?_)
            rfl
          | true =>
            rw [h5] at cL'
            generalize ordT (R.map (·.2)) = ob at *
            repeat' (first | refine VC_seq ?_ | refine VC_region ?_ | refine VL_nil ?_ | refine VC_ret ?_ | refine VC_exit ?_ | ((apply VL_q); (first | exact QS_call (by rfl) cL' | exact QS_call (by rfl) cO' | exact qmv (by rfl) | exact qas (by rfl) | exact qpt (by rfl) | exact qcp (by rfl)); rfl) | refine kyes ?_ | refine cfa ?_)
            show Res _ _ _ _
            refine Res.one (by rfl) (ResV_tmp (by rfl) ?_)
            cases ob <;> rfl
end Go.Proofs.YtlapnbklbpeddaaGreat
