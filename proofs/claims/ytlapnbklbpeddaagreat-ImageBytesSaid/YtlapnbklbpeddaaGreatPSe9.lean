/- The code's once and levels. -/
import Derived.Test.YtlapnbklbpeddaaGreatPSe8
namespace Go.Proofs.YtlapnbklbpeddaaGreat
open Go Go.RowKit
attribute [local irreducible] Calls
set_option linter.unusedVariables false
set_option maxRecDepth 20000
set_option linter.unusedSimpArgs false
set_option maxHeartbeats 8000000
/-- A level in memory: its slice, and what it reads as. -/
abbrev rvCells (p : Value × List Sq) : List Value := [p.1]
structure RowOk (M : Mem) (p : Value × List Sq) : Prop where
  sl : SlM M 13 plCells p.1 p.2
  ok : ∀ x ∈ p.2, PlOk M x
theorem RowOk.mono {M M' : Mem} {p : Value × List Sq} (h : RowOk M p) (hle : M.le M') : RowOk M' p := ⟨h.sl.mono hle, fun x hx => (h.ok x hx).mono hle⟩
def metE (S : List Int) : List (Int × Value) := S.map fun s => (s, .bool true)
theorem lookM_met (S : List Int) (n : Int) : lookM (metE S) n = if n ∈ S then some (.bool true) else none := by
  unfold lookM metE
  induction S with
  | nil => rfl
  | cons a S ih =>
    rw [List.map_cons, List.find?_cons]
    by_cases h : a = n
    · subst h; simp
    · have h1 : (a == n) = false := beq_eq_false_iff_ne.2 h
      have h2 : n ∈ a :: S ↔ n ∈ S := by rw [List.mem_cons]; exact ⟨fun h' => h'.resolve_left (fun e => h e.symm), .inr⟩
      simp only [h1]
      rw [ih]
      simp only [h2]
theorem slotQ_cons (x : Sq) (l : List Sq) : slotQ (x :: l) = x.n.slot :: slotQ l := rfl
theorem slotQ_app (a b : List Sq) : slotQ (a ++ b) = slotQ a ++ slotQ b := List.map_append
theorem sound_once (v : Value) (R : List (Value × List Sq)) (w : World) (M : Mem) (hMw : M.le (Mem.of w)) (hR : SlM M 1 rvCells v R) (hok : ∀ p ∈ R, RowOk M p) (hn : R.length ≤ 1000000000) (hnr : ∀ p ∈ R, p.2.length ≤ 1000000000) :
    Calls Tryz.prog 37 #[v] w fun e w' => e = .returned (.bool (distB (slotQ (R.map (·.2)).flatten))) ∧ Below w.heap.size w w' := by
  obtain ⟨A, c, rfl, hc1, hc2, _⟩ := id hR
  unfold maxLen at hc2
  refine V_flat (args := [.slice A R.length c]) (M := M) Tryz.func37 rfl Tryz.ntmps37 (by rfl) (hMw) ?_
  repeat' (first | refine VC_seq ?_ | refine VC_region ?_ | refine VL_nil ?_ | ((apply VL_q); (exact qas (by rfl)); rfl))
  refine VL_e _ _ EF_map (by rfl) (by rfl) ?_
  repeat' (first | refine VC_seq ?_ | refine VC_region ?_ | refine VL_nil ?_ | refine VC_block ?_ | ((apply VL_q); (first | exact qmv (by rfl) | exact qas (by rfl) | exact qln (by rfl)); rfl))
  have hT : ∃ T, slotQ (R.map (·.2)).flatten = T := ⟨_, rfl⟩
  obtain ⟨T, hT⟩ := hT
  rw [hT]
  refine VC_for (fun x : Nat × List Int => ⟨M, [.omap (metE x.2)], [(3, .r 0), (9, .v (.slice A R.length c)), (10, .v (.int .i64 R.length)), (11, .v (.int .i64 (x.1 : Nat)))]⟩) (fun x => x.1 ≤ R.length ∧ x.2.Nodup ∧ T = x.2 ++ slotQ ((R.drop x.1).map (·.2)).flatten) (fun x => R.length - x.1) [0] (0, []) ⟨rfl, rfl, ⟨rfl, trivial⟩, ⟨rfl, rfl, rfl, rfl, trivial⟩⟩ ⟨Nat.zero_le _, List.nodup_nil, hT.symm⟩ ?_
  rintro ⟨i, S⟩ ⟨hi, hS, hTS⟩
  dsimp only at hi hS hTS ⊢
  rcases Nat.lt_or_ge i R.length with hlt | hge
  · have hd := dlt hlt
    obtain ⟨b, off, rfl, hcA⟩ := hR.get hlt
    have hro := hok R[i] (List.getElem_mem hlt)
    have hrn := hnr R[i] (List.getElem_mem hlt)
    rw [List.drop_eq_getElem_cons hlt, List.map_cons, List.flatten_cons, slotQ_app] at hTS
    generalize hrest : slotQ (((R.drop (i + 1)).map (·.2)).flatten) = rest at *
    generalize R[i] = p at *
    obtain ⟨u, row⟩ := p
    obtain ⟨hrs, hrk⟩ := hro
    dsimp only at hrs hrk hrn hTS hcA
    obtain ⟨B, d, rfl, hd1, hd2, _⟩ := id hrs
    unfold maxLen at hd2
    repeat' (first | refine VC_seq ?_ | refine VC_region ?_ | refine VL_nil ?_ | refine VC_block ?_ | refine VC_skip ?_ | ((apply VL_q); (first | exact QS_indexAddr (i) (by rfl) (by rfl) (by omega) (by omega) | exact QS_mload1 (by rfl) (hcA 0 _ (by rfl)) | exact qmv (by rfl) | exact qas (by rfl) | exact qln (by rfl) | exact qcp (by rfl)); rfl) | refine ctr ?_)
    refine VC_for (fun x : Nat × List Int => ⟨M, [.omap (metE x.2)], [(3, .r 0), (9, .v (.slice (some ⟨b, off, none⟩) R.length c)), (10, .v (.int .i64 R.length)), (11, .v (.int .i64 (i : Nat))), (15, .v (.slice B row.length d)), (16, .v (.int .i64 row.length)), (17, .v (.int .i64 (x.1 : Nat)))]⟩) (fun x => x.1 ≤ row.length ∧ x.2.Nodup ∧ T = x.2 ++ (slotQ (row.drop x.1) ++ rest)) (fun x => row.length - x.1) [0] (0, S) ⟨rfl, rfl, ⟨rfl, trivial⟩, ⟨rfl, rfl, rfl, rfl, rfl, rfl, rfl, trivial⟩⟩ ⟨Nat.zero_le _, hS, hTS⟩ ?_
    rintro ⟨j, S2⟩ ⟨hj, hS2, hTS2⟩
    dsimp only at hj hS2 hTS2 ⊢
    rcases Nat.lt_or_ge j row.length with hlj | hgj
    · have hdj := dlt hlj
      obtain ⟨b2, off2, rfl, hcB⟩ := hrs.get hlj
      have hone := pl_one (hrk row[j] (List.getElem_mem hlj))
      rw [List.drop_eq_getElem_cons hlj, slotQ_cons] at hTS2
      generalize row[j] = x at *
      have hlk := lookM_met S2 x.n.slot
      by_cases hm : x.n.slot ∈ S2
      · rw [if_pos hm] at hlk
        have hv : (lookM (metE S2) x.n.slot).getD (.bool false) = .bool true := by rw [hlk]; rfl
        repeat' (first | refine ksN ?_ (hu := hone) | refine VC_seq ?_ | refine VC_region ?_ | refine VL_nil ?_ | refine VC_ret ?_ | refine VC_block ?_ | refine VC_skip ?_ | refine kall ?_ | ((apply VL_q); (first | exact QS_indexAddr (j) (by rfl) (by rfl) (by omega) (by omega) | exact QS_mloadN _ (by rfl) hcB _ (by rfl) | exact QS_look1 (by rfl) (by rfl) (by rfl) hv | exact qmv (by rfl) | exact qas (by rfl) | exact ql1 (by rfl) | exact qfa (by rfl) | exact qcp (by rfl)); rfl) | refine ctr ?_)
        show Res _ _ _ _
        refine Res.one (by rfl) (ResV_tmp (by rfl) ?_)
        refine congrArg Value.bool ?_
        refine (decide_eq_false fun hnd => ?_).symm
        rw [hTS2, List.nodup_append] at hnd
        exact hnd.2.2 _ hm _ (by simp) rfl
      · rw [if_neg hm] at hlk
        have hv : (lookM (metE S2) x.n.slot).getD (.bool false) = .bool false := by rw [hlk]; rfl
        repeat' (first | refine ksN ?_ (hu := hone) | refine VC_seq ?_ | refine VC_region ?_ | refine VL_nil ?_ | refine VC_block ?_ | refine VC_skip ?_ | refine kall ?_ | ((apply VL_q); (first | exact QS_indexAddr (j) (by rfl) (by rfl) (by omega) (by omega) | exact QS_mloadN _ (by rfl) hcB _ (by rfl) | exact QS_look1 (by rfl) (by rfl) (by rfl) hv | exact qmv (by rfl) | exact ql1 (by rfl) | exact qfa (by rfl) | exact qcp (by rfl)); rfl) | refine ctr ?_ | refine cfa ?_)
        refine VL_e _ _ (EF_st (ES_mapPut (by rfl) (by rfl) (by rfl) (by rfl) hlk) (by simp)) (by rfl) (by rfl) ?_
        repeat' (first | refine VC_region ?_ | refine VL_nil ?_ | ((apply VL_q); (first | exact qmv (by rfl) | exact qad (by rfl)); rfl))
        refine forQ_next (Q := fun _ _ => True) [0] (j + 1, S2 ++ [x.n.slot]) ⟨rfl, rfl, ⟨by show some (Ob.omap (metE S2 ++ [(x.n.slot, .bool true)])) = some (Ob.omap (metE (S2 ++ [x.n.slot]))); unfold metE; rw [List.map_append]; rfl, trivial⟩, ⟨rfl, rfl, rfl, rfl, rfl, rfl, rfl, trivial⟩⟩ ⟨hlj, ?_, ?_⟩ (by show row.length - (j + 1) < row.length - j; omega)
        · rw [List.nodup_append]
          exact ⟨hS2, by simp, fun a ha b hb e => hm (by simp at hb; rw [← hb, ← e]; exact ha)⟩
        · show T = S2 ++ [x.n.slot] ++ _
          rw [hTS2]; simp
    · have hdj := dge hgj
      rw [List.drop_eq_nil_of_le hgj] at hTS2
      repeat' (first | refine VC_seq ?_ | refine VC_region ?_ | refine VL_nil ?_ | refine VC_exit ?_ | ((apply VL_q); (first | exact qmv (by rfl) | exact qcp (by rfl) | exact qad (by rfl)); rfl) | refine cfa ?_)
      exact forQ_next (Q := fun _ _ => True) [0] (i + 1, S2) ⟨rfl, rfl, ⟨rfl, trivial⟩, ⟨rfl, rfl, rfl, rfl, trivial⟩⟩ ⟨hlt, hS2, by show T = S2 ++ slotQ _; rw [hrest]; exact hTS2⟩ (by show R.length - (i + 1) < R.length - i; omega)
  · have hd := dge hge
    rw [List.drop_eq_nil_of_le hge] at hTS
    have : T = S := by rw [hTS]; simp [slotQ]
    subst this
    repeat' (first | refine VC_seq ?_ | refine VC_region ?_ | refine VL_nil ?_ | refine VC_ret ?_ | refine VC_exit ?_ | ((apply VL_q); (first | exact qas (by rfl) | exact qcp (by rfl)); rfl) | refine cfa ?_)
    show Res _ _ _ _
    refine Res.one (by rfl) (ResV_tmp (by rfl) ?_)
    exact congrArg Value.bool (decide_eq_true hS).symm
end Go.Proofs.YtlapnbklbpeddaaGreat
