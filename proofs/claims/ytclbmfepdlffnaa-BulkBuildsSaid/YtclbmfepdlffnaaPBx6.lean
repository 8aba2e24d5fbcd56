/- The bulk layer: the library's Reverse, Grow and Concat. -/
import Derived.Test.YtclbmfepdlffnaaPBx5
import Derived.Test.YtclbmfepdlffnaaPLg10
namespace Go.Proofs.Ytclbmfepdlffnaa
open Go Go.RowKit
attribute [local irreducible] Calls
set_option linter.unusedVariables false
set_option maxRecDepth 20000
set_option linter.unusedSimpArgs false
set_option maxHeartbeats 4000000
/-- The first i and the last i are swapped. -/
def revF (us : List Value) (i : Nat) : List Value := (List.range us.length).map fun q => if q < i ∨ us.length ≤ q + i then us.getD (us.length - 1 - q) undef else us.getD q undef
theorem revF_len (us : List Value) (i : Nat) : (revF us i).length = us.length := by simp [revF]
theorem revF_get (us : List Value) (i : Nat) {q : Nat} (h : q < us.length) : (revF us i)[q]? = some (if q < i ∨ us.length ≤ q + i then us.getD (us.length - 1 - q) undef else us.getD q undef) := by
  simp [revF, h]
theorem revF_zero (us : List Value) : revF us 0 = us := by
  apply List.ext_getElem?
  intro q
  rcases Nat.lt_or_ge q us.length with h | h
  · rw [revF_get us 0 h, if_neg (by omega), List.getD_eq_getElem?_getD, List.getElem?_eq_getElem h]; rfl
  · rw [List.getElem?_eq_none (by rw [revF_len]; omega), List.getElem?_eq_none h]
theorem revF_end (us : List Value) {i : Nat} (hi : us.length ≤ 2 * i + 1) : revF us i = us.reverse := by
  apply List.ext_getElem?
  intro q
  rcases Nat.lt_or_ge q us.length with h | h
  · rw [revF_get us i h, List.getElem?_reverse h]
    by_cases hc : q < i ∨ us.length ≤ q + i
    · rw [if_pos hc, List.getD_eq_getElem?_getD, List.getElem?_eq_getElem (by omega)]; rfl
    · rw [if_neg hc, List.getD_eq_getElem?_getD, show us.length - 1 - q = q by omega, List.getElem?_eq_getElem h]; rfl
  · rw [List.getElem?_eq_none (by rw [revF_len]; omega), List.getElem?_eq_none (by rw [List.length_reverse]; omega)]
theorem revF_step (us : List Value) {i : Nat} (hi : 2 * i + 1 < us.length) : ((revF us i).set i (us.getD (us.length - 1 - i) undef)).set (us.length - 1 - i) (us.getD i undef) = revF us (i + 1) := by
  apply List.ext_getElem?
  intro q
  rcases Nat.lt_or_ge q us.length with h | h
  · rw [revF_get us (i + 1) h]
    by_cases h1 : us.length - 1 - i = q
    · subst h1
      rw [List.getElem?_set_self (by rw [List.length_set, revF_len]; omega), if_pos (by omega), show us.length - 1 - (us.length - 1 - i) = i by omega]
    · rw [List.getElem?_set_ne h1]
      by_cases h2 : i = q
      · subst h2
        rw [List.getElem?_set_self (by rw [revF_len]; omega), if_pos (by omega)]
      · rw [List.getElem?_set_ne h2, revF_get us i h]
        by_cases h3 : q < i ∨ us.length ≤ q + i
        · rw [if_pos h3, if_pos (by omega)]
        · rw [if_neg h3, if_neg (by omega)]
  · rw [List.getElem?_eq_none (by rw [List.length_set, List.length_set, revF_len]; omega), List.getElem?_eq_none (by rw [revF_len]; omega)]
theorem slices_ReverseN (g c n : Nat) (us : List Value) (M : Mem) (hn : us.length = n) (hn2 : n ≤ 1000000) (h1 : ∀ u ∈ us, u.oneCell' = true) :
    CallX Try.prog 88 [.slice (some ⟨g, 0, none⟩) n c] M [.nrow (.slice (some ⟨g, 0, none⟩) n c) 80 1 n us]
      (fun v own' => v = .tuple #[] ∧ own' = [.nrow (.slice (some ⟨g, 0, none⟩) n c) 80 1 n us.reverse]) := by
  refine V_x Try.func88 rfl Try.ntmps88 (by rfl) (fun w M0 => ?_)
  have h00 : (n : Int) - 1 = (n : Int) - 1 - ((0 : Nat) : Int) := by omega
  repeat' (first | refine VC_seq ?_ | refine VC_region ?_ | refine VL_nil ?_ | refine VC_block ?_ | ((apply VL_q); (first | exact qmv (by rfl) | exact qas (by rfl) | exact qln (by rfl) | exact qsu (by rfl)); rfl))
  refine VC_for (fun i : Nat => ⟨M, [.nrow (.slice (some ⟨g, 0, none⟩) n c) 80 1 n (revF us i)], [(0, .v (.slice (some ⟨g, 0, none⟩) n c)), (2, .v (.int .i64 i)), (3, .v (.int .i64 ((n : Int) - 1 - (i : Int))))]⟩) (fun i => 2 * i ≤ n) (fun i => n - i) [0] 0 ⟨rfl, rfl, ⟨by rw [revF_zero]; rfl, trivial⟩, ⟨rfl, rfl, by rw [← h00]; rfl, trivial⟩⟩ (by omega) ?_
  intro i hi
  by_cases hlt : 2 * i + 1 < n
  · have hd : decide ((i : Int) < (n : Int) - 1 - (i : Int)) = true := decide_eq_true (by omega)
    have hst := revF_step us (i := i) (by omega)
    have hL := revF_len us i
    have c1 : (revF us i)[0 + i * 1]? = some (us.getD i undef) := by rw [show 0 + i * 1 = i by omega, revF_get us i (by omega), if_neg (by omega)]
    have c2 : (revF us i)[0 + (n - 1 - i) * 1]? = some (us.getD (n - 1 - i) undef) := by rw [show 0 + (n - 1 - i) * 1 = n - 1 - i by omega, revF_get us i (by omega), if_neg (by omega)]
    have u1 : (us.getD i undef).oneCell' = true := by
      rw [List.getD_eq_getElem?_getD, List.getElem?_eq_getElem (by omega)]
      exact h1 _ (List.getElem_mem (by omega))
    have u2 : (us.getD (n - 1 - i) undef).oneCell' = true := by
      rw [List.getD_eq_getElem?_getD, List.getElem?_eq_getElem (by omega)]
      exact h1 _ (List.getElem_mem (by omega))
    rw [hn] at hst
    generalize us.getD i undef = x1 at *
    generalize us.getD (n - 1 - i) undef = x2 at *
    generalize hrv : revF us i = L at *
    repeat' (first | refine VC_seq ?_ | refine VC_region ?_ | refine VL_nil ?_ | refine VC_block ?_ | refine VC_skip ?_ | ((apply VL_q); (first | exact qmv (by rfl) | exact qcp (by rfl)); rfl) | refine ctr ?_)
    refine VC_drawG [0] [7, 11, 13, 15] (by decide +kernel) (by rfl) (by rfl) ?_
    repeat' (first | refine VQm_nil ?_ | refine VQm_e (by rfl) ?_ | refine VQm_q (by rfl) _ (by exact wno (by first | exact QS_indexAddr i (by rfl) (by rfl) (by omega) (by omega) | exact QS_indexAddr (n - 1 - i) (by rfl) (by rfl) (by omega) (by omega) | exact qmv (by rfl))) (by rfl) (by rfl) ?_ | refine VF_done ?_ | refine VF_step ?_ | exact VFs_nil | refine VFs_e (by rfl) _ _ (by exact fno (by first | exact EF_q (QS_nload1 0 (by rfl) (by rfl) (by rfl) c1) (by rfl) | exact EF_q (QS_nload1 0 (by rfl) (by rfl) (by rfl) c2) (by rfl) | exact EF_st (ES_nrow1 0 (by rfl) (by rfl) (by rfl) (by rfl) (by (try simp only [List.length_set]); omega) (by first | exact u1 | exact u2)) (by rfl))) (by rfl) (by rfl) ?_ ?_)
    all_goals
      repeat' (first | refine VC_region ?_ | refine VL_nil ?_ | ((apply VL_q); (first | exact qmv (by rfl) | exact qas (by rfl) | exact qad (by rfl) | exact qsu (by rfl)); rfl))
      refine forQ_next (Q := fun _ _ => True) [0] (i + 1) ⟨rfl, rfl, ⟨?_, trivial⟩, ⟨rfl, rfl, ?_, trivial⟩⟩ (by omega) (by omega)
      · rw [← hst]
        show some (Ob.nrow _ _ 1 n ((L.set (0 + i * 1) x2).set (0 + (n - 1 - i) * 1) x1)) = _
        rw [show 0 + i * 1 = i by omega, show 0 + (n - 1 - i) * 1 = n - 1 - i by omega]
      · show some (SV.v (.int .i64 ((n : Int) - 1 - (i : Int) - 1))) = some (SV.v (.int .i64 ((n : Int) - 1 - ((i + 1 : Nat) : Int))))
        rw [show (n : Int) - 1 - ((i + 1 : Nat) : Int) = (n : Int) - 1 - (i : Int) - 1 by omega]
  · have hd : decide ((i : Int) < (n : Int) - 1 - (i : Int)) = false := decide_eq_false (by omega)
    have he := revF_end us (i := i) (by omega)
    repeat' (first | refine VC_seq ?_ | refine VC_region ?_ | refine VL_nil ?_ | refine VC_exit ?_ | ((apply VL_q); (first | exact qmv (by rfl) | exact qcp (by rfl)); rfl) | refine cfa ?_)
    exact ⟨_, [0], [.nrow (.slice (some ⟨g, 0, none⟩) n c) 80 1 n us.reverse], .inr (.inr (.inr ⟨by rfl, rfl⟩)), Mem.le_refl _, rfl, ⟨by rw [← he]; rfl, trivial⟩, rfl, rfl⟩
theorem slices_Grow0 (n : Nat) (w : World) (h0 : 0 < n) (hn : n ≤ 1000000) : Calls Try.prog 117 #[.slice none 0 0, .int .i64 n] w (RetRow 94 10 0 [] w) := by
  refine V_rowN (args := [.slice none 0 0, .int .i64 n]) (M := Mem.of w) Try.func117 rfl Try.ntmps117 (by rfl) (Mem.le_refl _) rfl ?_
  have d1 : decide ((n : Int) < 0) = false := decide_eq_false (by omega)
  have e1 : (n : Int) - (((0 : Nat) : Int) - ((0 : Nat) : Int)) = (n : Int) := by omega
  have d2 : decide ((0 : Int) < (n : Int) - (((0 : Nat) : Int) - ((0 : Nat) : Int))) = true := decide_eq_true (by omega)
  repeat' (first | refine VC_seq ?_ | refine VC_region ?_ | refine VL_nil ?_ | refine VC_skip ?_ | ((apply VL_q); (first | exact qcap (by rfl) | exact QS_slice 0 0 0 (by rfl) (by rfl) (by rfl) (by rfl) (by omega) (by omega) (by omega) (by omega) | exact qmv (by rfl) | exact qas (by rfl) | exact qln (by rfl) | exact qcp (by rfl) | exact qsu (by rfl)); rfl) | refine ctr ?_ | refine cfa ?_)
  refine VL_e _ _ (EF_appendZ (n := n) _ (by rfl) (by show some (SV.v (.int .i64 _)) = _; rw [e1]) rfl h0 (by unfold maxLen; omega) (by omega)) (by rfl) (by rfl) ?_
  repeat' (((apply VL_q); (first | exact qmv (by rfl) | exact qln (by rfl)); rfl))
  refine VL_e _ _ (EF_cut 0 (by rfl) (by rfl) (by rfl) (by omega)) (by rfl) (by rfl) ?_
  repeat' (first | refine VC_seq ?_ | refine VC_region ?_ | refine VL_nil ?_ | refine VC_ret ?_ | ((apply VL_q); (first | exact qmv (by rfl) | exact qas (by rfl)); rfl))
  exact .inl ⟨_, rfl, rfl⟩
abbrev valK (v : Value) : List Value := [v]
theorem slices_ConcatN (v : Value) (us : List Value) (rows : List (List Nd)) (w : World) (M : Mem) (hM : M.le (Mem.of w)) (hv : SlM M 1 valK v us) (hl : us.length = rows.length) (hr : ∀ (i : Nat) (u : Value) (r : List Nd), us[i]? = some u → rows[i]? = some r → SlM M 10 ndCells u r ∧ r ≠ []) (hsh : ∀ r ∈ rows, ∀ q ∈ r, Nd.Ok M q) (h0 : 0 < rows.flatten.length) (hn : rows.flatten.length ≤ 1000000) :
    Calls Try.prog 89 #[v] w (RetRow 94 10 rows.flatten.length (rows.flatten.flatMap ndCells) w) := by
  obtain ⟨A, c, rfl, hc1, hc2, _⟩ := id hv
  unfold maxLen at hc2
  refine V_rowN (args := [.slice A us.length c]) (M := M) Try.func89 rfl Try.ntmps89 (by rfl) hM rfl ?_
  have hstep : ∀ k (h : k < rows.length), (rows.take (k + 1)).flatten = (rows.take k).flatten ++ rows[k] := fun k h => by
    rw [List.take_succ_eq_append_getElem h, List.flatten_append]; simp
  have hle : ∀ k, (rows.take k).flatten.length ≤ rows.flatten.length := fun k => by
    conv => rhs; rw [← List.take_append_drop k rows, List.flatten_append, List.length_append]
    omega
  repeat' (first | refine VC_seq ?_ | refine VC_region ?_ | refine VL_nil ?_ | refine VC_block ?_ | ((apply VL_q); (first | exact qmv (by rfl) | exact qas (by rfl) | exact qln (by rfl)); rfl))
  refine VC_for (fun k : Nat => ⟨M, [], [(0, .v (.slice A us.length c)), (3, .v (.int .i64 ((rows.take k).flatten.length : Nat))), (9, .v (.slice A us.length c)), (10, .v (.int .i64 us.length)), (11, .v (.int .i64 k))]⟩) (fun k => k ≤ us.length) (fun k => us.length - k) [] 0 ⟨rfl, rfl, trivial, ⟨rfl, rfl, rfl, rfl, rfl, trivial⟩⟩ (by omega) ?_
  intro k hk
  rcases Nat.lt_or_ge k us.length with hlt | hge
  · have hd := dlt hlt
    have hlt2 : k < rows.length := by omega
    obtain ⟨b, off, rfl, hcA⟩ := hv.get hlt
    obtain ⟨hs, hne⟩ := hr k _ _ (List.getElem?_eq_getElem hlt) (List.getElem?_eq_getElem hlt2)
    obtain ⟨B, cb, hB⟩ : ∃ B cb, us[k] = .slice B rows[k].length cb := by
      obtain ⟨B, cb, h, _⟩ := id hs
      exact ⟨B, cb, h⟩
    have hst := hstep k hlt2
    have hll := hle (k + 1)
    rw [hst, List.length_append] at hll
    have hl3 : (rows.take (k + 1)).flatten.length = (rows.take k).flatten.length + rows[k].length := by rw [hst, List.length_append]
    rw [hB] at hcA
    clear hs hr
    generalize (rows.take k).flatten.length = s0 at *
    generalize rows[k].length = s1 at *
    have d2 : decide ((s0 : Int) + (s1 : Int) < 0) = false := decide_eq_false (by omega)
    repeat' (first | refine VC_seq ?_ | refine VC_region ?_ | refine VL_nil ?_ | refine VC_block ?_ | refine VC_skip ?_ | ((apply VL_q); (first | exact QS_indexAddr (k) (by rfl) (by rfl) (by omega) (by omega) | exact QS_mload1 (by rfl) (hcA 0 _ (by rfl)) | exact qmv (by rfl) | exact qas (by rfl) | exact qln (by rfl) | exact qcp (by rfl) | exact qad (by rfl)); rfl) | refine ctr ?_ | refine cfa ?_)
    exact forQ_next (Q := fun _ _ => True) [] (k + 1) ⟨rfl, rfl, trivial, ⟨rfl, by rw [hl3]; rfl, rfl, rfl, rfl, trivial⟩⟩ (by omega) (by omega)
  · have hd := dge hge
    have hke : k = rows.length := by omega
    rw [show (rows.take k) = rows by rw [hke, List.take_length]]
    have cG := fun W => slices_Grow0 rows.flatten.length W h0 hn
    repeat' (first | refine VC_seq ?_ | refine VC_region ?_ | refine VL_nil ?_ | refine VC_exit ?_ | ((apply VL_q); (first | exact qmv (by rfl) | exact qcp (by rfl)); rfl) | refine cfa ?_)
    refine VL_callO (by rfl) (fun W _ => cG W) (by rfl) (by rfl) ?_
    repeat' (first | refine VC_seq ?_ | refine VC_region ?_ | refine VL_nil ?_ | refine VC_block ?_ | ((apply VL_q); (first | exact qmv (by rfl) | exact qas (by rfl) | exact qln (by rfl)); rfl))
    refine VC_for (fun k : Nat => ⟨M, [.row 94 10 (rows.take k).flatten.length ((rows.take k).flatten.flatMap ndCells)], [(0, .v (.slice A us.length c)), (6, .r 0), (25, .v (.slice A us.length c)), (26, .v (.int .i64 us.length)), (27, .v (.int .i64 k))]⟩) (fun k => k ≤ us.length) (fun k => us.length - k) [0] 0 ⟨rfl, rfl, ⟨rfl, trivial⟩, ⟨rfl, rfl, rfl, rfl, rfl, trivial⟩⟩ (by omega) ?_
    intro k hk
    rcases Nat.lt_or_ge k us.length with hlt | hge
    · have hd := dlt hlt
      have hlt2 : k < rows.length := by omega
      obtain ⟨b, off, rfl, hcA⟩ := hv.get hlt
      obtain ⟨hs, hne⟩ := hr k _ _ (List.getElem?_eq_getElem hlt) (List.getElem?_eq_getElem hlt2)
      obtain ⟨B, cb, hB, _⟩ := id hs
      have hst := hstep k hlt2
      have hll := hle (k + 1)
      rw [hst, List.length_append] at hll
      rw [hB] at hcA hs
      obtain ⟨b2, off2, rfl, hcl, hcells⟩ := SlM.flat (k := 10) (cells := ndCells) (fun a _ => rfl) hs hne
      have hpos : 0 < rows[k].length := List.length_pos_iff.2 hne
      have h1 : ((rows[k].flatMap ndCells).all (·.oneCell')) = true := by
        rw [List.all_flatMap, List.all_eq_true]
        intro p hp
        exact nd_one (hsh _ (List.getElem_mem hlt2) p hp)
      repeat' (first | refine VC_seq ?_ | refine VC_region ?_ | refine VL_nil ?_ | refine VC_block ?_ | refine VC_skip ?_ | ((apply VL_q); (first | exact QS_indexAddr (k) (by rfl) (by rfl) (by omega) (by omega) | exact QS_mload1 (by rfl) (hcA 0 _ (by rfl)) | exact qmv (by rfl) | exact qas (by rfl) | exact qcp (by rfl)); rfl) | refine ctr ?_)
      refine VL_e _ _ (EF_appendM (rows[k].flatMap ndCells) (by rfl) (by rfl) (by rfl) hcl hcells hpos h1 (by unfold maxLen; omega) (by omega)) (by rfl) (by rfl) ?_
      repeat' (first | refine VC_region ?_ | refine VL_nil ?_ | ((apply VL_q); (first | exact qmv (by rfl) | exact qas (by rfl) | exact qad (by rfl)); rfl))
      refine forQ_next (Q := fun _ _ => True) [1] (k + 1) ⟨rfl, rfl, ⟨?_, trivial⟩, ⟨rfl, rfl, rfl, rfl, rfl, trivial⟩⟩ (by omega) (by omega)
      rw [hst, List.length_append, List.flatMap_append]; rfl
    · have hd := dge hge
      have hke : k = rows.length := by omega
      rw [show (rows.take k) = rows by rw [hke, List.take_length]]
      repeat' (first | refine VC_seq ?_ | refine VC_region ?_ | refine VL_nil ?_ | refine VC_ret ?_ | refine VC_exit ?_ | ((apply VL_q); (first | exact qmv (by rfl) | exact qas (by rfl) | exact qcp (by rfl)); rfl) | refine cfa ?_)
      exact .inl ⟨0, rfl, rfl⟩
end Go.Proofs.Ytclbmfepdlffnaa
