/- The document's Scan, Fold, View where nothing waits; Quiet; Between. -/
import Derived.Test.YtclbmfepdlffnaaPBx7
namespace Go.Proofs.Ytclbmfepdlffnaa
open Go Go.RowKit
attribute [local irreducible] Calls
set_option linter.unusedVariables false
set_option maxRecDepth 20000
set_option linter.unusedSimpArgs false
set_option maxHeartbeats 4000000
theorem flat_take {l : List Pair} {k : Nat} (h : k < l.length) : (l.take (k + 1)).flatMap pairCells = (l.take k).flatMap pairCells ++ pairCells l[k] := by
  rw [List.take_succ_eq_append_getElem h, List.flatMap_append]
  simp
theorem ref_ScanA (v : Value) (l : List Pair) (s : Span) (w : World) (M : Mem) (hM : M.le (Mem.of w)) (hl : SlM M 2 pairCells v l) (hn : l.length ≤ 1000000) (h1 : s.lo.size ≤ 1000000) (h2 : s.hi.size ≤ 1000000) (hk : ∀ p ∈ l, p.key.size ≤ 1000000 ∧ has s p.key = true) :
    Calls Try.prog 124 #[v, .agg #[.string s.lo, .string s.hi, .bool s.opn], .int .i64 (l.length : Nat)] w (RetRow 101 2 l.length (l.flatMap pairCells) w) := by
  obtain ⟨A, c, rfl, hc1, hc2, _⟩ := id hl
  unfold maxLen at hc2
  refine V_rowN (args := [.slice A l.length c, .agg #[.string s.lo, .string s.hi, .bool s.opn], .int .i64 (l.length : Nat)]) (M := M) Try.func124 rfl Try.ntmps124 (by rfl) hM rfl ?_
  refine VC_seq ?_
  refine VC_region ?_
  refine kbox ?_
  apply VL_q
  · exact qas (by rfl)
  · rfl
  refine VL_nil ?_
  refine VC_seq ?_
  refine VC_region ?_
  apply VL_q
  · exact qas (by rfl)
  · rfl
  refine VL_nil ?_
  refine VC_nilR 7 101 2 (by rfl) (by rfl) ?_
  repeat' (first | refine VC_seq ?_ | refine VC_region ?_ | refine VL_nil ?_ | refine VC_block ?_ | ((apply VL_q); (exact qas (by rfl)); rfl))
  refine VC_for (fun k : Nat => ⟨M, [.blk 96 [.string s.lo, .string s.hi, .bool s.opn], .row 101 2 k ((l.take k).flatMap pairCells)], [(0, .v (.slice A l.length c)), (2, .v (.int .i64 l.length)), (4, .p 0 0), (7, .r 1), (8, .v (.int .i64 k))]⟩) (fun k => k ≤ l.length) (fun k => l.length - k) [0, 1] 0 ⟨rfl, rfl, ⟨rfl, rfl, trivial⟩, ⟨rfl, rfl, rfl, rfl, rfl, trivial⟩⟩ (by omega) ?_
  intro k hk'
  rcases Nat.lt_or_ge k l.length with hlt | hge
  · have hd := dlt hlt
    obtain ⟨b, off, rfl, hcA⟩ := hl.get hlt
    have hp := hk _ (List.getElem_mem hlt)
    have cH := fun W => ref_Has s l[k].key W (by unfold maxLen; omega) (by unfold maxLen; omega) (by unfold maxLen; omega)
    rw [hp.2] at cH
    have hfl := flat_take hlt
    have hc0 : M.cell b (off + k * 2 + 0) = some (.string l[k].key) := hcA 0 _ rfl
    generalize (l.take k).flatMap pairCells = cs at *
    repeat' (first | refine VC_seq ?_ | refine VC_region ?_ | refine VL_nil ?_ | refine VC_block ?_ | refine VC_skip ?_ | refine kl1 ?_ | refine kap ?_ | ((first | apply VL_q | apply VG_q); (first | exact QS_indexAddr (k) (by rfl) (by rfl) (by omega) (by omega) | exact QS_mload1 (by rfl) hc0 | exact QS_mloadN _ (by rfl) hcA _ (by rfl) | exact QS_call (by rfl) (fun W _ => cH W) | exact qmv (by rfl) | exact qas (by rfl) | exact qlA (by rfl) | exact qmf (by rfl) | exact qln (by rfl) | exact qlr (by rfl) | exact qpt (by rfl) | exact qcp (by rfl) | exact qad (by rfl)); rfl) | refine gyes ?_ | refine VG_nil ?_ | refine dQ ?_ | refine ctr ?_)
    refine forQ_next (Q := fun _ _ => True) [0, 3] (k + 1) ⟨rfl, rfl, ⟨rfl, ?_, trivial⟩, ⟨rfl, rfl, rfl, rfl, rfl, trivial⟩⟩ (by omega) (by omega)
    show _ = some (Ob.row 101 2 (k + 1) ((l.take (k + 1)).flatMap pairCells))
    rw [hfl]; rfl
  · have hd := dge hge
    obtain rfl : k = l.length := by omega
    rw [List.take_length]
    repeat' (first | refine VC_seq ?_ | refine VC_region ?_ | refine VL_nil ?_ | refine VC_ret ?_ | refine VC_exit ?_ | ((apply VL_q); (first | exact qmv (by rfl) | exact qas (by rfl) | exact qln (by rfl) | exact qcp (by rfl)); rfl) | refine cfa ?_)
    exact .inl ⟨1, rfl, rfl⟩
theorem ref_Fold0 (v u : Value) (l : List Pair) (w : World) (M : Mem) (hM : M.le (Mem.of w)) (hl : SlM M 2 pairCells v l) (hu : SlM M 6 msgCells u []) (hn : l.length ≤ 1000000) :
    Calls Try.prog 123 #[v, u] w (RetRow 101 2 l.length (l.flatMap pairCells) w) := by
  obtain ⟨A, c, rfl, hc1, hc2, _⟩ := id hl
  obtain ⟨B, d, rfl, hd1, hd2, _⟩ := id hu
  unfold maxLen at hc2
  refine V_rowN (args := [.slice A l.length c, .slice B ([] : List Msg).length d]) (M := M) Try.func123 rfl Try.ntmps123 (by rfl) hM rfl ?_
  by_cases h0 : l.length = 0
  · have hnil : l = [] := List.length_eq_zero_iff.1 h0
    repeat' (first | refine VC_seq ?_ | refine VC_region ?_ | refine VL_nil ?_ | refine VC_block ?_ | refine klK ?_ | ((apply VL_q); (first | exact QS_append_nilZ (by rfl) (by rfl) (by rfl) h0 | exact qmv (by rfl) | exact qas (by rfl)); rfl))
    refine VC_for (fun k : Nat => ⟨M, [.row 101 2 0 []], [(1, .v (.slice B 0 d)), (5, .r 0), (6, .v (.int .i64 0))]⟩) (fun k => True) (fun k => 0) [0] 0 ⟨rfl, rfl, ⟨rfl, trivial⟩, ⟨rfl, rfl, rfl, trivial⟩⟩ trivial ?_
    intro k _
    repeat' (first | refine VC_seq ?_ | refine VC_region ?_ | refine VL_nil ?_ | refine VC_ret ?_ | refine VC_exit ?_ | ((apply VL_q); (first | exact qmv (by rfl) | exact qas (by rfl) | exact qln (by rfl) | exact qcp (by rfl)); rfl) | refine cfa ?_)
    rw [hnil]
    exact .inl ⟨0, rfl, rfl⟩
  · obtain ⟨b, off, he, hcl, hcells⟩ := SlM.flat (k := 2) (cells := pairCells) (fun a _ => rfl) hl (fun e => h0 (by rw [e]; rfl))
    subst he
    have h1 : ((l.flatMap pairCells).all (·.oneCell')) = true := by simp [List.all_flatMap, Value.oneCell']
    repeat' (first | refine VC_seq ?_ | refine VC_region ?_ | refine VL_nil ?_ | refine klK ?_ | ((apply VL_q); (first | exact qmv (by rfl) | exact qas (by rfl)); rfl))
    refine VL_e _ _ (EF_appendM (l.flatMap pairCells) (by rfl) (by rfl) (by rfl) hcl hcells (by omega) h1 (by unfold maxLen; omega) (by omega)) (by rfl) (by rfl) ?_
    repeat' (first | refine VC_seq ?_ | refine VC_region ?_ | refine VL_nil ?_ | refine VC_block ?_ | ((apply VL_q); (exact qas (by rfl)); rfl))
    refine VC_for (fun k : Nat => ⟨M, [.row 101 2 (0 + l.length) ([] ++ l.flatMap pairCells)], [(1, .v (.slice B 0 d)), (5, .r 0), (6, .v (.int .i64 0))]⟩) (fun k => True) (fun k => 0) [1] 0 ⟨rfl, rfl, ⟨rfl, trivial⟩, ⟨rfl, rfl, rfl, trivial⟩⟩ trivial ?_
    intro k _
    repeat' (first | refine VC_seq ?_ | refine VC_region ?_ | refine VL_nil ?_ | refine VC_ret ?_ | refine VC_exit ?_ | ((apply VL_q); (first | exact qmv (by rfl) | exact qas (by rfl) | exact qln (by rfl) | exact qcp (by rfl)); rfl) | refine cfa ?_)
    refine .inl ⟨0, rfl, ?_⟩
    show some (Ob.row _ 2 (0 + l.length) ([] ++ l.flatMap pairCells)) = _
    rw [Nat.zero_add, List.nil_append]
theorem ref_View0 (v u : Value) (l : List Pair) (s : Span) (w : World) (M : Mem) (hM : M.le (Mem.of w)) (hl : SlM M 2 pairCells v l) (hu : SlM M 6 msgCells u []) (hn : l.length ≤ 1000000) (h1 : s.lo.size ≤ 1000000) (h2 : s.hi.size ≤ 1000000) (hk : ∀ p ∈ l, p.key.size ≤ 1000000 ∧ has s p.key = true) :
    Calls Try.prog 95 #[v, .agg #[.string s.lo, .string s.hi, .bool s.opn], u] w (RetM M w (fun x M' => SlM M' 2 pairCells x l)) := by
  obtain ⟨A, c, rfl, hc1, hc2, _⟩ := id hl
  obtain ⟨B, d, rfl, hd1, hd2, _⟩ := id hu
  refine V_ret (args := [.slice A l.length c, .agg #[.string s.lo, .string s.hi, .bool s.opn], .slice B ([] : List Msg).length d]) (M := M) Try.func95 rfl Try.ntmps95 (by rfl) hM _ ?_
  refine VC_seq ?_
  refine VC_region ?_
  refine kbox ?_
  apply VL_q
  · exact qas (by rfl)
  · rfl
  refine VL_nil ?_
  refine VC_seq ?_
  have cS : ∀ W, M.le (Mem.of W) → Calls Try.prog 124 #[.slice A l.length c, .agg #[.string s.lo, .string s.hi, .bool s.opn], .int .i64 (l.length : Nat)] W (RetRow 101 2 l.length (l.flatMap pairCells) W) := fun W hW => ref_ScanA _ l s W M hW hl hn h1 h2 hk
  have cC : ∀ (M1 : Mem), M.le M1 → ∀ W, M1.le (Mem.of W) → Calls Try.prog 101 #[.slice B ([] : List Msg).length d, .agg #[.string s.lo, .string s.hi, .bool s.opn]] W (RetRow 155 6 0 [] W) := fun M1 h W hW => ref_ClipB _ [] s W ((hu.mono h).toSl hW) (fun m hm => (by cases hm)) (by decide) h1 h2
  refine VC_drawG [] [4, 7, 8, 9] (by decide +kernel) (by rfl) (by rfl) ?_
  repeat' (first | refine VQm_nil ?_ | refine VQm_e (by rfl) ?_ | refine VQm_q (by rfl) _ (by exact wno (by first | exact qmv (by rfl) | exact qlA (by rfl) | exact qln (by rfl))) (by rfl) (by rfl) ?_ | refine VF_step ?_ | exact VFs_nil | refine VFs_x _ _ _ _ (by rfl) (EX_callF (by rfl) cS) (by rfl) ?_ ?_)
  rintro ⟨⟨v1, M1⟩, hle1, hr1⟩
  refine ⟨hle1, by rfl, ?_⟩
  dsimp only at hle1 hr1 ⊢
  have hS1 : SlM M1 2 pairCells v1 l := hr1.slM (fun _ _ => rfl)
  refine VF_step ?_
  refine VFs_x _ _ _ _ (by rfl) (EX_callF (by rfl) (cC M1 hle1)) (by rfl) ?_ VFs_nil
  rintro ⟨⟨v2, M2⟩, hle2, hr2⟩
  refine ⟨hle2, by rfl, ?_⟩
  dsimp only at hle2 hr2 ⊢
  have hS2 : SlM M2 6 msgCells v2 [] := RowM.slM (l := ([] : List Msg)) (fun _ _ => rfl) hr2
  have cF : ∀ W, M2.le (Mem.of W) → Calls Try.prog 123 #[v1, v2] W (RetRow 101 2 l.length (l.flatMap pairCells) W) := fun W hW => ref_Fold0 v1 v2 l W M2 hW (hS1.mono hle2) hS2 hn
  refine VF_step ?_
  refine VFs_x _ _ _ _ (by rfl) (EX_callF (by rfl) cF) (by rfl) ?_ VFs_nil
  rintro ⟨⟨v3, M3⟩, hle3, hr3⟩
  refine ⟨hle3, by rfl, ?_⟩
  dsimp only at hle3 hr3 ⊢
  have hS3 : SlM M3 2 pairCells v3 l := hr3.slM (fun _ _ => rfl)
  refine VF_step ?_
  refine VFs_e (by rfl) _ _ (fno (fq (qas (by rfl)))) (by rfl) (by rfl) ?_ VFs_nil
  refine VF_done ?_
  repeat' (refine VC_ret ?_)
  exact ⟨_, Res.one (by rfl) (ResV_tmp (by rfl) rfl), hS3⟩
theorem ref_Quiet0 (v : Value) (X : List Nd) (w : World) (M : Mem) (hM : M.le (Mem.of w)) (hX : SlM M 10 ndCells v X) (hok : ∀ a ∈ X, a.Ok M) (hms : ∀ a ∈ X, a.ms = []) (hn : X.length ≤ 1000000) :
    Calls Try.prog 48 #[v] w fun e w' => e = .returned (.bool true) ∧ Below w.heap.size w w' := by
  obtain ⟨A, c, rfl, hc1, hc2, _⟩ := id hX
  refine V_flat (args := [.slice A X.length c]) (M := M) Try.func48 rfl Try.ntmps48 (by rfl) (hM) ?_
  repeat' (first | refine VC_seq ?_ | refine VC_region ?_ | refine VL_nil ?_ | refine VC_block ?_ | ((apply VL_q); (exact qas (by rfl)); rfl))
  refine VC_for (fun k : Nat => ⟨M, [], [(0, .v (.slice A X.length c)), (3, .v (.int .i64 k))]⟩) (fun k => k ≤ X.length) (fun k => X.length - k) [] 0 ⟨rfl, rfl, trivial, ⟨rfl, rfl, trivial⟩⟩ (by omega) ?_
  intro k hk
  rcases Nat.lt_or_ge k X.length with hlt | hge
  · have hd := dlt hlt
    obtain ⟨b, off, rfl, hcA⟩ := hX.get hlt
    have hmem := List.getElem_mem hlt
    obtain ⟨B, d, hB, _⟩ := (hok _ hmem).2.2.1
    rw [hms _ hmem] at hB
    have hc8 : M.cell b (off + k * 10 + 8) = some (.slice B 0 d) := hcA 8 _ (by show some X[k].mv = _; rw [hB]; rfl)
    repeat' (first | refine VC_seq ?_ | refine VC_region ?_ | refine VL_nil ?_ | refine VC_block ?_ | refine VC_skip ?_ | ((apply VL_q); (first | exact QS_indexAddr (k) (by rfl) (by rfl) (by omega) (by omega) | exact QS_mload1 (by rfl) hc8 | exact qmv (by rfl) | exact qas (by rfl) | exact qmf (by rfl) | exact qln (by rfl) | exact qcp (by rfl) | exact qad (by rfl)); rfl) | refine ctr ?_ | refine cfa ?_)
    exact forQ_next (Q := fun _ _ => True) [] (k + 1) ⟨rfl, rfl, trivial, ⟨rfl, rfl, trivial⟩⟩ (by omega) (by omega)
  · have hd := dge hge
    repeat' (first | refine VC_seq ?_ | refine VC_region ?_ | refine VL_nil ?_ | refine VC_ret ?_ | refine VC_exit ?_ | ((apply VL_q); (first | exact qmv (by rfl) | exact qas (by rfl) | exact qln (by rfl) | exact qcp (by rfl)); rfl) | refine cfa ?_)
    show Res _ _ _ _
    refine Res.one (by rfl) (ResV_tmp (by rfl) ?_)
    rfl
theorem comN_pre : ∀ (x y : List UInt8) (i : Nat), i ≤ comN x y → y.take i = x.take i
  | [], y, i, h => by
    have : i = 0 := by simpa [comN] using h
    subst this; simp
  | a :: x, [], i, h => by
    have : i = 0 := by simpa [comN] using h
    subst this; simp
  | a :: x, b :: y, 0, _ => by simp
  | a :: x, b :: y, i + 1, h => by
    have h' : i + 1 ≤ if a = b then comN x y + 1 else 0 := h
    by_cases he : a = b
    · subst he
      rw [if_pos rfl] at h'
      rw [List.take_succ_cons, List.take_succ_cons, comN_pre x y i (by omega)]
    · rw [if_neg he] at h'
      omega
theorem ref_LessL (a b : ByteArray) (w : World) (ha : a.size ≤ 1000000) (hb : b.size ≤ 1000000) : Calls Try.prog 90 #[.string a, .string b] w fun e w' => e = .returned (.bool (lt a b)) ∧ Below w.heap.size w w' := ref_Less a b (by unfold maxLen; omega) (by unfold maxLen; omega) w
theorem ref_BetweenB (a b : ByteArray) (w : World) (ha : a.size ≤ 1000000) (hb : b.size ≤ 1000000) (h : lt a b = true) : Calls Try.prog 52 #[.string a, .string b] w fun e w' => e = .returned (.tuple #[.string (betw a b), .bool true]) ∧ Below w.heap.size w w' := by
  have hc := comN_sz h
  have hle : ∀ i, i ≤ comN (bl a) (bl b) → lt a (b.extract 0 i) = false := fun i hi => by
    rw [lt_bl, bl_extract]
    have := comN_pre (bl a) (bl b) i hi
    simp only [List.drop_zero, Nat.sub_zero]
    rw [this]
    exact bls_take _ _
  have hgt : lt a (b.extract 0 (comN (bl a) (bl b) + 1)) = true := lt_betw h
  have hbt : betw a b = b.extract 0 (comN (bl a) (bl b) + 1) := rfl
  generalize comN (bl a) (bl b) = m at *
  refine V_flat (args := [.string a, .string b]) (M := Mem.no) Try.func52 rfl Try.ntmps52 (by rfl) (Mem.no_le _) ?_
  repeat' (first | refine VC_seq ?_ | refine VC_region ?_ | refine VL_nil ?_ | refine VC_block ?_ | ((apply VL_q); (exact qas (by rfl)); rfl))
  refine VC_for (fun k : Nat => ⟨Mem.no, [], [(0, .v (.string a)), (1, .v (.string b)), (6, .v (.int .i64 k))]⟩) (fun k => k ≤ m + 1) (fun k => m + 1 - k) [] 0 ⟨rfl, rfl, trivial, ⟨rfl, rfl, rfl, trivial⟩⟩ (by omega) ?_
  intro k hk
  have hd : decide ((k : Int) ≤ (b.size : Int)) = true := decide_eq_true (by omega)
  have hz : (b.extract 0 k).size ≤ 1000000 := by rw [ByteArray.size_extract]; omega
  have cL := fun W => ref_LessL a (b.extract 0 k) W ha hz
  rcases Nat.lt_or_ge k (m + 1) with hlt | hge
  · rw [hle k (by omega)] at cL
    repeat' (first | refine VC_seq ?_ | refine VC_region ?_ | refine VL_nil ?_ | refine VC_block ?_ | refine VC_skip ?_ | ((apply VL_q); (first | exact QS_cutS 0 k (by rfl) rfl (by rfl) (by omega) (by omega) | exact QS_call (by rfl) (fun W _ => cL W) | exact qmv (by rfl) | exact qas (by rfl) | exact qls (by rfl) | exact qcp (by rfl) | exact qad (by rfl)); rfl) | refine ctr ?_ | refine cfa ?_)
    exact forQ_next (Q := fun _ _ => True) [] (k + 1) ⟨rfl, rfl, trivial, ⟨rfl, rfl, rfl, trivial⟩⟩ (by omega) (by omega)
  · obtain rfl : k = m + 1 := by omega
    rw [hgt] at cL
    rw [hbt]
    repeat' (first | refine VC_seq ?_ | refine VC_region ?_ | refine VL_nil ?_ | refine VC_ret ?_ | refine VC_block ?_ | refine VC_skip ?_ | ((apply VL_q); (first | exact QS_cutS 0 (m + 1) (by rfl) rfl (by rfl) (by omega) (by omega) | exact QS_call (by rfl) (fun W _ => cL W) | exact qmv (by rfl) | exact qas (by rfl) | exact qls (by rfl) | exact qcp (by rfl)); rfl) | refine ctr ?_)
    exact Res.two (by rfl) (ResV_tmp (by rfl) rfl) (ResV_tmp (by rfl) rfl)
theorem ref_BetweenE (w : World) : Calls Try.prog 52 #[.string em, .string em] w fun e w' => e = .returned (.tuple #[.string em, .bool false]) ∧ Below w.heap.size w w' := by
  have e0 : em.extract 0 0 = em := by decide
  have cL := fun W => ref_LessL em em W (by decide) (by decide)
  rw [lt_irr] at cL
  have hz : ((em.size : Nat) : Int) = 0 := rfl
  refine V_flat (args := [.string em, .string em]) (M := Mem.no) Try.func52 rfl Try.ntmps52 (by rfl) (Mem.no_le _) ?_
  repeat' (first | refine VC_seq ?_ | refine VC_region ?_ | refine VL_nil ?_ | refine VC_block ?_ | ((apply VL_q); (exact qas (by rfl)); rfl))
  refine VC_for (fun k : Nat => ⟨Mem.no, [], [(0, .v (.string em)), (1, .v (.string em)), (6, .v (.int .i64 k))]⟩) (fun k => k ≤ 1) (fun k => 1 - k) [] 0 ⟨rfl, rfl, trivial, ⟨rfl, rfl, rfl, trivial⟩⟩ (by omega) ?_
  intro k hk
  rcases Nat.lt_or_ge k 1 with hlt | hge
  · obtain rfl : k = 0 := by omega
    have hd : decide (((0 : Nat) : Int) ≤ ((em.size : Nat) : Int)) = true := by decide
    repeat' (first | refine VC_seq ?_ | refine VC_region ?_ | refine VL_nil ?_ | refine VC_block ?_ | refine VC_skip ?_ | ((apply VL_q); (first | exact QS_is (congrArg Value.string e0) (QS_cutS 0 0 (by rfl) rfl (by rfl) (by omega) (by omega)) | exact QS_call (by rfl) (fun W _ => cL W) | exact qmv (by rfl) | exact qas (by rfl) | exact qls (by rfl) | exact qcp (by rfl) | exact qad (by rfl)); rfl) | refine ctr ?_ | refine cfa ?_)
    exact forQ_next (Q := fun _ _ => True) [] 1 ⟨rfl, rfl, trivial, ⟨rfl, rfl, rfl, trivial⟩⟩ (by omega) (by omega)
  · obtain rfl : k = 1 := by omega
    have hd : decide (((1 : Nat) : Int) ≤ ((em.size : Nat) : Int)) = false := by decide
    repeat' (first | refine VC_seq ?_ | refine VC_region ?_ | refine VL_nil ?_ | refine VC_ret ?_ | refine VC_exit ?_ | ((apply VL_q); (first | exact qmv (by rfl) | exact qas (by rfl) | exact qls (by rfl) | exact qcp (by rfl)); rfl) | refine cfa ?_)
    exact Res.two (by rfl) (ResV_tmp (by rfl) rfl) (ResV_tmp (by rfl) rfl)
end Go.Proofs.Ytclbmfepdlffnaa
