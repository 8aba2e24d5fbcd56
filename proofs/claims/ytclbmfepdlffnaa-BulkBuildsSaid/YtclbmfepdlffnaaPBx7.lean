/- The bulk layer: a tree made at once of pairs, exactly. -/
import Derived.Test.YtclbmfepdlffnaaPBx6
namespace Go.Proofs.Ytclbmfepdlffnaa
open Go Go.RowKit
attribute [local irreducible] Calls
set_option linter.unusedVariables false
set_option maxRecDepth 20000
set_option linter.unusedSimpArgs false
set_option maxHeartbeats 8000000
theorem sum_le {L : List Nat} {i : Nat} (h : i < L.length) : (L.take i).sum + L[i] ≤ L.sum := by
  conv => rhs; rw [← List.take_append_drop i L, List.sum_append, List.drop_eq_getElem_cons h, List.sum_cons]
  omega
theorem sum_step {L : List Nat} {i : Nat} (h : i < L.length) : (L.take (i + 1)).sum = (L.take i).sum + L[i] := by
  rw [List.take_succ_eq_append_getElem h, List.sum_append]; simp
theorem from_take {L : List Nat} {i : Nat} : L.sum - (L.take (i + 1)).sum = fromF L i := by
  have h1 : L.sum = (L.take (i + 1)).sum + (L.drop (i + 1)).sum := by rw [← List.sum_append, List.take_append_drop]
  unfold fromF
  omega
/-- A level's nodes before they are led on. -/
def baseF (l : List Pair) (L : List Nat) (i k : Nat) : Bn := (⟨0, (i : Int), nil0, psF l L i k, nil0, ksF l L i k, em, false, 0, 0, nil0, [], nil0, rsF l L i k⟩, loF l L i k)
theorem base_leaf {l : List Pair} {L : List Nat} (k : Nat) : leafX l (L.getD 0 0) k = baseF l L 0 k := by
  unfold leafX baseF psF ksF rsF loF offF parF cntF
  simp
theorem base_lo {l : List Pair} {L : List Nat} {i : Nat} {ps : List Bn} (h : ps.map stripB = (List.range (L.getD i 0)).map (baseF l L i)) {k : Nat} (hk : k < L.getD i 0) : loP ps k = loF l L i k := by
  have h1 := congrArg (fun z : List Bn => (z[k]?).map Prod.snd) h
  simp only [List.getElem?_map, List.getElem?_range hk, Option.map_some] at h1
  unfold loP
  cases hp : ps[k]? with
  | none => rw [hp] at h1; cases h1
  | some x => rw [hp] at h1; exact Option.some.inj h1
theorem base_len {l : List Pair} {L : List Nat} {i : Nat} {ps : List Bn} (h : ps.map stripB = (List.range (L.getD i 0)).map (baseF l L i)) : ps.length = L.getD i 0 := by
  have := congrArg List.length h
  simpa using this
theorem base_link {l : List Pair} {L : List Nat} {i : Nat} {ps : List Bn} {ns : List Nd} (h : ps.map stripB = (List.range (L.getD i 0)).map (baseF l L i)) (hn : ns.length = ps.length) (hq : ∀ (k : Nat) (q : Nd), ns[k]? = some q → ∃ q0 : Bn, ps[k]? = some q0 ∧ q = linkN ps (fromF L i) k q0.1) : ns.map strip = levelF l L i := by
  have hl := base_len h
  refine List.ext_getElem? fun k => ?_
  unfold levelF
  rw [List.getElem?_map, List.getElem?_map]
  rcases Nat.lt_or_ge k (L.getD i 0) with hk | hk
  · rw [List.getElem?_range hk]
    cases hx : ns[k]? with
    | none => rw [List.getElem?_eq_none_iff] at hx; omega
    | some q =>
      obtain ⟨q0, h1, rfl⟩ := hq k q hx
      have h2 := congrArg (fun z : List Bn => z[k]?) h
      simp only [List.getElem?_map, List.getElem?_range hk, Option.map_some, h1] at h2
      have h3 := congrArg Prod.fst (Option.some.inj h2)
      have h4 : strip q0.1 = ⟨0, (i : Int), nil0, psF l L i k, nil0, ksF l L i k, em, false, 0, 0, nil0, [], nil0, rsF l L i k⟩ := h3
      unfold strip at h4
      simp only [Nd.mk.injEq] at h4
      obtain ⟨a1, a2, -, a4, -, a6, a7, a8, a9, a10, -, a12, -, a14⟩ := h4
      show some (strip (linkN ps (fromF L i) k q0.1)) = some (nodeF l L i k)
      unfold strip linkN nodeF
      dsimp only
      rw [a2, a4, a6, a7, a8, a10, a12, a14, hl]
      by_cases hk2 : k + 1 < L.getD i 0
      · simp only [if_pos hk2]
        rw [base_lo h hk2, decide_eq_true hk2]; rfl
      · simp only [if_neg hk2]
        rw [decide_eq_false hk2]; rfl
  · rw [List.getElem?_eq_none (by omega), List.getElem?_eq_none (by simpa using hk)]; rfl
theorem base_above {l : List Pair} {L : List Nat} {i : Nat} {ps : List Bn} (hS : Shape l L) (hi : i + 1 < L.length) (h : ps.map stripB = (List.range (L.getD i 0)).map (baseF l L i)) {k : Nat} (hk : k < L.getD (i + 1) 0) : aboveX ps (L.getD (i + 1) 0) (fromF L i) (i : Int) k = baseF l L (i + 1) k := by
  have hl := base_len h
  have he := off_end hS hi hk
  rw [cnt_succ] at he
  have hpp := par_pos hS hi (.inl (by omega)) k
  have e1 : offE ps.length (L.getD (i + 1) 0) k = offF l L (i + 1) k := by unfold offF; rw [cnt_succ, hl]
  have e2 : partE ps.length (L.getD (i + 1) 0) k = parF l L (i + 1) k := by unfold parF; rw [cnt_succ, hl]
  unfold aboveX baseF
  rw [e1, e2, base_lo h (by omega)]
  have e3 : psJ ps (offF l L (i + 1) k) (parF l L (i + 1) k) = psF l L (i + 1) k := by
    unfold psJ psF
    rw [if_neg (by omega), Nat.add_sub_cancel]
    refine List.map_congr_left fun j hj => ?_
    have := List.mem_range.1 hj
    exact base_lo h (by omega)
  have e4 : ksJ (fromF L i) (offF l L (i + 1) k) (parF l L (i + 1) k) = ksF l L (i + 1) k := by
    unfold ksJ ksF
    rw [if_neg (by omega), Nat.add_sub_cancel]
  have e5 : rsF l L (i + 1) k = [] := by unfold rsF; rw [if_neg (by omega)]
  have e6 : (i : Int) + 1 = ((i + 1 : Nat) : Int) := by omega
  rw [e3, e4, e5, e6]; rfl
def BuildPost (l : List Pair) (L : List Nat) (u : Value) (M' : Mem) : Prop := ∃ (x : Value) (X : List Nd), u = .tuple #[x, .int .i64 0] ∧ SlM M' 10 ndCells x X ∧ (∀ a ∈ X, a.Ok M') ∧ X.map strip = buildF l L
theorem bulk_Build (c : Cfg) (v : Value) (l : List Pair) (L : List Nat) (w : World) (M : Mem) (hM : M.le (Mem.of w)) (hl : SlM M 2 pairCells v l) (hL : levelsC c (l.length : Int) = L) (hn2 : l.length ≤ 1000000) (hSh : Shape l L) (hr : rightP l = true) (hz : ∀ p ∈ l, p.val.size ≤ 1000000) (hsum : L.sum ≤ 1000000) (hslots : (L.sum : Int) ≤ c.slots) :
    Calls Try.prog 45 #[.agg #[.int .i64 c.fanout, .int .i64 c.leaf, .int .i64 c.budget, .int .i64 c.slots, .int .i64 c.restarts], v] w (RetM M w (BuildPost l L)) := by
  obtain ⟨A, c1, rfl, hc1, hc2, _⟩ := id hl
  have h0 := hSh.h
  have hLp := hSh.pos
  have hLs := hSh.leS
  have hL0 : L.getD 0 0 ≤ l.length ∨ L.getD 0 0 = 1 := by rcases hSh.le0 with h | ⟨_, h⟩; exact .inl h; exact .inr h
  have getD_lt : ∀ {i : Nat} (h : i < L.length), L.getD i 0 = L[i] := fun h => getD_at h
  unfold maxLen at hc2
  refine V_ret (args := [.agg #[.int .i64 c.fanout, .int .i64 c.leaf, .int .i64 c.budget, .int .i64 c.slots, .int .i64 c.restarts], .slice A l.length c1]) (M := M) Try.func45 rfl Try.ntmps45 (by rfl) hM _ ?_
  refine VC_frzQ ?_
  have cL := fun W => bulk_Levels c (l.length : Int) W
  rw [hL] at cL
  have hLn : L.length ≤ 1000000 := by
    have : ∀ (L : List Nat), (∀ x ∈ L, 1 ≤ x) → L.length ≤ L.sum := fun L => by
      induction L with
      | nil => intro _; simp
      | cons a t ih => intro h; have := h a (by simp); have := ih (fun x hx => h x (by simp [hx])); simp; omega
    have := this L (fun x hx => by
      obtain ⟨i, hi, rfl⟩ := List.getElem_of_mem hx
      have := hLp i hi
      rwa [getD_lt hi] at this)
    omega
  repeat' (first | refine VC_seq ?_ | refine VC_region ?_ | refine VL_nil ?_ | refine kbox ?_ | ((apply VL_q); (first | exact qmv (by rfl) | exact qas (by rfl) | exact qlA (by rfl) | exact qln (by rfl)); rfl))
  refine VL_callO (by rfl) (fun W _ => cL W) (by rfl) (by rfl) ?_
  refine VL_frz 1 (by rfl) (fun us M1 hle1 hus => ?_)
  have hS : SlM M1 1 natK us L := hus.slM (fun _ _ => rfl)
  obtain ⟨B, cb, hus', hd1, hd2, _⟩ := id hS
  subst hus'
  unfold maxLen at hd2
  have hl1 := hl.mono hle1
  have cR : ∀ W, M1.le (Mem.of W) → Calls Try.prog 84 #[.slice A l.length c1] W fun e w' => e = .returned (.bool true) ∧ Below W.heap.size W w' := fun W hW => by
    have := model_RightP _ l W (hl1.toSl hW) (fun p hp => by have := (rightP_up hr).sz p hp; unfold maxLen; omega) (by omega)
    rwa [hr] at this
  have g1 : ((L.length : Int) == 0) = false := beq_eq_false_iff_ne.2 (by omega)
  repeat' (first | refine VC_seq ?_ | refine VC_region ?_ | refine VL_nil ?_ | refine VC_block ?_ | refine VC_skip ?_ | ((apply VL_q); (first | exact QS_call (by rfl) cR | exact qmv (by rfl) | exact qas (by rfl) | exact qno (by rfl) | exact qln (by rfl) | exact qpf (by rfl) | exact qcp (by rfl)); rfl) | refine kyes ?_ | refine cfa ?_)
  refine VC_for (fun k : Nat => ⟨M1, [.blk 74 [.int .i64 c.fanout, .int .i64 c.leaf, .int .i64 c.budget, .int .i64 c.slots, .int .i64 c.restarts]], [(1, .v (.slice A l.length c1)), (2, .p 0 0), (6, .v (.slice B L.length cb)), (7, .v (.int .i64 ((L.take k).sum : Nat))), (26, .v (.slice B L.length cb)), (27, .v (.int .i64 L.length)), (28, .v (.int .i64 k))]⟩) (fun k => k ≤ L.length) (fun k => L.length - k) [0] 0 ⟨rfl, rfl, ⟨rfl, trivial⟩, ⟨rfl, rfl, rfl, rfl, rfl, rfl, rfl, trivial⟩⟩ (by omega) ?_
  intro k hk
  rcases Nat.lt_or_ge k L.length with hlt | hge
  · have hd := dlt hlt
    obtain ⟨b, off, rfl, hcA⟩ := hS.get hlt
    have hst := sum_step hlt
    have hsl := sum_le hlt
    generalize L[k] = lk at *
    generalize (L.take k).sum = sk at *
    repeat' (first | refine VC_seq ?_ | refine VC_region ?_ | refine VL_nil ?_ | refine VC_block ?_ | refine VC_skip ?_ | ((apply VL_q); (first | exact QS_indexAddr (k) (by rfl) (by rfl) (by omega) (by omega) | exact QS_mload1 (by rfl) (hcA 0 _ (by rfl)) | exact qmv (by rfl) | exact qas (by rfl) | exact qcp (by rfl) | exact qad (by rfl)); rfl) | refine ctr ?_)
    exact forQ_next (Q := fun _ _ => True) [0] (k + 1) ⟨rfl, rfl, ⟨rfl, trivial⟩, ⟨rfl, rfl, rfl, by rw [hst]; rfl, rfl, rfl, rfl, trivial⟩⟩ (by omega) (by omega)
  have hd := dge hge
  obtain rfl : k = L.length := by omega
  rw [List.take_length]
  have g2 : decide (c.slots < (L.sum : Int)) = false := decide_eq_false (by omega)
  obtain ⟨b, off, hB, hcA⟩ := hS.get h0
  subst hB
  have hL0' := hLp 0 h0
  rw [getD_lt h0] at hL0 hL0'
  have cLv : ∀ W, M1.le (Mem.of W) → Calls Try.prog 85 #[.slice A l.length c1, .int .i64 (L[0] : Nat)] W (RetM M1 W (fun u M' => ∃ ps : List Bn, SlM M' 11 bnCells u ps ∧ (∀ a ∈ ps, a.1.Ok M') ∧ ps.map stripB = (List.range L[0]).map (leafX l L[0]))) := fun W hW =>
    bulk_leaves _ l L[0] W M1 hW hl1 (by omega) hL0 (by have := sum_le h0; omega) hn2 (fun a ha => by have := (rightP_up hr).sz a ha; omega) (fun i j h1 h2 hij => by
      subst hij
      have h3 := (rightP_up hr).up i (i + 1) (by omega) h2
      rw [pkAt_eq h1, pkAt_eq h2] at h3
      exact ⟨h3, comN_sz h3⟩)
  have hgs : ∀ i (h : i < L.length), L[i] ≤ 1000000 := fun i h => by have := sum_le h; omega
  repeat' (first | refine VC_seq ?_ | refine VC_region ?_ | refine VL_nil ?_ | refine VC_exit ?_ | refine VC_skip ?_ | ((apply VL_q); (first | exact QS_indexAddr (0) (by rfl) (by rfl) (by omega) (by omega) | exact QS_mload1 (by rfl) (hcA 0 _ (by rfl)) | exact qmv (by rfl) | exact ql1 (by rfl) | exact qfa (by rfl) | exact qcp (by rfl)); rfl) | refine cfa ?_)
  refine VL_callM (by rfl) cLv (by rfl) (fun u0 M2 hle2 ⟨ps0, hps0, hpk0, hpq0⟩ => ?_)
  repeat' (first | refine VC_seq ?_ | refine VC_region ?_ | refine VL_nil ?_ | refine VC_block ?_ | ((apply VL_q); (first | exact qmv (by rfl) | exact qas (by rfl) | exact qln (by rfl)); rfl))
  refine VC_nilR 11 80 1 (by rfl) (by rfl) ?_
  skip
  refine VC_for (fun x : List Value × List (List Nd) × Value × List Bn × Mem => ⟨x.2.2.2.2, [.blk 74 [.int .i64 c.fanout, .int .i64 c.leaf, .int .i64 c.budget, .int .i64 c.slots, .int .i64 c.restarts], .row 80 1 x.1.length x.1], [(2, .p 0 0), (6, .v (.slice (some ⟨b, off, none⟩) L.length cb)), (10, .v x.2.2.1), (11, .r 1), (12, .v (.int .i64 ((L.sum - (L.take x.1.length).sum : Nat) : Int))), (46, .v (.slice (some ⟨b, off, none⟩) L.length cb)), (47, .v (.int .i64 L.length)), (48, .v (.int .i64 x.1.length))]⟩)
    (fun x => M2.le x.2.2.2.2 ∧ x.1.length ≤ L.length ∧ x.2.1.length = x.1.length ∧ (∀ (i : Nat) (u : Value) (r : List Nd), x.1[i]? = some u → x.2.1[i]? = some r → SlM x.2.2.2.2 10 ndCells u r ∧ (∀ a ∈ r, a.Ok x.2.2.2.2) ∧ r.map strip = levelF l L i) ∧ (x.1.length < L.length → SlM x.2.2.2.2 11 bnCells x.2.2.1 x.2.2.2.1 ∧ (∀ a ∈ x.2.2.2.1, a.1.Ok x.2.2.2.2) ∧ x.2.2.2.1.map stripB = (List.range (L.getD x.1.length 0)).map (baseF l L x.1.length)))
    (fun x => L.length - x.1.length) [0, 1] ([], [], u0, ps0, M2) ⟨rfl, rfl, ⟨rfl, rfl, trivial⟩, ⟨rfl, rfl, rfl, rfl, (by show some (SV.v (.int .i64 ((L.sum : Nat) : Int))) = some (SV.v (.int .i64 ((L.sum - (L.take 0).sum : Nat) : Int))); simp), rfl, rfl, rfl, trivial⟩⟩ ⟨Mem.le_refl _, Nat.zero_le _, rfl, fun i u r h => by simp at h, fun _ => ⟨hps0, hpk0, by
      show ps0.map stripB = (List.range (L.getD 0 0)).map (baseF l L 0)
      rw [hpq0, ← getD_lt h0]
      exact List.map_congr_left fun k _ => base_leaf k⟩⟩ ?_
  rintro ⟨us, rows, uv, ps, Mx⟩ ⟨hMx, hk, hrl, hrows, hps⟩
  dsimp only at hMx hk hrl hrows hps ⊢
  have hSx := (hS.mono hle2).mono hMx
  generalize hi : us.length = i at *
  rcases Nat.lt_or_ge i L.length with hlt | hge
  · have hd := dlt hlt
    obtain ⟨hps1, hps2, hps3⟩ := hps hlt
    obtain ⟨b2, off2, he, hcI⟩ := hSx.get hlt
    injection he with he
    injection he with he1 he2
    subst he1 he2
    have hst := sum_step hlt
    have hsl := sum_le hlt
    have hgi := hgs i hlt
    have hfr : ((L.sum - (L.take i).sum : Nat) : Int) - ((L[i] : Nat) : Int) = ((L.sum - (L.take (i + 1)).sum : Nat) : Int) := by rw [hst]; omega
    have hf2 : L.sum - (L.take (i + 1)).sum ≤ 1000000 := by omega
    have hpos := hLp i hlt
    have hpln := base_len hps3
    rw [getD_lt hlt] at hpln hpos
    have hft : L.sum - (L.take (i + 1)).sum = fromF L i := from_take
    generalize hfrom : L.sum - (L.take (i + 1)).sum = from1 at *
    have cK : ∀ W, Mx.le (Mem.of W) → Calls Try.prog 86 #[uv, .int .i64 (from1 : Nat)] W (RetM Mx W (fun u M' => ∃ ns : List Nd, SlM M' 10 ndCells u ns ∧ (∀ a ∈ ns, a.Ok M') ∧ ns.length = ps.length ∧ ∀ (i : Nat) (q : Nd), ns[i]? = some q → ∃ q0 : Bn, ps[i]? = some q0 ∧ q = linkN ps from1 i q0.1)) := fun W hW => bulk_link uv ps from1 W Mx hW hps1 hps2 (by omega) hf2
    rw [← hfr] at cK
    repeat' (first | refine VC_seq ?_ | refine VC_region ?_ | refine VL_nil ?_ | refine VC_block ?_ | refine VC_skip ?_ | ((apply VL_q); (first | exact QS_indexAddr i (by rfl) (by rfl) (by omega) (by omega) | exact QS_mload1 (by rfl) (hcI 0 _ (by rfl)) | exact qmv (by rfl) | exact qas (by rfl) | exact qcp (by rfl) | exact qsu (by rfl)); rfl) | refine ctr ?_)
    refine VL_callM (by rfl) cK (by rfl) (fun u M3 hle3 ⟨ns, hns1, hnsk, hns2, hns3⟩ => ?_)
    obtain ⟨Au, cu, hu0, _⟩ := id hns1
    subst hu0
    have hlv : ns.map strip = levelF l L i := by
      rw [hft] at hns3
      exact base_link hps3 hns2 hns3
    have hrows2 : ∀ (M4 : Mem), M3.le M4 → ∀ (j : Nat) (u' : Value) (r : List Nd), (us ++ [Value.slice Au ns.length cu])[j]? = some u' → (rows ++ [ns])[j]? = some r → SlM M4 10 ndCells u' r ∧ (∀ a ∈ r, a.Ok M4) ∧ r.map strip = levelF l L j := fun M4 hM4 j u' r h1 h2 => by
      by_cases hj : j < us.length
      · rw [List.getElem?_append_left hj] at h1
        rw [List.getElem?_append_left (by omega)] at h2
        obtain ⟨g1, g2, g3⟩ := hrows j u' r h1 h2
        exact ⟨(g1.mono hle3).mono hM4, fun a ha => ((g2 a ha).mono hle3).mono hM4, g3⟩
      · rw [List.getElem?_append_right (by omega)] at h1
        rw [List.getElem?_append_right (by omega)] at h2
        have hj0 : j - us.length = 0 := by
          have := (List.getElem?_eq_some_iff.1 h1).1
          simp at this; omega
        have hj1 : j - rows.length = 0 := by omega
        rw [hj0] at h1
        rw [hj1] at h2
        obtain rfl := Option.some.inj h1
        obtain rfl := Option.some.inj h2
        obtain rfl : j = i := by omega
        exact ⟨hns1.mono hM4, fun a ha => (hnsk a ha).mono hM4, hlv⟩
    have hul : (us ++ [Value.slice Au ns.length cu]).length = i + 1 := by rw [List.length_append, hi]; rfl
    by_cases hlast : i + 1 < L.length
    · have d3 : decide ((i : Int) + 1 < (L.length : Int)) = true := decide_eq_true (by omega)
      obtain ⟨b3, off3, he, hcJ⟩ := (hSx.mono hle3).get hlast
      injection he with he
      injection he with he1 he2
      subst he1 he2
      have hps1' := hps1.mono hle3
      have hnx := hLp (i + 1) hlast
      have hns := hLs i hlast
      rw [getD_lt hlast] at hnx hns
      rw [getD_lt hlt] at hns
      have cA : ∀ W, M3.le (Mem.of W) → Calls Try.prog 87 #[uv, .int .i64 (L[i + 1] : Nat), .int .i64 (from1 : Nat)] W (RetM M3 W (fun u M' => ∃ qs : List Bn, SlM M' 11 bnCells u qs ∧ (∀ a ∈ qs, a.1.Ok M') ∧ qs.map stripB = (List.range L[i + 1]).map (aboveX ps L[i + 1] from1 (i : Int)))) := fun W hW => bulk_above uv ps L[i + 1] from1 (i : Int) W M3 hW hps1' (by omega) (by omega) (by omega) hf2 (fun q hq => by
        have h2 := congrArg (fun z : List Bn => z[0]?) hps3
        have h6 : 0 < L.getD i 0 := by rw [getD_lt hlt]; omega
        simp only [List.getElem?_map, List.getElem?_range h6, Option.map_some, hq] at h2
        exact congrArg (fun z : Bn => z.1.level) (Option.some.inj h2)) (by omega) (by omega)
      rw [← hfr] at cA
      have hab : ∀ k, k < L[i + 1] → aboveX ps L[i + 1] from1 (i : Int) k = baseF l L (i + 1) k := fun k hk2 => by
        rw [← getD_lt hlast, hft]
        exact base_above hSh hlast hps3 (by rw [getD_lt hlast]; exact hk2)
      generalize hnn : L[i + 1] = nn at *
      repeat' (first | refine VC_seq ?_ | refine VC_region ?_ | refine VL_nil ?_ | refine klt ?_ | refine kap ?_ | ((apply VL_q); (first | exact QS_indexAddr (i + 1) (by rfl) (by rfl) (by omega) (by omega) | exact QS_mload1 (by rfl) (hcJ 0 _ (by rfl)) | exact qmv (by rfl) | exact qas (by rfl) | exact qln (by rfl) | exact qcp (by rfl) | exact qad (by rfl)); rfl) | refine ctr ?_)
      refine VL_callM (by rfl) cA (by rfl) (fun u2 M4 hle4 ⟨qs, hqs1, hqs2, hqs3⟩ => ?_)
      repeat' (first | refine VC_region ?_ | refine VL_nil ?_ | ((apply VL_q); (first | exact qmv (by rfl) | exact qas (by rfl) | exact qad (by rfl)); rfl))
      refine forQ_next (Q := fun _ _ => True) [0, 3] (us ++ [Value.slice Au ns.length cu], rows ++ [ns], u2, qs, M4) ⟨rfl, rfl, ⟨rfl, ?_, trivial⟩, ⟨rfl, rfl, rfl, rfl, ?_, rfl, rfl, ?_, trivial⟩⟩ ⟨(hMx.trans hle3).trans hle4, by show (us ++ [Value.slice Au ns.length cu]).length ≤ _; omega, by show (rows ++ [ns]).length = (us ++ [Value.slice Au ns.length cu]).length; rw [List.length_append, List.length_append, hrl, hi]; rfl, hrows2 M4 hle4, fun _ => ⟨hqs1, hqs2, ?_⟩⟩ (by show L.length - (us ++ [Value.slice Au ns.length cu]).length < L.length - i; omega)
      · show some (Ob.row _ 1 (i + 1) (us ++ [Value.slice Au ns.length cu])) = some (Ob.row _ 1 (us ++ [Value.slice Au ns.length cu]).length (us ++ [Value.slice Au ns.length cu]))
        rw [hul]
      · show _ = some (SV.v (.int .i64 ((L.sum - (L.take (us ++ [Value.slice Au ns.length cu]).length).sum : Nat) : Int)))
        rw [hul, hfrom, ← hfr]; rfl
      · show _ = some (SV.v (.int .i64 (((us ++ [Value.slice Au ns.length cu]).length : Nat) : Int)))
        rw [hul]; rfl
      · show qs.map stripB = (List.range (L.getD (us ++ [Value.slice Au ns.length cu]).length 0)).map (baseF l L (us ++ [Value.slice Au ns.length cu]).length)
        rw [hul, getD_lt hlast, hqs3, hnn]
        exact List.map_congr_left fun k hk2 => hab k (List.mem_range.1 hk2)
    · have d3 : decide ((i : Int) + 1 < (L.length : Int)) = false := decide_eq_false (by omega)
      repeat' (first | refine VC_seq ?_ | refine VC_region ?_ | refine VL_nil ?_ | refine VC_skip ?_ | refine klt ?_ | refine kap ?_ | ((apply VL_q); (first | exact qmv (by rfl) | exact qas (by rfl) | exact qln (by rfl) | exact qcp (by rfl) | exact qad (by rfl)); rfl) | refine cfa ?_)
      refine forQ_next (Q := fun _ _ => True) [0, 3] (us ++ [Value.slice Au ns.length cu], rows ++ [ns], uv, ps, M3) ⟨rfl, rfl, ⟨rfl, ?_, trivial⟩, ⟨rfl, rfl, rfl, rfl, ?_, rfl, rfl, ?_, trivial⟩⟩ ⟨hMx.trans hle3, by show (us ++ [Value.slice Au ns.length cu]).length ≤ _; omega, by show (rows ++ [ns]).length = (us ++ [Value.slice Au ns.length cu]).length; rw [List.length_append, List.length_append, hrl, hi]; rfl, hrows2 M3 (Mem.le_refl _), fun h => absurd h (by show ¬ (us ++ [Value.slice Au ns.length cu]).length < _; omega)⟩ (by show L.length - (us ++ [Value.slice Au ns.length cu]).length < L.length - i; omega)
      · show some (Ob.row _ 1 (i + 1) (us ++ [Value.slice Au ns.length cu])) = some (Ob.row _ 1 (us ++ [Value.slice Au ns.length cu]).length (us ++ [Value.slice Au ns.length cu]))
        rw [hul]
      · show _ = some (SV.v (.int .i64 ((L.sum - (L.take (us ++ [Value.slice Au ns.length cu]).length).sum : Nat) : Int)))
        rw [hul, hfrom, ← hfr]; rfl
      · show _ = some (SV.v (.int .i64 (((us ++ [Value.slice Au ns.length cu]).length : Nat) : Int)))
        rw [hul]; rfl
  · have hd := dge hge
    obtain rfl : i = L.length := by omega
    have hone : ∀ u ∈ us, u.oneCell' = true := fun u hu => by
      obtain ⟨j, hj, rfl⟩ := List.getElem_of_mem hu
      obtain ⟨⟨A1, c2, h1, _⟩, _⟩ := hrows j _ _ (List.getElem?_eq_getElem hj) (List.getElem?_eq_getElem (by omega))
      rw [h1]; rfl
    have hrm : rows.map (List.map strip) = (List.range L.length).map (levelF l L) := by
      refine List.ext_getElem? fun j => ?_
      rw [List.getElem?_map, List.getElem?_map]
      rcases Nat.lt_or_ge j L.length with hj | hj
      · rw [List.getElem?_range hj]
        cases hx : rows[j]? with
        | none => rw [List.getElem?_eq_none_iff] at hx; omega
        | some r => exact congrArg some (hrows j _ r (List.getElem?_eq_getElem (by omega)) hx).2.2
      · rw [List.getElem?_eq_none (by omega), List.getElem?_eq_none (by simpa using hj)]; rfl
    have hbuild : rows.reverse.flatten.map strip = buildF l L := by
      rw [List.map_flatten, List.map_reverse, hrm, ← List.map_reverse, range_rev, List.map_map]
      unfold buildF
      rw [up_flat _ (Nat.le_refl _)]; rfl
    have hflen : rows.reverse.flatten.length = L.sum := by
      have := congrArg List.length hbuild
      rw [List.length_map, build_len] at this
      exact this
    repeat' (first | refine VC_seq ?_ | refine VC_region ?_ | refine VL_nil ?_ | refine VC_exit ?_ | ((apply VL_q); (first | exact qmv (by rfl) | exact qcp (by rfl)); rfl) | refine cfa ?_)
    refine VL_nameR 1 (by rfl) (fun v hv => ?_)
    obtain ⟨g, cap, rfl⟩ := hv.some (by omega)
    refine VL_callX (own1 := [.nrow (.slice (some ⟨g, 0, none⟩) L.length cap) 80 1 L.length us]) [1] (by rfl) (by rfl) ⟨rfl, trivial⟩ (fun M' _ => slices_ReverseN g cap L.length us M' hi hLn hone) (by rfl) (by rfl) ?_
    rintro _ _ ⟨rfl, rfl⟩
    repeat' (first | refine VC_seq ?_ | refine VC_region ?_ | refine VL_nil ?_ | ((apply VL_q); (exact qmv (by rfl)); rfl))
    refine VL_frzN 2 (by rfl) (fun M5 hle5 hrow5 => ?_)
    have hval : ∀ us : List Value, us.flatMap valK = us := fun us => by induction us with | nil => rfl | cons a t ih => rw [List.flatMap_cons, ih]; rfl
    have hSv : SlM M5 1 valK (.slice (some ⟨g, 0, none⟩) L.length cap) us.reverse := RowM.slM (fun _ _ => rfl) (by rw [hval, List.length_reverse, hi]; exact hrow5)
    have hpr : ∀ (j : Nat) (u' : Value) (r : List Nd), us.reverse[j]? = some u' → rows.reverse[j]? = some r → ∃ j2, SlM M5 10 ndCells u' r ∧ (∀ a ∈ r, a.Ok M5) ∧ r.length = L.getD j2 0 ∧ j2 < L.length := fun j u' r h1 h2 => by
      have hj : j < us.length := by have := (List.getElem?_eq_some_iff.1 h1).1; rwa [List.length_reverse] at this
      rw [List.getElem?_reverse hj] at h1
      rw [List.getElem?_reverse (by omega)] at h2
      rw [show rows.length - 1 - j = us.length - 1 - j by omega] at h2
      obtain ⟨g1, g2, g3⟩ := hrows _ _ _ h1 h2
      exact ⟨_, g1.mono hle5, fun a ha => (g2 a ha).mono hle5, by have := congrArg List.length g3; rw [List.length_map, level_len] at this; exact this, by omega⟩
    have cC : ∀ W, M5.le (Mem.of W) → Calls Try.prog 89 #[.slice (some ⟨g, 0, none⟩) L.length cap] W (RetRow 94 10 rows.reverse.flatten.length (rows.reverse.flatten.flatMap ndCells) W) := fun W hW =>
      slices_ConcatN _ us.reverse rows.reverse W M5 hW hSv (by rw [List.length_reverse, List.length_reverse, hrl, hi]) (fun j u' r h1 h2 => by
        obtain ⟨j2, g1, g2, g3, g4⟩ := hpr j u' r h1 h2
        refine ⟨g1, fun e => ?_⟩
        have := hLp j2 g4
        rw [e, List.length_nil] at g3
        omega) (fun r hr2 q hq => by
        obtain ⟨j, hj, rfl⟩ := List.getElem_of_mem hr2
        obtain ⟨j2, g1, g2, g3, g4⟩ := hpr j _ _ (List.getElem?_eq_getElem (by rw [List.length_reverse] at hj ⊢; omega)) (List.getElem?_eq_getElem hj)
        exact g2 q hq) (by
        rw [hflen]
        have := sum_le h0
        have := hLp 0 h0
        rw [getD_lt h0] at this
        simp at *
        omega) (by rw [hflen]; omega)
    refine VL_callO (by rfl) cC (by rfl) (by rfl) ?_
    repeat' (first | refine VL_nil ?_ | refine VC_ret ?_ | ((apply VL_q); (exact qas (by rfl)); rfl))
    have hokf : ∀ a ∈ rows.reverse.flatten, a.Ok M5 := fun a ha => by
      obtain ⟨r, hr1, hr2⟩ := List.mem_flatten.1 ha
      obtain ⟨j, hj, rfl⟩ := List.getElem_of_mem hr1
      obtain ⟨j2, g1, g2, g3, g4⟩ := hpr j _ _ (List.getElem?_eq_getElem (by rw [List.length_reverse] at hj ⊢; omega)) (List.getElem?_eq_getElem hj)
      exact g2 a hr2
    refine .inr ⟨3, _, _, _, _, rfl, fun u M' hle hu => ⟨_, Res.two (by rfl) (ResV_tmp (by rfl) rfl) (ResV_tmp (by rfl) rfl), _, _, rfl, RowM.slM (fun _ _ => rfl) hu, fun a ha => (hokf a ha).mono hle, hbuild⟩⟩
end Go.Proofs.Ytclbmfepdlffnaa
