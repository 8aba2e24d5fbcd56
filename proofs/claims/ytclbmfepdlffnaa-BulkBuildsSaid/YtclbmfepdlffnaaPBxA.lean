/- The bulk layer: when there is no tree; what a configuration's levels are; the chapter's example. -/
import Derived.Test.YtclbmfepdlffnaaPBx9
namespace Go.Proofs.Ytclbmfepdlffnaa
open Go Go.RowKit
attribute [local irreducible] Calls
set_option linter.unusedVariables false
set_option maxRecDepth 20000
set_option linter.unusedSimpArgs false
set_option maxHeartbeats 4000000
theorem bulk_BuildNo (c : Cfg) (v : Value) (l : List Pair) (w : World) (M : Mem) (hM : M.le (Mem.of w)) (hl : SlM M 2 pairCells v l) (hn2 : l.length ≤ 1000000) (hz : ∀ p ∈ l, p.key.size ≤ 1000000 ∧ p.val.size ≤ 1000000) (hno : levelsC c (l.length : Int) = [] ∨ rightP l = false) :
    Calls Try.prog 45 #[.agg #[.int .i64 c.fanout, .int .i64 c.leaf, .int .i64 c.budget, .int .i64 c.slots, .int .i64 c.restarts], v] w fun e w' => e = .returned (.tuple #[.slice none 0 0, .int .i64 2]) ∧ Below w.heap.size w w' := by
  obtain ⟨A, c1, rfl, hc1, hc2, _⟩ := id hl
  have cL := fun W => bulk_Levels c (l.length : Int) W
  have cR : ∀ M1, M.le M1 → ∀ W, M1.le (Mem.of W) → Calls Try.prog 84 #[.slice A l.length c1] W fun e w' => e = .returned (.bool (rightP l)) ∧ Below W.heap.size W w' := fun M1 h W hW => model_RightP _ l W ((hl.mono h).toSl hW) (fun p hp => by have := hz p hp; unfold maxLen; omega) (by omega)
  generalize hL : levelsC c (l.length : Int) = L at *
  cases h0 : ((L.length : Int) == 0) with
  | true =>
    refine V_flat (args := [.agg #[.int .i64 c.fanout, .int .i64 c.leaf, .int .i64 c.budget, .int .i64 c.slots, .int .i64 c.restarts], .slice A l.length c1]) (M := M) Try.func45 rfl Try.ntmps45 (by rfl) (hM) ?_
    repeat' (first | refine VC_seq ?_ | refine VC_region ?_ | refine VL_nil ?_ | refine kbox ?_ | ((apply VL_q); (first | exact qmv (by rfl) | exact qas (by rfl) | exact qlA (by rfl) | exact qln (by rfl)); rfl))
    refine VL_callO (by rfl) (fun W _ => cL W) (by rfl) (by rfl) ?_
    repeat' (first | refine VC_seq ?_ | refine VC_region ?_ | refine VL_nil ?_ | refine VC_ret ?_ | ((apply VL_q); (first | exact qmv (by rfl) | exact qas (by rfl) | exact qlr (by rfl) | exact qpt (by rfl) | exact qcp (by rfl)); rfl) | refine kno ?_ | refine ctr ?_)
    exact Res.two (by rfl) (ResV_tmp (by rfl) rfl) (ResV_tmp (by rfl) rfl)
  | false =>
    have hr : rightP l = false := by
      rcases hno with h | h
      · rw [h] at h0; cases h0
      · exact h
    rw [hr] at cR
    refine V_flat (args := [.agg #[.int .i64 c.fanout, .int .i64 c.leaf, .int .i64 c.budget, .int .i64 c.slots, .int .i64 c.restarts], .slice A l.length c1]) (M := M) Try.func45 rfl Try.ntmps45 (by rfl) (hM) ?_
    repeat' (first | refine VC_seq ?_ | refine VC_region ?_ | refine VL_nil ?_ | refine kbox ?_ | ((apply VL_q); (first | exact qmv (by rfl) | exact qas (by rfl) | exact qlA (by rfl) | exact qln (by rfl)); rfl))
    refine VL_callO (by rfl) (fun W _ => cL W) (by rfl) (by rfl) ?_
    repeat' (first | refine VC_seq ?_ | refine VC_region ?_ | refine VL_nil ?_ | refine VC_ret ?_ | ((apply VL_q); (first | exact QS_call (by rfl) (cR M (Mem.le_refl _)) | exact qmv (by rfl) | exact qas (by rfl) | exact qno (by rfl) | exact qlr (by rfl) | exact qpf (by rfl) | exact qcp (by rfl)); rfl) | refine kyes ?_ | refine ctr ?_)
    exact Res.two (by rfl) (ResV_tmp (by rfl) rfl) (ResV_tmp (by rfl) rfl)
theorem bulk_BuildFull (c : Cfg) (v : Value) (l : List Pair) (L : List Nat) (w : World) (M : Mem) (hM : M.le (Mem.of w)) (hl : SlM M 2 pairCells v l) (hL : levelsC c (l.length : Int) = L) (hn2 : l.length ≤ 1000000) (h0 : 0 < L.length) (hLn : L.length ≤ 1000000) (hr : rightP l = true) (hsum : L.sum ≤ 1000000000) (hslots : c.slots < (L.sum : Int)) :
    Calls Try.prog 45 #[.agg #[.int .i64 c.fanout, .int .i64 c.leaf, .int .i64 c.budget, .int .i64 c.slots, .int .i64 c.restarts], v] w fun e w' => e = .returned (.tuple #[.slice none 0 0, .int .i64 4]) ∧ Below w.heap.size w w' := by
  obtain ⟨A, c1, rfl, hc1, hc2, _⟩ := id hl
  have cL := fun W => bulk_Levels c (l.length : Int) W
  rw [hL] at cL
  have cR : ∀ M1, M.le M1 → ∀ W, M1.le (Mem.of W) → Calls Try.prog 84 #[.slice A l.length c1] W fun e w' => e = .returned (.bool true) ∧ Below W.heap.size W w' := fun M1 h W hW => by
    have := model_RightP _ l W ((hl.mono h).toSl hW) (fun p hp => by have := (rightP_up hr).sz p hp; unfold maxLen; omega) (by omega)
    rwa [hr] at this
  have g1 : ((L.length : Int) == 0) = false := beq_eq_false_iff_ne.2 (by omega)
  refine V_flat (args := [.agg #[.int .i64 c.fanout, .int .i64 c.leaf, .int .i64 c.budget, .int .i64 c.slots, .int .i64 c.restarts], .slice A l.length c1]) (M := M) Try.func45 rfl Try.ntmps45 (by rfl) (hM) ?_
  repeat' (first | refine VC_seq ?_ | refine VC_region ?_ | refine VL_nil ?_ | refine kbox ?_ | ((apply VL_q); (first | exact qmv (by rfl) | exact qas (by rfl) | exact qlA (by rfl) | exact qln (by rfl)); rfl))
  refine VL_callO (by rfl) (fun W _ => cL W) (by rfl) (by rfl) ?_
  refine VL_frz 1 (by rfl) (fun us M1 hle1 hus => ?_)
  have hS : SlM M1 1 natK us L := hus.slM (fun _ _ => rfl)
  obtain ⟨B, cb, hus', hd1, hd2, _⟩ := id hS
  subst hus'
  repeat' (first | refine VC_seq ?_ | refine VC_region ?_ | refine VL_nil ?_ | refine VC_block ?_ | refine VC_skip ?_ | ((apply VL_q); (first | exact QS_call (by rfl) (cR M1 hle1) | exact qmv (by rfl) | exact qas (by rfl) | exact qno (by rfl) | exact qln (by rfl) | exact qpf (by rfl) | exact qcp (by rfl)); rfl) | refine kyes ?_ | refine cfa ?_)
  refine VC_for (fun k : Nat => ⟨M1, [.blk 74 [.int .i64 c.fanout, .int .i64 c.leaf, .int .i64 c.budget, .int .i64 c.slots, .int .i64 c.restarts]], [(1, .v (.slice A l.length c1)), (2, .p 0 0), (6, .v (.slice B L.length cb)), (7, .v (.int .i64 ((L.take k).sum : Nat))), (26, .v (.slice B L.length cb)), (27, .v (.int .i64 L.length)), (28, .v (.int .i64 k))]⟩) (fun k => k ≤ L.length) (fun k => L.length - k) [0] 0 ⟨rfl, rfl, ⟨rfl, trivial⟩, ⟨rfl, rfl, rfl, rfl, rfl, rfl, rfl, trivial⟩⟩ (by omega) ?_
  intro k hk
  rcases Nat.lt_or_ge k L.length with hlt | hge
  · have hd := dlt hlt
    obtain ⟨b, off, rfl, hcA⟩ := hS.get hlt
    have hst := sum_step hlt
    have hsl := sum_le hlt
    generalize L[k] = lk at *
    generalize (L.take k).sum = sk at *
    repeat' (first | refine VC_seq ?_ | refine VC_region ?_ | refine VL_nil ?_ | refine VC_block ?_ | refine VC_skip ?_ | ((apply VL_q); (first | exact QS_indexAddr (k) (by rfl) (by rfl) (by omega) (by omega) | exact QS_mload1 (by rfl) (hcA 0 _ (by rfl)) | exact qmv (by rfl) | exact qas (by rfl) | exact qcp (by rfl) | exact qad (by rfl)); rfl) | refine ctr ?_)
    exact forQ_next (Q := fun _ _ => True) [0] (k + 1) ⟨rfl, rfl, ⟨rfl, trivial⟩, ⟨rfl, rfl, rfl, by rw [hst]; rfl, rfl, rfl, rfl, trivial⟩⟩ (by omega) (by omega)
  have hd := dge hge
  obtain rfl : k = L.length := by omega
  rw [List.take_length]
  have g2 : decide (c.slots < (L.sum : Int)) = true := decide_eq_true (by omega)
  repeat' (first | refine VC_seq ?_ | refine VC_region ?_ | refine VL_nil ?_ | refine VC_ret ?_ | refine VC_exit ?_ | ((apply VL_q); (first | exact qmv (by rfl) | exact qas (by rfl) | exact ql1 (by rfl) | exact qfa (by rfl) | exact qcp (by rfl)); rfl) | refine ctr ?_ | refine cfa ?_)
  exact Res.two (by rfl) (ResV_tmp (by rfl) rfl) (ResV_tmp (by rfl) rfl)
/-! The levels of a configuration. -/
theorem levels_pos {F : Nat} (hF : 2 ≤ F) {n0 : Nat} (h0 : 1 ≤ n0) : ∀ (k x : Nat), (lvlL F n0)[k]? = some x → 1 ≤ x ∧ x ≤ n0
  | 0, x, h => by
    obtain ⟨_, p2, _, _⟩ := lvlL_props hF n0 n0 (Nat.le_refl _)
    rw [p2] at h
    rw [← Option.some.inj h]
    exact ⟨h0, Nat.le_refl _⟩
  | k + 1, x, h => by
    obtain ⟨_, _, _, p4⟩ := lvlL_props hF n0 n0 (Nat.le_refl _)
    have hk : k < (lvlL F n0).length := by have := (List.getElem?_eq_some_iff.1 h).1; omega
    obtain ⟨h1, h2⟩ := levels_pos hF h0 k _ (List.getElem?_eq_getElem hk)
    obtain ⟨h3, h4⟩ := p4 k _ _ (List.getElem?_eq_getElem hk) h
    subst h4
    refine ⟨fewN_pos _ _, ?_⟩
    have := fewN_lt h3 hF
    omega
theorem few_le {n r : Nat} (hn : 1 ≤ n) (hr : 1 ≤ r) : fewN n r ≤ n := by
  unfold fewN
  have h : (n + r - 1) / r ≤ n := by
    refine Nat.div_le_of_le_mul ?_
    have : r * n ≥ n + r - 1 := by
      obtain ⟨a, rfl⟩ : ∃ a, r = a + 1 := ⟨r - 1, by omega⟩
      obtain ⟨b, rfl⟩ : ∃ b, n = b + 1 := ⟨n - 1, by omega⟩
      rw [Nat.add_mul, Nat.one_mul, Nat.mul_add, Nat.mul_one]
      omega
    exact this
  omega
theorem lvl_shape {F R : Nat} (hF : 4 ≤ F) (hR : 1 ≤ R) (l : List Pair) : Shape l (lvlL F (fewN l.length R)) := by
  have hp := fewN_pos l.length R
  obtain ⟨p1, p2, p3, p4⟩ := lvlL_props (F := F) (by omega) (fewN l.length R) (fewN l.length R) (Nat.le_refl _)
  have p3 := p3 hp
  have hpos := levels_pos (F := F) (by omega) hp
  have hle : fewN l.length R ≤ l.length ∨ (l.length = 0 ∧ fewN l.length R = 1) := by
    rcases Nat.eq_zero_or_pos l.length with h | h
    · right
      refine ⟨h, ?_⟩
      rw [h]
      unfold fewN
      rw [Nat.zero_add, Nat.div_eq_of_lt (by omega)]; rfl
    · exact .inl (few_le h hR)
  generalize lvlL F (fewN l.length R) = L at *
  have hL0 : 0 < L.length := List.length_pos_iff.2 p1
  have e0 : L.getD 0 0 = fewN l.length R := by rw [List.getD_eq_getElem?_getD, p2]; rfl
  refine ⟨hL0, ?_, fun i hi => ?_, by rw [e0]; exact hle, fun i hi => ?_⟩
  · rw [List.getLast?_eq_getElem?] at p3
    rw [List.getD_eq_getElem?_getD, p3]; rfl
  · rw [getD_at hi]
    exact (hpos i _ (List.getElem?_eq_getElem hi)).1
  · rw [getD_at hi, getD_at (show i < L.length by omega)]
    obtain ⟨h3, h4⟩ := p4 i _ _ (List.getElem?_eq_getElem (show i < L.length by omega)) (List.getElem?_eq_getElem hi)
    rw [h4]
    have := fewN_lt h3 (show 2 ≤ F by omega)
    omega
theorem lvl_next_few {F R : Nat} (hF : 4 ≤ F) {n i : Nat} (hi : i + 1 < (lvlL F (fewN n R)).length) : 1 < (lvlL F (fewN n R)).getD i 0 ∧ (lvlL F (fewN n R)).getD (i + 1) 0 = fewN ((lvlL F (fewN n R)).getD i 0) F := by
  obtain ⟨_, _, _, p4⟩ := lvlL_props (F := F) (by omega) (fewN n R) (fewN n R) (Nat.le_refl _)
  generalize lvlL F (fewN n R) = L at *
  rw [getD_at hi, getD_at (show i < L.length by omega)]
  exact p4 i _ _ (List.getElem?_eq_getElem (show i < L.length by omega)) (List.getElem?_eq_getElem hi)
theorem lvl_first {F R : Nat} (hF : 4 ≤ F) (n : Nat) : (lvlL F (fewN n R)).getD 0 0 = fewN n R := by
  obtain ⟨_, p2, _, _⟩ := lvlL_props (F := F) (by omega) (fewN n R) (fewN n R) (Nat.le_refl _)
  rw [List.getD_eq_getElem?_getD, p2]; rfl
/-- Half as many kids at least, where there is more than one node. -/
theorem half_par {x y F : Nat} (hF : 4 ≤ F) (hy : y = fewN x F) (h1 : 1 < y) : y * (F / 2) ≤ x := by
  have h2 := fewN_le (n := x) (r := F) (by omega) (by omega)
  rw [← hy] at h2
  have h3 : 2 * (F / 2) ≤ F := Nat.mul_div_le F 2
  have h4 : y ≤ 2 * (y - 1) := by omega
  have h5 : y * (F / 2) ≤ 2 * (y - 1) * (F / 2) := Nat.mul_le_mul_right _ h4
  have h6 : 2 * (y - 1) * (F / 2) = (y - 1) * (2 * (F / 2)) := by rw [Nat.mul_comm 2 (y - 1), Nat.mul_assoc]
  have h7 : (y - 1) * (2 * (F / 2)) ≤ (y - 1) * F := Nat.mul_le_mul_left _ h3
  omega
theorem lvl_fit {c : Cfg} (hc : okC c = true) (l : List Pair) (hs : ((levelsC c (l.length : Int)).sum : Int) ≤ c.slots) (hn : l.length ≤ 1000000) : Shape l (levelsC c (l.length : Int)) ∧ TreeFit c l (levelsC c (l.length : Int)) ∧ (∀ i k, i + 1 < (levelsC c (l.length : Int)).length → k < (levelsC c (l.length : Int)).getD (i + 1) 0 → 1 < (levelsC c (l.length : Int)).getD (i + 1) 0 → c.fanout / 2 ≤ ((parF l (levelsC c (l.length : Int)) (i + 1) k : Nat) : Int)) := by
  obtain ⟨f1, f2, l1, l2, s1, s2⟩ := okC_parts hc
  have he : levelsC c (l.length : Int) = lvlL c.fanout.toNat (fewN l.length c.leaf.toNat) := by
    unfold levelsC
    rw [if_neg (by rw [hc]; simp; omega), Int.toNat_natCast]
  rw [he] at hs ⊢
  obtain ⟨F, hFe⟩ : ∃ F : Nat, c.fanout = (F : Int) := ⟨c.fanout.toNat, by omega⟩
  obtain ⟨R, hRe⟩ : ∃ R : Nat, c.leaf = (R : Int) := ⟨c.leaf.toNat, by omega⟩
  rw [hFe, hRe, Int.toNat_natCast, Int.toNat_natCast] at hs ⊢
  rw [hFe] at f1 f2
  rw [hRe] at l1 l2
  have hS := lvl_shape (F := F) (R := R) (by omega) (by omega) l
  have h1 := fun i hi => lvl_next_few (F := F) (R := R) (by omega) (n := l.length) (i := i) hi
  have h0 := lvl_first (F := F) (R := R) (by omega) l.length
  have hbud : 0 ≤ c.budget := by
    unfold okC amongB at hc
    simp only [Bool.and_eq_true, decide_eq_true_eq] at hc
    omega
  generalize lvlL F (fewN l.length R) = L at *
  refine ⟨hS, ⟨hs, hbud, fun k hk => ?_, fun i k hi hk => ?_⟩, fun i k hi hk h2 => ?_⟩
  · have := partE_le (n := l.length) (p := L.getD 0 0) (r := R) (by omega) (by rw [h0]; exact fewN_ge (by omega)) k hk
    unfold parF
    rw [cnt_zero, hRe]; omega
  · obtain ⟨g1, g2⟩ := h1 i hi
    have a1 := partE_le (n := L.getD i 0) (p := L.getD (i + 1) 0) (r := F) (by omega) (by rw [g2]; exact fewN_ge (by omega)) k hk
    have a2 : 2 ≤ partE (L.getD i 0) (L.getD (i + 1) 0) k := by
      refine partE_ge (by omega) ?_ k
      by_cases hy : 1 < L.getD (i + 1) 0
      · have h3 := fewN_le (n := L.getD i 0) (r := F) (by omega) (by omega)
        rw [← g2] at h3
        have h4 : (L.getD (i + 1) 0 - 1) * 4 ≤ (L.getD (i + 1) 0 - 1) * F := Nat.mul_le_mul_left _ (by omega)
        omega
      · omega
    unfold parF
    rw [cnt_succ]
    exact ⟨a2, by omega⟩
  · obtain ⟨g1, g2⟩ := h1 i hi
    have h3 := half_par (x := L.getD i 0) (F := F) (by omega) g2 h2
    have h4 := partE_ge (by omega) h3 k
    unfold parF
    rw [cnt_succ]
    omega
/-! The example. -/
def c51 : Cfg := ⟨4, 2, 36, 9, 0⟩
def l51 : List Pair := [⟨⟨#[97]⟩, ⟨#[]⟩⟩, ⟨⟨#[98]⟩, ⟨#[]⟩⟩, ⟨⟨#[99]⟩, ⟨#[]⟩⟩, ⟨⟨#[100]⟩, ⟨#[]⟩⟩, ⟨⟨#[101]⟩, ⟨#[]⟩⟩]
theorem lv51 : levelsC c51 ((l51.length : Nat) : Int) = [3, 1] := by
  unfold levelsC
  rw [if_neg (by decide)]
  show lvlL 4 (fewN 5 2) = [3, 1]
  rw [show fewN 5 2 = 3 by decide, lvlL_more (by omega) (by omega), show fewN 3 4 = 1 by decide, lvlL_one (by omega)]
theorem lt51 (a b : UInt8) (h : a.toNat < b.toNat) : lt ⟨#[a]⟩ ⟨#[b]⟩ = true := by
  rw [lt_bl]
  show Op.bytesLess [a] [b] = true
  rw [bls_cons, decide_eq_true h]; rfl
theorem right51 : rightP l51 = true := by
  have h : ∀ i, i < 5 → rowP l51 i = true := fun i hi => by
    have : i = 0 ∨ i = 1 ∨ i = 2 ∨ i = 3 ∨ i = 4 := by omega
    rcases this with rfl | rfl | rfl | rfl | rfl
    · rw [rowP_zero (by decide)]; rfl
    · rw [rowP_pos (by decide) (by decide)]; show (true && true && lt ⟨#[97]⟩ ⟨#[98]⟩) = true; rw [lt51 _ _ (by decide)]; rfl
    · rw [rowP_pos (by decide) (by decide)]; show (true && true && lt ⟨#[98]⟩ ⟨#[99]⟩) = true; rw [lt51 _ _ (by decide)]; rfl
    · rw [rowP_pos (by decide) (by decide)]; show (true && true && lt ⟨#[99]⟩ ⟨#[100]⟩) = true; rw [lt51 _ _ (by decide)]; rfl
    · rw [rowP_pos (by decide) (by decide)]; show (true && true && lt ⟨#[100]⟩ ⟨#[101]⟩) = true; rw [lt51 _ _ (by decide)]; rfl
  exact List.all_eq_true.2 fun i hi => h i (List.mem_range.1 hi)
theorem shape51 : Shape l51 [3, 1] := ⟨by decide, by decide, fun i hi => by
  have : i = 0 ∨ i = 1 := by simp at hi; omega
  rcases this with rfl | rfl <;> decide, .inl (by decide), fun i hi => by
  have : i = 0 := by simp at hi; omega
  subst this; decide⟩
theorem bulk_awake (w : World) : Calls Try.prog 39 #[] w fun e w' => e = .returned (.bool true) ∧ Below w.heap.size w w' := by
  refine V_flat (args := []) (M := Mem.of w) Try.func39 rfl Try.ntmps39 (by rfl) (Mem.le_refl _) ?_
  repeat' (first | refine VC_seq ?_ | refine VC_region ?_ | refine VL_nil ?_ | refine klK ?_ | ((apply VL_q); (first | exact qas (by rfl) | exact qbd (by rfl)); rfl))
  refine VL_frz 0 (by rfl) (fun u M1 hle1 hu => ?_)
  have hS : SlM M1 2 pairCells u l51 := RowM.slM (l := l51) (fun _ _ => rfl) hu
  have cB : ∀ W, M1.le (Mem.of W) → Calls Try.prog 45 #[.agg #[.int .i64 c51.fanout, .int .i64 c51.leaf, .int .i64 c51.budget, .int .i64 c51.slots, .int .i64 c51.restarts], u] W (RetM M1 W (BuildPost l51 [3, 1])) := fun W hW =>
    bulk_Build c51 u l51 [3, 1] W M1 hW hS lv51 (by decide) shape51 right51 (fun p hp => by have := (rightP_up right51).sz p hp; omega) (by decide) (by decide)
  refine VL_callM (by rfl) cB (by rfl) (fun v M2 hle2 hp => ?_)
  obtain ⟨x, X, rfl, hx, hok, hXs⟩ := hp
  have hlen : X.length = 4 := by have := congrArg List.length hXs; rw [List.length_map] at this; rw [this]; rfl
  have h0 := congrArg (fun z : List Nd => (z[0]?).map fun n => n.ks.length) hXs
  have h1 := congrArg (fun z : List Nd => (z[1]?).map fun n => n.rs.length) hXs
  have h3 := congrArg (fun z : List Nd => (z[3]?).map fun n => n.rs.length) hXs
  simp only [List.getElem?_map, List.getElem?_eq_getElem (show 0 < X.length by omega), List.getElem?_eq_getElem (show 1 < X.length by omega), List.getElem?_eq_getElem (show 3 < X.length by omega), Option.map_some] at h0 h1 h3
  have h0' : X[0].ks.length = 3 := Option.some.inj h0
  have h1' : X[1].rs.length = 2 := Option.some.inj h1
  have h3' : X[3].rs.length = 1 := Option.some.inj h3
  obtain ⟨A1, n1, hd1, _⟩ := (hok _ (List.getElem_mem (show 0 < X.length by omega))).2.1
  obtain ⟨A2, n2, ha1, _⟩ := (hok _ (List.getElem_mem (show 1 < X.length by omega))).2.2.2
  obtain ⟨A3, n3, hc1, _⟩ := (hok _ (List.getElem_mem (show 3 < X.length by omega))).2.2.2
  rw [h0'] at hd1
  rw [h1'] at ha1
  rw [h3'] at hc1
  obtain ⟨A, cp, rfl, _⟩ := id hx
  obtain ⟨b1, o1, rfl, g0⟩ := hx.get (i := 0) (by omega)
  obtain ⟨_, _, e1, g1⟩ := hx.get (i := 1) (by omega)
  injection e1 with e1
  injection e1 with e2 e3
  subst e2 e3
  obtain ⟨_, _, e1, g3⟩ := hx.get (i := 3) (by omega)
  injection e1 with e1
  injection e1 with e2 e3
  subst e2 e3
  have k0 : M2.cell b1 (o1 + 0 * 10 + 3) = some (.slice A1 3 n1) := g0 3 _ (by show some X[0].kv = _; rw [hd1])
  have k1 : M2.cell b1 (o1 + 1 * 10 + 9) = some (.slice A2 2 n2) := g1 9 _ (by show some X[1].rv = _; rw [ha1])
  have k3 : M2.cell b1 (o1 + 3 * 10 + 9) = some (.slice A3 1 n3) := g3 9 _ (by show some X[3].rv = _; rw [hc1])
  rw [hlen]
  have q1 : ((0 : Int) == 0) = true := by decide
  have q2 : (((4 : Nat) : Int) == 4) = true := by decide
  have q3 : (((3 : Nat) : Int) == 3) = true := by decide
  have q4 : (((2 : Nat) : Int) == 2) = true := by decide
  have q5 : (((1 : Nat) : Int) == 1) = true := by decide
  repeat' (first | refine VC_seq ?_ | refine VC_region ?_ | refine VL_nil ?_ | refine VC_ret ?_ | ((apply VL_q); (first | exact QS_indexAddr 0 (by rfl) (by rfl) (by omega) (by omega) | exact QS_indexAddr 1 (by rfl) (by rfl) (by omega) (by omega) | exact QS_indexAddr 3 (by rfl) (by rfl) (by omega) (by omega) | exact QS_mload1 (by rfl) k0 | exact QS_mload1 (by rfl) k1 | exact QS_mload1 (by rfl) k3 | exact qmv (by rfl) | exact qas (by rfl) | exact qmf (by rfl) | exact qex (by rfl) | exact qln (by rfl) | exact qpt (by rfl) | exact qcp (by rfl)); rfl) | refine kyes ?_)
  show Res _ _ _ _
  refine Res.one (by rfl) (ResV_tmp (by rfl) ?_)
  rfl
end Go.Proofs.Ytclbmfepdlffnaa
