/- Nodes among the arguments; how light they are; what the two answers to whether a node may be have in common. -/
import Derived.Test.YtlapnbklbpeddaaGreatPNd5
namespace Go.Proofs.YtlapnbklbpeddaaGreat
open Go Go.RowKit
set_option linter.unusedVariables false
set_option maxRecDepth 20000
set_option linter.unusedSimpArgs false
set_option maxHeartbeats 4000000
attribute [local irreducible] Calls
/-- A count of what each has, up to a bound and a little more. -/
def lngG {α : Type} (f : α → Int) (most : Int) : Int → List α → Int
  | n, [] => n
  | n, s :: r => if n ≤ most then lngG f most (n + f s) r else n
theorem lngG_tot {α : Type} (f : α → Int) (most : Int) : ∀ (l : List α) (n : Int), (∀ a ∈ l, 0 ≤ f a) → lngG f most n l ≤ most → n + sumBy f l ≤ most
  | [], n, _, h => by simpa [lngG, sumBy] using h
  | s :: r, n, h0, h => by
    unfold lngG at h
    split at h
    · have := lngG_tot f most r _ (fun a ha => h0 a (by simp [ha])) h
      simp only [sumBy]; omega
    · omega
theorem lngG_step {α : Type} (f : α → Int) {most n : Int} {l : List α} {k : Nat} (h : k < l.length) (hn : n ≤ most) : lngG f most n (l.drop k) = lngG f most (n + f l[k]) (l.drop (k + 1)) := by
  rw [List.drop_eq_getElem_cons h]; exact if_pos hn
theorem lngG_stop {α : Type} (f : α → Int) {most n : Int} {l : List α} {k : Nat} (h : l.length ≤ k ∨ most < n) : lngG f most n (l.drop k) = n := by
  by_cases hk : k < l.length
  · rw [List.drop_eq_getElem_cons hk]; exact if_neg (by omega)
  · rw [List.drop_eq_nil_of_le (by omega)]; rfl
def wtP (p : Pair) : Int := 1 + (p.key.size : Int) + p.val.size
def longP (most : Int) (l : List Pair) : Bool := decide (lngG wtP most 0 l ≤ most)
theorem ref_LongP (v : Value) (l : List Pair) (most : Int) (w : World) (hl : Sl w 2 pairCells v l) (hs : ∀ p ∈ l, Sz p.key ∧ Sz p.val) (h0 : 0 ≤ most) (h1 : most ≤ 100000) :
    Calls Tryz.prog 14 #[v, .int .i64 most] w fun e w' => e = .returned (.bool (longP most l)) ∧ Below w.heap.size w w' := by
  obtain ⟨A, c, rfl, hc1, hc2, _⟩ := id hl
  have hM := hl.toM
  unfold maxLen at hc2
  refine V_flat (args := [.slice A l.length c, .int .i64 most]) (M := Mem.of w) Tryz.func14 rfl Tryz.ntmps14 (by rfl) (Mem.le_refl _) ?_
  repeat' (first | refine VC_seq ?_ | refine VC_region ?_ | refine VL_nil ?_ | refine VC_block ?_ | ((apply VL_q); (exact qas (by rfl)); rfl))
  refine VC_for (fun x : Nat × Int => ⟨Mem.of w, [], [(0, .v (.slice A l.length c)), (1, .v (.int .i64 most)), (5, .v (.int .i64 x.2)), (6, .v (.int .i64 x.1))]⟩) (fun x => x.1 ≤ l.length ∧ 0 ≤ x.2 ∧ x.2 ≤ 400000000000000 ∧ lngG wtP most x.2 (l.drop x.1) = lngG wtP most 0 l) (fun x => l.length - x.1) [] (0, 0) ⟨rfl, rfl, trivial, ⟨rfl, rfl, rfl, rfl, trivial⟩⟩ ⟨by simp only; omega, by simp, by simp, rfl⟩ ?_
  rintro ⟨k, n⟩ ⟨hk, hn0, hn1, hr⟩
  simp only at hk hn0 hn1 hr
  unfold longP
  rcases Nat.lt_or_ge k l.length with hlt | hge
  · have hd := dlt hlt
    obtain ⟨b, off, rfl, hcA⟩ := hM.get hlt
    obtain ⟨z1, z2⟩ := hs l[k] (List.getElem_mem hlt)
    unfold Sz at z1 z2
    cases hq : decide (n ≤ most) with
    | true =>
      simp only [decide_eq_true_eq] at hq
      have hq' : decide (n ≤ most) = true := decide_eq_true hq
      have hst := lngG_step wtP hlt hq
      repeat' (first | refine VC_seq ?_ | refine VC_region ?_ | refine VL_nil ?_ | refine VC_block ?_ | refine VC_skip ?_ | ((first | apply VL_q | apply VG_q); (first | exact QS_indexAddr (k) (by rfl) (by rfl) (by omega) (by omega) | exact QS_mload1 (by rfl) (hcA 0 _ (by rfl)) | exact QS_mload1 (by rfl) (hcA _ _ (by rfl)) | exact qmv (by rfl) | exact qas (by rfl) | exact qmf (by rfl) | exact qln (by rfl) | exact qls (by rfl) | exact qpt (by rfl) | exact qcp (by rfl) | exact qad (by rfl)); rfl) | refine kyes ?_ | refine VG_nil ?_ | refine dQ ?_ | refine ctr ?_)
      exact forQ_next (Q := fun _ _ => True) [] (k + 1, n + (1 + (l[k].key.size : Int) + l[k].val.size)) ⟨rfl, rfl, trivial, ⟨rfl, rfl, rfl, rfl, trivial⟩⟩ ⟨by simp only; omega, by simp only; omega, by simp only; omega, by simp only; rw [← hr, hst]; rfl⟩ (by simp only; omega)
    | false =>
      simp only [decide_eq_false_iff_not] at hq
      have hq' : decide (n ≤ most) = false := decide_eq_false hq
      rw [lngG_stop wtP (.inr (by omega))] at hr
      repeat' (first | refine VC_seq ?_ | refine VC_region ?_ | refine VL_nil ?_ | refine VC_ret ?_ | refine VC_exit ?_ | ((apply VL_q); (first | exact qmv (by rfl) | exact qas (by rfl) | exact qln (by rfl) | exact qpt (by rfl) | exact qcp (by rfl)); rfl) | refine kyes ?_ | refine cfa ?_)
      show Res _ _ _ _
      refine Res.one (by rfl) (ResV_tmp (by rfl) ?_)
      rw [← hr]
  · have hd := dge hge
    rw [lngG_stop wtP (.inl hge)] at hr
    repeat' (first | refine VC_seq ?_ | refine VC_region ?_ | refine VL_nil ?_ | refine VC_ret ?_ | refine VC_exit ?_ | ((apply VL_q); (first | exact qmv (by rfl) | exact qas (by rfl) | exact qln (by rfl) | exact qpf (by rfl) | exact qcp (by rfl)); rfl) | refine kno ?_ | refine cfa ?_)
    show Res _ _ _ _
    refine Res.one (by rfl) (ResV_tmp (by rfl) ?_)
    rw [← hr]
theorem longP_bounds {most : Int} {l : List Pair} (h : longP most l = true) : (l.length : Int) ≤ most ∧ ∀ p ∈ l, (p.key.size : Int) ≤ most ∧ (p.val.size : Int) ≤ most := by
  unfold longP at h
  have h1 := lngG_tot wtP most l 0 (fun a _ => by unfold wtP; omega) (of_decide_eq_true h)
  have h2 := sumBy_len (f := wtP) l (fun a _ => by unfold wtP; omega)
  refine ⟨by omega, fun p hp => ?_⟩
  have h3 := sumBy_mem (f := wtP) l (fun a _ => by unfold wtP; omega) hp
  unfold wtP at h3
  unfold wtP at h1
  omega
abbrev ndCells (n : Nd) : List Value := [.int .i64 n.slot, .int .i64 n.level, n.pv, n.kv, .string n.high, .bool n.top, .int .i64 n.right, .int .i64 n.seen, n.mv, n.rv]
/-- The sizes of what an argument is. -/
structure Nd.In (n : Nd) : Prop where
  slot : I64 n.slot
  level : I64 n.level
  right : I64 n.right
  seen : I64 n.seen
  high : Sz n.high
  ps : ∀ s ∈ n.ps, Sz s
  ks : ∀ k ∈ n.ks, I64 k
  ms : ∀ m ∈ n.ms, m.In
  rs : ∀ p ∈ n.rs, p.In
def lightN (most : Int) (n : Nd) : Bool := longP most n.rs && !decide (most < lngFrom most 0 n.ps) && !decide (most < (n.ks.length : Int)) && decide (sumBy wtM n.ms ≤ most) && !decide (most < (n.high.size : Int))
def lightL (n most : Int) (l : List Nd) : Bool := !decide (n < (l.length : Int)) && l.all (lightN most)
theorem ref_Light (v : Value) (l : List Nd) (n most : Int) (w : World) (M : Mem) (hMw : M.le (Mem.of w)) (hl : SlM M 10 ndCells v l) (hok : ∀ a ∈ l, a.Ok M) (hin : ∀ a ∈ l, a.In) (h0 : 0 ≤ most) (h1 : most ≤ 100000) (hn : l.length ≤ 1000000000) :
    Calls Tryz.prog 5 #[v, .int .i64 n, .int .i64 most] w fun e w' => e = .returned (.bool (lightL n most l)) ∧ Below w.heap.size w w' := by
  obtain ⟨A, c, rfl, hc1, hc2, _⟩ := id hl
  unfold maxLen at hc2
  unfold lightL
  cases hq : decide (n < (l.length : Int)) with
  | true =>
    refine V_flat (args := [.slice A l.length c, .int .i64 n, .int .i64 most]) (M := M) Tryz.func5 rfl Tryz.ntmps5 (by rfl) (hMw) ?_
    repeat' (first | refine VC_seq ?_ | refine VC_region ?_ | refine VL_nil ?_ | refine VC_ret ?_ | ((apply VL_q); (first | exact qmv (by rfl) | exact qas (by rfl) | exact qln (by rfl) | exact qcp (by rfl)); rfl) | refine ctr ?_)
    show Res _ _ _ _
    refine Res.one (by rfl) (ResV_tmp (by rfl) ?_)
    rfl
  | false =>
    refine V_flat (args := [.slice A l.length c, .int .i64 n, .int .i64 most]) (M := M) Tryz.func5 rfl Tryz.ntmps5 (by rfl) (hMw) ?_
    repeat' (first | refine VC_seq ?_ | refine VC_region ?_ | refine VL_nil ?_ | refine VC_block ?_ | refine VC_skip ?_ | ((apply VL_q); (first | exact qmv (by rfl) | exact qas (by rfl) | exact qln (by rfl) | exact qcp (by rfl)); rfl) | refine cfa ?_)
    refine VC_for (fun k : Nat => ⟨M, [], [(0, .v (.slice A l.length c)), (2, .v (.int .i64 most)), (7, .v (.int .i64 k))]⟩) (fun k => k ≤ l.length ∧ (l.take k).all (lightN most) = true) (fun k => l.length - k) [] 0 ⟨rfl, rfl, trivial, ⟨rfl, rfl, rfl, trivial⟩⟩ ⟨by omega, rfl⟩ ?_
    rintro k ⟨hk, hr⟩
    rcases Nat.lt_or_ge k l.length with hlt | hge
    · have hd := dlt hlt
      obtain ⟨b, off, rfl, hcA⟩ := hl.get hlt
      obtain ⟨oP, oK, oM, oR⟩ := hok l[k] (List.getElem_mem hlt)
      have hi := hin l[k] (List.getElem_mem hlt)
      obtain ⟨D, d, hkv, _⟩ := id oK
      have f9 : M.cell b (off + k * 10 + 9) = some l[k].rv := hcA 9 _ rfl
      have f2 : M.cell b (off + k * 10 + 2) = some l[k].pv := hcA 2 _ rfl
      have f3 : M.cell b (off + k * 10 + 3) = some (.slice D l[k].ks.length d) := by rw [← hkv]; exact hcA 3 _ rfl
      have f8 : M.cell b (off + k * 10 + 8) = some l[k].mv := hcA 8 _ rfl
      have f4 : M.cell b (off + k * 10 + 4) = some (.string l[k].high) := hcA 4 _ rfl
      have c1 := fun W hW => ref_LongP l[k].rv l[k].rs most W (oR.toSl hW) hi.rs h0 h1
      have c2 : ∀ W, M.le (Mem.of W) → Calls Tryz.prog 15 #[l[k].pv, .int .i64 most] W fun e w' => e = .returned (.int .i64 (lngFrom most 0 l[k].ps)) ∧ W = w' := fun W hW => ref_LongS l[k].pv l[k].ps most W (oP.toSl hW) hi.ps h0 h1
      have c3 := fun W hW => ref_Few l[k].mv l[k].ms most W (oM.toSl hW) hi.ms h0 (by omega)
      have hp : lightN most l[k] = (longP most l[k].rs && !decide (most < lngFrom most 0 l[k].ps) && !decide (most < (l[k].ks.length : Int)) && decide (sumBy wtM l[k].ms ≤ most) && !decide (most < (l[k].high.size : Int))) := rfl
      repeat' (first | refine VC_seq ?_ | refine VC_region ?_ | refine VL_nil ?_ | refine VC_ret ?_ | refine VC_block ?_ | refine VC_skip ?_ | ((apply VL_q); (first | exact QS_indexAddr (k) (by rfl) (by rfl) (by omega) (by omega) | exact QS_call (by rfl) c1 | exact QS_call0 (by rfl) c2 | exact QS_call (by rfl) c3 | exact qmv (by rfl) | exact qas (by rfl) | exact qmf (by rfl) | exact qm1 (by rfl) | exact qno (by rfl) | exact qln (by rfl) | exact qls (by rfl) | exact qpt (by rfl) | exact qpf (by rfl) | exact qcp (by rfl) | exact qad (by rfl)); rfl) | refine kyes ?_ | refine kno ?_ | refine ctr ?_ | refine kdec (fun hq => ?_) (fun hq => ?_) | refine cco (fun hq => ?_) (fun hq => ?_))
      all_goals first
        | (refine Res.one (by rfl) (ResV_tmp (by rfl) (congrArg Value.bool ?_)); rw [allG_stop (p := lightN most) hlt (by rw [hp]; simp_all <;> omega)]; rfl)
        | exact forQ_next (Q := fun _ _ => True) [] (k + 1) ⟨rfl, rfl, trivial, ⟨rfl, rfl, rfl, trivial⟩⟩ ⟨by omega, by rw [allG_step hlt, hr, hp]; simp_all <;> omega⟩ (by omega)
    · have hd := dge hge
      obtain rfl : k = l.length := by omega
      rw [List.take_length] at hr
      repeat' (first | refine VC_seq ?_ | refine VC_region ?_ | refine VL_nil ?_ | refine VC_ret ?_ | refine VC_exit ?_ | ((apply VL_q); (first | exact qmv (by rfl) | exact qas (by rfl) | exact qln (by rfl) | exact qcp (by rfl)); rfl) | refine cfa ?_)
      show Res _ _ _ _
      refine Res.one (by rfl) (ResV_tmp (by rfl) ?_)
      rw [hr]; rfl
theorem tot_mem {l : List ByteArray} {s : ByteArray} (h : s ∈ l) : s.size ≤ tot l := by
  unfold tot
  induction l with
  | nil => cases h
  | cons a l ih =>
    rw [List.map_cons, List.sum_cons]
    rcases List.mem_cons.1 h with e | e
    · rw [e]; omega
    · have := ih e; omega
theorem inM_eq {n : Nd} {m : Msg} (hr : rightM m = true) : inM n m = inM' n m := by
  unfold inM inM'
  congr 1
  cases ht : n.top with
  | true =>
    rw [Bool.true_or]
    have : spanN n = all := by unfold spanN; rw [if_pos ht]
    rw [this]
    have h1 := within_ends (spanM m) all em
    rw [← h1]
    refine List.all_eq_true.2 fun x _ => ?_
    rw [has_all, Bool.or_true]
  | false =>
    rw [Bool.false_or]
    have hN : spanN n = norm ⟨em, n.high, false⟩ := by unfold spanN; rw [if_neg (by rw [ht]; simp)]
    have hb : ∀ x, has (spanN n) x = lt x n.high := fun x => by rw [has_spanN]; unfold hasN; rw [ht]; rfl
    have ho := has_own hr
    have hsz : ∀ x, has (spanM m) x = (!lt x (spanM m).lo && ((spanM m).opn || lt x (spanM m).hi)) := fun x => rfl
    rw [← within_ends (spanM m) (spanN n) n.high]
    have hne : empty (spanM m) = false := by
      cases he : empty (spanM m) with
      | false => rfl
      | true => rw [has_empty he] at ho; cases ho
    have hlo : has (spanM m) (spanM m).lo = true := by rw [empty_iff] at hne; simpa using hne
    cases hc : (!(spanM m).opn && !lt n.high (spanM m).hi) with
    | true =>
      simp only [Bool.and_eq_true, Bool.not_eq_true'] at hc
      refine List.all_eq_true.2 fun x _ => ?_
      cases hx : has (spanM m) x with
      | false => rfl
      | true =>
        rw [hsz, hc.1, Bool.false_or, Bool.and_eq_true] at hx
        rw [hb]
        have := lt_le hx.2 hc.2
        rw [this]; rfl
    | false =>
      cases hall : (ends (spanM m) (spanN n) n.high).all (fun x => !has (spanM m) x || has (spanN n) x) with
      | false => rfl
      | true =>
        exfalso
        have hat := fun x (hx : x ∈ ends (spanM m) (spanN n) n.high) => List.all_eq_true.1 hall x hx
        have h1 := hat (spanM m).lo (by unfold ends; simp)
        rw [hlo, hb] at h1
        simp at h1
        have h2 := hat n.high (by unfold ends; simp)
        rw [hb, lt_irr, Bool.or_false] at h2
        rw [hsz, lt_asy h1] at h2
        cases hop : (spanM m).opn with
        | true => rw [hop] at h2; simp at h2
        | false =>
          rw [hop] at h2 hc
          simp at h2 hc
          rw [h2] at hc; cases hc
theorem all_eqR (l : List Msg) : l.all refRightM = l.all rightM := by
  have : refRightM = rightM := funext refRightM_eq
  rw [this]
theorem inr_eq (c : Cfg) (n : Nd) : inrN c n = (refInr c n && refAll n) := by
  unfold inrN refInr refAll innN rightL allB
  rw [all_eqR]
  cases hm : n.ms.all rightM with
  | false => simp
  | true =>
    have key : ∀ l : List Msg, l.all rightM = true → l.all (inM n) = l.all (inM' n) := by
      intro l
      induction l with
      | nil => intro _; rfl
      | cons a l ih =>
        intro h
        simp only [List.all_cons, Bool.and_eq_true] at h
        rw [List.all_cons, List.all_cons, inM_eq h.1, ih h.2]
    have : n.ms.all (inM n) = n.ms.all (inM' n) := key n.ms hm
    rw [this]
    cases ((n.rs.length : Int) == 0) <;> cases decide (2 ≤ (n.ks.length : Int)) <;> cases decide ((n.ks.length : Int) ≤ c.fanout) <;> cases rightK n.ps n.ks <;> cases riseB n.ms <;> cases decide (sizeL n.ms ≤ c.budget) <;> simp
theorem ref_RightN (c : Cfg) (n : Nd) (w : World) (hn : n.Ok (Mem.of w)) (hz : n.Big) : Calls Tryz.prog 26 #[.agg #[.int .i64 c.fanout, .int .i64 c.leaf, .int .i64 c.budget, .int .i64 c.slots, .int .i64 c.restarts], .agg #[.int .i64 n.slot, .int .i64 n.level, n.pv, n.kv, .string n.high, .bool n.top, .int .i64 n.right, .int .i64 n.seen, n.mv, n.rv]] w fun e w' => e = .returned (.bool (rightN c n)) ∧ Below w.heap.size w w' := by
  have cL := fun W hW => ref_leafN c n W (hn.mono hW) hz
  have cI := fun W hW => ref_innerN c n W (hn.mono hW) hz
  have t1 := dgt (n.high.size : Int) 16
  have t2 := dltn n.right 0
  unfold rightN
  rw [inr_eq]
  cases hh : headOk n with
  | false =>
    rw [Bool.false_and]
    unfold headOk endN at hh
    refine V_flat (args := [.agg #[.int .i64 c.fanout, .int .i64 c.leaf, .int .i64 c.budget, .int .i64 c.slots, .int .i64 c.restarts], .agg #[.int .i64 n.slot, .int .i64 n.level, n.pv, n.kv, .string n.high, .bool n.top, .int .i64 n.right, .int .i64 n.seen, n.mv, n.rv]]) (M := Mem.of w) Tryz.func26 rfl Tryz.ntmps26 (by rfl) (Mem.le_refl _) ?_
    repeat' (first | refine VC_seq ?_ | refine VC_region ?_ | refine VL_nil ?_ | refine VC_ret ?_ | refine VC_skip ?_ | refine kbox ?_ | ((apply VL_q); (first | exact QS_call (by rfl) cL | exact QS_call (by rfl) cI | exact qmv (by rfl) | exact qas (by rfl) | exact ql1 (by rfl) | exact qlA (by rfl) | exact qfa (by rfl) | exact qno (by rfl) | exact qls (by rfl) | exact qpt (by rfl) | exact qpf (by rfl) | exact qcp (by rfl)); rfl) | refine kyes ?_ | refine kno ?_ | refine knoU ?_ | refine ctr ?_ | refine cfa ?_ | refine kdec (fun hq => ?_) (fun hq => ?_) | refine cco (fun hq => ?_) (fun hq => ?_))
    all_goals first
      | (refine Res.one (by rfl) (ResV_tmp (by rfl) rfl))
      | (exfalso; simp_all [em, bne] <;> omega)
  | true =>
    rw [Bool.true_and]
    unfold headOk endN at hh
    cases hl : (n.level == 0) with
    | true =>
      refine V_flat (args := [.agg #[.int .i64 c.fanout, .int .i64 c.leaf, .int .i64 c.budget, .int .i64 c.slots, .int .i64 c.restarts], .agg #[.int .i64 n.slot, .int .i64 n.level, n.pv, n.kv, .string n.high, .bool n.top, .int .i64 n.right, .int .i64 n.seen, n.mv, n.rv]]) (M := Mem.of w) Tryz.func26 rfl Tryz.ntmps26 (by rfl) (Mem.le_refl _) ?_
      repeat' (first | refine VC_seq ?_ | refine VC_region ?_ | refine VL_nil ?_ | refine VC_ret ?_ | refine VC_skip ?_ | refine kbox ?_ | ((apply VL_q); (first | exact QS_call (by rfl) cL | exact qmv (by rfl) | exact qas (by rfl) | exact ql1 (by rfl) | exact qlA (by rfl) | exact qfa (by rfl) | exact qno (by rfl) | exact qls (by rfl) | exact qpt (by rfl) | exact qpf (by rfl) | exact qcp (by rfl)); rfl) | refine kyes ?_ | refine kno ?_ | refine knoU ?_ | refine ctr ?_ | refine cfa ?_ | refine kdec (fun hq => ?_) (fun hq => ?_) | refine cco (fun hq => ?_) (fun hq => ?_))
      all_goals first
        | exact Res.one (by rfl) (ResV_tmp (by rfl) (congrArg Value.bool (if_pos rfl).symm))
        | (exfalso; simp_all [em, bne] <;> omega)
    | false =>
      refine V_flat (args := [.agg #[.int .i64 c.fanout, .int .i64 c.leaf, .int .i64 c.budget, .int .i64 c.slots, .int .i64 c.restarts], .agg #[.int .i64 n.slot, .int .i64 n.level, n.pv, n.kv, .string n.high, .bool n.top, .int .i64 n.right, .int .i64 n.seen, n.mv, n.rv]]) (M := Mem.of w) Tryz.func26 rfl Tryz.ntmps26 (by rfl) (Mem.le_refl _) ?_
      repeat' (first | refine VC_seq ?_ | refine VC_region ?_ | refine VL_nil ?_ | refine VC_ret ?_ | refine VC_skip ?_ | refine kbox ?_ | ((apply VL_q); (first | exact QS_call (by rfl) cI | exact qmv (by rfl) | exact qas (by rfl) | exact ql1 (by rfl) | exact qlA (by rfl) | exact qfa (by rfl) | exact qno (by rfl) | exact qls (by rfl) | exact qpt (by rfl) | exact qpf (by rfl) | exact qcp (by rfl)); rfl) | refine kyes ?_ | refine kno ?_ | refine knoU ?_ | refine ctr ?_ | refine cfa ?_ | refine kdec (fun hq => ?_) (fun hq => ?_) | refine cco (fun hq => ?_) (fun hq => ?_))
      all_goals first
        | exact Res.one (by rfl) (ResV_tmp (by rfl) (congrArg Value.bool (if_neg (by simp)).symm))
        | (exfalso; simp_all [em, bne] <;> omega)
def leaf0 (slot : Int) : Nd := ⟨slot, 0, .slice none 0 0, [], .slice none 0 0, [], em, true, -1, 0, .slice none 0 0, [], .slice none 0 0, []⟩
def zero0 : Nd := ⟨0, 0, .slice none 0 0, [], .slice none 0 0, [], em, false, 0, 0, .slice none 0 0, [], .slice none 0 0, []⟩
theorem leaf0_ok (M : Mem) (slot : Int) : (leaf0 slot).Ok M := ⟨SlM.nil _ _ _, SlM.nil _ _ _, SlM.nil _ _ _, SlM.nil _ _ _⟩
theorem zero0_ok (M : Mem) : zero0.Ok M := ⟨SlM.nil _ _ _, SlM.nil _ _ _, SlM.nil _ _ _, SlM.nil _ _ _⟩
theorem leaf0_big (slot : Int) : (leaf0 slot).Big where
  high := by show em.size ≤ _; decide
  ps := fun s hs => nomatch hs
  psn := Nat.zero_le _
  ksn := Nat.zero_le _
  ms := fun s hs => nomatch hs
  msn := Nat.zero_le _
  rs := fun s hs => nomatch hs
  rsn := Nat.zero_le _
  min := fun s hs => nomatch hs
end Go.Proofs.YtlapnbklbpeddaaGreat
