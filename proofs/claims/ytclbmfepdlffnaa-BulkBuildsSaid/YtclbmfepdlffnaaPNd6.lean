/- Nodes among the arguments; how light they are; what the two answers to whether a node may be have in common. -/
import Derived.Test.YtclbmfepdlffnaaPNd5
namespace Go.Proofs.Ytclbmfepdlffnaa
open Go Go.RowKit
set_option linter.unusedVariables false
set_option maxRecDepth 20000
set_option linter.unusedSimpArgs false
set_option maxHeartbeats 4000000
attribute [local irreducible] Calls
/-- A count of what each has, up to a bound and a little more. -/
def lngG {α : Type} (f : α → Int) (most : Int) : Int → List α → Int
  | n, [] => n
  | n, s :: r => if n ≤ most then lngG f most (n + f s) r else n
theorem lngG_tot {α : Type} (f : α → Int) (most : Int) : ∀ (l : List α) (n : Int), (∀ a ∈ l, 0 ≤ f a) → lngG f most n l ≤ most → n + sumBy f l ≤ most
  | [], n, _, h => by simpa [lngG, sumBy] using h
  | s :: r, n, h0, h => by
    unfold lngG at h
    split at h
    · have := lngG_tot f most r _ (fun a ha => h0 a (by simp [ha])) h
      simp only [sumBy]; omega
    · omega
theorem lngG_step {α : Type} (f : α → Int) {most n : Int} {l : List α} {k : Nat} (h : k < l.length) (hn : n ≤ most) : lngG f most n (l.drop k) = lngG f most (n + f l[k]) (l.drop (k + 1)) := by
  rw [List.drop_eq_getElem_cons h]; exact if_pos hn
theorem lngG_stop {α : Type} (f : α → Int) {most n : Int} {l : List α} {k : Nat} (h : l.length ≤ k ∨ most < n) : lngG f most n (l.drop k) = n := by
  by_cases hk : k < l.length
  · rw [List.drop_eq_getElem_cons hk]; exact if_neg (by omega)
  · rw [List.drop_eq_nil_of_le (by omega)]; rfl
def wtP (p : Pair) : Int := 1 + (p.key.size : Int) + p.val.size
def longP (most : Int) (l : List Pair) : Bool := decide (lngG wtP most 0 l ≤ most)
theorem ref_LongP (v : Value) (l : List Pair) (most : Int) (w : World) (hl : Sl w 2 pairCells v l) (hs : ∀ p ∈ l, Sz p.key ∧ Sz p.val) (h0 : 0 ≤ most) (h1 : most ≤ 100000) :
    Calls Try.prog 44 #[v, .int .i64 most] w fun e w' => e = .returned (.bool (longP most l)) ∧ Below w.heap.size w w' := by
  obtain ⟨A, c, rfl, hc1, hc2, _⟩ := id hl
  have hM := hl.toM
  unfold maxLen at hc2
  refine V_flat (args := [.slice A l.length c, .int .i64 most]) (M := Mem.of w) Try.func44 rfl Try.ntmps44 (by rfl) (Mem.le_refl _) ?_
  repeat' (first
    | refine VC_seq ?_
    | refine VC_region ?_
    | refine VL_nil ?_
    | refine VC_ret ?_
    | refine VC_exit ?_
    | refine VC_block ?_
    | refine VC_skip ?_
    | refine kbox ?_
    | refine kall ?_
    | refine kst ?_
    | refine ksN ?_
    | refine klt ?_
    | refine kl1 ?_
    | refine klK ?_
    | refine kap ?_
    | ((first | apply VL_q | apply VG_q | apply VS_q2); (first  | exact qmv (by rfl) | exact qas (by rfl) | exact ql1 (by rfl) | exact qlA (by rfl) | exact qfa (by rfl) | exact qmf (by rfl) | exact qfd (by rfl) | exact qm1 (by rfl) | exact qbd (by rfl) | exact qno (by rfl) | exact qex (by rfl) | exact qln (by rfl) | exact qls (by rfl) | exact qlr (by rfl) | exact qpt (by rfl) | exact qpf (by rfl) | exact qcp (by rfl) | exact qbe (by rfl) | exact qbn (by rfl) | exact qsn (by rfl) | exact qad (by rfl) | exact qsa (by rfl) | exact qsu (by rfl) | exact QS_bin (by rfl) (by rfl) (by first | exact B_slnil | exact Bq_eql_Msg | exact Bq_neq_Msg | exact Bq_eql_Pair | exact Bq_neq_Pair | exact Bq_eql_Op | exact Bq_neq_Op | exact Bq_eql_Cfg | exact Bq_neq_Cfg)); rfl)
    | refine sst ?_
    | refine VS_nil ?_
    | refine eeq ?_
    | refine ees ?_ (by first | exact es1 (by rfl) | exact esN (by rfl))
    | refine VE_nil ?_
    | refine kyes ?_
    | refine kno ?_
    | refine gyes ?_
    | refine gno ?_
    | refine knoU ?_
    | refine gnoU ?_
    | refine VG_nil ⟨by rfl, ?_⟩
    | refine VG_nil ?_
    | refine dT ?_
    | refine d1 ?_
    | refine dQ ?_
    | refine ctr ?_
    | refine cfa ?_
    | refine kdec (fun hq => ?_) (fun hq => ?_)
    | refine gdec (fun hq => ?_) (fun hq => ?_)
    | refine cco (fun hq => ?_) (fun hq => ?_))
  refine VC_for (fun x : Nat × Int => ⟨Mem.of w, [], [(0, .v (.slice A l.length c)), (1, .v (.int .i64 most)), (5, .v (.int .i64 x.2)), (6, .v (.int .i64 x.1))]⟩) (fun x => x.1 ≤ l.length ∧ 0 ≤ x.2 ∧ x.2 ≤ 400000000000000 ∧ lngG wtP most x.2 (l.drop x.1) = lngG wtP most 0 l) (fun x => l.length - x.1) [] (0, 0) ⟨rfl, rfl, trivial, ⟨rfl, rfl, rfl, rfl, trivial⟩⟩ ⟨by simp only; omega, by simp, by simp, rfl⟩ ?_
  rintro ⟨k, n⟩ ⟨hk, hn0, hn1, hr⟩
  simp only at hk hn0 hn1 hr
  unfold longP
  rcases Nat.lt_or_ge k l.length with hlt | hge
  · have hd := dlt hlt
    obtain ⟨b, off, rfl, hcA⟩ := hM.get hlt
    obtain ⟨z1, z2⟩ := hs l[k] (List.getElem_mem hlt)
    unfold Sz at z1 z2
    cases hq : decide (n ≤ most) with
    | true =>
      simp only [decide_eq_true_eq] at hq
      have hq' : decide (n ≤ most) = true := decide_eq_true hq
      have hst := lngG_step wtP hlt hq
      repeat' (first
        | refine VC_seq ?_
        | refine VC_region ?_
        | refine VL_nil ?_
        | refine VC_ret ?_
        | refine VC_exit ?_
        | refine VC_block ?_
        | refine VC_skip ?_
        | refine kbox ?_
        | refine kall ?_
        | refine kst ?_
        | refine ksN ?_
        | refine klt ?_
        | refine kl1 ?_
        | refine klK ?_
        | refine kap ?_
        | ((first | apply VL_q | apply VG_q | apply VS_q2); (first | exact QS_indexAddr (k) (by rfl) (by rfl) (by omega) (by omega) | exact QS_mload1 (by rfl) (hcA 0 _ (by rfl)) | exact QS_mload1 (by rfl) (hcA _ _ (by rfl)) | exact QS_mloadN _ (by rfl) hcA _ (by rfl) | exact qmv (by rfl) | exact qas (by rfl) | exact ql1 (by rfl) | exact qlA (by rfl) | exact qfa (by rfl) | exact qmf (by rfl) | exact qfd (by rfl) | exact qm1 (by rfl) | exact qbd (by rfl) | exact qno (by rfl) | exact qex (by rfl) | exact qln (by rfl) | exact qls (by rfl) | exact qlr (by rfl) | exact qpt (by rfl) | exact qpf (by rfl) | exact qcp (by rfl) | exact qbe (by rfl) | exact qbn (by rfl) | exact qsn (by rfl) | exact qad (by rfl) | exact qsa (by rfl) | exact qsu (by rfl) | exact QS_bin (by rfl) (by rfl) (by first | exact B_slnil | exact Bq_eql_Msg | exact Bq_neq_Msg | exact Bq_eql_Pair | exact Bq_neq_Pair | exact Bq_eql_Op | exact Bq_neq_Op | exact Bq_eql_Cfg | exact Bq_neq_Cfg)); rfl)
        | refine sst ?_
        | refine VS_nil ?_
        | refine eeq ?_
        | refine ees ?_ (by first | exact es1 (by rfl) | exact esN (by rfl))
        | refine VE_nil ?_
        | refine kyes ?_
        | refine kno ?_
        | refine gyes ?_
        | refine gno ?_
        | refine knoU ?_
        | refine gnoU ?_
        | refine VG_nil ⟨by rfl, ?_⟩
        | refine VG_nil ?_
        | refine dT ?_
        | refine d1 ?_
        | refine dQ ?_
        | refine ctr ?_
        | refine cfa ?_
        | refine kdec (fun hq => ?_) (fun hq => ?_)
        | refine gdec (fun hq => ?_) (fun hq => ?_)
        | refine cco (fun hq => ?_) (fun hq => ?_))
      exact forQ_next (Q := fun _ _ => True) [] (k + 1, n + (1 + (l[k].key.size : Int) + l[k].val.size)) ⟨rfl, rfl, trivial, ⟨rfl, rfl, rfl, rfl, trivial⟩⟩ ⟨by simp only; omega, by simp only; omega, by simp only; omega, by simp only; rw [← hr, hst]; rfl⟩ (by simp only; omega)
    | false =>
      simp only [decide_eq_false_iff_not] at hq
      have hq' : decide (n ≤ most) = false := decide_eq_false hq
      rw [lngG_stop wtP (.inr (by omega))] at hr
      repeat' (first
        | refine VC_seq ?_
        | refine VC_region ?_
        | refine VL_nil ?_
        | refine VC_ret ?_
        | refine VC_exit ?_
        | refine VC_block ?_
        | refine VC_skip ?_
        | refine kbox ?_
        | refine kall ?_
        | refine kst ?_
        | refine ksN ?_
        | refine klt ?_
        | refine kl1 ?_
        | refine klK ?_
        | refine kap ?_
        | ((first | apply VL_q | apply VG_q | apply VS_q2); (first | exact QS_indexAddr (k) (by rfl) (by rfl) (by omega) (by omega) | exact QS_mload1 (by rfl) (hcA 0 _ (by rfl)) | exact QS_mload1 (by rfl) (hcA _ _ (by rfl)) | exact QS_mloadN _ (by rfl) hcA _ (by rfl) | exact qmv (by rfl) | exact qas (by rfl) | exact ql1 (by rfl) | exact qlA (by rfl) | exact qfa (by rfl) | exact qmf (by rfl) | exact qfd (by rfl) | exact qm1 (by rfl) | exact qbd (by rfl) | exact qno (by rfl) | exact qex (by rfl) | exact qln (by rfl) | exact qls (by rfl) | exact qlr (by rfl) | exact qpt (by rfl) | exact qpf (by rfl) | exact qcp (by rfl) | exact qbe (by rfl) | exact qbn (by rfl) | exact qsn (by rfl) | exact qad (by rfl) | exact qsa (by rfl) | exact qsu (by rfl) | exact QS_bin (by rfl) (by rfl) (by first | exact B_slnil | exact Bq_eql_Msg | exact Bq_neq_Msg | exact Bq_eql_Pair | exact Bq_neq_Pair | exact Bq_eql_Op | exact Bq_neq_Op | exact Bq_eql_Cfg | exact Bq_neq_Cfg)); rfl)
        | refine sst ?_
        | refine VS_nil ?_
        | refine eeq ?_
        | refine ees ?_ (by first | exact es1 (by rfl) | exact esN (by rfl))
        | refine VE_nil ?_
        | refine kyes ?_
        | refine kno ?_
        | refine gyes ?_
        | refine gno ?_
        | refine knoU ?_
        | refine gnoU ?_
        | refine VG_nil ⟨by rfl, ?_⟩
        | refine VG_nil ?_
        | refine dT ?_
        | refine d1 ?_
        | refine dQ ?_
        | refine ctr ?_
        | refine cfa ?_
        | refine kdec (fun hq => ?_) (fun hq => ?_)
        | refine gdec (fun hq => ?_) (fun hq => ?_)
        | refine cco (fun hq => ?_) (fun hq => ?_))
      show Res _ _ _ _
      refine Res.one (by rfl) (ResV_tmp (by rfl) ?_)
      rw [← hr]
  · have hd := dge hge
    rw [lngG_stop wtP (.inl hge)] at hr
    repeat' (first
      | refine VC_seq ?_
      | refine VC_region ?_
      | refine VL_nil ?_
      | refine VC_ret ?_
      | refine VC_exit ?_
      | refine VC_block ?_
      | refine VC_skip ?_
      | refine kbox ?_
      | refine kall ?_
      | refine kst ?_
      | refine ksN ?_
      | refine klt ?_
      | refine kl1 ?_
      | refine klK ?_
      | refine kap ?_
      | ((first | apply VL_q | apply VG_q | apply VS_q2); (first  | exact qmv (by rfl) | exact qas (by rfl) | exact ql1 (by rfl) | exact qlA (by rfl) | exact qfa (by rfl) | exact qmf (by rfl) | exact qfd (by rfl) | exact qm1 (by rfl) | exact qbd (by rfl) | exact qno (by rfl) | exact qex (by rfl) | exact qln (by rfl) | exact qls (by rfl) | exact qlr (by rfl) | exact qpt (by rfl) | exact qpf (by rfl) | exact qcp (by rfl) | exact qbe (by rfl) | exact qbn (by rfl) | exact qsn (by rfl) | exact qad (by rfl) | exact qsa (by rfl) | exact qsu (by rfl) | exact QS_bin (by rfl) (by rfl) (by first | exact B_slnil | exact Bq_eql_Msg | exact Bq_neq_Msg | exact Bq_eql_Pair | exact Bq_neq_Pair | exact Bq_eql_Op | exact Bq_neq_Op | exact Bq_eql_Cfg | exact Bq_neq_Cfg)); rfl)
      | refine sst ?_
      | refine VS_nil ?_
      | refine eeq ?_
      | refine ees ?_ (by first | exact es1 (by rfl) | exact esN (by rfl))
      | refine VE_nil ?_
      | refine kyes ?_
      | refine kno ?_
      | refine gyes ?_
      | refine gno ?_
      | refine knoU ?_
      | refine gnoU ?_
      | refine VG_nil ⟨by rfl, ?_⟩
      | refine VG_nil ?_
      | refine dT ?_
      | refine d1 ?_
      | refine dQ ?_
      | refine ctr ?_
      | refine cfa ?_
      | refine kdec (fun hq => ?_) (fun hq => ?_)
      | refine gdec (fun hq => ?_) (fun hq => ?_)
      | refine cco (fun hq => ?_) (fun hq => ?_))
    show Res _ _ _ _
    refine Res.one (by rfl) (ResV_tmp (by rfl) ?_)
    rw [← hr]
theorem longP_bounds {most : Int} {l : List Pair} (h : longP most l = true) : (l.length : Int) ≤ most ∧ ∀ p ∈ l, (p.key.size : Int) ≤ most ∧ (p.val.size : Int) ≤ most := by
  unfold longP at h
  have h1 := lngG_tot wtP most l 0 (fun a _ => by unfold wtP; omega) (of_decide_eq_true h)
  have h2 := sumBy_len (f := wtP) l (fun a _ => by unfold wtP; omega)
  refine ⟨by omega, fun p hp => ?_⟩
  have h3 := sumBy_mem (f := wtP) l (fun a _ => by unfold wtP; omega) hp
  unfold wtP at h3
  unfold wtP at h1
  omega
abbrev ndCells (n : Nd) : List Value := [.int .i64 n.slot, .int .i64 n.level, n.pv, n.kv, .string n.high, .bool n.top, .int .i64 n.right, .int .i64 n.seen, n.mv, n.rv]
/-- The sizes of what an argument is. -/
structure Nd.In (n : Nd) : Prop where
  slot : I64 n.slot
  level : I64 n.level
  right : I64 n.right
  seen : I64 n.seen
  high : Sz n.high
  ps : ∀ s ∈ n.ps, Sz s
  ks : ∀ k ∈ n.ks, I64 k
  ms : ∀ m ∈ n.ms, m.In
  rs : ∀ p ∈ n.rs, p.In
theorem inM_eq {n : Nd} {m : Msg} (hr : rightM m = true) : inM n m = inM' n m := by
  unfold inM inM'
  congr 1
  cases ht : n.top with
  | true =>
    rw [Bool.true_or]
    have : spanN n = all := by unfold spanN; rw [if_pos ht]
    rw [this]
    have h1 := within_ends (spanM m) all em
    rw [← h1]
    refine List.all_eq_true.2 fun x _ => ?_
    rw [has_all, Bool.or_true]
  | false =>
    rw [Bool.false_or]
    have hN : spanN n = norm ⟨em, n.high, false⟩ := by unfold spanN; rw [if_neg (by rw [ht]; simp)]
    have hb : ∀ x, has (spanN n) x = lt x n.high := fun x => by rw [has_spanN]; unfold hasN; rw [ht]; rfl
    have ho := has_own hr
    have hsz : ∀ x, has (spanM m) x = (!lt x (spanM m).lo && ((spanM m).opn || lt x (spanM m).hi)) := fun x => rfl
    rw [← within_ends (spanM m) (spanN n) n.high]
    have hne : empty (spanM m) = false := by
      cases he : empty (spanM m) with
      | false => rfl
      | true => rw [has_empty he] at ho; cases ho
    have hlo : has (spanM m) (spanM m).lo = true := by rw [empty_iff] at hne; simpa using hne
    cases hc : (!(spanM m).opn && !lt n.high (spanM m).hi) with
    | true =>
      simp only [Bool.and_eq_true, Bool.not_eq_true'] at hc
      refine List.all_eq_true.2 fun x _ => ?_
      cases hx : has (spanM m) x with
      | false => rfl
      | true =>
        rw [hsz, hc.1, Bool.false_or, Bool.and_eq_true] at hx
        rw [hb]
        have := lt_le hx.2 hc.2
        rw [this]; rfl
    | false =>
      cases hall : (ends (spanM m) (spanN n) n.high).all (fun x => !has (spanM m) x || has (spanN n) x) with
      | false => rfl
      | true =>
        exfalso
        have hat := fun x (hx : x ∈ ends (spanM m) (spanN n) n.high) => List.all_eq_true.1 hall x hx
        have h1 := hat (spanM m).lo (by unfold ends; simp)
        rw [hlo, hb] at h1
        simp at h1
        have h2 := hat n.high (by unfold ends; simp)
        rw [hb, lt_irr, Bool.or_false] at h2
        rw [hsz, lt_asy h1] at h2
        cases hop : (spanM m).opn with
        | true => rw [hop] at h2; simp at h2
        | false =>
          rw [hop] at h2 hc
          simp at h2 hc
          rw [h2] at hc; cases hc
theorem all_eqR (l : List Msg) : l.all refRightM = l.all rightM := by
  have : refRightM = rightM := funext refRightM_eq
  rw [this]
theorem inr_eq (c : Cfg) (n : Nd) : inrN c n = (refInr c n && refAll n) := by
  unfold inrN refInr refAll innN rightL allB
  rw [all_eqR]
  cases hm : n.ms.all rightM with
  | false => simp
  | true =>
    have key : ∀ l : List Msg, l.all rightM = true → l.all (inM n) = l.all (inM' n) := by
      intro l
      induction l with
      | nil => intro _; rfl
      | cons a l ih =>
        intro h
        simp only [List.all_cons, Bool.and_eq_true] at h
        rw [List.all_cons, List.all_cons, inM_eq h.1, ih h.2]
    have : n.ms.all (inM n) = n.ms.all (inM' n) := key n.ms hm
    rw [this]
    cases ((n.rs.length : Int) == 0) <;> cases decide (2 ≤ (n.ks.length : Int)) <;> cases decide ((n.ks.length : Int) ≤ c.fanout) <;> cases rightK n.ps n.ks <;> cases riseB n.ms <;> cases decide (sizeL n.ms ≤ c.budget) <;> simp
theorem ref_RightN (c : Cfg) (n : Nd) (w : World) (hn : n.Ok (Mem.of w)) (hz : n.Big) : Calls Try.prog 93 #[.agg #[.int .i64 c.fanout, .int .i64 c.leaf, .int .i64 c.budget, .int .i64 c.slots, .int .i64 c.restarts], .agg #[.int .i64 n.slot, .int .i64 n.level, n.pv, n.kv, .string n.high, .bool n.top, .int .i64 n.right, .int .i64 n.seen, n.mv, n.rv]] w fun e w' => e = .returned (.bool (rightN c n)) ∧ Below w.heap.size w w' := by
  have cL := fun W hW => ref_leafN c n W (hn.mono hW) hz
  have cI := fun W hW => ref_innerN c n W (hn.mono hW) hz
  have t1 := dgt (n.high.size : Int) 16
  have t2 := dltn n.right 0
  unfold rightN
  rw [inr_eq]
  cases hh : headOk n with
  | false =>
    rw [Bool.false_and]
    unfold headOk endN at hh
    refine V_flat (args := [.agg #[.int .i64 c.fanout, .int .i64 c.leaf, .int .i64 c.budget, .int .i64 c.slots, .int .i64 c.restarts], .agg #[.int .i64 n.slot, .int .i64 n.level, n.pv, n.kv, .string n.high, .bool n.top, .int .i64 n.right, .int .i64 n.seen, n.mv, n.rv]]) (M := Mem.of w) Try.func93 rfl Try.ntmps93 (by rfl) (Mem.le_refl _) ?_
    repeat' (first
      | refine VC_seq ?_
      | refine VC_region ?_
      | refine VL_nil ?_
      | refine VC_ret ?_
      | refine VC_exit ?_
      | refine VC_block ?_
      | refine VC_skip ?_
      | refine kbox ?_
      | refine kall ?_
      | refine kst ?_
      | refine ksN ?_
      | refine klt ?_
      | refine kl1 ?_
      | refine klK ?_
      | refine kap ?_
      | ((first | apply VL_q | apply VG_q | apply VS_q2); (first | exact QS_call (by rfl) cL | exact QS_call (by rfl) cI | exact qmv (by rfl) | exact qas (by rfl) | exact ql1 (by rfl) | exact qlA (by rfl) | exact qfa (by rfl) | exact qmf (by rfl) | exact qfd (by rfl) | exact qm1 (by rfl) | exact qbd (by rfl) | exact qno (by rfl) | exact qex (by rfl) | exact qln (by rfl) | exact qls (by rfl) | exact qlr (by rfl) | exact qpt (by rfl) | exact qpf (by rfl) | exact qcp (by rfl) | exact qbe (by rfl) | exact qbn (by rfl) | exact qsn (by rfl) | exact qad (by rfl) | exact qsa (by rfl) | exact qsu (by rfl) | exact QS_bin (by rfl) (by rfl) (by first | exact B_slnil | exact Bq_eql_Msg | exact Bq_neq_Msg | exact Bq_eql_Pair | exact Bq_neq_Pair | exact Bq_eql_Op | exact Bq_neq_Op | exact Bq_eql_Cfg | exact Bq_neq_Cfg)); rfl)
      | refine sst ?_
      | refine VS_nil ?_
      | refine eeq ?_
      | refine ees ?_ (by first | exact es1 (by rfl) | exact esN (by rfl))
      | refine VE_nil ?_
      | refine kyes ?_
      | refine kno ?_
      | refine gyes ?_
      | refine gno ?_
      | refine knoU ?_
      | refine gnoU ?_
      | refine VG_nil ⟨by rfl, ?_⟩
      | refine VG_nil ?_
      | refine dT ?_
      | refine d1 ?_
      | refine dQ ?_
      | refine ctr ?_
      | refine cfa ?_
      | refine kdec (fun hq => ?_) (fun hq => ?_)
      | refine gdec (fun hq => ?_) (fun hq => ?_)
      | refine cco (fun hq => ?_) (fun hq => ?_))
    all_goals first
      | (refine Res.one (by rfl) (ResV_tmp (by rfl) rfl))
      | (exfalso; simp_all [em, bne] <;> omega)
  | true =>
    rw [Bool.true_and]
    unfold headOk endN at hh
    cases hl : (n.level == 0) with
    | true =>
      refine V_flat (args := [.agg #[.int .i64 c.fanout, .int .i64 c.leaf, .int .i64 c.budget, .int .i64 c.slots, .int .i64 c.restarts], .agg #[.int .i64 n.slot, .int .i64 n.level, n.pv, n.kv, .string n.high, .bool n.top, .int .i64 n.right, .int .i64 n.seen, n.mv, n.rv]]) (M := Mem.of w) Try.func93 rfl Try.ntmps93 (by rfl) (Mem.le_refl _) ?_
      repeat' (first
        | refine VC_seq ?_
        | refine VC_region ?_
        | refine VL_nil ?_
        | refine VC_ret ?_
        | refine VC_exit ?_
        | refine VC_block ?_
        | refine VC_skip ?_
        | refine kbox ?_
        | refine kall ?_
        | refine kst ?_
        | refine ksN ?_
        | refine klt ?_
        | refine kl1 ?_
        | refine klK ?_
        | refine kap ?_
        | ((first | apply VL_q | apply VG_q | apply VS_q2); (first | exact QS_call (by rfl) cL | exact QS_call (by rfl) cI | exact qmv (by rfl) | exact qas (by rfl) | exact ql1 (by rfl) | exact qlA (by rfl) | exact qfa (by rfl) | exact qmf (by rfl) | exact qfd (by rfl) | exact qm1 (by rfl) | exact qbd (by rfl) | exact qno (by rfl) | exact qex (by rfl) | exact qln (by rfl) | exact qls (by rfl) | exact qlr (by rfl) | exact qpt (by rfl) | exact qpf (by rfl) | exact qcp (by rfl) | exact qbe (by rfl) | exact qbn (by rfl) | exact qsn (by rfl) | exact qad (by rfl) | exact qsa (by rfl) | exact qsu (by rfl) | exact QS_bin (by rfl) (by rfl) (by first | exact B_slnil | exact Bq_eql_Msg | exact Bq_neq_Msg | exact Bq_eql_Pair | exact Bq_neq_Pair | exact Bq_eql_Op | exact Bq_neq_Op | exact Bq_eql_Cfg | exact Bq_neq_Cfg)); rfl)
        | refine sst ?_
        | refine VS_nil ?_
        | refine eeq ?_
        | refine ees ?_ (by first | exact es1 (by rfl) | exact esN (by rfl))
        | refine VE_nil ?_
        | refine kyes ?_
        | refine kno ?_
        | refine gyes ?_
        | refine gno ?_
        | refine knoU ?_
        | refine gnoU ?_
        | refine VG_nil ⟨by rfl, ?_⟩
        | refine VG_nil ?_
        | refine dT ?_
        | refine d1 ?_
        | refine dQ ?_
        | refine ctr ?_
        | refine cfa ?_
        | refine kdec (fun hq => ?_) (fun hq => ?_)
        | refine gdec (fun hq => ?_) (fun hq => ?_)
        | refine cco (fun hq => ?_) (fun hq => ?_))
      all_goals first
        | exact Res.one (by rfl) (ResV_tmp (by rfl) (congrArg Value.bool (if_pos rfl).symm))
        | (exfalso; simp_all [em, bne] <;> omega)
    | false =>
      refine V_flat (args := [.agg #[.int .i64 c.fanout, .int .i64 c.leaf, .int .i64 c.budget, .int .i64 c.slots, .int .i64 c.restarts], .agg #[.int .i64 n.slot, .int .i64 n.level, n.pv, n.kv, .string n.high, .bool n.top, .int .i64 n.right, .int .i64 n.seen, n.mv, n.rv]]) (M := Mem.of w) Try.func93 rfl Try.ntmps93 (by rfl) (Mem.le_refl _) ?_
      repeat' (first
        | refine VC_seq ?_
        | refine VC_region ?_
        | refine VL_nil ?_
        | refine VC_ret ?_
        | refine VC_exit ?_
        | refine VC_block ?_
        | refine VC_skip ?_
        | refine kbox ?_
        | refine kall ?_
        | refine kst ?_
        | refine ksN ?_
        | refine klt ?_
        | refine kl1 ?_
        | refine klK ?_
        | refine kap ?_
        | ((first | apply VL_q | apply VG_q | apply VS_q2); (first | exact QS_call (by rfl) cL | exact QS_call (by rfl) cI | exact qmv (by rfl) | exact qas (by rfl) | exact ql1 (by rfl) | exact qlA (by rfl) | exact qfa (by rfl) | exact qmf (by rfl) | exact qfd (by rfl) | exact qm1 (by rfl) | exact qbd (by rfl) | exact qno (by rfl) | exact qex (by rfl) | exact qln (by rfl) | exact qls (by rfl) | exact qlr (by rfl) | exact qpt (by rfl) | exact qpf (by rfl) | exact qcp (by rfl) | exact qbe (by rfl) | exact qbn (by rfl) | exact qsn (by rfl) | exact qad (by rfl) | exact qsa (by rfl) | exact qsu (by rfl) | exact QS_bin (by rfl) (by rfl) (by first | exact B_slnil | exact Bq_eql_Msg | exact Bq_neq_Msg | exact Bq_eql_Pair | exact Bq_neq_Pair | exact Bq_eql_Op | exact Bq_neq_Op | exact Bq_eql_Cfg | exact Bq_neq_Cfg)); rfl)
        | refine sst ?_
        | refine VS_nil ?_
        | refine eeq ?_
        | refine ees ?_ (by first | exact es1 (by rfl) | exact esN (by rfl))
        | refine VE_nil ?_
        | refine kyes ?_
        | refine kno ?_
        | refine gyes ?_
        | refine gno ?_
        | refine knoU ?_
        | refine gnoU ?_
        | refine VG_nil ⟨by rfl, ?_⟩
        | refine VG_nil ?_
        | refine dT ?_
        | refine d1 ?_
        | refine dQ ?_
        | refine ctr ?_
        | refine cfa ?_
        | refine kdec (fun hq => ?_) (fun hq => ?_)
        | refine gdec (fun hq => ?_) (fun hq => ?_)
        | refine cco (fun hq => ?_) (fun hq => ?_))
      all_goals first
        | exact Res.one (by rfl) (ResV_tmp (by rfl) (congrArg Value.bool (if_neg (by simp)).symm))
        | (exfalso; simp_all [em, bne] <;> omega)
def zero0 : Nd := ⟨0, 0, .slice none 0 0, [], .slice none 0 0, [], em, false, 0, 0, .slice none 0 0, [], .slice none 0 0, []⟩
theorem zero0_ok (M : Mem) : zero0.Ok M := ⟨SlM.nil _ _ _, SlM.nil _ _ _, SlM.nil _ _ _, SlM.nil _ _ _⟩
end Go.Proofs.Ytclbmfepdlffnaa
