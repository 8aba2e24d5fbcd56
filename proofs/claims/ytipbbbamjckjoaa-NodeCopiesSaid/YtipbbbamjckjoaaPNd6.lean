/- Nodes among the arguments; how light they are; what the two answers to whether a node may be have in common. -/
import Derived.Test.YtipbbbamjckjoaaPNd5
namespace Go.Proofs.Ytipbbbamjckjoaa
open Go Go.RowKit
set_option linter.unusedVariables false
set_option maxRecDepth 20000
set_option linter.unusedSimpArgs false
set_option maxHeartbeats 4000000
attribute [local irreducible] Calls
/-- A count of what each has, up to a bound and a little more. -/
def lngG {α : Type} (f : α → Int) (most : Int) : Int → List α → Int
  | n, [] => n
  | n, s :: r => if n ≤ most then lngG f most (n + f s) r else n
theorem lngG_tot {α : Type} (f : α → Int) (most : Int) : ∀ (l : List α) (n : Int), (∀ a ∈ l, 0 ≤ f a) → lngG f most n l ≤ most → n + sumBy f l ≤ most
  | [], n, _, h => by simpa [lngG, sumBy] using h
  | s :: r, n, h0, h => by
    unfold lngG at h
    split at h
    · have := lngG_tot f most r _ (fun a ha => h0 a (by simp [ha])) h
      simp only [sumBy]; omega
    · omega
theorem lngG_step {α : Type} (f : α → Int) {most n : Int} {l : List α} {k : Nat} (h : k < l.length) (hn : n ≤ most) : lngG f most n (l.drop k) = lngG f most (n + f l[k]) (l.drop (k + 1)) := by
  rw [List.drop_eq_getElem_cons h]; exact if_pos hn
theorem lngG_stop {α : Type} (f : α → Int) {most n : Int} {l : List α} {k : Nat} (h : l.length ≤ k ∨ most < n) : lngG f most n (l.drop k) = n := by
  by_cases hk : k < l.length
  · rw [List.drop_eq_getElem_cons hk]; exact if_neg (by omega)
  · rw [List.drop_eq_nil_of_le (by omega)]; rfl
def wtP (p : Pair) : Int := 1 + (p.key.size : Int) + p.val.size
def longP (most : Int) (l : List Pair) : Bool := decide (lngG wtP most 0 l ≤ most)
theorem ref_LongP (v : Value) (l : List Pair) (most : Int) (w : World) (hl : Sl w 2 pairCells v l) (hs : ∀ p ∈ l, Sz p.key ∧ Sz p.val) (h0 : 0 ≤ most) (h1 : most ≤ 100000) :
    Calls Try.prog 93 #[v, .int .i64 most] w fun e w' => e = .returned (.bool (longP most l)) ∧ Below w.heap.size w w' := by
  obtain ⟨A, c, rfl, hc1, hc2, _⟩ := id hl
  have hM := hl.toM
  unfold maxLen at hc2
  refine V_flat (args := [.slice A l.length c, .int .i64 most]) (M := Mem.of w) Try.func93 rfl Try.ntmps93 (by rfl) (Mem.le_refl _) ?_
  repeat' (first
    | refine VC_seq ?_
    | refine VC_region ?_
    | refine VL_nil ?_
    | refine VC_ret ?_
    | refine VC_exit ?_
    | refine VC_block ?_
    | refine VC_skip ?_
    | refine kbox ?_
    | refine kall ?_
    | refine kst ?_
    | refine ksN ?_
    | refine klt ?_
    | refine kl1 ?_
    | refine klK ?_
    | refine kap ?_
    | ((first | apply VL_q | apply VG_q | apply VS_q2); (first  | exact qmv (by rfl) | exact qas (by rfl) | exact ql1 (by rfl) | exact qlA (by rfl) | exact qfa (by rfl) | exact qmf (by rfl) | exact qfd (by rfl) | exact qm1 (by rfl) | exact qbd (by rfl) | exact qno (by rfl) | exact qex (by rfl) | exact qln (by rfl) | exact qls (by rfl) | exact qlr (by rfl) | exact qpt (by rfl) | exact qpf (by rfl) | exact qcp (by rfl) | exact qbe (by rfl) | exact qbn (by rfl) | exact qsn (by rfl) | exact qad (by rfl) | exact qsa (by rfl) | exact qsu (by rfl) | exact QS_bin (by rfl) (by rfl) (by first | exact B_slnil | exact Bq_eql_Span | exact Bq_neq_Span | exact Bq_eql_Eff | exact Bq_neq_Eff | exact Bq_eql_Msg | exact Bq_neq_Msg | exact Bq_eql_Pair | exact Bq_neq_Pair)); rfl)
    | refine sst ?_
    | refine VS_nil ?_
    | refine eeq ?_
    | refine ees ?_ (by first | exact es1 (by rfl) | exact esN (by rfl))
    | refine VE_nil ?_
    | refine kyes ?_
    | refine kno ?_
    | refine gyes ?_
    | refine gno ?_
    | refine knoU ?_
    | refine gnoU ?_
    | refine VG_nil ⟨by rfl, ?_⟩
    | refine VG_nil ?_
    | refine dT ?_
    | refine d1 ?_
    | refine dQ ?_
    | refine ctr ?_
    | refine cfa ?_
    | refine kdec (fun hq => ?_) (fun hq => ?_)
    | refine gdec (fun hq => ?_) (fun hq => ?_)
    | refine cco (fun hq => ?_) (fun hq => ?_))
  refine VC_for (fun x : Nat × Int => ⟨Mem.of w, [], [(0, .v (.slice A l.length c)), (1, .v (.int .i64 most)), (5, .v (.int .i64 x.2)), (6, .v (.int .i64 x.1))]⟩) (fun x => x.1 ≤ l.length ∧ 0 ≤ x.2 ∧ x.2 ≤ 400000000000000 ∧ lngG wtP most x.2 (l.drop x.1) = lngG wtP most 0 l) (fun x => l.length - x.1) [] (0, 0) ⟨rfl, rfl, trivial, ⟨rfl, rfl, rfl, rfl, trivial⟩⟩ ⟨by simp only; omega, by simp, by simp, rfl⟩ ?_
  rintro ⟨k, n⟩ ⟨hk, hn0, hn1, hr⟩
  simp only at hk hn0 hn1 hr
  unfold longP
  rcases Nat.lt_or_ge k l.length with hlt | hge
  · have hd := dlt hlt
    obtain ⟨b, off, rfl, hcA⟩ := hM.get hlt
    obtain ⟨z1, z2⟩ := hs l[k] (List.getElem_mem hlt)
    unfold Sz at z1 z2
    cases hq : decide (n ≤ most) with
    | true =>
      simp only [decide_eq_true_eq] at hq
      have hq' : decide (n ≤ most) = true := decide_eq_true hq
      have hst := lngG_step wtP hlt hq
      repeat' (first
        | refine VC_seq ?_
        | refine VC_region ?_
        | refine VL_nil ?_
        | refine VC_ret ?_
        | refine VC_exit ?_
        | refine VC_block ?_
        | refine VC_skip ?_
        | refine kbox ?_
        | refine kall ?_
        | refine kst ?_
        | refine ksN ?_
        | refine klt ?_
        | refine kl1 ?_
        | refine klK ?_
        | refine kap ?_
        | ((first | apply VL_q | apply VG_q | apply VS_q2); (first | exact QS_indexAddr (k) (by rfl) (by rfl) (by omega) (by omega) | exact QS_mload1 (by rfl) (hcA 0 _ (by rfl)) | exact QS_mload1 (by rfl) (hcA _ _ (by rfl)) | exact QS_mloadN _ (by rfl) hcA _ (by rfl) | exact qmv (by rfl) | exact qas (by rfl) | exact ql1 (by rfl) | exact qlA (by rfl) | exact qfa (by rfl) | exact qmf (by rfl) | exact qfd (by rfl) | exact qm1 (by rfl) | exact qbd (by rfl) | exact qno (by rfl) | exact qex (by rfl) | exact qln (by rfl) | exact qls (by rfl) | exact qlr (by rfl) | exact qpt (by rfl) | exact qpf (by rfl) | exact qcp (by rfl) | exact qbe (by rfl) | exact qbn (by rfl) | exact qsn (by rfl) | exact qad (by rfl) | exact qsa (by rfl) | exact qsu (by rfl) | exact QS_bin (by rfl) (by rfl) (by first | exact B_slnil | exact Bq_eql_Span | exact Bq_neq_Span | exact Bq_eql_Eff | exact Bq_neq_Eff | exact Bq_eql_Msg | exact Bq_neq_Msg | exact Bq_eql_Pair | exact Bq_neq_Pair)); rfl)
        | refine sst ?_
        | refine VS_nil ?_
        | refine eeq ?_
        | refine ees ?_ (by first | exact es1 (by rfl) | exact esN (by rfl))
        | refine VE_nil ?_
        | refine kyes ?_
        | refine kno ?_
        | refine gyes ?_
        | refine gno ?_
        | refine knoU ?_
        | refine gnoU ?_
        | refine VG_nil ⟨by rfl, ?_⟩
        | refine VG_nil ?_
        | refine dT ?_
        | refine d1 ?_
        | refine dQ ?_
        | refine ctr ?_
        | refine cfa ?_
        | refine kdec (fun hq => ?_) (fun hq => ?_)
        | refine gdec (fun hq => ?_) (fun hq => ?_)
        | refine cco (fun hq => ?_) (fun hq => ?_))
      exact forQ_next (Q := fun _ _ => True) [] (k + 1, n + (1 + (l[k].key.size : Int) + l[k].val.size)) ⟨rfl, rfl, trivial, ⟨rfl, rfl, rfl, rfl, trivial⟩⟩ ⟨by simp only; omega, by simp only; omega, by simp only; omega, by simp only; rw [← hr, hst]; rfl⟩ (by simp only; omega)
    | false =>
      simp only [decide_eq_false_iff_not] at hq
      have hq' : decide (n ≤ most) = false := decide_eq_false hq
      rw [lngG_stop wtP (.inr (by omega))] at hr
      repeat' (first
        | refine VC_seq ?_
        | refine VC_region ?_
        | refine VL_nil ?_
        | refine VC_ret ?_
        | refine VC_exit ?_
        | refine VC_block ?_
        | refine VC_skip ?_
        | refine kbox ?_
        | refine kall ?_
        | refine kst ?_
        | refine ksN ?_
        | refine klt ?_
        | refine kl1 ?_
        | refine klK ?_
        | refine kap ?_
        | ((first | apply VL_q | apply VG_q | apply VS_q2); (first | exact QS_indexAddr (k) (by rfl) (by rfl) (by omega) (by omega) | exact QS_mload1 (by rfl) (hcA 0 _ (by rfl)) | exact QS_mload1 (by rfl) (hcA _ _ (by rfl)) | exact QS_mloadN _ (by rfl) hcA _ (by rfl) | exact qmv (by rfl) | exact qas (by rfl) | exact ql1 (by rfl) | exact qlA (by rfl) | exact qfa (by rfl) | exact qmf (by rfl) | exact qfd (by rfl) | exact qm1 (by rfl) | exact qbd (by rfl) | exact qno (by rfl) | exact qex (by rfl) | exact qln (by rfl) | exact qls (by rfl) | exact qlr (by rfl) | exact qpt (by rfl) | exact qpf (by rfl) | exact qcp (by rfl) | exact qbe (by rfl) | exact qbn (by rfl) | exact qsn (by rfl) | exact qad (by rfl) | exact qsa (by rfl) | exact qsu (by rfl) | exact QS_bin (by rfl) (by rfl) (by first | exact B_slnil | exact Bq_eql_Span | exact Bq_neq_Span | exact Bq_eql_Eff | exact Bq_neq_Eff | exact Bq_eql_Msg | exact Bq_neq_Msg | exact Bq_eql_Pair | exact Bq_neq_Pair)); rfl)
        | refine sst ?_
        | refine VS_nil ?_
        | refine eeq ?_
        | refine ees ?_ (by first | exact es1 (by rfl) | exact esN (by rfl))
        | refine VE_nil ?_
        | refine kyes ?_
        | refine kno ?_
        | refine gyes ?_
        | refine gno ?_
        | refine knoU ?_
        | refine gnoU ?_
        | refine VG_nil ⟨by rfl, ?_⟩
        | refine VG_nil ?_
        | refine dT ?_
        | refine d1 ?_
        | refine dQ ?_
        | refine ctr ?_
        | refine cfa ?_
        | refine kdec (fun hq => ?_) (fun hq => ?_)
        | refine gdec (fun hq => ?_) (fun hq => ?_)
        | refine cco (fun hq => ?_) (fun hq => ?_))
      show Res _ _ _ _
      refine Res.one (by rfl) (ResV_tmp (by rfl) ?_)
      rw [← hr]
  · have hd := dge hge
    rw [lngG_stop wtP (.inl hge)] at hr
    repeat' (first
      | refine VC_seq ?_
      | refine VC_region ?_
      | refine VL_nil ?_
      | refine VC_ret ?_
      | refine VC_exit ?_
      | refine VC_block ?_
      | refine VC_skip ?_
      | refine kbox ?_
      | refine kall ?_
      | refine kst ?_
      | refine ksN ?_
      | refine klt ?_
      | refine kl1 ?_
      | refine klK ?_
      | refine kap ?_
      | ((first | apply VL_q | apply VG_q | apply VS_q2); (first  | exact qmv (by rfl) | exact qas (by rfl) | exact ql1 (by rfl) | exact qlA (by rfl) | exact qfa (by rfl) | exact qmf (by rfl) | exact qfd (by rfl) | exact qm1 (by rfl) | exact qbd (by rfl) | exact qno (by rfl) | exact qex (by rfl) | exact qln (by rfl) | exact qls (by rfl) | exact qlr (by rfl) | exact qpt (by rfl) | exact qpf (by rfl) | exact qcp (by rfl) | exact qbe (by rfl) | exact qbn (by rfl) | exact qsn (by rfl) | exact qad (by rfl) | exact qsa (by rfl) | exact qsu (by rfl) | exact QS_bin (by rfl) (by rfl) (by first | exact B_slnil | exact Bq_eql_Span | exact Bq_neq_Span | exact Bq_eql_Eff | exact Bq_neq_Eff | exact Bq_eql_Msg | exact Bq_neq_Msg | exact Bq_eql_Pair | exact Bq_neq_Pair)); rfl)
      | refine sst ?_
      | refine VS_nil ?_
      | refine eeq ?_
      | refine ees ?_ (by first | exact es1 (by rfl) | exact esN (by rfl))
      | refine VE_nil ?_
      | refine kyes ?_
      | refine kno ?_
      | refine gyes ?_
      | refine gno ?_
      | refine knoU ?_
      | refine gnoU ?_
      | refine VG_nil ⟨by rfl, ?_⟩
      | refine VG_nil ?_
      | refine dT ?_
      | refine d1 ?_
      | refine dQ ?_
      | refine ctr ?_
      | refine cfa ?_
      | refine kdec (fun hq => ?_) (fun hq => ?_)
      | refine gdec (fun hq => ?_) (fun hq => ?_)
      | refine cco (fun hq => ?_) (fun hq => ?_))
    show Res _ _ _ _
    refine Res.one (by rfl) (ResV_tmp (by rfl) ?_)
    rw [← hr]
theorem longP_bounds {most : Int} {l : List Pair} (h : longP most l = true) : (l.length : Int) ≤ most ∧ ∀ p ∈ l, (p.key.size : Int) ≤ most ∧ (p.val.size : Int) ≤ most := by
  unfold longP at h
  have h1 := lngG_tot wtP most l 0 (fun a _ => by unfold wtP; omega) (of_decide_eq_true h)
  have h2 := sumBy_len (f := wtP) l (fun a _ => by unfold wtP; omega)
  refine ⟨by omega, fun p hp => ?_⟩
  have h3 := sumBy_mem (f := wtP) l (fun a _ => by unfold wtP; omega) hp
  unfold wtP at h3
  unfold wtP at h1
  omega
abbrev ndCells (n : Nd) : List Value := [.int .i64 n.slot, .int .i64 n.level, n.pv, n.kv, .string n.high, .bool n.top, .int .i64 n.right, .int .i64 n.seen, n.mv, n.rv]
/-- The sizes of what an argument is. -/
structure Nd.In (n : Nd) : Prop where
  slot : I64 n.slot
  level : I64 n.level
  right : I64 n.right
  seen : I64 n.seen
  high : Sz n.high
  ps : ∀ s ∈ n.ps, Sz s
  ks : ∀ k ∈ n.ks, I64 k
  ms : ∀ m ∈ n.ms, m.In
  rs : ∀ p ∈ n.rs, p.In
def lightN (most : Int) (n : Nd) : Bool := longP most n.rs && !decide (most < lngFrom most 0 n.ps) && !decide (most < (n.ks.length : Int)) && decide (sumBy wtM n.ms ≤ most) && !decide (most < (n.high.size : Int))
def lightL (n most : Int) (l : List Nd) : Bool := !decide (n < (l.length : Int)) && l.all (lightN most)
theorem ref_Light (v : Value) (l : List Nd) (n most : Int) (w : World) (M : Mem) (hMw : M.le (Mem.of w)) (hl : SlM M 10 ndCells v l) (hok : ∀ a ∈ l, a.Ok M) (hin : ∀ a ∈ l, a.In) (h0 : 0 ≤ most) (h1 : most ≤ 100000) (hn : l.length ≤ 1000000000) :
    Calls Try.prog 52 #[v, .int .i64 n, .int .i64 most] w fun e w' => e = .returned (.bool (lightL n most l)) ∧ Below w.heap.size w w' := by
  obtain ⟨A, c, rfl, hc1, hc2, _⟩ := id hl
  unfold maxLen at hc2
  unfold lightL
  cases hq : decide (n < (l.length : Int)) with
  | true =>
    refine V_flat (args := [.slice A l.length c, .int .i64 n, .int .i64 most]) (M := M) Try.func52 rfl Try.ntmps52 (by rfl) (hMw) ?_
    repeat' (first
      | refine VC_seq ?_
      | refine VC_region ?_
      | refine VL_nil ?_
      | refine VC_ret ?_
      | refine VC_exit ?_
      | refine VC_block ?_
      | refine VC_skip ?_
      | refine kbox ?_
      | refine kall ?_
      | refine kst ?_
      | refine ksN ?_
      | refine klt ?_
      | refine kl1 ?_
      | refine klK ?_
      | refine kap ?_
      | ((first | apply VL_q | apply VG_q | apply VS_q2); (first  | exact qmv (by rfl) | exact qas (by rfl) | exact ql1 (by rfl) | exact qlA (by rfl) | exact qfa (by rfl) | exact qmf (by rfl) | exact qfd (by rfl) | exact qm1 (by rfl) | exact qbd (by rfl) | exact qno (by rfl) | exact qex (by rfl) | exact qln (by rfl) | exact qls (by rfl) | exact qlr (by rfl) | exact qpt (by rfl) | exact qpf (by rfl) | exact qcp (by rfl) | exact qbe (by rfl) | exact qbn (by rfl) | exact qsn (by rfl) | exact qad (by rfl) | exact qsa (by rfl) | exact qsu (by rfl) | exact QS_bin (by rfl) (by rfl) (by first | exact B_slnil | exact Bq_eql_Span | exact Bq_neq_Span | exact Bq_eql_Eff | exact Bq_neq_Eff | exact Bq_eql_Msg | exact Bq_neq_Msg | exact Bq_eql_Pair | exact Bq_neq_Pair)); rfl)
      | refine sst ?_
      | refine VS_nil ?_
      | refine eeq ?_
      | refine ees ?_ (by first | exact es1 (by rfl) | exact esN (by rfl))
      | refine VE_nil ?_
      | refine kyes ?_
      | refine kno ?_
      | refine gyes ?_
      | refine gno ?_
      | refine knoU ?_
      | refine gnoU ?_
      | refine VG_nil ⟨by rfl, ?_⟩
      | refine VG_nil ?_
      | refine dT ?_
      | refine d1 ?_
      | refine dQ ?_
      | refine ctr ?_
      | refine cfa ?_
      | refine kdec (fun hq => ?_) (fun hq => ?_)
      | refine gdec (fun hq => ?_) (fun hq => ?_)
      | refine cco (fun hq => ?_) (fun hq => ?_))
    show Res _ _ _ _
    refine Res.one (by rfl) (ResV_tmp (by rfl) ?_)
    rfl
  | false =>
    refine V_flat (args := [.slice A l.length c, .int .i64 n, .int .i64 most]) (M := M) Try.func52 rfl Try.ntmps52 (by rfl) (hMw) ?_
    repeat' (first
      | refine VC_seq ?_
      | refine VC_region ?_
      | refine VL_nil ?_
      | refine VC_ret ?_
      | refine VC_exit ?_
      | refine VC_block ?_
      | refine VC_skip ?_
      | refine kbox ?_
      | refine kall ?_
      | refine kst ?_
      | refine ksN ?_
      | refine klt ?_
      | refine kl1 ?_
      | refine klK ?_
      | refine kap ?_
      | ((first | apply VL_q | apply VG_q | apply VS_q2); (first  | exact qmv (by rfl) | exact qas (by rfl) | exact ql1 (by rfl) | exact qlA (by rfl) | exact qfa (by rfl) | exact qmf (by rfl) | exact qfd (by rfl) | exact qm1 (by rfl) | exact qbd (by rfl) | exact qno (by rfl) | exact qex (by rfl) | exact qln (by rfl) | exact qls (by rfl) | exact qlr (by rfl) | exact qpt (by rfl) | exact qpf (by rfl) | exact qcp (by rfl) | exact qbe (by rfl) | exact qbn (by rfl) | exact qsn (by rfl) | exact qad (by rfl) | exact qsa (by rfl) | exact qsu (by rfl) | exact QS_bin (by rfl) (by rfl) (by first | exact B_slnil | exact Bq_eql_Span | exact Bq_neq_Span | exact Bq_eql_Eff | exact Bq_neq_Eff | exact Bq_eql_Msg | exact Bq_neq_Msg | exact Bq_eql_Pair | exact Bq_neq_Pair)); rfl)
      | refine sst ?_
      | refine VS_nil ?_
      | refine eeq ?_
      | refine ees ?_ (by first | exact es1 (by rfl) | exact esN (by rfl))
      | refine VE_nil ?_
      | refine kyes ?_
      | refine kno ?_
      | refine gyes ?_
      | refine gno ?_
      | refine knoU ?_
      | refine gnoU ?_
      | refine VG_nil ⟨by rfl, ?_⟩
      | refine VG_nil ?_
      | refine dT ?_
      | refine d1 ?_
      | refine dQ ?_
      | refine ctr ?_
      | refine cfa ?_
      | refine kdec (fun hq => ?_) (fun hq => ?_)
      | refine gdec (fun hq => ?_) (fun hq => ?_)
      | refine cco (fun hq => ?_) (fun hq => ?_))
    refine VC_for (fun k : Nat => ⟨M, [], [(0, .v (.slice A l.length c)), (2, .v (.int .i64 most)), (7, .v (.int .i64 k))]⟩) (fun k => k ≤ l.length ∧ (l.take k).all (lightN most) = true) (fun k => l.length - k) [] 0 ⟨rfl, rfl, trivial, ⟨rfl, rfl, rfl, trivial⟩⟩ ⟨by omega, rfl⟩ ?_
    rintro k ⟨hk, hr⟩
    rcases Nat.lt_or_ge k l.length with hlt | hge
    · have hd := dlt hlt
      obtain ⟨b, off, rfl, hcA⟩ := hl.get hlt
      obtain ⟨oP, oK, oM, oR⟩ := hok l[k] (List.getElem_mem hlt)
      have hi := hin l[k] (List.getElem_mem hlt)
      obtain ⟨D, d, hkv, _⟩ := id oK
      have f9 : M.cell b (off + k * 10 + 9) = some l[k].rv := hcA 9 _ rfl
      have f2 : M.cell b (off + k * 10 + 2) = some l[k].pv := hcA 2 _ rfl
      have f3 : M.cell b (off + k * 10 + 3) = some (.slice D l[k].ks.length d) := by rw [← hkv]; exact hcA 3 _ rfl
      have f8 : M.cell b (off + k * 10 + 8) = some l[k].mv := hcA 8 _ rfl
      have f4 : M.cell b (off + k * 10 + 4) = some (.string l[k].high) := hcA 4 _ rfl
      have c1 := fun W hW => ref_LongP l[k].rv l[k].rs most W (oR.toSl hW) hi.rs h0 h1
      have c2 : ∀ W, M.le (Mem.of W) → Calls Try.prog 43 #[l[k].pv, .int .i64 most] W fun e w' => e = .returned (.int .i64 (lngFrom most 0 l[k].ps)) ∧ W = w' := fun W hW => ref_LongS l[k].pv l[k].ps most W (oP.toSl hW) hi.ps h0 h1
      have c3 := fun W hW => ref_Few l[k].mv l[k].ms most W (oM.toSl hW) hi.ms h0 (by omega)
      have hp : lightN most l[k] = (longP most l[k].rs && !decide (most < lngFrom most 0 l[k].ps) && !decide (most < (l[k].ks.length : Int)) && decide (sumBy wtM l[k].ms ≤ most) && !decide (most < (l[k].high.size : Int))) := rfl
      repeat' (first
        | refine VC_seq ?_
        | refine VC_region ?_
        | refine VL_nil ?_
        | refine VC_ret ?_
        | refine VC_exit ?_
        | refine VC_block ?_
        | refine VC_skip ?_
        | refine kbox ?_
        | refine kall ?_
        | refine kst ?_
        | refine ksN ?_
        | refine klt ?_
        | refine kl1 ?_
        | refine klK ?_
        | refine kap ?_
        | ((first | apply VL_q | apply VG_q | apply VS_q2); (first | exact QS_indexAddr (k) (by rfl) (by rfl) (by omega) (by omega) | exact QS_call (by rfl) c1 | exact QS_call0 (by rfl) c2 | exact QS_call (by rfl) c3 | exact qmv (by rfl) | exact qas (by rfl) | exact ql1 (by rfl) | exact qlA (by rfl) | exact qfa (by rfl) | exact qmf (by rfl) | exact qfd (by rfl) | exact qm1 (by rfl) | exact qbd (by rfl) | exact qno (by rfl) | exact qex (by rfl) | exact qln (by rfl) | exact qls (by rfl) | exact qlr (by rfl) | exact qpt (by rfl) | exact qpf (by rfl) | exact qcp (by rfl) | exact qbe (by rfl) | exact qbn (by rfl) | exact qsn (by rfl) | exact qad (by rfl) | exact qsa (by rfl) | exact qsu (by rfl) | exact QS_bin (by rfl) (by rfl) (by first | exact B_slnil | exact Bq_eql_Span | exact Bq_neq_Span | exact Bq_eql_Eff | exact Bq_neq_Eff | exact Bq_eql_Msg | exact Bq_neq_Msg | exact Bq_eql_Pair | exact Bq_neq_Pair)); rfl)
        | refine sst ?_
        | refine VS_nil ?_
        | refine eeq ?_
        | refine ees ?_ (by first | exact es1 (by rfl) | exact esN (by rfl))
        | refine VE_nil ?_
        | refine kyes ?_
        | refine kno ?_
        | refine gyes ?_
        | refine gno ?_
        | refine knoU ?_
        | refine gnoU ?_
        | refine VG_nil ⟨by rfl, ?_⟩
        | refine VG_nil ?_
        | refine dT ?_
        | refine d1 ?_
        | refine dQ ?_
        | refine ctr ?_
        | refine cfa ?_
        | refine kdec (fun hq => ?_) (fun hq => ?_)
        | refine gdec (fun hq => ?_) (fun hq => ?_)
        | refine cco (fun hq => ?_) (fun hq => ?_))
      all_goals first
        | (refine Res.one (by rfl) (ResV_tmp (by rfl) (congrArg Value.bool ?_)); rw [allG_stop (p := lightN most) hlt (by rw [hp]; simp_all <;> omega)]; rfl)
        | exact forQ_next (Q := fun _ _ => True) [] (k + 1) ⟨rfl, rfl, trivial, ⟨rfl, rfl, rfl, trivial⟩⟩ ⟨by omega, by rw [allG_step hlt, hr, hp]; simp_all <;> omega⟩ (by omega)
    · have hd := dge hge
      obtain rfl : k = l.length := by omega
      rw [List.take_length] at hr
      repeat' (first
        | refine VC_seq ?_
        | refine VC_region ?_
        | refine VL_nil ?_
        | refine VC_ret ?_
        | refine VC_exit ?_
        | refine VC_block ?_
        | refine VC_skip ?_
        | refine kbox ?_
        | refine kall ?_
        | refine kst ?_
        | refine ksN ?_
        | refine klt ?_
        | refine kl1 ?_
        | refine klK ?_
        | refine kap ?_
        | ((first | apply VL_q | apply VG_q | apply VS_q2); (first  | exact qmv (by rfl) | exact qas (by rfl) | exact ql1 (by rfl) | exact qlA (by rfl) | exact qfa (by rfl) | exact qmf (by rfl) | exact qfd (by rfl) | exact qm1 (by rfl) | exact qbd (by rfl) | exact qno (by rfl) | exact qex (by rfl) | exact qln (by rfl) | exact qls (by rfl) | exact qlr (by rfl) | exact qpt (by rfl) | exact qpf (by rfl) | exact qcp (by rfl) | exact qbe (by rfl) | exact qbn (by rfl) | exact qsn (by rfl) | exact qad (by rfl) | exact qsa (by rfl) | exact qsu (by rfl) | exact QS_bin (by rfl) (by rfl) (by first | exact B_slnil | exact Bq_eql_Span | exact Bq_neq_Span | exact Bq_eql_Eff | exact Bq_neq_Eff | exact Bq_eql_Msg | exact Bq_neq_Msg | exact Bq_eql_Pair | exact Bq_neq_Pair)); rfl)
        | refine sst ?_
        | refine VS_nil ?_
        | refine eeq ?_
        | refine ees ?_ (by first | exact es1 (by rfl) | exact esN (by rfl))
        | refine VE_nil ?_
        | refine kyes ?_
        | refine kno ?_
        | refine gyes ?_
        | refine gno ?_
        | refine knoU ?_
        | refine gnoU ?_
        | refine VG_nil ⟨by rfl, ?_⟩
        | refine VG_nil ?_
        | refine dT ?_
        | refine d1 ?_
        | refine dQ ?_
        | refine ctr ?_
        | refine cfa ?_
        | refine kdec (fun hq => ?_) (fun hq => ?_)
        | refine gdec (fun hq => ?_) (fun hq => ?_)
        | refine cco (fun hq => ?_) (fun hq => ?_))
      show Res _ _ _ _
      refine Res.one (by rfl) (ResV_tmp (by rfl) ?_)
      rw [hr]; rfl
theorem tot_mem {l : List ByteArray} {s : ByteArray} (h : s ∈ l) : s.size ≤ tot l := by
  unfold tot
  induction l with
  | nil => cases h
  | cons a l ih =>
    rw [List.map_cons, List.sum_cons]
    rcases List.mem_cons.1 h with e | e
    · rw [e]; omega
    · have := ih e; omega
theorem light_big {n : Nd} (hi : n.In) (h : lightN 2000 n = true) : n.Big := by
  unfold lightN at h
  simp only [Bool.and_eq_true, Bool.not_eq_true', decide_eq_true_eq, decide_eq_false_iff_not] at h
  obtain ⟨⟨⟨⟨h1, h2⟩, h3⟩, h4⟩, h5⟩ := h
  have b1 := longP_bounds h1
  have b2 := lng_tot 2000 n.ps 0 (by omega)
  have b4 := few_bounds h4
  exact ⟨by omega, fun s hs => by have := tot_mem hs; omega, by omega, by omega, fun m hm => by have := b4.2 m hm; omega, by omega, fun p hp => by have := b1.2 p hp; omega, by omega, hi.ms⟩
theorem sameN_self (n : Nd) : sameN n n = true := by unfold sameN headN; simp
def leaf0 (slot : Int) : Nd := ⟨slot, 0, .slice none 0 0, [], .slice none 0 0, [], em, true, -1, 0, .slice none 0 0, [], .slice none 0 0, []⟩
def zero0 : Nd := ⟨0, 0, .slice none 0 0, [], .slice none 0 0, [], em, false, 0, 0, .slice none 0 0, [], .slice none 0 0, []⟩
theorem leaf0_ok (M : Mem) (slot : Int) : (leaf0 slot).Ok M := ⟨SlM.nil _ _ _, SlM.nil _ _ _, SlM.nil _ _ _, SlM.nil _ _ _⟩
theorem zero0_ok (M : Mem) : zero0.Ok M := ⟨SlM.nil _ _ _, SlM.nil _ _ _, SlM.nil _ _ _, SlM.nil _ _ _⟩
theorem leaf0_big (slot : Int) : (leaf0 slot).Big where
  high := by show em.size ≤ _; decide
  ps := fun s hs => nomatch hs
  psn := Nat.zero_le _
  ksn := Nat.zero_le _
  ms := fun s hs => nomatch hs
  msn := Nat.zero_le _
  rs := fun s hs => nomatch hs
  rsn := Nat.zero_le _
  min := fun s hs => nomatch hs
theorem zero0_big : zero0.Big where
  high := by show em.size ≤ _; decide
  ps := fun s hs => nomatch hs
  psn := Nat.zero_le _
  ksn := Nat.zero_le _
  ms := fun s hs => nomatch hs
  msn := Nat.zero_le _
  rs := fun s hs => nomatch hs
  rsn := Nat.zero_le _
  min := fun s hs => nomatch hs
theorem node_awake (w : World) : Calls Try.prog 53 #[] w fun e w' => e = .returned (.bool true) ∧ Below w.heap.size w w' := by
  have f1 : rightN ⟨4, 2, 36, 0, 0⟩ (leaf0 0) = true := by decide +kernel
  have f2 : fullN ⟨4, 2, 36, 0, 0⟩ (leaf0 0) = false := by decide +kernel
  have f3 : hasN (leaf0 0) ⟨#[120]⟩ = true := by decide +kernel
  have f4 : (((leaf0 0).ms.length : Int) == 0) = true := by decide +kernel
  have f5 : rightN ⟨4, 2, 36, 0, 0⟩ zero0 = false := by decide +kernel
  have c0 := fun W => node_Leaf 0 W
  have c1 := fun W => node_Right ⟨4, 2, 36, 0, 0⟩ (leaf0 0) W (leaf0_ok _ 0) (leaf0_big 0)
  have c2 := fun W => node_Full ⟨4, 2, 36, 0, 0⟩ (leaf0 0) W (leaf0_ok _ 0)
  have c3 := fun W => node_Has (leaf0 0) ⟨#[120]⟩ W
  have c4 := fun W => node_Free (leaf0 0) W (leaf0_ok _ 0)
  have c5 := fun W => node_Right ⟨4, 2, 36, 0, 0⟩ zero0 W (zero0_ok _) zero0_big
  rw [f1] at c1
  rw [f2] at c2
  rw [f3] at c3
  rw [f4] at c4
  rw [f5] at c5
  refine V_flat (args := []) (M := Mem.no) Try.func53 rfl Try.ntmps53 (by rfl) (Mem.no_le _) ?_
  repeat' (first
    | refine VC_seq ?_
    | refine VC_region ?_
    | refine VL_nil ?_
    | refine VC_ret ?_
    | refine VC_exit ?_
    | refine VC_block ?_
    | refine VC_skip ?_
    | refine kbox ?_
    | refine kall ?_
    | refine kst ?_
    | refine ksN ?_
    | refine klt ?_
    | refine kl1 ?_
    | refine klK ?_
    | refine kap ?_
    | ((first | apply VL_q | apply VG_q | apply VS_q2); (first | exact QS_call (by rfl) (fun W _ => c0 W) | exact QS_call (by rfl) (fun W _ => c1 W) | exact QS_call (by rfl) (fun W _ => c2 W) | exact QS_call (by rfl) (fun W _ => c3 W) | exact QS_call (by rfl) (fun W _ => c4 W) | exact QS_call (by rfl) (fun W _ => c5 W) | exact qmv (by rfl) | exact qas (by rfl) | exact ql1 (by rfl) | exact qlA (by rfl) | exact qfa (by rfl) | exact qmf (by rfl) | exact qfd (by rfl) | exact qm1 (by rfl) | exact qbd (by rfl) | exact qno (by rfl) | exact qex (by rfl) | exact qln (by rfl) | exact qls (by rfl) | exact qlr (by rfl) | exact qpt (by rfl) | exact qpf (by rfl) | exact qcp (by rfl) | exact qbe (by rfl) | exact qbn (by rfl) | exact qsn (by rfl) | exact qad (by rfl) | exact qsa (by rfl) | exact qsu (by rfl) | exact QS_bin (by rfl) (by rfl) (by first | exact B_slnil | exact Bq_eql_Span | exact Bq_neq_Span | exact Bq_eql_Eff | exact Bq_neq_Eff | exact Bq_eql_Msg | exact Bq_neq_Msg | exact Bq_eql_Pair | exact Bq_neq_Pair)); rfl)
    | refine sst ?_
    | refine VS_nil ?_
    | refine eeq ?_
    | refine ees ?_ (by first | exact es1 (by rfl) | exact esN (by rfl))
    | refine VE_nil ?_
    | refine kyes ?_
    | refine kno ?_
    | refine gyes ?_
    | refine gno ?_
    | refine knoU ?_
    | refine gnoU ?_
    | refine VG_nil ⟨by rfl, ?_⟩
    | refine VG_nil ?_
    | refine dT ?_
    | refine d1 ?_
    | refine dQ ?_
    | refine ctr ?_
    | refine cfa ?_
    | refine kdec (fun hq => ?_) (fun hq => ?_)
    | refine gdec (fun hq => ?_) (fun hq => ?_)
    | refine cco (fun hq => ?_) (fun hq => ?_))
  show Res _ _ _ _
  refine Res.one (by rfl) (ResV_tmp (by rfl) ?_)
  rfl
end Go.Proofs.Ytipbbbamjckjoaa
