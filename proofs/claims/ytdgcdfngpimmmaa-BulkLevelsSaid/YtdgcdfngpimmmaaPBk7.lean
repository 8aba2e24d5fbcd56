/- The bulk layer: a tree made at once of pairs, where it may be. -/
import Derived.Test.YtdgcdfngpimmmaaPBk5
import Derived.Test.YtdgcdfngpimmmaaPBk6
import Derived.Test.YtdgcdfngpimmmaaPNd2
namespace Go.Proofs.Ytdgcdfngpimmmaa
open Go Go.RowKit
attribute [local irreducible] Calls
set_option linter.unusedVariables false
set_option maxRecDepth 20000
set_option linter.unusedSimpArgs false
set_option maxHeartbeats 8000000
theorem comN_lt : ∀ x y : List UInt8, Op.bytesLess x y = true → comN x y < y.length
  | x, [], h => by rw [bls_nil] at h; cases h
  | [], b :: y, h => by simp [comN]
  | a :: x, b :: y, h => by
    rw [bls_cons] at h
    show (if a = b then comN x y + 1 else 0) < y.length + 1
    by_cases he : a = b
    · subst he
      rw [if_pos rfl]
      have h2 : Op.bytesLess x y = true := by simpa using h
      have := comN_lt x y h2
      omega
    · rw [if_neg he]; omega
theorem allTo_of {p : Nat → Bool} {k i : Nat} (h : allTo p k = true) (hi : i < k) : p i = true := List.all_eq_true.1 h i (List.mem_range.2 hi)
theorem rightP_lt {l : List Pair} (h : rightP l = true) {i : Nat} (hi : i + 1 < l.length) : lt l[i].key l[i + 1].key = true := by
  have := allTo_of h hi
  rw [rowP_pos hi (by omega)] at this
  simpa using (Bool.and_eq_true _ _ ▸ this).2
theorem rightP_key {l : List Pair} (h : rightP l = true) {p : Pair} (hp : p ∈ l) : p.key.size ≤ 16 := by
  obtain ⟨i, hi, rfl⟩ := List.getElem_of_mem hp
  have := allTo_of h hi
  rcases Nat.eq_zero_or_pos i with h0 | h0
  · subst h0
    rw [rowP_zero hi] at this
    simp at this; omega
  · rw [rowP_pos hi h0] at this
    simp at this; omega
/-- How many kids and rows node k of level i has. -/
def kN (L : List Nat) (i k : Nat) : Nat := if i = 0 then 0 else partE (L.getD (i - 1) 0) (L.getD i 0) k
def rN (n : Nat) (L : List Nat) (i k : Nat) : Nat := if i = 0 then partE n (L.getD 0 0) k else 0
def Pt.Cnt (q : Pt) (kn rn : Nat) : Prop := (∃ A c, q.kv = .slice A kn c) ∧ (∃ A c, q.rv = .slice A rn c) ∧ q.Sh
def LvRow (n : Nat) (L : List Nat) (i : Nat) (r : List Pt) : Prop := r.length = L.getD i 0 ∧ ∀ (k : Nat) (q : Pt), r[k]? = some q → q.Cnt (kN L i k) (rN n L i k)
theorem getD_lt {L : List Nat} {i : Nat} (h : i < L.length) : L.getD i 0 = L[i] := by rw [List.getD_eq_getElem?_getD, List.getElem?_eq_getElem h]; rfl
theorem sum_le {L : List Nat} {i : Nat} (h : i < L.length) : (L.take i).sum + L[i] ≤ L.sum := by
  conv => rhs; rw [← List.take_append_drop i L, List.sum_append, List.drop_eq_getElem_cons h, List.sum_cons]
  omega
theorem sum_step {L : List Nat} {i : Nat} (h : i < L.length) : (L.take (i + 1)).sum = (L.take i).sum + L[i] := by
  rw [List.take_succ_eq_append_getElem h, List.sum_append]; simp
def BuildPost (n : Nat) (L : List Nat) (u : Value) (M' : Mem) : Prop := ∃ x, u = .tuple #[x, .int .i64 0] ∧ ∃ rows : List (List Pt), SlM M' 10 ndK x rows.reverse.flatten ∧ rows.length = L.length ∧ ∀ (i : Nat) (r : List Pt), rows[i]? = some r → LvRow n L i r
theorem bulk_Build (c : Cfg) (v : Value) (l : List Pair) (L : List Nat) (w : World) (M : Mem) (hM : M.le (Mem.of w)) (hl : SlM M 2 pairCells v l) (hL : levelsC c (l.length : Int) = L) (hn : 1 ≤ l.length) (hn2 : l.length ≤ 1000000)
    (h0 : 0 < L.length) (hL0 : L.getD 0 0 ≤ l.length) (hLp : ∀ i, i < L.length → 1 ≤ L.getD i 0) (hLs : ∀ i, i + 1 < L.length → L.getD (i + 1) 0 ≤ L.getD i 0) (hr : rightP l = true) (hz : ∀ p ∈ l, p.val.size ≤ 1000000) (hsum : L.sum ≤ 1000000) (hslots : (L.sum : Int) ≤ c.slots) :
    Calls Try.prog 24 #[.agg #[.int .i64 c.fanout, .int .i64 c.leaf, .int .i64 c.budget, .int .i64 c.slots, .int .i64 c.restarts], v] w (RetM M w (BuildPost l.length L)) := by
  obtain ⟨A, c1, rfl, hc1, hc2, _⟩ := id hl
  unfold maxLen at hc2
  refine V_ret (args := [.agg #[.int .i64 c.fanout, .int .i64 c.leaf, .int .i64 c.budget, .int .i64 c.slots, .int .i64 c.restarts], .slice A l.length c1]) (M := M) Try.func24 rfl Try.ntmps24 (by rfl) hM _ ?_
  refine VC_frzQ ?_
  have cL := fun W => bulk_Levels c (l.length : Int) W
  rw [hL] at cL
  have hLn : L.length ≤ 1000000 := by
    have : ∀ (L : List Nat), (∀ x ∈ L, 1 ≤ x) → L.length ≤ L.sum := fun L => by
      induction L with
      | nil => intro _; simp
      | cons a t ih => intro h; have := h a (by simp); have := ih (fun x hx => h x (by simp [hx])); simp; omega
    have := this L (fun x hx => by
      obtain ⟨i, hi, rfl⟩ := List.getElem_of_mem hx
      have := hLp i hi
      rwa [getD_lt hi] at this)
    omega
  repeat' (first
    | refine VC_seq ?_
    | refine VC_region ?_
    | refine VL_nil ?_
    | refine VC_ret ?_
    | refine VC_exit ?_
    | refine VC_block ?_
    | refine VC_skip ?_
    | refine kbox ?_
    | refine kall ?_
    | refine kst ?_
    | refine ksN ?_
    | refine klt ?_
    | refine kl1 ?_
    | refine klK ?_
    | refine kap ?_
    | ((first | apply VL_q | apply VG_q | apply VS_q2); (first  | exact qmv (by rfl) | exact qas (by rfl) | exact ql1 (by rfl) | exact qlA (by rfl) | exact qfa (by rfl) | exact qmf (by rfl) | exact qfd (by rfl) | exact qm1 (by rfl) | exact qbd (by rfl) | exact qno (by rfl) | exact qex (by rfl) | exact qln (by rfl) | exact qls (by rfl) | exact qlr (by rfl) | exact qpt (by rfl) | exact qpf (by rfl) | exact qcp (by rfl) | exact qbe (by rfl) | exact qbn (by rfl) | exact qsn (by rfl) | exact qad (by rfl) | exact qsa (by rfl) | exact qsu (by rfl) | exact QS_bin (by rfl) (by rfl) (by first | exact B_slnil | exact Bq_eql_Msg | exact Bq_neq_Msg | exact Bq_eql_Pair | exact Bq_neq_Pair | exact Bq_eql_Op | exact Bq_neq_Op | exact Bq_eql_Cfg | exact Bq_neq_Cfg)); rfl)
    | refine sst ?_
    | refine VS_nil ?_
    | refine eeq ?_
    | refine ees ?_ (by first | exact es1 (by rfl) | exact esN (by rfl))
    | refine VE_nil ?_
    | refine kyes ?_
    | refine kno ?_
    | refine gyes ?_
    | refine gno ?_
    | refine knoU ?_
    | refine gnoU ?_
    | refine VG_nil ⟨by rfl, ?_⟩
    | refine VG_nil ?_
    | refine dT ?_
    | refine d1 ?_
    | refine dQ ?_
    | refine ctr ?_
    | refine cfa ?_
    | refine kdec (fun hq => ?_) (fun hq => ?_)
    | refine gdec (fun hq => ?_) (fun hq => ?_)
    | refine cco (fun hq => ?_) (fun hq => ?_))
  refine VL_callO (by rfl) (fun W _ => cL W) (by rfl) (by rfl) ?_
  refine VL_frz 1 (by rfl) (fun us M1 hle1 hus => ?_)
  have hS : SlM M1 1 natK us L := hus.slM (fun _ _ => rfl)
  obtain ⟨B, cb, hus', hd1, hd2, _⟩ := id hS
  subst hus'
  unfold maxLen at hd2
  have hl1 := hl.mono hle1
  have cR : ∀ W, M1.le (Mem.of W) → Calls Try.prog 64 #[.slice A l.length c1] W fun e w' => e = .returned (.bool true) ∧ Below W.heap.size W w' := fun W hW => by
    have := model_RightP _ l W (hl1.toSl hW) (fun p hp => by have := rightP_key hr hp; have := hz p hp; unfold maxLen; omega) (by omega)
    rwa [hr] at this
  have g1 : ((L.length : Int) == 0) = false := beq_eq_false_iff_ne.2 (by omega)
  repeat' (first
    | refine VC_seq ?_
    | refine VC_region ?_
    | refine VL_nil ?_
    | refine VC_ret ?_
    | refine VC_exit ?_
    | refine VC_block ?_
    | refine VC_skip ?_
    | refine kbox ?_
    | refine kall ?_
    | refine kst ?_
    | refine ksN ?_
    | refine klt ?_
    | refine kl1 ?_
    | refine klK ?_
    | refine kap ?_
    | ((first | apply VL_q | apply VG_q | apply VS_q2); (first | exact QS_call (by rfl) cR | exact qmv (by rfl) | exact qas (by rfl) | exact ql1 (by rfl) | exact qlA (by rfl) | exact qfa (by rfl) | exact qmf (by rfl) | exact qfd (by rfl) | exact qm1 (by rfl) | exact qbd (by rfl) | exact qno (by rfl) | exact qex (by rfl) | exact qln (by rfl) | exact qls (by rfl) | exact qlr (by rfl) | exact qpt (by rfl) | exact qpf (by rfl) | exact qcp (by rfl) | exact qbe (by rfl) | exact qbn (by rfl) | exact qsn (by rfl) | exact qad (by rfl) | exact qsa (by rfl) | exact qsu (by rfl) | exact QS_bin (by rfl) (by rfl) (by first | exact B_slnil | exact Bq_eql_Msg | exact Bq_neq_Msg | exact Bq_eql_Pair | exact Bq_neq_Pair | exact Bq_eql_Op | exact Bq_neq_Op | exact Bq_eql_Cfg | exact Bq_neq_Cfg)); rfl)
    | refine sst ?_
    | refine VS_nil ?_
    | refine eeq ?_
    | refine ees ?_ (by first | exact es1 (by rfl) | exact esN (by rfl))
    | refine VE_nil ?_
    | refine kyes ?_
    | refine kno ?_
    | refine gyes ?_
    | refine gno ?_
    | refine knoU ?_
    | refine gnoU ?_
    | refine VG_nil ⟨by rfl, ?_⟩
    | refine VG_nil ?_
    | refine dT ?_
    | refine d1 ?_
    | refine dQ ?_
    | refine ctr ?_
    | refine cfa ?_
    | refine kdec (fun hq => ?_) (fun hq => ?_)
    | refine gdec (fun hq => ?_) (fun hq => ?_)
    | refine cco (fun hq => ?_) (fun hq => ?_))
  refine VC_for (fun k : Nat => ⟨M1, [.blk 43 [.int .i64 c.fanout, .int .i64 c.leaf, .int .i64 c.budget, .int .i64 c.slots, .int .i64 c.restarts]], [(1, .v (.slice A l.length c1)), (2, .p 0 0), (6, .v (.slice B L.length cb)), (7, .v (.int .i64 ((L.take k).sum : Nat))), (26, .v (.slice B L.length cb)), (27, .v (.int .i64 L.length)), (28, .v (.int .i64 k))]⟩) (fun k => k ≤ L.length) (fun k => L.length - k) [0] 0 ⟨rfl, rfl, ⟨rfl, trivial⟩, ⟨rfl, rfl, rfl, rfl, rfl, rfl, rfl, trivial⟩⟩ (by omega) ?_
  intro k hk
  rcases Nat.lt_or_ge k L.length with hlt | hge
  · have hd := dlt hlt
    obtain ⟨b, off, rfl, hcA⟩ := hS.get hlt
    have hst := sum_step hlt
    have hsl := sum_le hlt
    generalize L[k] = lk at *
    generalize (L.take k).sum = sk at *
    repeat' (first
      | refine VC_seq ?_
      | refine VC_region ?_
      | refine VL_nil ?_
      | refine VC_ret ?_
      | refine VC_exit ?_
      | refine VC_block ?_
      | refine VC_skip ?_
      | refine kbox ?_
      | refine kall ?_
      | refine kst ?_
      | refine ksN ?_
      | refine klt ?_
      | refine kl1 ?_
      | refine klK ?_
      | refine kap ?_
      | ((first | apply VL_q | apply VG_q | apply VS_q2); (first | exact QS_indexAddr (k) (by rfl) (by rfl) (by omega) (by omega) | exact QS_mload1 (by rfl) (hcA 0 _ (by rfl)) | exact QS_mload1 (by rfl) (hcA _ _ (by rfl)) | exact QS_mloadN _ (by rfl) hcA _ (by rfl) | exact qmv (by rfl) | exact qas (by rfl) | exact ql1 (by rfl) | exact qlA (by rfl) | exact qfa (by rfl) | exact qmf (by rfl) | exact qfd (by rfl) | exact qm1 (by rfl) | exact qbd (by rfl) | exact qno (by rfl) | exact qex (by rfl) | exact qln (by rfl) | exact qls (by rfl) | exact qlr (by rfl) | exact qpt (by rfl) | exact qpf (by rfl) | exact qcp (by rfl) | exact qbe (by rfl) | exact qbn (by rfl) | exact qsn (by rfl) | exact qad (by rfl) | exact qsa (by rfl) | exact qsu (by rfl) | exact QS_bin (by rfl) (by rfl) (by first | exact B_slnil | exact Bq_eql_Msg | exact Bq_neq_Msg | exact Bq_eql_Pair | exact Bq_neq_Pair | exact Bq_eql_Op | exact Bq_neq_Op | exact Bq_eql_Cfg | exact Bq_neq_Cfg)); rfl)
      | refine sst ?_
      | refine VS_nil ?_
      | refine eeq ?_
      | refine ees ?_ (by first | exact es1 (by rfl) | exact esN (by rfl))
      | refine VE_nil ?_
      | refine kyes ?_
      | refine kno ?_
      | refine gyes ?_
      | refine gno ?_
      | refine knoU ?_
      | refine gnoU ?_
      | refine VG_nil ⟨by rfl, ?_⟩
      | refine VG_nil ?_
      | refine dT ?_
      | refine d1 ?_
      | refine dQ ?_
      | refine ctr ?_
      | refine cfa ?_
      | refine kdec (fun hq => ?_) (fun hq => ?_)
      | refine gdec (fun hq => ?_) (fun hq => ?_)
      | refine cco (fun hq => ?_) (fun hq => ?_))
    exact forQ_next (Q := fun _ _ => True) [0] (k + 1) ⟨rfl, rfl, ⟨rfl, trivial⟩, ⟨rfl, rfl, rfl, by rw [hst]; rfl, rfl, rfl, rfl, trivial⟩⟩ (by omega) (by omega)
  have hd := dge hge
  obtain rfl : k = L.length := by omega
  rw [List.take_length]
  have g2 : decide (c.slots < (L.sum : Int)) = false := decide_eq_false (by omega)
  obtain ⟨b, off, hB, hcA⟩ := hS.get h0
  subst hB
  have hL0' := hLp 0 h0
  rw [getD_lt h0] at hL0 hL0'
  have cLv : ∀ W, M1.le (Mem.of W) → Calls Try.prog 65 #[.slice A l.length c1, .int .i64 (L[0] : Nat)] W (RetM M1 W (fun u M' => ∃ ps : List Pt, SlM M' 11 ptK u ps ∧ ps.length = L[0] ∧ ∀ i (q : Pt), ps[i]? = some q → q.Is 0 0 (partE l.length L[0] i))) := fun W hW =>
    bulk_leaves _ l L[0] W M1 hW hl1 (by omega) (by omega) hn2 (fun a ha => by have := rightP_key hr ha; omega) (fun i j h1 h2 hij => by
      subst hij
      have h3 := rightP_lt hr h2
      refine ⟨h3, ?_⟩
      have := comN_lt _ _ (by rw [← lt_bl]; exact h3)
      rw [bl_size'] at this
      exact this)
  have hgs : ∀ i (h : i < L.length), L[i] ≤ 1000000 := fun i h => by have := sum_le h; omega
  repeat' (first
    | refine VC_seq ?_
    | refine VC_region ?_
    | refine VL_nil ?_
    | refine VC_ret ?_
    | refine VC_exit ?_
    | refine VC_block ?_
    | refine VC_skip ?_
    | refine kbox ?_
    | refine kall ?_
    | refine kst ?_
    | refine ksN ?_
    | refine klt ?_
    | refine kl1 ?_
    | refine klK ?_
    | refine kap ?_
    | ((first | apply VL_q | apply VG_q | apply VS_q2); (first | exact QS_indexAddr (0) (by rfl) (by rfl) (by omega) (by omega) | exact QS_mload1 (by rfl) (hcA 0 _ (by rfl)) | exact QS_mload1 (by rfl) (hcA _ _ (by rfl)) | exact QS_mloadN _ (by rfl) hcA _ (by rfl) | exact qmv (by rfl) | exact qas (by rfl) | exact ql1 (by rfl) | exact qlA (by rfl) | exact qfa (by rfl) | exact qmf (by rfl) | exact qfd (by rfl) | exact qm1 (by rfl) | exact qbd (by rfl) | exact qno (by rfl) | exact qex (by rfl) | exact qln (by rfl) | exact qls (by rfl) | exact qlr (by rfl) | exact qpt (by rfl) | exact qpf (by rfl) | exact qcp (by rfl) | exact qbe (by rfl) | exact qbn (by rfl) | exact qsn (by rfl) | exact qad (by rfl) | exact qsa (by rfl) | exact qsu (by rfl) | exact QS_bin (by rfl) (by rfl) (by first | exact B_slnil | exact Bq_eql_Msg | exact Bq_neq_Msg | exact Bq_eql_Pair | exact Bq_neq_Pair | exact Bq_eql_Op | exact Bq_neq_Op | exact Bq_eql_Cfg | exact Bq_neq_Cfg)); rfl)
    | refine sst ?_
    | refine VS_nil ?_
    | refine eeq ?_
    | refine ees ?_ (by first | exact es1 (by rfl) | exact esN (by rfl))
    | refine VE_nil ?_
    | refine kyes ?_
    | refine kno ?_
    | refine gyes ?_
    | refine gno ?_
    | refine knoU ?_
    | refine gnoU ?_
    | refine VG_nil ⟨by rfl, ?_⟩
    | refine VG_nil ?_
    | refine dT ?_
    | refine d1 ?_
    | refine dQ ?_
    | refine ctr ?_
    | refine cfa ?_
    | refine kdec (fun hq => ?_) (fun hq => ?_)
    | refine gdec (fun hq => ?_) (fun hq => ?_)
    | refine cco (fun hq => ?_) (fun hq => ?_))
  refine VL_callM (by rfl) cLv (by rfl) (fun u0 M2 hle2 ⟨ps0, hps0, hpl0, hpq0⟩ => ?_)
  repeat' (first
    | refine VC_seq ?_
    | refine VC_region ?_
    | refine VL_nil ?_
    | refine VC_ret ?_
    | refine VC_exit ?_
    | refine VC_block ?_
    | refine VC_skip ?_
    | refine kbox ?_
    | refine kall ?_
    | refine kst ?_
    | refine ksN ?_
    | refine klt ?_
    | refine kl1 ?_
    | refine klK ?_
    | refine kap ?_
    | ((first | apply VL_q | apply VG_q | apply VS_q2); (first  | exact qmv (by rfl) | exact qas (by rfl) | exact ql1 (by rfl) | exact qlA (by rfl) | exact qfa (by rfl) | exact qmf (by rfl) | exact qfd (by rfl) | exact qm1 (by rfl) | exact qbd (by rfl) | exact qno (by rfl) | exact qex (by rfl) | exact qln (by rfl) | exact qls (by rfl) | exact qlr (by rfl) | exact qpt (by rfl) | exact qpf (by rfl) | exact qcp (by rfl) | exact qbe (by rfl) | exact qbn (by rfl) | exact qsn (by rfl) | exact qad (by rfl) | exact qsa (by rfl) | exact qsu (by rfl) | exact QS_bin (by rfl) (by rfl) (by first | exact B_slnil | exact Bq_eql_Msg | exact Bq_neq_Msg | exact Bq_eql_Pair | exact Bq_neq_Pair | exact Bq_eql_Op | exact Bq_neq_Op | exact Bq_eql_Cfg | exact Bq_neq_Cfg)); rfl)
    | refine sst ?_
    | refine VS_nil ?_
    | refine eeq ?_
    | refine ees ?_ (by first | exact es1 (by rfl) | exact esN (by rfl))
    | refine VE_nil ?_
    | refine kyes ?_
    | refine kno ?_
    | refine gyes ?_
    | refine gno ?_
    | refine knoU ?_
    | refine gnoU ?_
    | refine VG_nil ⟨by rfl, ?_⟩
    | refine VG_nil ?_
    | refine dT ?_
    | refine d1 ?_
    | refine dQ ?_
    | refine ctr ?_
    | refine cfa ?_
    | refine kdec (fun hq => ?_) (fun hq => ?_)
    | refine gdec (fun hq => ?_) (fun hq => ?_)
    | refine cco (fun hq => ?_) (fun hq => ?_))
  refine VC_nilR 11 49 1 (by rfl) (by rfl) ?_
  repeat' (first
    | refine VC_seq ?_
    | refine VC_region ?_
    | refine VL_nil ?_
    | refine VC_ret ?_
    | refine VC_exit ?_
    | refine VC_block ?_
    | refine VC_skip ?_
    | refine kbox ?_
    | refine kall ?_
    | refine kst ?_
    | refine ksN ?_
    | refine klt ?_
    | refine kl1 ?_
    | refine klK ?_
    | refine kap ?_
    | ((first | apply VL_q | apply VG_q | apply VS_q2); (first  | exact qmv (by rfl) | exact qas (by rfl) | exact ql1 (by rfl) | exact qlA (by rfl) | exact qfa (by rfl) | exact qmf (by rfl) | exact qfd (by rfl) | exact qm1 (by rfl) | exact qbd (by rfl) | exact qno (by rfl) | exact qex (by rfl) | exact qln (by rfl) | exact qls (by rfl) | exact qlr (by rfl) | exact qpt (by rfl) | exact qpf (by rfl) | exact qcp (by rfl) | exact qbe (by rfl) | exact qbn (by rfl) | exact qsn (by rfl) | exact qad (by rfl) | exact qsa (by rfl) | exact qsu (by rfl) | exact QS_bin (by rfl) (by rfl) (by first | exact B_slnil | exact Bq_eql_Msg | exact Bq_neq_Msg | exact Bq_eql_Pair | exact Bq_neq_Pair | exact Bq_eql_Op | exact Bq_neq_Op | exact Bq_eql_Cfg | exact Bq_neq_Cfg)); rfl)
    | refine sst ?_
    | refine VS_nil ?_
    | refine eeq ?_
    | refine ees ?_ (by first | exact es1 (by rfl) | exact esN (by rfl))
    | refine VE_nil ?_
    | refine kyes ?_
    | refine kno ?_
    | refine gyes ?_
    | refine gno ?_
    | refine knoU ?_
    | refine gnoU ?_
    | refine VG_nil ⟨by rfl, ?_⟩
    | refine VG_nil ?_
    | refine dT ?_
    | refine d1 ?_
    | refine dQ ?_
    | refine ctr ?_
    | refine cfa ?_
    | refine kdec (fun hq => ?_) (fun hq => ?_)
    | refine gdec (fun hq => ?_) (fun hq => ?_)
    | refine cco (fun hq => ?_) (fun hq => ?_))
  refine VC_for (fun x : List Value × List (List Pt) × Value × List Pt × Mem => ⟨x.2.2.2.2, [.blk 43 [.int .i64 c.fanout, .int .i64 c.leaf, .int .i64 c.budget, .int .i64 c.slots, .int .i64 c.restarts], .row 49 1 x.1.length x.1], [(2, .p 0 0), (6, .v (.slice (some ⟨b, off, none⟩) L.length cb)), (10, .v x.2.2.1), (11, .r 1), (12, .v (.int .i64 ((L.sum - (L.take x.1.length).sum : Nat) : Int))), (46, .v (.slice (some ⟨b, off, none⟩) L.length cb)), (47, .v (.int .i64 L.length)), (48, .v (.int .i64 x.1.length))]⟩)
    (fun x => M2.le x.2.2.2.2 ∧ x.1.length ≤ L.length ∧ x.2.1.length = x.1.length ∧ (∀ (i : Nat) (u : Value) (r : List Pt), x.1[i]? = some u → x.2.1[i]? = some r → SlM x.2.2.2.2 10 ndK u r ∧ LvRow l.length L i r) ∧ (x.1.length < L.length → SlM x.2.2.2.2 11 ptK x.2.2.1 x.2.2.2.1 ∧ x.2.2.2.1.length = L.getD x.1.length 0 ∧ ∀ (k : Nat) (q : Pt), x.2.2.2.1[k]? = some q → q.Is (x.1.length : Int) (kN L x.1.length k) (rN l.length L x.1.length k)))
    (fun x => L.length - x.1.length) [0, 1] ([], [], u0, ps0, M2) ⟨rfl, rfl, ⟨rfl, rfl, trivial⟩, ⟨rfl, rfl, rfl, rfl, (by show some (SV.v (.int .i64 ((L.sum : Nat) : Int))) = some (SV.v (.int .i64 ((L.sum - (L.take 0).sum : Nat) : Int))); simp), rfl, rfl, rfl, trivial⟩⟩ ⟨Mem.le_refl _, Nat.zero_le _, rfl, fun i u r h => by simp at h, fun _ => ⟨hps0, by rw [hpl0]; exact (getD_lt h0).symm, fun k q hq => by
      have := hpq0 k q hq
      show q.Is 0 (kN L 0 k) (rN l.length L 0 k)
      unfold kN rN
      rw [if_pos rfl, if_pos rfl, getD_lt h0]
      exact this⟩⟩ ?_
  rintro ⟨us, rows, uv, ps, Mx⟩ ⟨hMx, hk, hrl, hrows, hps⟩
  dsimp only at hMx hk hrl hrows hps ⊢
  have hSx := (hS.mono hle2).mono hMx
  generalize hi : us.length = i at *
  rcases Nat.lt_or_ge i L.length with hlt | hge
  · have hd := dlt hlt
    obtain ⟨hps1, hps2, hps3⟩ := hps hlt
    obtain ⟨b2, off2, he, hcI⟩ := hSx.get hlt
    injection he with he
    injection he with he1 he2
    subst he1 he2
    have hst := sum_step hlt
    have hsl := sum_le hlt
    have hgi := hgs i hlt
    have hfr : ((L.sum - (L.take i).sum : Nat) : Int) - ((L[i] : Nat) : Int) = ((L.sum - (L.take (i + 1)).sum : Nat) : Int) := by rw [hst]; omega
    have hf2 : L.sum - (L.take (i + 1)).sum ≤ 1000000 := by omega
    have hpos := hLp i hlt
    rw [getD_lt hlt] at hps2 hpos
    generalize hfrom : L.sum - (L.take (i + 1)).sum = from1 at *
    have cK : ∀ W, Mx.le (Mem.of W) → Calls Try.prog 66 #[uv, .int .i64 (from1 : Nat)] W (RetM Mx W (fun u M' => ∃ ns : List Pt, SlM M' 10 ndK u ns ∧ ns.length = ps.length ∧ ∀ (i : Nat) (q : Pt), ns[i]? = some q → ∃ q0 : Pt, ps[i]? = some q0 ∧ q.Like q0)) := fun W hW => bulk_link uv ps from1 W Mx hW hps1 (fun k q hq => (hps3 k q hq).sh) (by omega) hf2
    rw [← hfr] at cK
    repeat' (first
      | refine VC_seq ?_
      | refine VC_region ?_
      | refine VL_nil ?_
      | refine VC_ret ?_
      | refine VC_exit ?_
      | refine VC_block ?_
      | refine VC_skip ?_
      | refine kbox ?_
      | refine kall ?_
      | refine kst ?_
      | refine ksN ?_
      | refine klt ?_
      | refine kl1 ?_
      | refine klK ?_
      | refine kap ?_
      | ((first | apply VL_q | apply VG_q | apply VS_q2); (first | exact QS_indexAddr i (by rfl) (by rfl) (by omega) (by omega) | exact QS_mload1 (by rfl) (hcI 0 _ (by rfl)) | exact QS_mload1 (by rfl) (hcI _ _ (by rfl)) | exact QS_mloadN _ (by rfl) hcI _ (by rfl) | exact qmv (by rfl) | exact qas (by rfl) | exact ql1 (by rfl) | exact qlA (by rfl) | exact qfa (by rfl) | exact qmf (by rfl) | exact qfd (by rfl) | exact qm1 (by rfl) | exact qbd (by rfl) | exact qno (by rfl) | exact qex (by rfl) | exact qln (by rfl) | exact qls (by rfl) | exact qlr (by rfl) | exact qpt (by rfl) | exact qpf (by rfl) | exact qcp (by rfl) | exact qbe (by rfl) | exact qbn (by rfl) | exact qsn (by rfl) | exact qad (by rfl) | exact qsa (by rfl) | exact qsu (by rfl) | exact QS_bin (by rfl) (by rfl) (by first | exact B_slnil | exact Bq_eql_Msg | exact Bq_neq_Msg | exact Bq_eql_Pair | exact Bq_neq_Pair | exact Bq_eql_Op | exact Bq_neq_Op | exact Bq_eql_Cfg | exact Bq_neq_Cfg)); rfl)
      | refine sst ?_
      | refine VS_nil ?_
      | refine eeq ?_
      | refine ees ?_ (by first | exact es1 (by rfl) | exact esN (by rfl))
      | refine VE_nil ?_
      | refine kyes ?_
      | refine kno ?_
      | refine gyes ?_
      | refine gno ?_
      | refine knoU ?_
      | refine gnoU ?_
      | refine VG_nil ⟨by rfl, ?_⟩
      | refine VG_nil ?_
      | refine dT ?_
      | refine d1 ?_
      | refine dQ ?_
      | refine ctr ?_
      | refine cfa ?_
      | refine kdec (fun hq => ?_) (fun hq => ?_)
      | refine gdec (fun hq => ?_) (fun hq => ?_)
      | refine cco (fun hq => ?_) (fun hq => ?_))
    refine VL_callM (by rfl) cK (by rfl) (fun u M3 hle3 ⟨ns, hns1, hns2, hns3⟩ => ?_)
    obtain ⟨Au, cu, hu0, _⟩ := id hns1
    subst hu0
    have hlv : LvRow l.length L i ns := ⟨by rw [hns2, hps2, getD_lt hlt], fun k q hq => by
      obtain ⟨q0, h1, h2, h3, h4, h5⟩ := hns3 k q hq
      obtain ⟨g1, ⟨A1, n1, g2⟩, ⟨A2, n2, g3⟩, g4, g5⟩ := hps3 k q0 h1
      exact ⟨⟨A1, n1, h2.trans g2⟩, ⟨A2, n2, h3.trans g3⟩, ⟨A1, _, n1, h2.trans g2⟩, ⟨A2, _, n2, h3.trans g3⟩, by rw [h4]; exact g4, by rw [h5]; exact g5⟩⟩
    have hrows2 : ∀ (M4 : Mem), M3.le M4 → ∀ (j : Nat) (u' : Value) (r : List Pt), (us ++ [Value.slice Au ns.length cu])[j]? = some u' → (rows ++ [ns])[j]? = some r → SlM M4 10 ndK u' r ∧ LvRow l.length L j r := fun M4 hM4 j u' r h1 h2 => by
      by_cases hj : j < us.length
      · rw [List.getElem?_append_left hj] at h1
        rw [List.getElem?_append_left (by omega)] at h2
        obtain ⟨g1, g2⟩ := hrows j u' r h1 h2
        exact ⟨(g1.mono hle3).mono hM4, g2⟩
      · rw [List.getElem?_append_right (by omega)] at h1
        rw [List.getElem?_append_right (by omega)] at h2
        have hj0 : j - us.length = 0 := by
          have := (List.getElem?_eq_some_iff.1 h1).1
          simp at this; omega
        have hj1 : j - rows.length = 0 := by omega
        rw [hj0] at h1
        rw [hj1] at h2
        obtain rfl := Option.some.inj h1
        obtain rfl := Option.some.inj h2
        obtain rfl : j = i := by omega
        exact ⟨hns1.mono hM4, hlv⟩
    have hul : (us ++ [Value.slice Au ns.length cu]).length = i + 1 := by rw [List.length_append, hi]; rfl
    by_cases hlast : i + 1 < L.length
    · have d3 : decide ((i : Int) + 1 < (L.length : Int)) = true := decide_eq_true (by omega)
      obtain ⟨b3, off3, he, hcJ⟩ := (hSx.mono hle3).get hlast
      injection he with he
      injection he with he1 he2
      subst he1 he2
      have hps1' := hps1.mono hle3
      have hnx := hLp (i + 1) hlast
      have hns := hLs i hlast
      rw [getD_lt hlast] at hnx hns
      rw [getD_lt hlt] at hns
      have cA : ∀ W, M3.le (Mem.of W) → Calls Try.prog 67 #[uv, .int .i64 (L[i + 1] : Nat), .int .i64 (from1 : Nat)] W (RetM M3 W (fun u M' => ∃ qs : List Pt, SlM M' 11 ptK u qs ∧ qs.length = L[i + 1] ∧ ∀ (k : Nat) (q : Pt), qs[k]? = some q → q.Is ((i : Int) + 1) (partE ps.length L[i + 1] k) 0)) := fun W hW => bulk_above uv ps L[i + 1] from1 (i : Int) W M3 hW hps1' (by omega) (by omega) (by omega) hf2 (fun q hq => (hps3 0 q hq).1) (by omega) (by omega)
      rw [← hfr] at cA
      generalize hnn : L[i + 1] = nn at *
      repeat' (first
        | refine VC_seq ?_
        | refine VC_region ?_
        | refine VL_nil ?_
        | refine VC_ret ?_
        | refine VC_exit ?_
        | refine VC_block ?_
        | refine VC_skip ?_
        | refine kbox ?_
        | refine kall ?_
        | refine kst ?_
        | refine ksN ?_
        | refine klt ?_
        | refine kl1 ?_
        | refine klK ?_
        | refine kap ?_
        | ((first | apply VL_q | apply VG_q | apply VS_q2); (first | exact QS_indexAddr (i + 1) (by rfl) (by rfl) (by omega) (by omega) | exact QS_mload1 (by rfl) (hcJ 0 _ (by rfl)) | exact QS_mload1 (by rfl) (hcJ _ _ (by rfl)) | exact QS_mloadN _ (by rfl) hcJ _ (by rfl) | exact qmv (by rfl) | exact qas (by rfl) | exact ql1 (by rfl) | exact qlA (by rfl) | exact qfa (by rfl) | exact qmf (by rfl) | exact qfd (by rfl) | exact qm1 (by rfl) | exact qbd (by rfl) | exact qno (by rfl) | exact qex (by rfl) | exact qln (by rfl) | exact qls (by rfl) | exact qlr (by rfl) | exact qpt (by rfl) | exact qpf (by rfl) | exact qcp (by rfl) | exact qbe (by rfl) | exact qbn (by rfl) | exact qsn (by rfl) | exact qad (by rfl) | exact qsa (by rfl) | exact qsu (by rfl) | exact QS_bin (by rfl) (by rfl) (by first | exact B_slnil | exact Bq_eql_Msg | exact Bq_neq_Msg | exact Bq_eql_Pair | exact Bq_neq_Pair | exact Bq_eql_Op | exact Bq_neq_Op | exact Bq_eql_Cfg | exact Bq_neq_Cfg)); rfl)
        | refine sst ?_
        | refine VS_nil ?_
        | refine eeq ?_
        | refine ees ?_ (by first | exact es1 (by rfl) | exact esN (by rfl))
        | refine VE_nil ?_
        | refine kyes ?_
        | refine kno ?_
        | refine gyes ?_
        | refine gno ?_
        | refine knoU ?_
        | refine gnoU ?_
        | refine VG_nil ⟨by rfl, ?_⟩
        | refine VG_nil ?_
        | refine dT ?_
        | refine d1 ?_
        | refine dQ ?_
        | refine ctr ?_
        | refine cfa ?_
        | refine kdec (fun hq => ?_) (fun hq => ?_)
        | refine gdec (fun hq => ?_) (fun hq => ?_)
        | refine cco (fun hq => ?_) (fun hq => ?_))
      refine VL_callM (by rfl) cA (by rfl) (fun u2 M4 hle4 ⟨qs, hqs1, hqs2, hqs3⟩ => ?_)
      repeat' (first
        | refine VC_seq ?_
        | refine VC_region ?_
        | refine VL_nil ?_
        | refine VC_ret ?_
        | refine VC_exit ?_
        | refine VC_block ?_
        | refine VC_skip ?_
        | refine kbox ?_
        | refine kall ?_
        | refine kst ?_
        | refine ksN ?_
        | refine klt ?_
        | refine kl1 ?_
        | refine klK ?_
        | refine kap ?_
        | ((first | apply VL_q | apply VG_q | apply VS_q2); (first  | exact qmv (by rfl) | exact qas (by rfl) | exact ql1 (by rfl) | exact qlA (by rfl) | exact qfa (by rfl) | exact qmf (by rfl) | exact qfd (by rfl) | exact qm1 (by rfl) | exact qbd (by rfl) | exact qno (by rfl) | exact qex (by rfl) | exact qln (by rfl) | exact qls (by rfl) | exact qlr (by rfl) | exact qpt (by rfl) | exact qpf (by rfl) | exact qcp (by rfl) | exact qbe (by rfl) | exact qbn (by rfl) | exact qsn (by rfl) | exact qad (by rfl) | exact qsa (by rfl) | exact qsu (by rfl) | exact QS_bin (by rfl) (by rfl) (by first | exact B_slnil | exact Bq_eql_Msg | exact Bq_neq_Msg | exact Bq_eql_Pair | exact Bq_neq_Pair | exact Bq_eql_Op | exact Bq_neq_Op | exact Bq_eql_Cfg | exact Bq_neq_Cfg)); rfl)
        | refine sst ?_
        | refine VS_nil ?_
        | refine eeq ?_
        | refine ees ?_ (by first | exact es1 (by rfl) | exact esN (by rfl))
        | refine VE_nil ?_
        | refine kyes ?_
        | refine kno ?_
        | refine gyes ?_
        | refine gno ?_
        | refine knoU ?_
        | refine gnoU ?_
        | refine VG_nil ⟨by rfl, ?_⟩
        | refine VG_nil ?_
        | refine dT ?_
        | refine d1 ?_
        | refine dQ ?_
        | refine ctr ?_
        | refine cfa ?_
        | refine kdec (fun hq => ?_) (fun hq => ?_)
        | refine gdec (fun hq => ?_) (fun hq => ?_)
        | refine cco (fun hq => ?_) (fun hq => ?_))
      refine forQ_next (Q := fun _ _ => True) [0, 3] (us ++ [Value.slice Au ns.length cu], rows ++ [ns], u2, qs, M4) ⟨rfl, rfl, ⟨rfl, ?_, trivial⟩, ⟨rfl, rfl, rfl, rfl, ?_, rfl, rfl, ?_, trivial⟩⟩ ⟨(hMx.trans hle3).trans hle4, by show (us ++ [Value.slice Au ns.length cu]).length ≤ _; omega, by show (rows ++ [ns]).length = (us ++ [Value.slice Au ns.length cu]).length; rw [List.length_append, List.length_append, hrl, hi]; rfl, hrows2 M4 hle4, fun _ => ⟨hqs1, ?_, fun k q hq => ?_⟩⟩ (by show L.length - (us ++ [Value.slice Au ns.length cu]).length < L.length - i; omega)
      · show some (Ob.row _ 1 (i + 1) (us ++ [Value.slice Au ns.length cu])) = some (Ob.row _ 1 (us ++ [Value.slice Au ns.length cu]).length (us ++ [Value.slice Au ns.length cu]))
        rw [hul]
      · show _ = some (SV.v (.int .i64 ((L.sum - (L.take (us ++ [Value.slice Au ns.length cu]).length).sum : Nat) : Int)))
        rw [hul, hfrom, ← hfr]; rfl
      · show _ = some (SV.v (.int .i64 (((us ++ [Value.slice Au ns.length cu]).length : Nat) : Int)))
        rw [hul]; rfl
      · show qs.length = L.getD (us ++ [Value.slice Au ns.length cu]).length 0
        rw [hul, getD_lt hlast, hqs2, hnn]
      · show q.Is (((us ++ [Value.slice Au ns.length cu]).length : Nat) : Int) (kN L (us ++ [Value.slice Au ns.length cu]).length k) (rN l.length L (us ++ [Value.slice Au ns.length cu]).length k)
        have := hqs3 k q hq
        rw [hul]
        unfold kN rN
        rw [if_neg (by omega), if_neg (by omega), Nat.add_sub_cancel, getD_lt hlast, getD_lt hlt, hnn, ← hps2]
        exact this
    · have d3 : decide ((i : Int) + 1 < (L.length : Int)) = false := decide_eq_false (by omega)
      repeat' (first
        | refine VC_seq ?_
        | refine VC_region ?_
        | refine VL_nil ?_
        | refine VC_ret ?_
        | refine VC_exit ?_
        | refine VC_block ?_
        | refine VC_skip ?_
        | refine kbox ?_
        | refine kall ?_
        | refine kst ?_
        | refine ksN ?_
        | refine klt ?_
        | refine kl1 ?_
        | refine klK ?_
        | refine kap ?_
        | ((first | apply VL_q | apply VG_q | apply VS_q2); (first  | exact qmv (by rfl) | exact qas (by rfl) | exact ql1 (by rfl) | exact qlA (by rfl) | exact qfa (by rfl) | exact qmf (by rfl) | exact qfd (by rfl) | exact qm1 (by rfl) | exact qbd (by rfl) | exact qno (by rfl) | exact qex (by rfl) | exact qln (by rfl) | exact qls (by rfl) | exact qlr (by rfl) | exact qpt (by rfl) | exact qpf (by rfl) | exact qcp (by rfl) | exact qbe (by rfl) | exact qbn (by rfl) | exact qsn (by rfl) | exact qad (by rfl) | exact qsa (by rfl) | exact qsu (by rfl) | exact QS_bin (by rfl) (by rfl) (by first | exact B_slnil | exact Bq_eql_Msg | exact Bq_neq_Msg | exact Bq_eql_Pair | exact Bq_neq_Pair | exact Bq_eql_Op | exact Bq_neq_Op | exact Bq_eql_Cfg | exact Bq_neq_Cfg)); rfl)
        | refine sst ?_
        | refine VS_nil ?_
        | refine eeq ?_
        | refine ees ?_ (by first | exact es1 (by rfl) | exact esN (by rfl))
        | refine VE_nil ?_
        | refine kyes ?_
        | refine kno ?_
        | refine gyes ?_
        | refine gno ?_
        | refine knoU ?_
        | refine gnoU ?_
        | refine VG_nil ⟨by rfl, ?_⟩
        | refine VG_nil ?_
        | refine dT ?_
        | refine d1 ?_
        | refine dQ ?_
        | refine ctr ?_
        | refine cfa ?_
        | refine kdec (fun hq => ?_) (fun hq => ?_)
        | refine gdec (fun hq => ?_) (fun hq => ?_)
        | refine cco (fun hq => ?_) (fun hq => ?_))
      refine forQ_next (Q := fun _ _ => True) [0, 3] (us ++ [Value.slice Au ns.length cu], rows ++ [ns], uv, ps, M3) ⟨rfl, rfl, ⟨rfl, ?_, trivial⟩, ⟨rfl, rfl, rfl, rfl, ?_, rfl, rfl, ?_, trivial⟩⟩ ⟨hMx.trans hle3, by show (us ++ [Value.slice Au ns.length cu]).length ≤ _; omega, by show (rows ++ [ns]).length = (us ++ [Value.slice Au ns.length cu]).length; rw [List.length_append, List.length_append, hrl, hi]; rfl, hrows2 M3 (Mem.le_refl _), fun h => absurd h (by show ¬ (us ++ [Value.slice Au ns.length cu]).length < _; omega)⟩ (by show L.length - (us ++ [Value.slice Au ns.length cu]).length < L.length - i; omega)
      · show some (Ob.row _ 1 (i + 1) (us ++ [Value.slice Au ns.length cu])) = some (Ob.row _ 1 (us ++ [Value.slice Au ns.length cu]).length (us ++ [Value.slice Au ns.length cu]))
        rw [hul]
      · show _ = some (SV.v (.int .i64 ((L.sum - (L.take (us ++ [Value.slice Au ns.length cu]).length).sum : Nat) : Int)))
        rw [hul, hfrom, ← hfr]; rfl
      · show _ = some (SV.v (.int .i64 (((us ++ [Value.slice Au ns.length cu]).length : Nat) : Int)))
        rw [hul]; rfl
  · have hd := dge hge
    obtain rfl : i = L.length := by omega
    have hone : ∀ u ∈ us, u.oneCell' = true := fun u hu => by
      obtain ⟨j, hj, rfl⟩ := List.getElem_of_mem hu
      obtain ⟨⟨A1, c2, h1, _⟩, _⟩ := hrows j _ _ (List.getElem?_eq_getElem hj) (List.getElem?_eq_getElem (by omega))
      rw [h1]; rfl
    have hflen : rows.reverse.flatten.length = L.sum := by
      have : ∀ (rs : List (List Pt)) (L : List Nat), rs.length = L.length → (∀ (i : Nat) (r : List Pt), rs[i]? = some r → r.length = L.getD i 0) → rs.flatten.length = L.sum := fun rs => by
        induction rs with
        | nil => intro L h _; cases L <;> simp at h ⊢
        | cons r t ih =>
          intro L h hh
          cases L with
          | nil => simp at h
          | cons a L =>
            have h1 := hh 0 r rfl
            have h2 := ih L (by simpa using h) (fun i r hi => by have := hh (i + 1) r (by simpa using hi); simpa using this)
            simp at h1
            simp [h1, ← h2]
      have h2 := this rows L hrl (fun i r h => (hrows i _ r (List.getElem?_eq_getElem (by have := (List.getElem?_eq_some_iff.1 h).1; omega)) h).2.1)
      rw [← h2]
      simp [List.length_flatten, List.sum_reverse]
    repeat' (first
      | refine VC_seq ?_
      | refine VC_region ?_
      | refine VL_nil ?_
      | refine VC_ret ?_
      | refine VC_exit ?_
      | refine VC_block ?_
      | refine VC_skip ?_
      | refine kbox ?_
      | refine kall ?_
      | refine kst ?_
      | refine ksN ?_
      | refine klt ?_
      | refine kl1 ?_
      | refine klK ?_
      | refine kap ?_
      | ((first | apply VL_q | apply VG_q | apply VS_q2); (first  | exact qmv (by rfl) | exact qas (by rfl) | exact ql1 (by rfl) | exact qlA (by rfl) | exact qfa (by rfl) | exact qmf (by rfl) | exact qfd (by rfl) | exact qm1 (by rfl) | exact qbd (by rfl) | exact qno (by rfl) | exact qex (by rfl) | exact qln (by rfl) | exact qls (by rfl) | exact qlr (by rfl) | exact qpt (by rfl) | exact qpf (by rfl) | exact qcp (by rfl) | exact qbe (by rfl) | exact qbn (by rfl) | exact qsn (by rfl) | exact qad (by rfl) | exact qsa (by rfl) | exact qsu (by rfl) | exact QS_bin (by rfl) (by rfl) (by first | exact B_slnil | exact Bq_eql_Msg | exact Bq_neq_Msg | exact Bq_eql_Pair | exact Bq_neq_Pair | exact Bq_eql_Op | exact Bq_neq_Op | exact Bq_eql_Cfg | exact Bq_neq_Cfg)); rfl)
      | refine sst ?_
      | refine VS_nil ?_
      | refine eeq ?_
      | refine ees ?_ (by first | exact es1 (by rfl) | exact esN (by rfl))
      | refine VE_nil ?_
      | refine kyes ?_
      | refine kno ?_
      | refine gyes ?_
      | refine gno ?_
      | refine knoU ?_
      | refine gnoU ?_
      | refine VG_nil ⟨by rfl, ?_⟩
      | refine VG_nil ?_
      | refine dT ?_
      | refine d1 ?_
      | refine dQ ?_
      | refine ctr ?_
      | refine cfa ?_
      | refine kdec (fun hq => ?_) (fun hq => ?_)
      | refine gdec (fun hq => ?_) (fun hq => ?_)
      | refine cco (fun hq => ?_) (fun hq => ?_))
    refine VL_nameR 1 (by rfl) (fun v hv => ?_)
    obtain ⟨g, cap, rfl⟩ := hv.some (by omega)
    refine VL_callX (own1 := [.nrow (.slice (some ⟨g, 0, none⟩) L.length cap) 49 1 L.length us]) [1] (by rfl) (by rfl) ⟨rfl, trivial⟩ (fun M' _ => slices_ReverseN g cap L.length us M' hi hLn hone) (by rfl) (by rfl) ?_
    rintro _ _ ⟨rfl, rfl⟩
    repeat' (first
      | refine VC_seq ?_
      | refine VC_region ?_
      | refine VL_nil ?_
      | refine VC_ret ?_
      | refine VC_exit ?_
      | refine VC_block ?_
      | refine VC_skip ?_
      | refine kbox ?_
      | refine kall ?_
      | refine kst ?_
      | refine ksN ?_
      | refine klt ?_
      | refine kl1 ?_
      | refine klK ?_
      | refine kap ?_
      | ((first | apply VL_q | apply VG_q | apply VS_q2); (first  | exact qmv (by rfl) | exact qas (by rfl) | exact ql1 (by rfl) | exact qlA (by rfl) | exact qfa (by rfl) | exact qmf (by rfl) | exact qfd (by rfl) | exact qm1 (by rfl) | exact qbd (by rfl) | exact qno (by rfl) | exact qex (by rfl) | exact qln (by rfl) | exact qls (by rfl) | exact qlr (by rfl) | exact qpt (by rfl) | exact qpf (by rfl) | exact qcp (by rfl) | exact qbe (by rfl) | exact qbn (by rfl) | exact qsn (by rfl) | exact qad (by rfl) | exact qsa (by rfl) | exact qsu (by rfl) | exact QS_bin (by rfl) (by rfl) (by first | exact B_slnil | exact Bq_eql_Msg | exact Bq_neq_Msg | exact Bq_eql_Pair | exact Bq_neq_Pair | exact Bq_eql_Op | exact Bq_neq_Op | exact Bq_eql_Cfg | exact Bq_neq_Cfg)); rfl)
      | refine sst ?_
      | refine VS_nil ?_
      | refine eeq ?_
      | refine ees ?_ (by first | exact es1 (by rfl) | exact esN (by rfl))
      | refine VE_nil ?_
      | refine kyes ?_
      | refine kno ?_
      | refine gyes ?_
      | refine gno ?_
      | refine knoU ?_
      | refine gnoU ?_
      | refine VG_nil ⟨by rfl, ?_⟩
      | refine VG_nil ?_
      | refine dT ?_
      | refine d1 ?_
      | refine dQ ?_
      | refine ctr ?_
      | refine cfa ?_
      | refine kdec (fun hq => ?_) (fun hq => ?_)
      | refine gdec (fun hq => ?_) (fun hq => ?_)
      | refine cco (fun hq => ?_) (fun hq => ?_))
    refine VL_frzN 2 (by rfl) (fun M5 hle5 hrow5 => ?_)
    have hval : ∀ us : List Value, us.flatMap valK = us := fun us => by induction us with | nil => rfl | cons a t ih => rw [List.flatMap_cons, ih]; rfl
    have hSv : SlM M5 1 valK (.slice (some ⟨g, 0, none⟩) L.length cap) us.reverse := RowM.slM (fun _ _ => rfl) (by rw [hval, List.length_reverse, hi]; exact hrow5)
    have hpr : ∀ (j : Nat) (u' : Value) (r : List Pt), us.reverse[j]? = some u' → rows.reverse[j]? = some r → ∃ j2, SlM M5 10 ndK u' r ∧ LvRow l.length L j2 r ∧ j2 < L.length := fun j u' r h1 h2 => by
      have hj : j < us.length := by have := (List.getElem?_eq_some_iff.1 h1).1; rwa [List.length_reverse] at this
      rw [List.getElem?_reverse hj] at h1
      rw [List.getElem?_reverse (by omega)] at h2
      rw [show rows.length - 1 - j = us.length - 1 - j by omega] at h2
      obtain ⟨g1, g2⟩ := hrows _ _ _ h1 h2
      exact ⟨_, g1.mono hle5, g2, by omega⟩
    have cC : ∀ W, M5.le (Mem.of W) → Calls Try.prog 69 #[.slice (some ⟨g, 0, none⟩) L.length cap] W (RetRow 64 10 rows.reverse.flatten.length (rows.reverse.flatten.flatMap ndK) W) := fun W hW =>
      slices_ConcatN _ us.reverse rows.reverse W M5 hW hSv (by rw [List.length_reverse, List.length_reverse, hrl, hi]) (fun j u' r h1 h2 => by
        obtain ⟨j2, g1, g2, g3⟩ := hpr j u' r h1 h2
        refine ⟨g1, fun e => ?_⟩
        have := hLp j2 g3
        have h5 := g2.1
        rw [e, List.length_nil] at h5
        omega) (fun r hr2 q hq => by
        obtain ⟨j, hj, rfl⟩ := List.getElem_of_mem hr2
        obtain ⟨j2, g1, g2, g3⟩ := hpr j _ _ (List.getElem?_eq_getElem (by rw [List.length_reverse] at hj ⊢; omega)) (List.getElem?_eq_getElem hj)
        obtain ⟨k, hk, rfl⟩ := List.getElem_of_mem hq
        exact (g2.2 k _ (List.getElem?_eq_getElem hk)).2.2) (by
        rw [hflen]
        have := sum_le h0
        have := hLp 0 h0
        rw [getD_lt h0] at this
        simp at *
        omega) (by rw [hflen]; omega)
    refine VL_callO (by rfl) cC (by rfl) (by rfl) ?_
    repeat' (first
      | refine VC_seq ?_
      | refine VC_region ?_
      | refine VL_nil ?_
      | refine VC_ret ?_
      | refine VC_exit ?_
      | refine VC_block ?_
      | refine VC_skip ?_
      | refine kbox ?_
      | refine kall ?_
      | refine kst ?_
      | refine ksN ?_
      | refine klt ?_
      | refine kl1 ?_
      | refine klK ?_
      | refine kap ?_
      | ((first | apply VL_q | apply VG_q | apply VS_q2); (first  | exact qmv (by rfl) | exact qas (by rfl) | exact ql1 (by rfl) | exact qlA (by rfl) | exact qfa (by rfl) | exact qmf (by rfl) | exact qfd (by rfl) | exact qm1 (by rfl) | exact qbd (by rfl) | exact qno (by rfl) | exact qex (by rfl) | exact qln (by rfl) | exact qls (by rfl) | exact qlr (by rfl) | exact qpt (by rfl) | exact qpf (by rfl) | exact qcp (by rfl) | exact qbe (by rfl) | exact qbn (by rfl) | exact qsn (by rfl) | exact qad (by rfl) | exact qsa (by rfl) | exact qsu (by rfl) | exact QS_bin (by rfl) (by rfl) (by first | exact B_slnil | exact Bq_eql_Msg | exact Bq_neq_Msg | exact Bq_eql_Pair | exact Bq_neq_Pair | exact Bq_eql_Op | exact Bq_neq_Op | exact Bq_eql_Cfg | exact Bq_neq_Cfg)); rfl)
      | refine sst ?_
      | refine VS_nil ?_
      | refine eeq ?_
      | refine ees ?_ (by first | exact es1 (by rfl) | exact esN (by rfl))
      | refine VE_nil ?_
      | refine kyes ?_
      | refine kno ?_
      | refine gyes ?_
      | refine gno ?_
      | refine knoU ?_
      | refine gnoU ?_
      | refine VG_nil ⟨by rfl, ?_⟩
      | refine VG_nil ?_
      | refine dT ?_
      | refine d1 ?_
      | refine dQ ?_
      | refine ctr ?_
      | refine cfa ?_
      | refine kdec (fun hq => ?_) (fun hq => ?_)
      | refine gdec (fun hq => ?_) (fun hq => ?_)
      | refine cco (fun hq => ?_) (fun hq => ?_))
    refine .inr ⟨3, _, _, _, _, rfl, fun u M' hle hu => ⟨_, Res.two (by rfl) (ResV_tmp (by rfl) rfl) (ResV_tmp (by rfl) rfl), _, rfl, rows, RowM.slM (fun _ _ => rfl) hu, hrl, fun i r h => (hrows i _ r (List.getElem?_eq_getElem (by have := (List.getElem?_eq_some_iff.1 h).1; omega)) h).2⟩⟩
end Go.Proofs.Ytdgcdfngpimmmaa
