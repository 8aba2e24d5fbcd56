/- The bulk layer: the lowest level. -/
import Derived.Test.YtdgcdfngpimmmaaPBk2
import Derived.Test.YtdgcdfngpimmmaaPLg5
namespace Go.Proofs.Ytdgcdfngpimmmaa
open Go Go.RowKit
attribute [local irreducible] Calls
set_option linter.unusedVariables false
set_option maxRecDepth 20000
set_option linter.unusedSimpArgs false
set_option maxHeartbeats 4000000
def comN : List UInt8 → List UInt8 → Nat
  | x :: a, y :: b => if x = y then comN a b + 1 else 0
  | _, _ => 0
theorem comN_step {a b : List UInt8} {k : Nat} (h1 : k < a.length) (h2 : k < b.length) (h : a[k] = b[k]) : comN (a.drop k) (b.drop k) = comN (a.drop (k + 1)) (b.drop (k + 1)) + 1 := by
  rw [List.drop_eq_getElem_cons h1, List.drop_eq_getElem_cons h2]
  show (if a[k] = b[k] then _ else 0) = _
  rw [if_pos h]
theorem comN_stop {a b : List UInt8} {k : Nat} (h1 : k < a.length) (h2 : k < b.length) (h : a[k] ≠ b[k]) : comN (a.drop k) (b.drop k) = 0 := by
  rw [List.drop_eq_getElem_cons h1, List.drop_eq_getElem_cons h2]
  show (if a[k] = b[k] then _ else 0) = _
  rw [if_neg h]
theorem comN_end {a b : List UInt8} {k : Nat} (h : a.length ≤ k ∨ b.length ≤ k) : comN (a.drop k) (b.drop k) = 0 := by
  rcases h with h | h
  · rw [List.drop_eq_nil_of_le h]; rfl
  · rw [List.drop_eq_nil_of_le h]
    cases a.drop k <;> rfl
theorem byt_at {s : ByteArray} {k : Nat} (h : k < (bl s).length) : byt s k = (((bl s)[k]).toNat : Int) := by
  unfold byt
  show ((((bl s).getD k 0).toNat : Nat) : Int) = _
  rw [List.getD_eq_getElem?_getD, List.getElem?_eq_getElem h]; rfl
theorem bl_size' (s : ByteArray) : (bl s).length = s.size := by simp [bl]
theorem key_Common (a b : ByteArray) (w : World) (ha : a.size ≤ 1000000) (hb : b.size ≤ 1000000) : Calls Try.prog 128 #[.string a, .string b] w fun e w' => e = .returned (.int .i64 ((comN (bl a) (bl b) : Nat) : Int)) ∧ Below w.heap.size w w' := by
  have hla := bl_size' a
  have hlb := bl_size' b
  have hmin : (if (b.size : Int) < (a.size : Int) then (b.size : Int) else (a.size : Int)) = ((min a.size b.size : Nat) : Int) := by split <;> omega
  refine V_flat (args := [.string a, .string b]) (M := Mem.no) Try.func128 rfl Try.ntmps128 (by rfl) (Mem.no_le _) ?_
  repeat' (first
    | refine VC_seq ?_
    | refine VC_region ?_
    | refine VL_nil ?_
    | refine VC_ret ?_
    | refine VC_exit ?_
    | refine VC_block ?_
    | refine VC_skip ?_
    | refine kbox ?_
    | refine kall ?_
    | refine kst ?_
    | refine ksN ?_
    | refine klt ?_
    | refine kl1 ?_
    | refine klK ?_
    | refine kap ?_
    | ((first | apply VL_q | apply VG_q | apply VS_q2); (first  | exact qmv (by rfl) | exact qas (by rfl) | exact ql1 (by rfl) | exact qlA (by rfl) | exact qfa (by rfl) | exact qmf (by rfl) | exact qfd (by rfl) | exact qm1 (by rfl) | exact qbd (by rfl) | exact qno (by rfl) | exact qex (by rfl) | exact qln (by rfl) | exact qls (by rfl) | exact qlr (by rfl) | exact qpt (by rfl) | exact qpf (by rfl) | exact qcp (by rfl) | exact qbe (by rfl) | exact qbn (by rfl) | exact qsn (by rfl) | exact qad (by rfl) | exact qsa (by rfl) | exact qsu (by rfl) | exact QS_bin (by rfl) (by rfl) (by first | exact B_slnil | exact Bq_eql_Msg | exact Bq_neq_Msg | exact Bq_eql_Pair | exact Bq_neq_Pair | exact Bq_eql_Op | exact Bq_neq_Op | exact Bq_eql_Cfg | exact Bq_neq_Cfg)); rfl)
    | refine sst ?_
    | refine VS_nil ?_
    | refine eeq ?_
    | refine ees ?_ (by first | exact es1 (by rfl) | exact esN (by rfl))
    | refine VE_nil ?_
    | refine kyes ?_
    | refine kno ?_
    | refine gyes ?_
    | refine gno ?_
    | refine knoU ?_
    | refine gnoU ?_
    | refine VG_nil ⟨by rfl, ?_⟩
    | refine VG_nil ?_
    | refine dT ?_
    | refine d1 ?_
    | refine dQ ?_
    | refine ctr ?_
    | refine cfa ?_
    | refine kdec (fun hq => ?_) (fun hq => ?_)
    | refine gdec (fun hq => ?_) (fun hq => ?_)
    | refine cco (fun hq => ?_) (fun hq => ?_))
  refine VC_for (fun k : Nat => ⟨Mem.no, [], [(0, .v (.string a)), (1, .v (.string b)), (5, .v (.int .i64 k))]⟩) (fun k => k ≤ a.size ∧ comN (bl a) (bl b) = k + comN ((bl a).drop k) ((bl b).drop k)) (fun k => a.size - k) [] 0 ⟨rfl, rfl, trivial, ⟨rfl, rfl, rfl, trivial⟩⟩ ⟨by omega, by simp⟩ ?_
  rintro k ⟨hk, hr⟩
  by_cases hlt : k < a.size ∧ k < b.size
  · have d1 : decide ((k : Int) < (if (b.size : Int) < (a.size : Int) then (b.size : Int) else (a.size : Int))) = true := by rw [hmin]; exact decide_eq_true (by omega)
    have h1 : k < (bl a).length := by omega
    have h2 : k < (bl b).length := by omega
    have e1 := byt_at h1
    have e2 := byt_at h2
    by_cases hq : (bl a)[k] = (bl b)[k]
    · have d2 : (byt a k == byt b k) = true := by rw [e1, e2, hq]; simp
      repeat' (first
        | refine VC_seq ?_
        | refine VC_region ?_
        | refine VL_nil ?_
        | refine VC_ret ?_
        | refine VC_exit ?_
        | refine VC_block ?_
        | refine VC_skip ?_
        | refine kbox ?_
        | refine kall ?_
        | refine kst ?_
        | refine ksN ?_
        | refine klt ?_
        | refine kl1 ?_
        | refine klK ?_
        | refine kap ?_
        | ((first | apply VL_q | apply VG_q | apply VS_q2); (first | exact QS_min (by rfl) (by rfl) (fun W => run_min_int2 W _ _ _ _ _ _) | exact QS_index k (by rfl) (by rfl) rfl hlt.1 | exact QS_index k (by rfl) (by rfl) rfl hlt.2 | exact qmv (by rfl) | exact qas (by rfl) | exact ql1 (by rfl) | exact qlA (by rfl) | exact qfa (by rfl) | exact qmf (by rfl) | exact qfd (by rfl) | exact qm1 (by rfl) | exact qbd (by rfl) | exact qno (by rfl) | exact qex (by rfl) | exact qln (by rfl) | exact qls (by rfl) | exact qlr (by rfl) | exact qpt (by rfl) | exact qpf (by rfl) | exact qcp (by rfl) | exact qbe (by rfl) | exact qbn (by rfl) | exact qsn (by rfl) | exact qad (by rfl) | exact qsa (by rfl) | exact qsu (by rfl) | exact QS_bin (by rfl) (by rfl) (by first | exact B_slnil | exact Bq_eql_Msg | exact Bq_neq_Msg | exact Bq_eql_Pair | exact Bq_neq_Pair | exact Bq_eql_Op | exact Bq_neq_Op | exact Bq_eql_Cfg | exact Bq_neq_Cfg)); rfl)
        | refine sst ?_
        | refine VS_nil ?_
        | refine eeq ?_
        | refine ees ?_ (by first | exact es1 (by rfl) | exact esN (by rfl))
        | refine VE_nil ?_
        | refine kyes ?_
        | refine kno ?_
        | refine gyes ?_
        | refine gno ?_
        | refine knoU ?_
        | refine gnoU ?_
        | refine VG_nil ⟨by rfl, ?_⟩
        | refine VG_nil ?_
        | refine dT ?_
        | refine d1 ?_
        | refine dQ ?_
        | refine ctr ?_
        | refine cfa ?_
        | refine kdec (fun hq => ?_) (fun hq => ?_)
        | refine gdec (fun hq => ?_) (fun hq => ?_)
        | refine cco (fun hq => ?_) (fun hq => ?_))
      exact forQ_next (Q := fun _ _ => True) [] (k + 1) ⟨rfl, rfl, trivial, ⟨rfl, rfl, rfl, trivial⟩⟩ ⟨by omega, by rw [hr, comN_step h1 h2 hq]; omega⟩ (by omega)
    · have d2 : (byt a k == byt b k) = false := by
        rw [e1, e2, beq_eq_false_iff_ne]
        intro h
        exact hq (UInt8.toNat_inj.1 (by omega))
      repeat' (first
        | refine VC_seq ?_
        | refine VC_region ?_
        | refine VL_nil ?_
        | refine VC_ret ?_
        | refine VC_exit ?_
        | refine VC_block ?_
        | refine VC_skip ?_
        | refine kbox ?_
        | refine kall ?_
        | refine kst ?_
        | refine ksN ?_
        | refine klt ?_
        | refine kl1 ?_
        | refine klK ?_
        | refine kap ?_
        | ((first | apply VL_q | apply VG_q | apply VS_q2); (first | exact QS_min (by rfl) (by rfl) (fun W => run_min_int2 W _ _ _ _ _ _) | exact QS_index k (by rfl) (by rfl) rfl hlt.1 | exact QS_index k (by rfl) (by rfl) rfl hlt.2 | exact qmv (by rfl) | exact qas (by rfl) | exact ql1 (by rfl) | exact qlA (by rfl) | exact qfa (by rfl) | exact qmf (by rfl) | exact qfd (by rfl) | exact qm1 (by rfl) | exact qbd (by rfl) | exact qno (by rfl) | exact qex (by rfl) | exact qln (by rfl) | exact qls (by rfl) | exact qlr (by rfl) | exact qpt (by rfl) | exact qpf (by rfl) | exact qcp (by rfl) | exact qbe (by rfl) | exact qbn (by rfl) | exact qsn (by rfl) | exact qad (by rfl) | exact qsa (by rfl) | exact qsu (by rfl) | exact QS_bin (by rfl) (by rfl) (by first | exact B_slnil | exact Bq_eql_Msg | exact Bq_neq_Msg | exact Bq_eql_Pair | exact Bq_neq_Pair | exact Bq_eql_Op | exact Bq_neq_Op | exact Bq_eql_Cfg | exact Bq_neq_Cfg)); rfl)
        | refine sst ?_
        | refine VS_nil ?_
        | refine eeq ?_
        | refine ees ?_ (by first | exact es1 (by rfl) | exact esN (by rfl))
        | refine VE_nil ?_
        | refine kyes ?_
        | refine kno ?_
        | refine gyes ?_
        | refine gno ?_
        | refine knoU ?_
        | refine gnoU ?_
        | refine VG_nil ⟨by rfl, ?_⟩
        | refine VG_nil ?_
        | refine dT ?_
        | refine d1 ?_
        | refine dQ ?_
        | refine ctr ?_
        | refine cfa ?_
        | refine kdec (fun hq => ?_) (fun hq => ?_)
        | refine gdec (fun hq => ?_) (fun hq => ?_)
        | refine cco (fun hq => ?_) (fun hq => ?_))
      show Res _ _ _ _
      refine Res.one (by rfl) (ResV_tmp (by rfl) ?_)
      rw [hr, comN_stop h1 h2 hq, Nat.add_zero]
  · have d1 : decide ((k : Int) < (if (b.size : Int) < (a.size : Int) then (b.size : Int) else (a.size : Int))) = false := by rw [hmin]; exact decide_eq_false (by omega)
    repeat' (first
      | refine VC_seq ?_
      | refine VC_region ?_
      | refine VL_nil ?_
      | refine VC_ret ?_
      | refine VC_exit ?_
      | refine VC_block ?_
      | refine VC_skip ?_
      | refine kbox ?_
      | refine kall ?_
      | refine kst ?_
      | refine ksN ?_
      | refine klt ?_
      | refine kl1 ?_
      | refine klK ?_
      | refine kap ?_
      | ((first | apply VL_q | apply VG_q | apply VS_q2); (first | exact QS_min (by rfl) (by rfl) (fun W => run_min_int2 W _ _ _ _ _ _) | exact qmv (by rfl) | exact qas (by rfl) | exact ql1 (by rfl) | exact qlA (by rfl) | exact qfa (by rfl) | exact qmf (by rfl) | exact qfd (by rfl) | exact qm1 (by rfl) | exact qbd (by rfl) | exact qno (by rfl) | exact qex (by rfl) | exact qln (by rfl) | exact qls (by rfl) | exact qlr (by rfl) | exact qpt (by rfl) | exact qpf (by rfl) | exact qcp (by rfl) | exact qbe (by rfl) | exact qbn (by rfl) | exact qsn (by rfl) | exact qad (by rfl) | exact qsa (by rfl) | exact qsu (by rfl) | exact QS_bin (by rfl) (by rfl) (by first | exact B_slnil | exact Bq_eql_Msg | exact Bq_neq_Msg | exact Bq_eql_Pair | exact Bq_neq_Pair | exact Bq_eql_Op | exact Bq_neq_Op | exact Bq_eql_Cfg | exact Bq_neq_Cfg)); rfl)
      | refine sst ?_
      | refine VS_nil ?_
      | refine eeq ?_
      | refine ees ?_ (by first | exact es1 (by rfl) | exact esN (by rfl))
      | refine VE_nil ?_
      | refine kyes ?_
      | refine kno ?_
      | refine gyes ?_
      | refine gno ?_
      | refine knoU ?_
      | refine gnoU ?_
      | refine VG_nil ⟨by rfl, ?_⟩
      | refine VG_nil ?_
      | refine dT ?_
      | refine d1 ?_
      | refine dQ ?_
      | refine ctr ?_
      | refine cfa ?_
      | refine kdec (fun hq => ?_) (fun hq => ?_)
      | refine gdec (fun hq => ?_) (fun hq => ?_)
      | refine cco (fun hq => ?_) (fun hq => ?_))
    show Res _ _ _ _
    refine Res.one (by rfl) (ResV_tmp (by rfl) ?_)
    rw [hr, comN_end (by omega), Nat.add_zero]
def betw (a b : ByteArray) : ByteArray := b.extract 0 (comN (bl a) (bl b) + 1)
theorem key_Between (a b : ByteArray) (w : World) (ha : a.size ≤ 1000000) (hb : b.size ≤ 1000000) (hlt : lt a b = true) (hc : comN (bl a) (bl b) < b.size) : Calls Try.prog 110 #[.string a, .string b] w fun e w' => e = .returned (.tuple #[.string (betw a b), .bool true]) ∧ Below w.heap.size w w' := by
  have cC := fun W => key_Common a b W ha hb
  have d1 : (!lt a b) = false := by rw [hlt]; rfl
  unfold betw
  generalize comN (bl a) (bl b) = n at *
  refine V_flat (args := [.string a, .string b]) (M := Mem.no) Try.func110 rfl Try.ntmps110 (by rfl) (Mem.no_le _) ?_
  repeat' (first
    | refine VC_seq ?_
    | refine VC_region ?_
    | refine VL_nil ?_
    | refine VC_ret ?_
    | refine VC_exit ?_
    | refine VC_block ?_
    | refine VC_skip ?_
    | refine kbox ?_
    | refine kall ?_
    | refine kst ?_
    | refine ksN ?_
    | refine klt ?_
    | refine kl1 ?_
    | refine klK ?_
    | refine kap ?_
    | ((first | apply VL_q | apply VG_q | apply VS_q2); (first | exact QS_call (by rfl) (fun W _ => cC W) | exact QS_cutS 0 (n + 1) (by rfl) rfl (by rfl) (by omega) (by omega) | exact qmv (by rfl) | exact qas (by rfl) | exact ql1 (by rfl) | exact qlA (by rfl) | exact qfa (by rfl) | exact qmf (by rfl) | exact qfd (by rfl) | exact qm1 (by rfl) | exact qbd (by rfl) | exact qno (by rfl) | exact qex (by rfl) | exact qln (by rfl) | exact qls (by rfl) | exact qlr (by rfl) | exact qpt (by rfl) | exact qpf (by rfl) | exact qcp (by rfl) | exact qbe (by rfl) | exact qbn (by rfl) | exact qsn (by rfl) | exact qad (by rfl) | exact qsa (by rfl) | exact qsu (by rfl) | exact QS_bin (by rfl) (by rfl) (by first | exact B_slnil | exact Bq_eql_Msg | exact Bq_neq_Msg | exact Bq_eql_Pair | exact Bq_neq_Pair | exact Bq_eql_Op | exact Bq_neq_Op | exact Bq_eql_Cfg | exact Bq_neq_Cfg)); rfl)
    | refine sst ?_
    | refine VS_nil ?_
    | refine eeq ?_
    | refine ees ?_ (by first | exact es1 (by rfl) | exact esN (by rfl))
    | refine VE_nil ?_
    | refine kyes ?_
    | refine kno ?_
    | refine gyes ?_
    | refine gno ?_
    | refine knoU ?_
    | refine gnoU ?_
    | refine VG_nil ⟨by rfl, ?_⟩
    | refine VG_nil ?_
    | refine dT ?_
    | refine d1 ?_
    | refine dQ ?_
    | refine ctr ?_
    | refine cfa ?_
    | refine kdec (fun hq => ?_) (fun hq => ?_)
    | refine gdec (fun hq => ?_) (fun hq => ?_)
    | refine cco (fun hq => ?_) (fun hq => ?_))
  exact Res.two (by rfl) (ResV_tmp (by rfl) rfl) (ResV_tmp (by rfl) rfl)
theorem slices_CloneP (v : Value) (l : List Pair) (w : World) (hl : Sl w 2 pairCells v l) (hn : l.length ≤ 1000000) :
    Calls Try.prog 109 #[v] w (RetRow 72 2 l.length (l.flatMap pairCells) w) := by
  obtain ⟨A, c, rfl, hc1, hc2, hv⟩ := id hl
  have hM := hl.toM
  refine V_rowN (args := [.slice A l.length c]) (M := Mem.of w) Try.func109 rfl Try.ntmps109 (by rfl) (Mem.le_refl _) rfl ?_
  cases A with
  | none =>
    have h0 : l = [] := by
      rcases hv with h | ⟨b, off, h, _⟩
      · exact h
      · cases h
    subst h0
    have hn : (none : Option Addr).isNone = true := rfl
    repeat' (first
      | refine VC_seq ?_
      | refine VC_region ?_
      | refine VL_nil ?_
      | refine VC_ret ?_
      | refine VC_exit ?_
      | refine VC_block ?_
      | refine VC_skip ?_
      | refine kbox ?_
      | refine kall ?_
      | refine kst ?_
      | refine ksN ?_
      | refine klt ?_
      | refine kl1 ?_
      | refine klK ?_
      | refine kap ?_
      | ((first | apply VL_q | apply VG_q | apply VS_q2); (first  | exact qmv (by rfl) | exact qas (by rfl) | exact ql1 (by rfl) | exact qlA (by rfl) | exact qfa (by rfl) | exact qmf (by rfl) | exact qfd (by rfl) | exact qm1 (by rfl) | exact qbd (by rfl) | exact qno (by rfl) | exact qex (by rfl) | exact qln (by rfl) | exact qls (by rfl) | exact qlr (by rfl) | exact qpt (by rfl) | exact qpf (by rfl) | exact qcp (by rfl) | exact qbe (by rfl) | exact qbn (by rfl) | exact qsn (by rfl) | exact qad (by rfl) | exact qsa (by rfl) | exact qsu (by rfl) | exact QS_bin (by rfl) (by rfl) (by first | exact B_slnil | exact Bq_eql_Msg | exact Bq_neq_Msg | exact Bq_eql_Pair | exact Bq_neq_Pair | exact Bq_eql_Op | exact Bq_neq_Op | exact Bq_eql_Cfg | exact Bq_neq_Cfg)); rfl)
      | refine sst ?_
      | refine VS_nil ?_
      | refine eeq ?_
      | refine ees ?_ (by first | exact es1 (by rfl) | exact esN (by rfl))
      | refine VE_nil ?_
      | refine kyes ?_
      | refine kno ?_
      | refine gyes ?_
      | refine gno ?_
      | refine knoU ?_
      | refine gnoU ?_
      | refine VG_nil ⟨by rfl, ?_⟩
      | refine VG_nil ?_
      | refine dT ?_
      | refine d1 ?_
      | refine dQ ?_
      | refine ctr ?_
      | refine cfa ?_
      | refine kdec (fun hq => ?_) (fun hq => ?_)
      | refine gdec (fun hq => ?_) (fun hq => ?_)
      | refine cco (fun hq => ?_) (fun hq => ?_))
    exact .inr ⟨rfl, rfl, rfl⟩
  | some a =>
    have hn' : (some a : Option Addr).isNone = false := rfl
    by_cases h0 : l = []
    · subst h0
      repeat' (first
        | refine VC_seq ?_
        | refine VC_region ?_
        | refine VL_nil ?_
        | refine VC_ret ?_
        | refine VC_exit ?_
        | refine VC_block ?_
        | refine VC_skip ?_
        | refine kbox ?_
        | refine kall ?_
        | refine kst ?_
        | refine ksN ?_
        | refine klt ?_
        | refine kl1 ?_
        | refine klK ?_
        | refine kap ?_
        | ((first | apply VL_q | apply VG_q | apply VS_q2); (first | exact QS_append_nilR (by rfl) (by rfl) (by rfl) | exact qmv (by rfl) | exact qas (by rfl) | exact ql1 (by rfl) | exact qlA (by rfl) | exact qfa (by rfl) | exact qmf (by rfl) | exact qfd (by rfl) | exact qm1 (by rfl) | exact qbd (by rfl) | exact qno (by rfl) | exact qex (by rfl) | exact qln (by rfl) | exact qls (by rfl) | exact qlr (by rfl) | exact qpt (by rfl) | exact qpf (by rfl) | exact qcp (by rfl) | exact qbe (by rfl) | exact qbn (by rfl) | exact qsn (by rfl) | exact qad (by rfl) | exact qsa (by rfl) | exact qsu (by rfl) | exact QS_bin (by rfl) (by rfl) (by first | exact B_slnil | exact Bq_eql_Msg | exact Bq_neq_Msg | exact Bq_eql_Pair | exact Bq_neq_Pair | exact Bq_eql_Op | exact Bq_neq_Op | exact Bq_eql_Cfg | exact Bq_neq_Cfg)); rfl)
        | refine sst ?_
        | refine VS_nil ?_
        | refine eeq ?_
        | refine ees ?_ (by first | exact es1 (by rfl) | exact esN (by rfl))
        | refine VE_nil ?_
        | refine kyes ?_
        | refine kno ?_
        | refine gyes ?_
        | refine gno ?_
        | refine knoU ?_
        | refine gnoU ?_
        | refine VG_nil ⟨by rfl, ?_⟩
        | refine VG_nil ?_
        | refine dT ?_
        | refine d1 ?_
        | refine dQ ?_
        | refine ctr ?_
        | refine cfa ?_
        | refine kdec (fun hq => ?_) (fun hq => ?_)
        | refine gdec (fun hq => ?_) (fun hq => ?_)
        | refine cco (fun hq => ?_) (fun hq => ?_))
      exact .inl ⟨_, rfl, rfl⟩
    · obtain ⟨b, off, he, hcl, hcells⟩ := SlM.flat (k := 2) (cells := pairCells) (fun a _ => rfl) hM h0
      injection he with he
      subst he
      have hpos : 0 < l.length := List.length_pos_iff.2 h0
      have h1 : ((l.flatMap pairCells).all (·.oneCell')) = true := by simp [List.all_flatMap, pairCells, Value.oneCell']
      repeat' (first
        | refine VC_seq ?_
        | refine VC_region ?_
        | refine VL_nil ?_
        | refine VC_ret ?_
        | refine VC_exit ?_
        | refine VC_block ?_
        | refine VC_skip ?_
        | refine kbox ?_
        | refine kall ?_
        | refine kst ?_
        | refine ksN ?_
        | refine klt ?_
        | refine kl1 ?_
        | refine klK ?_
        | refine kap ?_
        | ((first | apply VL_q | apply VG_q | apply VS_q2); (first  | exact qmv (by rfl) | exact qas (by rfl) | exact ql1 (by rfl) | exact qlA (by rfl) | exact qfa (by rfl) | exact qmf (by rfl) | exact qfd (by rfl) | exact qm1 (by rfl) | exact qbd (by rfl) | exact qno (by rfl) | exact qex (by rfl) | exact qln (by rfl) | exact qls (by rfl) | exact qlr (by rfl) | exact qpt (by rfl) | exact qpf (by rfl) | exact qcp (by rfl) | exact qbe (by rfl) | exact qbn (by rfl) | exact qsn (by rfl) | exact qad (by rfl) | exact qsa (by rfl) | exact qsu (by rfl) | exact QS_bin (by rfl) (by rfl) (by first | exact B_slnil | exact Bq_eql_Msg | exact Bq_neq_Msg | exact Bq_eql_Pair | exact Bq_neq_Pair | exact Bq_eql_Op | exact Bq_neq_Op | exact Bq_eql_Cfg | exact Bq_neq_Cfg)); rfl)
        | refine sst ?_
        | refine VS_nil ?_
        | refine eeq ?_
        | refine ees ?_ (by first | exact es1 (by rfl) | exact esN (by rfl))
        | refine VE_nil ?_
        | refine kyes ?_
        | refine kno ?_
        | refine gyes ?_
        | refine gno ?_
        | refine knoU ?_
        | refine gnoU ?_
        | refine VG_nil ⟨by rfl, ?_⟩
        | refine VG_nil ?_
        | refine dT ?_
        | refine d1 ?_
        | refine dQ ?_
        | refine ctr ?_
        | refine cfa ?_
        | refine kdec (fun hq => ?_) (fun hq => ?_)
        | refine gdec (fun hq => ?_) (fun hq => ?_)
        | refine cco (fun hq => ?_) (fun hq => ?_))
      refine VL_e _ _ (EF_appendM (l.flatMap pairCells) (by rfl) (by rfl) (by rfl) hcl hcells hpos h1 (by unfold maxLen; omega) (by omega)) (by rfl) (by rfl) ?_
      repeat' (first
        | refine VC_seq ?_
        | refine VC_region ?_
        | refine VL_nil ?_
        | refine VC_ret ?_
        | refine VC_exit ?_
        | refine VC_block ?_
        | refine VC_skip ?_
        | refine kbox ?_
        | refine kall ?_
        | refine kst ?_
        | refine ksN ?_
        | refine klt ?_
        | refine kl1 ?_
        | refine klK ?_
        | refine kap ?_
        | ((first | apply VL_q | apply VG_q | apply VS_q2); (first  | exact qmv (by rfl) | exact qas (by rfl) | exact ql1 (by rfl) | exact qlA (by rfl) | exact qfa (by rfl) | exact qmf (by rfl) | exact qfd (by rfl) | exact qm1 (by rfl) | exact qbd (by rfl) | exact qno (by rfl) | exact qex (by rfl) | exact qln (by rfl) | exact qls (by rfl) | exact qlr (by rfl) | exact qpt (by rfl) | exact qpf (by rfl) | exact qcp (by rfl) | exact qbe (by rfl) | exact qbn (by rfl) | exact qsn (by rfl) | exact qad (by rfl) | exact qsa (by rfl) | exact qsu (by rfl) | exact QS_bin (by rfl) (by rfl) (by first | exact B_slnil | exact Bq_eql_Msg | exact Bq_neq_Msg | exact Bq_eql_Pair | exact Bq_neq_Pair | exact Bq_eql_Op | exact Bq_neq_Op | exact Bq_eql_Cfg | exact Bq_neq_Cfg)); rfl)
        | refine sst ?_
        | refine VS_nil ?_
        | refine eeq ?_
        | refine ees ?_ (by first | exact es1 (by rfl) | exact esN (by rfl))
        | refine VE_nil ?_
        | refine kyes ?_
        | refine kno ?_
        | refine gyes ?_
        | refine gno ?_
        | refine knoU ?_
        | refine gnoU ?_
        | refine VG_nil ⟨by rfl, ?_⟩
        | refine VG_nil ?_
        | refine dT ?_
        | refine d1 ?_
        | refine dQ ?_
        | refine ctr ?_
        | refine cfa ?_
        | refine kdec (fun hq => ?_) (fun hq => ?_)
        | refine gdec (fun hq => ?_) (fun hq => ?_)
        | refine cco (fun hq => ?_) (fun hq => ?_))
      refine .inl ⟨_, rfl, ?_⟩
      simp
/-- A node that is being made, and its least text. -/
structure Pt where
  slot : Int
  level : Int
  pv : Value
  kv : Value
  high : ByteArray
  top : Bool
  right : Int
  seen : Int
  mv : Value
  rv : Value
  lo : ByteArray
abbrev ndK (p : Pt) : List Value := [.int .i64 p.slot, .int .i64 p.level, p.pv, p.kv, .string p.high, .bool p.top, .int .i64 p.right, .int .i64 p.seen, p.mv, p.rv]
abbrev ptK (p : Pt) : List Value := [.int .i64 p.slot, .int .i64 p.level, p.pv, p.kv, .string p.high, .bool p.top, .int .i64 p.right, .int .i64 p.seen, p.mv, p.rv, .string p.lo]
/-- How many kids and rows it has. -/
def Pt.Is (p : Pt) (lev : Int) (kn rn : Nat) : Prop := p.level = lev ∧ (∃ A c, p.kv = .slice A kn c) ∧ (∃ A c, p.rv = .slice A rn c) ∧ (∃ A n c, p.pv = .slice A n c) ∧ (∃ A n c, p.mv = .slice A n c)
theorem partE_pos {n p : Nat} (hp : 0 < p) (h : p ≤ n) (k : Nat) : 1 ≤ partE n p k := by
  unfold partE
  have : 1 ≤ n / p := (Nat.one_le_div_iff hp).2 h
  omega
theorem evenX_nat {n p : Nat} (hp : 0 < p) (h : p ≤ 1048576) : evenX (n : Int) (p : Int) = evenL n p := by
  unfold evenX
  rw [if_neg (by omega), Int.toNat_natCast, Int.toNat_natCast]
theorem bulk_leaves (v : Value) (l : List Pair) (p : Nat) (w : World) (M : Mem) (hM : M.le (Mem.of w)) (hl : SlM M 2 pairCells v l) (hp : 0 < p) (hpn : p ≤ l.length) (hn : l.length ≤ 1000000) (hz : ∀ a ∈ l, a.key.size ≤ 1000000)
    (hlt : ∀ i j (h1 : i < l.length) (h2 : j < l.length), i + 1 = j → lt l[i].key l[j].key = true ∧ comN (bl l[i].key) (bl l[j].key) < l[j].key.size) :
    Calls Try.prog 65 #[v, .int .i64 p] w (RetM M w (fun u M' => ∃ ps : List Pt, SlM M' 11 ptK u ps ∧ ps.length = p ∧ ∀ i (q : Pt), ps[i]? = some q → q.Is 0 0 (partE l.length p i))) := by
  obtain ⟨A, c, rfl, hc1, hc2, _⟩ := id hl
  unfold maxLen at hc2
  refine V_ret (args := [.slice A l.length c, .int .i64 p]) (M := M) Try.func65 rfl Try.ntmps65 (by rfl) hM _ ?_
  refine VC_frzQ ?_
  refine VC_seq ?_
  refine VC_region ?_
  apply VL_q
  · exact qas (by rfl)
  · rfl
  refine VL_nil ?_
  refine VC_seq ?_
  refine VC_region ?_
  apply VL_q
  · exact qas (by rfl)
  · rfl
  refine VL_nil ?_
  refine VC_nilR 5 170 11 (by rfl) (by rfl) ?_
  have cE := fun W => bulk_Even (l.length : Int) (p : Int) W (by omega)
  rw [evenX_nat hp (by omega)] at cE
  repeat' (first
    | refine VC_seq ?_
    | refine VC_region ?_
    | refine VL_nil ?_
    | refine VC_ret ?_
    | refine VC_exit ?_
    | refine VC_block ?_
    | refine VC_skip ?_
    | refine kbox ?_
    | refine kall ?_
    | refine kst ?_
    | refine ksN ?_
    | refine klt ?_
    | refine kl1 ?_
    | refine klK ?_
    | refine kap ?_
    | ((first | apply VL_q | apply VG_q | apply VS_q2); (first  | exact qmv (by rfl) | exact qas (by rfl) | exact ql1 (by rfl) | exact qlA (by rfl) | exact qfa (by rfl) | exact qmf (by rfl) | exact qfd (by rfl) | exact qm1 (by rfl) | exact qbd (by rfl) | exact qno (by rfl) | exact qex (by rfl) | exact qln (by rfl) | exact qls (by rfl) | exact qlr (by rfl) | exact qpt (by rfl) | exact qpf (by rfl) | exact qcp (by rfl) | exact qbe (by rfl) | exact qbn (by rfl) | exact qsn (by rfl) | exact qad (by rfl) | exact qsa (by rfl) | exact qsu (by rfl) | exact QS_bin (by rfl) (by rfl) (by first | exact B_slnil | exact Bq_eql_Msg | exact Bq_neq_Msg | exact Bq_eql_Pair | exact Bq_neq_Pair | exact Bq_eql_Op | exact Bq_neq_Op | exact Bq_eql_Cfg | exact Bq_neq_Cfg)); rfl)
    | refine sst ?_
    | refine VS_nil ?_
    | refine eeq ?_
    | refine ees ?_ (by first | exact es1 (by rfl) | exact esN (by rfl))
    | refine VE_nil ?_
    | refine kyes ?_
    | refine kno ?_
    | refine gyes ?_
    | refine gno ?_
    | refine knoU ?_
    | refine gnoU ?_
    | refine VG_nil ⟨by rfl, ?_⟩
    | refine VG_nil ?_
    | refine dT ?_
    | refine d1 ?_
    | refine dQ ?_
    | refine ctr ?_
    | refine cfa ?_
    | refine kdec (fun hq => ?_) (fun hq => ?_)
    | refine gdec (fun hq => ?_) (fun hq => ?_)
    | refine cco (fun hq => ?_) (fun hq => ?_))
  refine VL_callO (by rfl) (fun W _ => cE W) (by rfl) (by rfl) ?_
  refine VL_frz 1 (by rfl) (fun us M1 hle1 hus => ?_)
  have hS : SlM M1 1 intK us (evenL l.length p) := hus.slM (fun _ _ => rfl)
  obtain ⟨B, cb, hus', hd1, hd2, _⟩ := id hS
  have hlen := evenL_len l.length p
  have hgs : ∀ k (h : k < (evenL l.length p).length), (evenL l.length p)[k] = ((partE l.length p k : Nat) : Int) := fun k h => evenL_get _ p h
  generalize evenL l.length p = L at *
  subst hus'
  unfold maxLen at hd2
  repeat' (first
    | refine VC_seq ?_
    | refine VC_region ?_
    | refine VL_nil ?_
    | refine VC_ret ?_
    | refine VC_exit ?_
    | refine VC_block ?_
    | refine VC_skip ?_
    | refine kbox ?_
    | refine kall ?_
    | refine kst ?_
    | refine ksN ?_
    | refine klt ?_
    | refine kl1 ?_
    | refine klK ?_
    | refine kap ?_
    | ((first | apply VL_q | apply VG_q | apply VS_q2); (first  | exact qmv (by rfl) | exact qas (by rfl) | exact ql1 (by rfl) | exact qlA (by rfl) | exact qfa (by rfl) | exact qmf (by rfl) | exact qfd (by rfl) | exact qm1 (by rfl) | exact qbd (by rfl) | exact qno (by rfl) | exact qex (by rfl) | exact qln (by rfl) | exact qls (by rfl) | exact qlr (by rfl) | exact qpt (by rfl) | exact qpf (by rfl) | exact qcp (by rfl) | exact qbe (by rfl) | exact qbn (by rfl) | exact qsn (by rfl) | exact qad (by rfl) | exact qsa (by rfl) | exact qsu (by rfl) | exact QS_bin (by rfl) (by rfl) (by first | exact B_slnil | exact Bq_eql_Msg | exact Bq_neq_Msg | exact Bq_eql_Pair | exact Bq_neq_Pair | exact Bq_eql_Op | exact Bq_neq_Op | exact Bq_eql_Cfg | exact Bq_neq_Cfg)); rfl)
    | refine sst ?_
    | refine VS_nil ?_
    | refine eeq ?_
    | refine ees ?_ (by first | exact es1 (by rfl) | exact esN (by rfl))
    | refine VE_nil ?_
    | refine kyes ?_
    | refine kno ?_
    | refine gyes ?_
    | refine gno ?_
    | refine knoU ?_
    | refine gnoU ?_
    | refine VG_nil ⟨by rfl, ?_⟩
    | refine VG_nil ?_
    | refine dT ?_
    | refine d1 ?_
    | refine dQ ?_
    | refine ctr ?_
    | refine cfa ?_
    | refine kdec (fun hq => ?_) (fun hq => ?_)
    | refine gdec (fun hq => ?_) (fun hq => ?_)
    | refine cco (fun hq => ?_) (fun hq => ?_))
  refine VC_for (fun x : List Pt × Mem => ⟨x.2, [.row 170 11 x.1.length (x.1.flatMap ptK)], [(0, .v (.slice A l.length c)), (5, .r 0), (6, .v (.int .i64 ((offE l.length p x.1.length : Nat) : Int))), (13, .v (.slice B L.length cb)), (14, .v (.int .i64 L.length)), (15, .v (.int .i64 x.1.length))]⟩) (fun x => M1.le x.2 ∧ x.1.length ≤ p ∧ ∀ i (q : Pt), x.1[i]? = some q → q.Is 0 0 (partE l.length p i)) (fun x => p - x.1.length) [0] ([], M1) ⟨rfl, rfl, ⟨rfl, trivial⟩, ⟨rfl, rfl, by rw [show offE l.length p ([] : List Pt).length = 0 by unfold offE; simp]; rfl, rfl, rfl, rfl, trivial⟩⟩ ⟨Mem.le_refl _, Nat.zero_le _, fun i q h => by simp at h⟩ ?_
  rintro ⟨acc, Mx⟩ ⟨hMx, hk, hacc⟩
  dsimp only at hMx hk hacc ⊢
  have hlx := (hl.mono hle1).mono hMx
  have hSx := hS.mono hMx
  generalize hkk : acc.length = k at *
  rcases Nat.lt_or_ge k p with hlt' | hge
  · have hkl : k < L.length := by omega
    have hd := dlt hkl
    obtain ⟨b, off, rfl, hcA⟩ := hSx.get hkl
    rw [hgs k hkl] at hcA
    have hst := offE_step l.length p k
    have hle : offE l.length p (k + 1) ≤ l.length := offE_le hp (by omega)
    have hpp := partE_pos hp hpn k
    generalize ho2 : offE l.length p (k + 1) = o2 at *
    have ho0 : k = 0 → offE l.length p k = 0 := fun e => by rw [e]; unfold offE; simp
    have ho1 : 0 < k → 0 < offE l.length p k := fun e => by
      have h1 := offE_mono l.length p (show 1 ≤ k by omega)
      have h2 : offE l.length p 1 = offE l.length p 0 + partE l.length p 0 := offE_step l.length p 0
      have h3 := partE_pos hp hpn 0
      omega
    generalize hat : offE l.length p k = at0 at *
    generalize hz0 : partE l.length p k = sz at *
    have hpart := SlM.part hlx (p := at0) (q := at0 + sz) (m := c) (by omega) (by omega) (by omega) (by omega)
    have hplen : ((l.take (at0 + sz)).drop at0).length = sz := by rw [List.length_drop, List.length_take]; omega
    generalize (l.take (at0 + sz)).drop at0 = lp at *
    obtain ⟨A2, c2, hsl, hc3, hc4, _⟩ := id hpart
    rw [hsl] at hpart
    have hsum : ((at0 : Int) + (sz : Int)) = ((at0 + sz : Nat) : Int) := by omega
    have fin : ∀ (A3 : Option Addr) (c3 : Nat) (lo : ByteArray) (i : Nat) (q : Pt), (acc ++ [(⟨0, 0, .slice none 0 0, .slice none 0 0, ⟨#[]⟩, false, 0, 0, .slice none 0 0, .slice A3 sz c3, lo⟩ : Pt)])[i]? = some q → q.Is 0 0 (partE l.length p i) := fun A3 c3 lo i q hq => by
      by_cases hi : i < acc.length
      · rw [List.getElem?_append_left hi] at hq
        exact hacc i q hq
      · rw [List.getElem?_append_right (by omega)] at hq
        have hik : i = k := by
          have := (List.getElem?_eq_some_iff.1 hq).1
          simp at this; omega
        subst hik
        rw [hkk, Nat.sub_self] at hq
        have hq := Option.some.inj hq
        subst hq
        rw [hz0]
        exact ⟨rfl, ⟨_, _, rfl⟩, ⟨_, _, rfl⟩, ⟨_, _, _, rfl⟩, ⟨_, _, _, rfl⟩⟩
    have row : ∀ (x : Pt), some (Ob.row 170 11 (k + 1) (acc.flatMap ptK ++ ptK x)) = some (Ob.row 170 11 (acc ++ [x]).length ((acc ++ [x]).flatMap ptK)) := fun x => by
      rw [List.length_append, List.flatMap_append, hkk]
      simp only [List.flatMap_cons, List.flatMap_nil, List.append_nil, List.length_cons, List.length_nil]
    have lenx : ∀ (x : Pt), (acc ++ [x]).length = k + 1 := fun x => by rw [List.length_append, hkk]; rfl
    have e9 : ((offE l.length p (k + 1) : Nat) : Int) = (at0 : Int) + (sz : Int) := by rw [ho2, hst, hsum]
    by_cases hk0 : k = 0
    · have d6 : decide ((0 : Int) < (at0 : Int)) = false := decide_eq_false (by have := ho0 hk0; omega)
      repeat' (first
        | refine VC_seq ?_
        | refine VC_region ?_
        | refine VL_nil ?_
        | refine VC_ret ?_
        | refine VC_exit ?_
        | refine VC_block ?_
        | refine VC_skip ?_
        | refine kbox ?_
        | refine kall ?_
        | refine kst ?_
        | refine ksN ?_
        | refine klt ?_
        | refine kl1 ?_
        | refine klK ?_
        | refine kap ?_
        | ((first | apply VL_q | apply VG_q | apply VS_q2); (first | exact QS_indexAddr k (by rfl) (by rfl) (by omega) (by omega) | exact QS_mload1 (by rfl) (hcA 0 _ (by rfl)) | exact QS_mload1 (by rfl) (hcA _ _ (by rfl)) | exact QS_mloadN _ (by rfl) hcA _ (by rfl) | exact QS_is hsl (QS_slice at0 (at0 + sz) c (by rfl) (by rfl) (by show Env.op _ _ = _; rw [← hsum]; rfl) rfl (by omega) (by omega) (by omega) (by omega)) | exact qmv (by rfl) | exact qas (by rfl) | exact ql1 (by rfl) | exact qlA (by rfl) | exact qfa (by rfl) | exact qmf (by rfl) | exact qfd (by rfl) | exact qm1 (by rfl) | exact qbd (by rfl) | exact qno (by rfl) | exact qex (by rfl) | exact qln (by rfl) | exact qls (by rfl) | exact qlr (by rfl) | exact qpt (by rfl) | exact qpf (by rfl) | exact qcp (by rfl) | exact qbe (by rfl) | exact qbn (by rfl) | exact qsn (by rfl) | exact qad (by rfl) | exact qsa (by rfl) | exact qsu (by rfl) | exact QS_bin (by rfl) (by rfl) (by first | exact B_slnil | exact Bq_eql_Msg | exact Bq_neq_Msg | exact Bq_eql_Pair | exact Bq_neq_Pair | exact Bq_eql_Op | exact Bq_neq_Op | exact Bq_eql_Cfg | exact Bq_neq_Cfg)); rfl)
        | refine sst ?_
        | refine VS_nil ?_
        | refine eeq ?_
        | refine ees ?_ (by first | exact es1 (by rfl) | exact esN (by rfl))
        | refine VE_nil ?_
        | refine kyes ?_
        | refine kno ?_
        | refine gyes ?_
        | refine gno ?_
        | refine knoU ?_
        | refine gnoU ?_
        | refine VG_nil ⟨by rfl, ?_⟩
        | refine VG_nil ?_
        | refine dT ?_
        | refine d1 ?_
        | refine dQ ?_
        | refine ctr ?_
        | refine cfa ?_
        | refine kdec (fun hq => ?_) (fun hq => ?_)
        | refine gdec (fun hq => ?_) (fun hq => ?_)
        | refine cco (fun hq => ?_) (fun hq => ?_))
      refine VL_callO (by rfl) (fun W hW => slices_CloneP _ lp W (hpart.toSl hW) (by omega)) (by rfl) (by rfl) ?_
      refine VL_frz 1 (by rfl) (fun ur M2 hle2 hur => ?_)
      have hSr : SlM M2 2 pairCells ur lp := hur.slM (fun _ _ => rfl)
      obtain ⟨A3, c3, rfl, _⟩ := id hSr
      rw [hplen]
      repeat' (first
        | refine VC_seq ?_
        | refine VC_region ?_
        | refine VL_nil ?_
        | refine VC_ret ?_
        | refine VC_exit ?_
        | refine VC_block ?_
        | refine VC_skip ?_
        | refine kbox ?_
        | refine kall ?_
        | refine kst ?_
        | refine ksN ?_
        | refine klt ?_
        | refine kl1 ?_
        | refine klK ?_
        | refine kap ?_
        | ((first | apply VL_q | apply VG_q | apply VS_q2); (first | exact qbk (by rfl) | exact qmv (by rfl) | exact qas (by rfl) | exact ql1 (by rfl) | exact qlA (by rfl) | exact qfa (by rfl) | exact qmf (by rfl) | exact qfd (by rfl) | exact qm1 (by rfl) | exact qbd (by rfl) | exact qno (by rfl) | exact qex (by rfl) | exact qln (by rfl) | exact qls (by rfl) | exact qlr (by rfl) | exact qpt (by rfl) | exact qpf (by rfl) | exact qcp (by rfl) | exact qbe (by rfl) | exact qbn (by rfl) | exact qsn (by rfl) | exact qad (by rfl) | exact qsa (by rfl) | exact qsu (by rfl) | exact QS_bin (by rfl) (by rfl) (by first | exact B_slnil | exact Bq_eql_Msg | exact Bq_neq_Msg | exact Bq_eql_Pair | exact Bq_neq_Pair | exact Bq_eql_Op | exact Bq_neq_Op | exact Bq_eql_Cfg | exact Bq_neq_Cfg)); rfl)
        | refine sst ?_
        | refine VS_nil ?_
        | refine eeq ?_
        | refine ees ?_ (by first | exact es1 (by rfl) | exact esN (by rfl))
        | refine VE_nil ?_
        | refine kyes ?_
        | refine kno ?_
        | refine gyes ?_
        | refine gno ?_
        | refine knoU ?_
        | refine gnoU ?_
        | refine VG_nil ⟨by rfl, ?_⟩
        | refine VG_nil ?_
        | refine dT ?_
        | refine d1 ?_
        | refine dQ ?_
        | refine ctr ?_
        | refine cfa ?_
        | refine kdec (fun hq => ?_) (fun hq => ?_)
        | refine gdec (fun hq => ?_) (fun hq => ?_)
        | refine cco (fun hq => ?_) (fun hq => ?_))
      refine forQ_next (Q := fun _ _ => True) [4] (acc ++ [(⟨0, 0, .slice none 0 0, .slice none 0 0, ⟨#[]⟩, false, 0, 0, .slice none 0 0, .slice A3 sz c3, ⟨#[]⟩⟩ : Pt)], M2) ⟨rfl, rfl, ⟨row (⟨0, 0, .slice none 0 0, .slice none 0 0, ⟨#[]⟩, false, 0, 0, .slice none 0 0, .slice A3 sz c3, ⟨#[]⟩⟩ : Pt), trivial⟩, ⟨rfl, rfl, ?_, rfl, rfl, ?_, trivial⟩⟩ ⟨hMx.trans hle2, by rw [lenx]; omega, fin _ _ _⟩ (by show p - (acc ++ [_]).length < p - k; rw [lenx]; omega)
      · show _ = some (SV.v (.int .i64 ((offE l.length p (acc ++ [_]).length : Nat) : Int)))
        refine Eq.trans (b := some (SV.v (.int .i64 ((at0 : Int) + (sz : Int))))) rfl ?_
        rw [lenx, e9]
      · show _ = some (SV.v (.int .i64 (((acc ++ [_]).length : Nat) : Int)))
        rw [lenx]; rfl
    · have d6 : decide ((0 : Int) < (at0 : Int)) = true := decide_eq_true (by have := ho1 (by omega); omega)
      have hat1 : 0 < at0 := ho1 (by omega)
      have hcl := hlt (at0 - 1) at0 (by omega) (by omega) (by omega)
      have hk1 := hz _ (List.getElem_mem (show at0 - 1 < l.length by omega))
      have hk2 := hz _ (List.getElem_mem (show at0 < l.length by omega))
      have cB := fun W => key_Between _ _ W hk1 hk2 hcl.1 hcl.2
      obtain ⟨b3, off3, hA3, hcP⟩ := (hl.mono hle1).get (i := at0) (by omega)
      obtain ⟨b4, off4, hA4, hcQ⟩ := (hl.mono hle1).get (i := at0 - 1) (by omega)
      subst hA3
      injection hA4 with hA4
      injection hA4 with hA5 hA6
      subst hA5 hA6
      generalize betw l[at0 - 1].key l[at0].key = lo at *
      repeat' (first
        | refine VC_seq ?_
        | refine VC_region ?_
        | refine VL_nil ?_
        | refine VC_ret ?_
        | refine VC_exit ?_
        | refine VC_block ?_
        | refine VC_skip ?_
        | refine kbox ?_
        | refine kall ?_
        | refine kst ?_
        | refine ksN ?_
        | refine klt ?_
        | refine kl1 ?_
        | refine klK ?_
        | refine kap ?_
        | ((first | apply VL_q | apply VG_q | apply VS_q2); (first | exact QS_indexAddr k (by rfl) (by rfl) (by omega) (by omega) | exact QS_mload1 (by rfl) (hcA 0 _ (by rfl)) | exact QS_mload1 (by rfl) (hcA _ _ (by rfl)) | exact QS_mloadN _ (by rfl) hcA _ (by rfl) | exact QS_is hsl (QS_slice at0 (at0 + sz) c (by rfl) (by rfl) (by show Env.op _ _ = _; rw [← hsum]; rfl) rfl (by omega) (by omega) (by omega) (by omega)) | exact qmv (by rfl) | exact qas (by rfl) | exact ql1 (by rfl) | exact qlA (by rfl) | exact qfa (by rfl) | exact qmf (by rfl) | exact qfd (by rfl) | exact qm1 (by rfl) | exact qbd (by rfl) | exact qno (by rfl) | exact qex (by rfl) | exact qln (by rfl) | exact qls (by rfl) | exact qlr (by rfl) | exact qpt (by rfl) | exact qpf (by rfl) | exact qcp (by rfl) | exact qbe (by rfl) | exact qbn (by rfl) | exact qsn (by rfl) | exact qad (by rfl) | exact qsa (by rfl) | exact qsu (by rfl) | exact QS_bin (by rfl) (by rfl) (by first | exact B_slnil | exact Bq_eql_Msg | exact Bq_neq_Msg | exact Bq_eql_Pair | exact Bq_neq_Pair | exact Bq_eql_Op | exact Bq_neq_Op | exact Bq_eql_Cfg | exact Bq_neq_Cfg)); rfl)
        | refine sst ?_
        | refine VS_nil ?_
        | refine eeq ?_
        | refine ees ?_ (by first | exact es1 (by rfl) | exact esN (by rfl))
        | refine VE_nil ?_
        | refine kyes ?_
        | refine kno ?_
        | refine gyes ?_
        | refine gno ?_
        | refine knoU ?_
        | refine gnoU ?_
        | refine VG_nil ⟨by rfl, ?_⟩
        | refine VG_nil ?_
        | refine dT ?_
        | refine d1 ?_
        | refine dQ ?_
        | refine ctr ?_
        | refine cfa ?_
        | refine kdec (fun hq => ?_) (fun hq => ?_)
        | refine gdec (fun hq => ?_) (fun hq => ?_)
        | refine cco (fun hq => ?_) (fun hq => ?_))
      refine VL_callO (by rfl) (fun W hW => slices_CloneP _ lp W (hpart.toSl hW) (by omega)) (by rfl) (by rfl) ?_
      refine VL_frz 1 (by rfl) (fun ur M2 hle2 hur => ?_)
      have hSr : SlM M2 2 pairCells ur lp := hur.slM (fun _ _ => rfl)
      obtain ⟨A3, c3, rfl, _⟩ := id hSr
      rw [hplen]
      have hcP2 : ∀ j x, (pairCells l[at0])[j]? = some x → M2.cell b3 (off3 + at0 * 2 + j) = some x := fun j x h => (hMx.trans hle2).cell (hcP j x h)
      have hcQ2 : ∀ j x, (pairCells l[at0 - 1])[j]? = some x → M2.cell b3 (off3 + (at0 - 1) * 2 + j) = some x := fun j x h => (hMx.trans hle2).cell (hcQ j x h)
      repeat' (first
        | refine VC_seq ?_
        | refine VC_region ?_
        | refine VL_nil ?_
        | refine VC_ret ?_
        | refine VC_exit ?_
        | refine VC_block ?_
        | refine VC_skip ?_
        | refine kbox ?_
        | refine kall ?_
        | refine kst ?_
        | refine ksN ?_
        | refine klt ?_
        | refine kl1 ?_
        | refine klK ?_
        | refine kap ?_
        | ((first | apply VL_q | apply VG_q | apply VS_q2); (first | exact qbk (by rfl) | exact qmv (by rfl) | exact qas (by rfl) | exact ql1 (by rfl) | exact qlA (by rfl) | exact qfa (by rfl) | exact qmf (by rfl) | exact qfd (by rfl) | exact qm1 (by rfl) | exact qbd (by rfl) | exact qno (by rfl) | exact qex (by rfl) | exact qln (by rfl) | exact qls (by rfl) | exact qlr (by rfl) | exact qpt (by rfl) | exact qpf (by rfl) | exact qcp (by rfl) | exact qbe (by rfl) | exact qbn (by rfl) | exact qsn (by rfl) | exact qad (by rfl) | exact qsa (by rfl) | exact qsu (by rfl) | exact QS_bin (by rfl) (by rfl) (by first | exact B_slnil | exact Bq_eql_Msg | exact Bq_neq_Msg | exact Bq_eql_Pair | exact Bq_neq_Pair | exact Bq_eql_Op | exact Bq_neq_Op | exact Bq_eql_Cfg | exact Bq_neq_Cfg)); rfl)
        | refine sst ?_
        | refine VS_nil ?_
        | refine eeq ?_
        | refine ees ?_ (by first | exact es1 (by rfl) | exact esN (by rfl))
        | refine VE_nil ?_
        | refine kyes ?_
        | refine kno ?_
        | refine gyes ?_
        | refine gno ?_
        | refine knoU ?_
        | refine gnoU ?_
        | refine VG_nil ⟨by rfl, ?_⟩
        | refine VG_nil ?_
        | refine dT ?_
        | refine d1 ?_
        | refine dQ ?_
        | refine ctr ?_
        | refine cfa ?_
        | refine kdec (fun hq => ?_) (fun hq => ?_)
        | refine gdec (fun hq => ?_) (fun hq => ?_)
        | refine cco (fun hq => ?_) (fun hq => ?_))
      refine VC_drawS [2] (by decide +kernel) ?_
      repeat' (first
        | refine VC_seq ?_
        | refine VC_region ?_
        | refine VL_nil ?_
        | refine VC_ret ?_
        | refine VC_exit ?_
        | refine VC_block ?_
        | refine VC_skip ?_
        | refine kbox ?_
        | refine kall ?_
        | refine kst ?_
        | refine ksN ?_
        | refine klt ?_
        | refine kl1 ?_
        | refine klK ?_
        | refine kap ?_
        | ((first | apply VL_q | apply VG_q | apply VS_q2); (first | exact QS_indexAddr at0 (by rfl) (by rfl) (by omega) (by omega) | exact QS_indexAddr (at0 - 1) (by rfl) (by rfl) (by omega) (by omega) | exact QS_mload1 (by rfl) (hcP2 0 _ (by rfl)) | exact QS_mload1 (by rfl) (hcP2 _ _ (by rfl)) | exact QS_mloadN _ (by rfl) hcP2 _ (by rfl) | exact QS_mload1 (by rfl) (hcQ2 0 _ (by rfl)) | exact QS_mload1 (by rfl) (hcQ2 _ _ (by rfl)) | exact QS_mloadN _ (by rfl) hcQ2 _ (by rfl) | exact QS_call (by rfl) (fun W _ => cB W) | exact qmv (by rfl) | exact qas (by rfl) | exact ql1 (by rfl) | exact qlA (by rfl) | exact qfa (by rfl) | exact qmf (by rfl) | exact qfd (by rfl) | exact qm1 (by rfl) | exact qbd (by rfl) | exact qno (by rfl) | exact qex (by rfl) | exact qln (by rfl) | exact qls (by rfl) | exact qlr (by rfl) | exact qpt (by rfl) | exact qpf (by rfl) | exact qcp (by rfl) | exact qbe (by rfl) | exact qbn (by rfl) | exact qsn (by rfl) | exact qad (by rfl) | exact qsa (by rfl) | exact qsu (by rfl) | exact QS_bin (by rfl) (by rfl) (by first | exact B_slnil | exact Bq_eql_Msg | exact Bq_neq_Msg | exact Bq_eql_Pair | exact Bq_neq_Pair | exact Bq_eql_Op | exact Bq_neq_Op | exact Bq_eql_Cfg | exact Bq_neq_Cfg)); rfl)
        | refine sst ?_
        | refine VS_nil ?_
        | refine eeq ?_
        | refine ees ?_ (by first | exact es1 (by rfl) | exact esN (by rfl))
        | refine VE_nil ?_
        | refine kyes ?_
        | refine kno ?_
        | refine gyes ?_
        | refine gno ?_
        | refine knoU ?_
        | refine gnoU ?_
        | refine VG_nil ⟨by rfl, ?_⟩
        | refine VG_nil ?_
        | refine dT ?_
        | refine d1 ?_
        | refine dQ ?_
        | refine ctr ?_
        | refine cfa ?_
        | refine kdec (fun hq => ?_) (fun hq => ?_)
        | refine gdec (fun hq => ?_) (fun hq => ?_)
        | refine cco (fun hq => ?_) (fun hq => ?_))
      repeat' (first
        | refine VC_seq ?_
        | refine VC_region ?_
        | refine VL_nil ?_
        | refine VC_ret ?_
        | refine VC_exit ?_
        | refine VC_block ?_
        | refine VC_skip ?_
        | refine kbox ?_
        | refine kall ?_
        | refine kst ?_
        | refine ksN ?_
        | refine klt ?_
        | refine kl1 ?_
        | refine klK ?_
        | refine kap ?_
        | ((first | apply VL_q | apply VG_q | apply VS_q2); (first  | exact qmv (by rfl) | exact qas (by rfl) | exact ql1 (by rfl) | exact qlA (by rfl) | exact qfa (by rfl) | exact qmf (by rfl) | exact qfd (by rfl) | exact qm1 (by rfl) | exact qbd (by rfl) | exact qno (by rfl) | exact qex (by rfl) | exact qln (by rfl) | exact qls (by rfl) | exact qlr (by rfl) | exact qpt (by rfl) | exact qpf (by rfl) | exact qcp (by rfl) | exact qbe (by rfl) | exact qbn (by rfl) | exact qsn (by rfl) | exact qad (by rfl) | exact qsa (by rfl) | exact qsu (by rfl) | exact QS_bin (by rfl) (by rfl) (by first | exact B_slnil | exact Bq_eql_Msg | exact Bq_neq_Msg | exact Bq_eql_Pair | exact Bq_neq_Pair | exact Bq_eql_Op | exact Bq_neq_Op | exact Bq_eql_Cfg | exact Bq_neq_Cfg)); rfl)
        | refine sst ?_
        | refine VS_nil ?_
        | refine eeq ?_
        | refine ees ?_ (by first | exact es1 (by rfl) | exact esN (by rfl))
        | refine VE_nil ?_
        | refine kyes ?_
        | refine kno ?_
        | refine gyes ?_
        | refine gno ?_
        | refine knoU ?_
        | refine gnoU ?_
        | refine VG_nil ⟨by rfl, ?_⟩
        | refine VG_nil ?_
        | refine dT ?_
        | refine d1 ?_
        | refine dQ ?_
        | refine ctr ?_
        | refine cfa ?_
        | refine kdec (fun hq => ?_) (fun hq => ?_)
        | refine gdec (fun hq => ?_) (fun hq => ?_)
        | refine cco (fun hq => ?_) (fun hq => ?_))
      refine forQ_next (Q := fun _ _ => True) [4] (acc ++ [(⟨0, 0, .slice none 0 0, .slice none 0 0, ⟨#[]⟩, false, 0, 0, .slice none 0 0, .slice A3 sz c3, lo⟩ : Pt)], M2) ⟨rfl, rfl, ⟨row (⟨0, 0, .slice none 0 0, .slice none 0 0, ⟨#[]⟩, false, 0, 0, .slice none 0 0, .slice A3 sz c3, lo⟩ : Pt), trivial⟩, ⟨rfl, rfl, ?_, rfl, rfl, ?_, trivial⟩⟩ ⟨hMx.trans hle2, by rw [lenx]; omega, fin _ _ _⟩ (by show p - (acc ++ [_]).length < p - k; rw [lenx]; omega)
      · show _ = some (SV.v (.int .i64 ((offE l.length p (acc ++ [_]).length : Nat) : Int)))
        refine Eq.trans (b := some (SV.v (.int .i64 ((at0 : Int) + (sz : Int))))) rfl ?_
        rw [lenx, e9]
      · show _ = some (SV.v (.int .i64 (((acc ++ [_]).length : Nat) : Int)))
        rw [lenx]; rfl
  · have hdk : decide (((k : Nat) : Int) < (L.length : Int)) = false := dge (by omega)
    obtain rfl : k = p := by omega
    repeat' (first
      | refine VC_seq ?_
      | refine VC_region ?_
      | refine VL_nil ?_
      | refine VC_ret ?_
      | refine VC_exit ?_
      | refine VC_block ?_
      | refine VC_skip ?_
      | refine kbox ?_
      | refine kall ?_
      | refine kst ?_
      | refine ksN ?_
      | refine klt ?_
      | refine kl1 ?_
      | refine klK ?_
      | refine kap ?_
      | ((first | apply VL_q | apply VG_q | apply VS_q2); (first  | exact qmv (by rfl) | exact qas (by rfl) | exact ql1 (by rfl) | exact qlA (by rfl) | exact qfa (by rfl) | exact qmf (by rfl) | exact qfd (by rfl) | exact qm1 (by rfl) | exact qbd (by rfl) | exact qno (by rfl) | exact qex (by rfl) | exact qln (by rfl) | exact qls (by rfl) | exact qlr (by rfl) | exact qpt (by rfl) | exact qpf (by rfl) | exact qcp (by rfl) | exact qbe (by rfl) | exact qbn (by rfl) | exact qsn (by rfl) | exact qad (by rfl) | exact qsa (by rfl) | exact qsu (by rfl) | exact QS_bin (by rfl) (by rfl) (by first | exact B_slnil | exact Bq_eql_Msg | exact Bq_neq_Msg | exact Bq_eql_Pair | exact Bq_neq_Pair | exact Bq_eql_Op | exact Bq_neq_Op | exact Bq_eql_Cfg | exact Bq_neq_Cfg)); rfl)
      | refine sst ?_
      | refine VS_nil ?_
      | refine eeq ?_
      | refine ees ?_ (by first | exact es1 (by rfl) | exact esN (by rfl))
      | refine VE_nil ?_
      | refine kyes ?_
      | refine kno ?_
      | refine gyes ?_
      | refine gno ?_
      | refine knoU ?_
      | refine gnoU ?_
      | refine VG_nil ⟨by rfl, ?_⟩
      | refine VG_nil ?_
      | refine dT ?_
      | refine d1 ?_
      | refine dQ ?_
      | refine ctr ?_
      | refine cfa ?_
      | refine kdec (fun hq => ?_) (fun hq => ?_)
      | refine gdec (fun hq => ?_) (fun hq => ?_)
      | refine cco (fun hq => ?_) (fun hq => ?_))
    refine .inr ⟨0, _, _, _, _, rfl, fun u M' hle hu => ⟨_, Res.one (by rfl) (ResV_tmp (by rfl) rfl), acc, RowM.slM (fun _ _ => rfl) (by rw [hkk]; exact hu), hkk, hacc⟩⟩
end Go.Proofs.Ytdgcdfngpimmmaa
