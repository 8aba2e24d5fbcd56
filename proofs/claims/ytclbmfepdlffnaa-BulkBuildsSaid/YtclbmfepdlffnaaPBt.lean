/- Texts between two texts: what two begin with, the least front of one that is greater than the other. -/
import Derived.Test.YtclbmfepdlffnaaPBk2
import Derived.Test.YtclbmfepdlffnaaPLg5
namespace Go.Proofs.Ytclbmfepdlffnaa
open Go Go.RowKit
attribute [local irreducible] Calls
set_option linter.unusedVariables false
set_option maxRecDepth 20000
set_option linter.unusedSimpArgs false
set_option maxHeartbeats 4000000
def comN : List UInt8 → List UInt8 → Nat
  | x :: a, y :: b => if x = y then comN a b + 1 else 0
  | _, _ => 0
theorem comN_step {a b : List UInt8} {k : Nat} (h1 : k < a.length) (h2 : k < b.length) (h : a[k] = b[k]) : comN (a.drop k) (b.drop k) = comN (a.drop (k + 1)) (b.drop (k + 1)) + 1 := by
  rw [List.drop_eq_getElem_cons h1, List.drop_eq_getElem_cons h2]
  show (if a[k] = b[k] then _ else 0) = _
  rw [if_pos h]
theorem comN_stop {a b : List UInt8} {k : Nat} (h1 : k < a.length) (h2 : k < b.length) (h : a[k] ≠ b[k]) : comN (a.drop k) (b.drop k) = 0 := by
  rw [List.drop_eq_getElem_cons h1, List.drop_eq_getElem_cons h2]
  show (if a[k] = b[k] then _ else 0) = _
  rw [if_neg h]
theorem comN_end {a b : List UInt8} {k : Nat} (h : a.length ≤ k ∨ b.length ≤ k) : comN (a.drop k) (b.drop k) = 0 := by
  rcases h with h | h
  · rw [List.drop_eq_nil_of_le h]; rfl
  · rw [List.drop_eq_nil_of_le h]
    cases a.drop k <;> rfl
theorem byt_at {s : ByteArray} {k : Nat} (h : k < (bl s).length) : byt s k = (((bl s)[k]).toNat : Int) := by
  unfold byt
  show ((((bl s).getD k 0).toNat : Nat) : Int) = _
  rw [List.getD_eq_getElem?_getD, List.getElem?_eq_getElem h]; rfl
theorem bl_size' (s : ByteArray) : (bl s).length = s.size := by simp [bl]
theorem key_Common (a b : ByteArray) (w : World) (ha : a.size ≤ 1000000) (hb : b.size ≤ 1000000) : Calls Try.prog 133 #[.string a, .string b] w fun e w' => e = .returned (.int .i64 ((comN (bl a) (bl b) : Nat) : Int)) ∧ Below w.heap.size w w' := by
  have hla := bl_size' a
  have hlb := bl_size' b
  have hmin : (if (b.size : Int) < (a.size : Int) then (b.size : Int) else (a.size : Int)) = ((min a.size b.size : Nat) : Int) := by split <;> omega
  refine V_flat (args := [.string a, .string b]) (M := Mem.no) Try.func133 rfl Try.ntmps133 (by rfl) (Mem.no_le _) ?_
  repeat' (first
    | refine VC_seq ?_
    | refine VC_region ?_
    | refine VL_nil ?_
    | refine VC_ret ?_
    | refine VC_exit ?_
    | refine VC_block ?_
    | refine VC_skip ?_
    | refine kbox ?_
    | refine kall ?_
    | refine kst ?_
    | refine ksN ?_
    | refine klt ?_
    | refine kl1 ?_
    | refine klK ?_
    | refine kap ?_
    | ((first | apply VL_q | apply VG_q | apply VS_q2); (first  | exact qmv (by rfl) | exact qas (by rfl) | exact ql1 (by rfl) | exact qlA (by rfl) | exact qfa (by rfl) | exact qmf (by rfl) | exact qfd (by rfl) | exact qm1 (by rfl) | exact qbd (by rfl) | exact qno (by rfl) | exact qex (by rfl) | exact qln (by rfl) | exact qls (by rfl) | exact qlr (by rfl) | exact qpt (by rfl) | exact qpf (by rfl) | exact qcp (by rfl) | exact qbe (by rfl) | exact qbn (by rfl) | exact qsn (by rfl) | exact qad (by rfl) | exact qsa (by rfl) | exact qsu (by rfl) | exact QS_bin (by rfl) (by rfl) (by first | exact B_slnil | exact Bq_eql_Msg | exact Bq_neq_Msg | exact Bq_eql_Pair | exact Bq_neq_Pair | exact Bq_eql_Op | exact Bq_neq_Op | exact Bq_eql_Cfg | exact Bq_neq_Cfg)); rfl)
    | refine sst ?_
    | refine VS_nil ?_
    | refine eeq ?_
    | refine ees ?_ (by first | exact es1 (by rfl) | exact esN (by rfl))
    | refine VE_nil ?_
    | refine kyes ?_
    | refine kno ?_
    | refine gyes ?_
    | refine gno ?_
    | refine knoU ?_
    | refine gnoU ?_
    | refine VG_nil ⟨by rfl, ?_⟩
    | refine VG_nil ?_
    | refine dT ?_
    | refine d1 ?_
    | refine dQ ?_
    | refine ctr ?_
    | refine cfa ?_
    | refine kdec (fun hq => ?_) (fun hq => ?_)
    | refine gdec (fun hq => ?_) (fun hq => ?_)
    | refine cco (fun hq => ?_) (fun hq => ?_))
  refine VC_for (fun k : Nat => ⟨Mem.no, [], [(0, .v (.string a)), (1, .v (.string b)), (5, .v (.int .i64 k))]⟩) (fun k => k ≤ a.size ∧ comN (bl a) (bl b) = k + comN ((bl a).drop k) ((bl b).drop k)) (fun k => a.size - k) [] 0 ⟨rfl, rfl, trivial, ⟨rfl, rfl, rfl, trivial⟩⟩ ⟨by omega, by simp⟩ ?_
  rintro k ⟨hk, hr⟩
  by_cases hlt : k < a.size ∧ k < b.size
  · have d1 : decide ((k : Int) < (if (b.size : Int) < (a.size : Int) then (b.size : Int) else (a.size : Int))) = true := by rw [hmin]; exact decide_eq_true (by omega)
    have h1 : k < (bl a).length := by omega
    have h2 : k < (bl b).length := by omega
    have e1 := byt_at h1
    have e2 := byt_at h2
    by_cases hq : (bl a)[k] = (bl b)[k]
    · have d2 : (byt a k == byt b k) = true := by rw [e1, e2, hq]; simp
      repeat' (first
        | refine VC_seq ?_
        | refine VC_region ?_
        | refine VL_nil ?_
        | refine VC_ret ?_
        | refine VC_exit ?_
        | refine VC_block ?_
        | refine VC_skip ?_
        | refine kbox ?_
        | refine kall ?_
        | refine kst ?_
        | refine ksN ?_
        | refine klt ?_
        | refine kl1 ?_
        | refine klK ?_
        | refine kap ?_
        | ((first | apply VL_q | apply VG_q | apply VS_q2); (first | exact QS_min (by rfl) (by rfl) (fun W => run_min_int2 W _ _ _ _ _ _) | exact QS_index k (by rfl) (by rfl) rfl hlt.1 | exact QS_index k (by rfl) (by rfl) rfl hlt.2 | exact qmv (by rfl) | exact qas (by rfl) | exact ql1 (by rfl) | exact qlA (by rfl) | exact qfa (by rfl) | exact qmf (by rfl) | exact qfd (by rfl) | exact qm1 (by rfl) | exact qbd (by rfl) | exact qno (by rfl) | exact qex (by rfl) | exact qln (by rfl) | exact qls (by rfl) | exact qlr (by rfl) | exact qpt (by rfl) | exact qpf (by rfl) | exact qcp (by rfl) | exact qbe (by rfl) | exact qbn (by rfl) | exact qsn (by rfl) | exact qad (by rfl) | exact qsa (by rfl) | exact qsu (by rfl) | exact QS_bin (by rfl) (by rfl) (by first | exact B_slnil | exact Bq_eql_Msg | exact Bq_neq_Msg | exact Bq_eql_Pair | exact Bq_neq_Pair | exact Bq_eql_Op | exact Bq_neq_Op | exact Bq_eql_Cfg | exact Bq_neq_Cfg)); rfl)
        | refine sst ?_
        | refine VS_nil ?_
        | refine eeq ?_
        | refine ees ?_ (by first | exact es1 (by rfl) | exact esN (by rfl))
        | refine VE_nil ?_
        | refine kyes ?_
        | refine kno ?_
        | refine gyes ?_
        | refine gno ?_
        | refine knoU ?_
        | refine gnoU ?_
        | refine VG_nil ⟨by rfl, ?_⟩
        | refine VG_nil ?_
        | refine dT ?_
        | refine d1 ?_
        | refine dQ ?_
        | refine ctr ?_
        | refine cfa ?_
        | refine kdec (fun hq => ?_) (fun hq => ?_)
        | refine gdec (fun hq => ?_) (fun hq => ?_)
        | refine cco (fun hq => ?_) (fun hq => ?_))
      exact forQ_next (Q := fun _ _ => True) [] (k + 1) ⟨rfl, rfl, trivial, ⟨rfl, rfl, rfl, trivial⟩⟩ ⟨by omega, by rw [hr, comN_step h1 h2 hq]; omega⟩ (by omega)
    · have d2 : (byt a k == byt b k) = false := by
        rw [e1, e2, beq_eq_false_iff_ne]
        intro h
        exact hq (UInt8.toNat_inj.1 (by omega))
      repeat' (first
        | refine VC_seq ?_
        | refine VC_region ?_
        | refine VL_nil ?_
        | refine VC_ret ?_
        | refine VC_exit ?_
        | refine VC_block ?_
        | refine VC_skip ?_
        | refine kbox ?_
        | refine kall ?_
        | refine kst ?_
        | refine ksN ?_
        | refine klt ?_
        | refine kl1 ?_
        | refine klK ?_
        | refine kap ?_
        | ((first | apply VL_q | apply VG_q | apply VS_q2); (first | exact QS_min (by rfl) (by rfl) (fun W => run_min_int2 W _ _ _ _ _ _) | exact QS_index k (by rfl) (by rfl) rfl hlt.1 | exact QS_index k (by rfl) (by rfl) rfl hlt.2 | exact qmv (by rfl) | exact qas (by rfl) | exact ql1 (by rfl) | exact qlA (by rfl) | exact qfa (by rfl) | exact qmf (by rfl) | exact qfd (by rfl) | exact qm1 (by rfl) | exact qbd (by rfl) | exact qno (by rfl) | exact qex (by rfl) | exact qln (by rfl) | exact qls (by rfl) | exact qlr (by rfl) | exact qpt (by rfl) | exact qpf (by rfl) | exact qcp (by rfl) | exact qbe (by rfl) | exact qbn (by rfl) | exact qsn (by rfl) | exact qad (by rfl) | exact qsa (by rfl) | exact qsu (by rfl) | exact QS_bin (by rfl) (by rfl) (by first | exact B_slnil | exact Bq_eql_Msg | exact Bq_neq_Msg | exact Bq_eql_Pair | exact Bq_neq_Pair | exact Bq_eql_Op | exact Bq_neq_Op | exact Bq_eql_Cfg | exact Bq_neq_Cfg)); rfl)
        | refine sst ?_
        | refine VS_nil ?_
        | refine eeq ?_
        | refine ees ?_ (by first | exact es1 (by rfl) | exact esN (by rfl))
        | refine VE_nil ?_
        | refine kyes ?_
        | refine kno ?_
        | refine gyes ?_
        | refine gno ?_
        | refine knoU ?_
        | refine gnoU ?_
        | refine VG_nil ⟨by rfl, ?_⟩
        | refine VG_nil ?_
        | refine dT ?_
        | refine d1 ?_
        | refine dQ ?_
        | refine ctr ?_
        | refine cfa ?_
        | refine kdec (fun hq => ?_) (fun hq => ?_)
        | refine gdec (fun hq => ?_) (fun hq => ?_)
        | refine cco (fun hq => ?_) (fun hq => ?_))
      show Res _ _ _ _
      refine Res.one (by rfl) (ResV_tmp (by rfl) ?_)
      rw [hr, comN_stop h1 h2 hq, Nat.add_zero]
  · have d1 : decide ((k : Int) < (if (b.size : Int) < (a.size : Int) then (b.size : Int) else (a.size : Int))) = false := by rw [hmin]; exact decide_eq_false (by omega)
    repeat' (first
      | refine VC_seq ?_
      | refine VC_region ?_
      | refine VL_nil ?_
      | refine VC_ret ?_
      | refine VC_exit ?_
      | refine VC_block ?_
      | refine VC_skip ?_
      | refine kbox ?_
      | refine kall ?_
      | refine kst ?_
      | refine ksN ?_
      | refine klt ?_
      | refine kl1 ?_
      | refine klK ?_
      | refine kap ?_
      | ((first | apply VL_q | apply VG_q | apply VS_q2); (first | exact QS_min (by rfl) (by rfl) (fun W => run_min_int2 W _ _ _ _ _ _) | exact qmv (by rfl) | exact qas (by rfl) | exact ql1 (by rfl) | exact qlA (by rfl) | exact qfa (by rfl) | exact qmf (by rfl) | exact qfd (by rfl) | exact qm1 (by rfl) | exact qbd (by rfl) | exact qno (by rfl) | exact qex (by rfl) | exact qln (by rfl) | exact qls (by rfl) | exact qlr (by rfl) | exact qpt (by rfl) | exact qpf (by rfl) | exact qcp (by rfl) | exact qbe (by rfl) | exact qbn (by rfl) | exact qsn (by rfl) | exact qad (by rfl) | exact qsa (by rfl) | exact qsu (by rfl) | exact QS_bin (by rfl) (by rfl) (by first | exact B_slnil | exact Bq_eql_Msg | exact Bq_neq_Msg | exact Bq_eql_Pair | exact Bq_neq_Pair | exact Bq_eql_Op | exact Bq_neq_Op | exact Bq_eql_Cfg | exact Bq_neq_Cfg)); rfl)
      | refine sst ?_
      | refine VS_nil ?_
      | refine eeq ?_
      | refine ees ?_ (by first | exact es1 (by rfl) | exact esN (by rfl))
      | refine VE_nil ?_
      | refine kyes ?_
      | refine kno ?_
      | refine gyes ?_
      | refine gno ?_
      | refine knoU ?_
      | refine gnoU ?_
      | refine VG_nil ⟨by rfl, ?_⟩
      | refine VG_nil ?_
      | refine dT ?_
      | refine d1 ?_
      | refine dQ ?_
      | refine ctr ?_
      | refine cfa ?_
      | refine kdec (fun hq => ?_) (fun hq => ?_)
      | refine gdec (fun hq => ?_) (fun hq => ?_)
      | refine cco (fun hq => ?_) (fun hq => ?_))
    show Res _ _ _ _
    refine Res.one (by rfl) (ResV_tmp (by rfl) ?_)
    rw [hr, comN_end (by omega), Nat.add_zero]
def betw (a b : ByteArray) : ByteArray := b.extract 0 (comN (bl a) (bl b) + 1)
theorem key_Between (a b : ByteArray) (w : World) (ha : a.size ≤ 1000000) (hb : b.size ≤ 1000000) (hlt : lt a b = true) (hc : comN (bl a) (bl b) < b.size) : Calls Try.prog 116 #[.string a, .string b] w fun e w' => e = .returned (.tuple #[.string (betw a b), .bool true]) ∧ Below w.heap.size w w' := by
  have cC := fun W => key_Common a b W ha hb
  have d1 : (!lt a b) = false := by rw [hlt]; rfl
  unfold betw
  generalize comN (bl a) (bl b) = n at *
  refine V_flat (args := [.string a, .string b]) (M := Mem.no) Try.func116 rfl Try.ntmps116 (by rfl) (Mem.no_le _) ?_
  repeat' (first
    | refine VC_seq ?_
    | refine VC_region ?_
    | refine VL_nil ?_
    | refine VC_ret ?_
    | refine VC_exit ?_
    | refine VC_block ?_
    | refine VC_skip ?_
    | refine kbox ?_
    | refine kall ?_
    | refine kst ?_
    | refine ksN ?_
    | refine klt ?_
    | refine kl1 ?_
    | refine klK ?_
    | refine kap ?_
    | ((first | apply VL_q | apply VG_q | apply VS_q2); (first | exact QS_call (by rfl) (fun W _ => cC W) | exact QS_cutS 0 (n + 1) (by rfl) rfl (by rfl) (by omega) (by omega) | exact qmv (by rfl) | exact qas (by rfl) | exact ql1 (by rfl) | exact qlA (by rfl) | exact qfa (by rfl) | exact qmf (by rfl) | exact qfd (by rfl) | exact qm1 (by rfl) | exact qbd (by rfl) | exact qno (by rfl) | exact qex (by rfl) | exact qln (by rfl) | exact qls (by rfl) | exact qlr (by rfl) | exact qpt (by rfl) | exact qpf (by rfl) | exact qcp (by rfl) | exact qbe (by rfl) | exact qbn (by rfl) | exact qsn (by rfl) | exact qad (by rfl) | exact qsa (by rfl) | exact qsu (by rfl) | exact QS_bin (by rfl) (by rfl) (by first | exact B_slnil | exact Bq_eql_Msg | exact Bq_neq_Msg | exact Bq_eql_Pair | exact Bq_neq_Pair | exact Bq_eql_Op | exact Bq_neq_Op | exact Bq_eql_Cfg | exact Bq_neq_Cfg)); rfl)
    | refine sst ?_
    | refine VS_nil ?_
    | refine eeq ?_
    | refine ees ?_ (by first | exact es1 (by rfl) | exact esN (by rfl))
    | refine VE_nil ?_
    | refine kyes ?_
    | refine kno ?_
    | refine gyes ?_
    | refine gno ?_
    | refine knoU ?_
    | refine gnoU ?_
    | refine VG_nil ⟨by rfl, ?_⟩
    | refine VG_nil ?_
    | refine dT ?_
    | refine d1 ?_
    | refine dQ ?_
    | refine ctr ?_
    | refine cfa ?_
    | refine kdec (fun hq => ?_) (fun hq => ?_)
    | refine gdec (fun hq => ?_) (fun hq => ?_)
    | refine cco (fun hq => ?_) (fun hq => ?_))
  exact Res.two (by rfl) (ResV_tmp (by rfl) rfl) (ResV_tmp (by rfl) rfl)
theorem slices_CloneP (v : Value) (l : List Pair) (w : World) (hl : Sl w 2 pairCells v l) (hn : l.length ≤ 1000000) :
    Calls Try.prog 115 #[v] w (RetRow 101 2 l.length (l.flatMap pairCells) w) := by
  obtain ⟨A, c, rfl, hc1, hc2, hv⟩ := id hl
  have hM := hl.toM
  refine V_rowN (args := [.slice A l.length c]) (M := Mem.of w) Try.func115 rfl Try.ntmps115 (by rfl) (Mem.le_refl _) rfl ?_
  cases A with
  | none =>
    have h0 : l = [] := by
      rcases hv with h | ⟨b, off, h, _⟩
      · exact h
      · cases h
    subst h0
    have hn : (none : Option Addr).isNone = true := rfl
    repeat' (first
      | refine VC_seq ?_
      | refine VC_region ?_
      | refine VL_nil ?_
      | refine VC_ret ?_
      | refine VC_exit ?_
      | refine VC_block ?_
      | refine VC_skip ?_
      | refine kbox ?_
      | refine kall ?_
      | refine kst ?_
      | refine ksN ?_
      | refine klt ?_
      | refine kl1 ?_
      | refine klK ?_
      | refine kap ?_
      | ((first | apply VL_q | apply VG_q | apply VS_q2); (first  | exact qmv (by rfl) | exact qas (by rfl) | exact ql1 (by rfl) | exact qlA (by rfl) | exact qfa (by rfl) | exact qmf (by rfl) | exact qfd (by rfl) | exact qm1 (by rfl) | exact qbd (by rfl) | exact qno (by rfl) | exact qex (by rfl) | exact qln (by rfl) | exact qls (by rfl) | exact qlr (by rfl) | exact qpt (by rfl) | exact qpf (by rfl) | exact qcp (by rfl) | exact qbe (by rfl) | exact qbn (by rfl) | exact qsn (by rfl) | exact qad (by rfl) | exact qsa (by rfl) | exact qsu (by rfl) | exact QS_bin (by rfl) (by rfl) (by first | exact B_slnil | exact Bq_eql_Msg | exact Bq_neq_Msg | exact Bq_eql_Pair | exact Bq_neq_Pair | exact Bq_eql_Op | exact Bq_neq_Op | exact Bq_eql_Cfg | exact Bq_neq_Cfg)); rfl)
      | refine sst ?_
      | refine VS_nil ?_
      | refine eeq ?_
      | refine ees ?_ (by first | exact es1 (by rfl) | exact esN (by rfl))
      | refine VE_nil ?_
      | refine kyes ?_
      | refine kno ?_
      | refine gyes ?_
      | refine gno ?_
      | refine knoU ?_
      | refine gnoU ?_
      | refine VG_nil ⟨by rfl, ?_⟩
      | refine VG_nil ?_
      | refine dT ?_
      | refine d1 ?_
      | refine dQ ?_
      | refine ctr ?_
      | refine cfa ?_
      | refine kdec (fun hq => ?_) (fun hq => ?_)
      | refine gdec (fun hq => ?_) (fun hq => ?_)
      | refine cco (fun hq => ?_) (fun hq => ?_))
    exact .inr ⟨rfl, rfl, rfl⟩
  | some a =>
    have hn' : (some a : Option Addr).isNone = false := rfl
    by_cases h0 : l = []
    · subst h0
      repeat' (first
        | refine VC_seq ?_
        | refine VC_region ?_
        | refine VL_nil ?_
        | refine VC_ret ?_
        | refine VC_exit ?_
        | refine VC_block ?_
        | refine VC_skip ?_
        | refine kbox ?_
        | refine kall ?_
        | refine kst ?_
        | refine ksN ?_
        | refine klt ?_
        | refine kl1 ?_
        | refine klK ?_
        | refine kap ?_
        | ((first | apply VL_q | apply VG_q | apply VS_q2); (first | exact QS_append_nilR (by rfl) (by rfl) (by rfl) | exact qmv (by rfl) | exact qas (by rfl) | exact ql1 (by rfl) | exact qlA (by rfl) | exact qfa (by rfl) | exact qmf (by rfl) | exact qfd (by rfl) | exact qm1 (by rfl) | exact qbd (by rfl) | exact qno (by rfl) | exact qex (by rfl) | exact qln (by rfl) | exact qls (by rfl) | exact qlr (by rfl) | exact qpt (by rfl) | exact qpf (by rfl) | exact qcp (by rfl) | exact qbe (by rfl) | exact qbn (by rfl) | exact qsn (by rfl) | exact qad (by rfl) | exact qsa (by rfl) | exact qsu (by rfl) | exact QS_bin (by rfl) (by rfl) (by first | exact B_slnil | exact Bq_eql_Msg | exact Bq_neq_Msg | exact Bq_eql_Pair | exact Bq_neq_Pair | exact Bq_eql_Op | exact Bq_neq_Op | exact Bq_eql_Cfg | exact Bq_neq_Cfg)); rfl)
        | refine sst ?_
        | refine VS_nil ?_
        | refine eeq ?_
        | refine ees ?_ (by first | exact es1 (by rfl) | exact esN (by rfl))
        | refine VE_nil ?_
        | refine kyes ?_
        | refine kno ?_
        | refine gyes ?_
        | refine gno ?_
        | refine knoU ?_
        | refine gnoU ?_
        | refine VG_nil ⟨by rfl, ?_⟩
        | refine VG_nil ?_
        | refine dT ?_
        | refine d1 ?_
        | refine dQ ?_
        | refine ctr ?_
        | refine cfa ?_
        | refine kdec (fun hq => ?_) (fun hq => ?_)
        | refine gdec (fun hq => ?_) (fun hq => ?_)
        | refine cco (fun hq => ?_) (fun hq => ?_))
      exact .inl ⟨_, rfl, rfl⟩
    · obtain ⟨b, off, he, hcl, hcells⟩ := SlM.flat (k := 2) (cells := pairCells) (fun a _ => rfl) hM h0
      injection he with he
      subst he
      have hpos : 0 < l.length := List.length_pos_iff.2 h0
      have h1 : ((l.flatMap pairCells).all (·.oneCell')) = true := by simp [List.all_flatMap, pairCells, Value.oneCell']
      repeat' (first
        | refine VC_seq ?_
        | refine VC_region ?_
        | refine VL_nil ?_
        | refine VC_ret ?_
        | refine VC_exit ?_
        | refine VC_block ?_
        | refine VC_skip ?_
        | refine kbox ?_
        | refine kall ?_
        | refine kst ?_
        | refine ksN ?_
        | refine klt ?_
        | refine kl1 ?_
        | refine klK ?_
        | refine kap ?_
        | ((first | apply VL_q | apply VG_q | apply VS_q2); (first  | exact qmv (by rfl) | exact qas (by rfl) | exact ql1 (by rfl) | exact qlA (by rfl) | exact qfa (by rfl) | exact qmf (by rfl) | exact qfd (by rfl) | exact qm1 (by rfl) | exact qbd (by rfl) | exact qno (by rfl) | exact qex (by rfl) | exact qln (by rfl) | exact qls (by rfl) | exact qlr (by rfl) | exact qpt (by rfl) | exact qpf (by rfl) | exact qcp (by rfl) | exact qbe (by rfl) | exact qbn (by rfl) | exact qsn (by rfl) | exact qad (by rfl) | exact qsa (by rfl) | exact qsu (by rfl) | exact QS_bin (by rfl) (by rfl) (by first | exact B_slnil | exact Bq_eql_Msg | exact Bq_neq_Msg | exact Bq_eql_Pair | exact Bq_neq_Pair | exact Bq_eql_Op | exact Bq_neq_Op | exact Bq_eql_Cfg | exact Bq_neq_Cfg)); rfl)
        | refine sst ?_
        | refine VS_nil ?_
        | refine eeq ?_
        | refine ees ?_ (by first | exact es1 (by rfl) | exact esN (by rfl))
        | refine VE_nil ?_
        | refine kyes ?_
        | refine kno ?_
        | refine gyes ?_
        | refine gno ?_
        | refine knoU ?_
        | refine gnoU ?_
        | refine VG_nil ⟨by rfl, ?_⟩
        | refine VG_nil ?_
        | refine dT ?_
        | refine d1 ?_
        | refine dQ ?_
        | refine ctr ?_
        | refine cfa ?_
        | refine kdec (fun hq => ?_) (fun hq => ?_)
        | refine gdec (fun hq => ?_) (fun hq => ?_)
        | refine cco (fun hq => ?_) (fun hq => ?_))
      refine VL_e _ _ (EF_appendM (l.flatMap pairCells) (by rfl) (by rfl) (by rfl) hcl hcells hpos h1 (by unfold maxLen; omega) (by omega)) (by rfl) (by rfl) ?_
      repeat' (first
        | refine VC_seq ?_
        | refine VC_region ?_
        | refine VL_nil ?_
        | refine VC_ret ?_
        | refine VC_exit ?_
        | refine VC_block ?_
        | refine VC_skip ?_
        | refine kbox ?_
        | refine kall ?_
        | refine kst ?_
        | refine ksN ?_
        | refine klt ?_
        | refine kl1 ?_
        | refine klK ?_
        | refine kap ?_
        | ((first | apply VL_q | apply VG_q | apply VS_q2); (first  | exact qmv (by rfl) | exact qas (by rfl) | exact ql1 (by rfl) | exact qlA (by rfl) | exact qfa (by rfl) | exact qmf (by rfl) | exact qfd (by rfl) | exact qm1 (by rfl) | exact qbd (by rfl) | exact qno (by rfl) | exact qex (by rfl) | exact qln (by rfl) | exact qls (by rfl) | exact qlr (by rfl) | exact qpt (by rfl) | exact qpf (by rfl) | exact qcp (by rfl) | exact qbe (by rfl) | exact qbn (by rfl) | exact qsn (by rfl) | exact qad (by rfl) | exact qsa (by rfl) | exact qsu (by rfl) | exact QS_bin (by rfl) (by rfl) (by first | exact B_slnil | exact Bq_eql_Msg | exact Bq_neq_Msg | exact Bq_eql_Pair | exact Bq_neq_Pair | exact Bq_eql_Op | exact Bq_neq_Op | exact Bq_eql_Cfg | exact Bq_neq_Cfg)); rfl)
        | refine sst ?_
        | refine VS_nil ?_
        | refine eeq ?_
        | refine ees ?_ (by first | exact es1 (by rfl) | exact esN (by rfl))
        | refine VE_nil ?_
        | refine kyes ?_
        | refine kno ?_
        | refine gyes ?_
        | refine gno ?_
        | refine knoU ?_
        | refine gnoU ?_
        | refine VG_nil ⟨by rfl, ?_⟩
        | refine VG_nil ?_
        | refine dT ?_
        | refine d1 ?_
        | refine dQ ?_
        | refine ctr ?_
        | refine cfa ?_
        | refine kdec (fun hq => ?_) (fun hq => ?_)
        | refine gdec (fun hq => ?_) (fun hq => ?_)
        | refine cco (fun hq => ?_) (fun hq => ?_))
      refine .inl ⟨_, rfl, ?_⟩
      simp
/-- A node that is being made, and its least text. -/
theorem partE_pos {n p : Nat} (hp : 0 < p) (h : p ≤ n) (k : Nat) : 1 ≤ partE n p k := by
  unfold partE
  have : 1 ≤ n / p := (Nat.one_le_div_iff hp).2 h
  omega
theorem evenX_nat {n p : Nat} (hp : 0 < p) (h : p ≤ 1048576) : evenX (n : Int) (p : Int) = evenL n p := by
  unfold evenX
  rw [if_neg (by omega), Int.toNat_natCast, Int.toNat_natCast]
end Go.Proofs.Ytclbmfepdlffnaa
