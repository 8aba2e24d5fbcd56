/- Which kid a text is for, and the texts that a kid is for: what the code and the document's answer compute of it. The walks of a node's Route and Range, of the front's Front. The walks of the front's Victim and For, and of the document's answers for them. The walks of the front's For and of the document's answer for it. What the front's parts say of each other: plain Lean; the chapter's examples of the front. -/
import Derived.Test.YtclbmfepdlffnaaPBf
import Derived.Test.YtclbmfepdlffnaaPFc
import Derived.Test.YtclbmfepdlffnaaPA
namespace Go.Proofs.Ytclbmfepdlffnaa
open Go Go.RowKit
attribute [local irreducible] Calls
set_option linter.unusedVariables false
set_option maxRecDepth 20000
set_option linter.unusedSimpArgs false
set_option maxHeartbeats 8000000
def allTo (p : Nat → Bool) (k : Nat) : Bool := (List.range k).all p
theorem allTo_succ (p : Nat → Bool) (k : Nat) : allTo p (k + 1) = (allTo p k && p k) := by
  unfold allTo
  rw [List.range_succ, List.all_append]
  simp
theorem allTo_iff {p : Nat → Bool} {n : Nat} : allTo p n = true ↔ ∀ i, i < n → p i = true := by
  unfold allTo
  rw [List.all_eq_true]
  simp
theorem allTo_stop {p : Nat → Bool} {k n : Nat} (hp : p k = false) (hn : k < n) : allTo p n = false := by
  cases h : allTo p n with
  | false => rfl
  | true => rw [allTo_iff.1 h k hn] at hp; cases hp
def sAt (l : List ByteArray) (i : Nat) : ByteArray := (l[i]?).getD em
theorem sAt_eq {l : List ByteArray} {i : Nat} (h : i < l.length) : sAt l i = l[i] := by simp [sAt, h]
def risP (l : List ByteArray) (i : Nat) : Bool := decide (i = 0) || lt (sAt l (i - 1)) (sAt l i)
def risS (l : List ByteArray) : Bool := allTo (risP l) l.length
theorem ref_RisingS (v : Value) (l : List ByteArray) (w : World) (hl : SlS w v l) (hs : ∀ s ∈ l, s.size ≤ 1000000000) (hn : l.length ≤ 1000000000) :
    Calls Try.prog 125 #[v] w fun e w' => e = .returned (.bool (risS l)) ∧ Below w.heap.size w w' := by
  obtain ⟨A, c, rfl, hc1, hc2, _⟩ := id hl
  have hM := hl.toM
  unfold maxLen at hc2
  refine V_flat (args := [.slice A l.length c]) (M := Mem.of w) Try.func125 rfl Try.ntmps125 (by rfl) (Mem.le_refl _) ?_
  repeat' (first
    | refine VC_seq ?_
    | refine VC_region ?_
    | refine VL_nil ?_
    | refine VC_ret ?_
    | refine VC_exit ?_
    | refine VC_block ?_
    | refine VC_skip ?_
    | refine kbox ?_
    | refine kall ?_
    | refine kst ?_
    | refine ksN ?_
    | refine klt ?_
    | refine kl1 ?_
    | refine klK ?_
    | refine kap ?_
    | ((first | apply VL_q | apply VG_q | apply VS_q2); (first  | exact qmv (by rfl) | exact qas (by rfl) | exact ql1 (by rfl) | exact qlA (by rfl) | exact qfa (by rfl) | exact qmf (by rfl) | exact qfd (by rfl) | exact qm1 (by rfl) | exact qbd (by rfl) | exact qno (by rfl) | exact qex (by rfl) | exact qln (by rfl) | exact qls (by rfl) | exact qlr (by rfl) | exact qpt (by rfl) | exact qpf (by rfl) | exact qcp (by rfl) | exact qbe (by rfl) | exact qbn (by rfl) | exact qsn (by rfl) | exact qad (by rfl) | exact qsa (by rfl) | exact qsu (by rfl) | exact QS_bin (by rfl) (by rfl) (by first | exact B_slnil | exact Bq_eql_Msg | exact Bq_neq_Msg | exact Bq_eql_Pair | exact Bq_neq_Pair | exact Bq_eql_Op | exact Bq_neq_Op | exact Bq_eql_Cfg | exact Bq_neq_Cfg)); rfl)
    | refine sst ?_
    | refine VS_nil ?_
    | refine eeq ?_
    | refine ees ?_ (by first | exact es1 (by rfl) | exact esN (by rfl))
    | refine VE_nil ?_
    | refine kyes ?_
    | refine kno ?_
    | refine gyes ?_
    | refine gno ?_
    | refine knoU ?_
    | refine gnoU ?_
    | refine VG_nil ⟨by rfl, ?_⟩
    | refine VG_nil ?_
    | refine dT ?_
    | refine d1 ?_
    | refine dQ ?_
    | refine ctr ?_
    | refine cfa ?_
    | refine kdec (fun hq => ?_) (fun hq => ?_)
    | refine gdec (fun hq => ?_) (fun hq => ?_)
    | refine cco (fun hq => ?_) (fun hq => ?_))
  refine VC_for (fun k : Nat => ⟨Mem.of w, [], [(0, .v (.slice A l.length c)), (3, .v (.int .i64 k))]⟩) (fun k => 1 ≤ k ∧ (k ≤ l.length ∨ k = 1) ∧ allTo (risP l) k = true) (fun k => l.length + 1 - k) [] 1 ⟨rfl, rfl, trivial, ⟨rfl, rfl, trivial⟩⟩ ⟨by omega, by omega, rfl⟩ ?_
  rintro k ⟨hk1, hk2, hr⟩
  rcases Nat.lt_or_ge k l.length with hlt | hge
  · obtain ⟨b, off, rfl, hcA⟩ := hM.get hlt
    have hlt1 : k - 1 < l.length := by omega
    obtain ⟨b', off', he, hcB⟩ := hM.get hlt1
    injection he with he
    injection he with he1 he2
    subst he1 he2
    have hd := dlt hlt
    have c1 := fun W => ref_Less l[k - 1] l[k] (by have := hs l[k - 1] (List.getElem_mem hlt1); unfold maxLen; omega) (by have := hs l[k] (List.getElem_mem hlt); unfold maxLen; omega) W
    have hp : risP l k = lt l[k - 1] l[k] := by unfold risP; rw [sAt_eq hlt, sAt_eq hlt1, decide_eq_false (by omega), Bool.false_or]
    have hlt' : Op.bytesLess l[k - 1].toList l[k].toList = lt l[k - 1] l[k] := rfl
    rw [hlt'] at c1
    cases hc : lt l[k - 1] l[k] with
    | false =>
      rw [hc] at c1 hp
      repeat' (first
        | refine VC_seq ?_
        | refine VC_region ?_
        | refine VL_nil ?_
        | refine VC_ret ?_
        | refine VC_exit ?_
        | refine VC_block ?_
        | refine VC_skip ?_
        | refine kbox ?_
        | refine kall ?_
        | refine kst ?_
        | refine ksN ?_
        | refine klt ?_
        | refine kl1 ?_
        | refine klK ?_
        | refine kap ?_
        | ((first | apply VL_q | apply VG_q | apply VS_q2); (first | exact QS_indexAddr (k) (by rfl) (by rfl) (by omega) (by omega) | exact QS_indexAddr (k - 1) (by rfl) (by rfl) (by omega) (by omega) | exact QS_mload1 (by rfl) (hcA 0 _ (by rfl)) | exact QS_mload1 (by rfl) (hcA _ _ (by rfl)) | exact QS_mloadN _ (by rfl) hcA _ (by rfl) | exact QS_mload1 (by rfl) (hcB 0 _ (by rfl)) | exact QS_mload1 (by rfl) (hcB _ _ (by rfl)) | exact QS_mloadN _ (by rfl) hcB _ (by rfl) | exact QS_call (by rfl) (fun W _ => c1 W) | exact qmv (by rfl) | exact qas (by rfl) | exact ql1 (by rfl) | exact qlA (by rfl) | exact qfa (by rfl) | exact qmf (by rfl) | exact qfd (by rfl) | exact qm1 (by rfl) | exact qbd (by rfl) | exact qno (by rfl) | exact qex (by rfl) | exact qln (by rfl) | exact qls (by rfl) | exact qlr (by rfl) | exact qpt (by rfl) | exact qpf (by rfl) | exact qcp (by rfl) | exact qbe (by rfl) | exact qbn (by rfl) | exact qsn (by rfl) | exact qad (by rfl) | exact qsa (by rfl) | exact qsu (by rfl) | exact QS_bin (by rfl) (by rfl) (by first | exact B_slnil | exact Bq_eql_Msg | exact Bq_neq_Msg | exact Bq_eql_Pair | exact Bq_neq_Pair | exact Bq_eql_Op | exact Bq_neq_Op | exact Bq_eql_Cfg | exact Bq_neq_Cfg)); rfl)
        | refine sst ?_
        | refine VS_nil ?_
        | refine eeq ?_
        | refine ees ?_ (by first | exact es1 (by rfl) | exact esN (by rfl))
        | refine VE_nil ?_
        | refine kyes ?_
        | refine kno ?_
        | refine gyes ?_
        | refine gno ?_
        | refine knoU ?_
        | refine gnoU ?_
        | refine VG_nil ⟨by rfl, ?_⟩
        | refine VG_nil ?_
        | refine dT ?_
        | refine d1 ?_
        | refine dQ ?_
        | refine ctr ?_
        | refine cfa ?_
        | refine kdec (fun hq => ?_) (fun hq => ?_)
        | refine gdec (fun hq => ?_) (fun hq => ?_)
        | refine cco (fun hq => ?_) (fun hq => ?_))
      show Res _ _ _ _
      refine Res.one (by rfl) (ResV_tmp (by rfl) ?_)
      refine congrArg Value.bool ?_
      exact (allTo_stop hp hlt).symm
    | true =>
      rw [hc] at c1 hp
      repeat' (first
        | refine VC_seq ?_
        | refine VC_region ?_
        | refine VL_nil ?_
        | refine VC_ret ?_
        | refine VC_exit ?_
        | refine VC_block ?_
        | refine VC_skip ?_
        | refine kbox ?_
        | refine kall ?_
        | refine kst ?_
        | refine ksN ?_
        | refine klt ?_
        | refine kl1 ?_
        | refine klK ?_
        | refine kap ?_
        | ((first | apply VL_q | apply VG_q | apply VS_q2); (first | exact QS_indexAddr (k) (by rfl) (by rfl) (by omega) (by omega) | exact QS_indexAddr (k - 1) (by rfl) (by rfl) (by omega) (by omega) | exact QS_mload1 (by rfl) (hcA 0 _ (by rfl)) | exact QS_mload1 (by rfl) (hcA _ _ (by rfl)) | exact QS_mloadN _ (by rfl) hcA _ (by rfl) | exact QS_mload1 (by rfl) (hcB 0 _ (by rfl)) | exact QS_mload1 (by rfl) (hcB _ _ (by rfl)) | exact QS_mloadN _ (by rfl) hcB _ (by rfl) | exact QS_call (by rfl) (fun W _ => c1 W) | exact qmv (by rfl) | exact qas (by rfl) | exact ql1 (by rfl) | exact qlA (by rfl) | exact qfa (by rfl) | exact qmf (by rfl) | exact qfd (by rfl) | exact qm1 (by rfl) | exact qbd (by rfl) | exact qno (by rfl) | exact qex (by rfl) | exact qln (by rfl) | exact qls (by rfl) | exact qlr (by rfl) | exact qpt (by rfl) | exact qpf (by rfl) | exact qcp (by rfl) | exact qbe (by rfl) | exact qbn (by rfl) | exact qsn (by rfl) | exact qad (by rfl) | exact qsa (by rfl) | exact qsu (by rfl) | exact QS_bin (by rfl) (by rfl) (by first | exact B_slnil | exact Bq_eql_Msg | exact Bq_neq_Msg | exact Bq_eql_Pair | exact Bq_neq_Pair | exact Bq_eql_Op | exact Bq_neq_Op | exact Bq_eql_Cfg | exact Bq_neq_Cfg)); rfl)
        | refine sst ?_
        | refine VS_nil ?_
        | refine eeq ?_
        | refine ees ?_ (by first | exact es1 (by rfl) | exact esN (by rfl))
        | refine VE_nil ?_
        | refine kyes ?_
        | refine kno ?_
        | refine gyes ?_
        | refine gno ?_
        | refine knoU ?_
        | refine gnoU ?_
        | refine VG_nil ⟨by rfl, ?_⟩
        | refine VG_nil ?_
        | refine dT ?_
        | refine d1 ?_
        | refine dQ ?_
        | refine ctr ?_
        | refine cfa ?_
        | refine kdec (fun hq => ?_) (fun hq => ?_)
        | refine gdec (fun hq => ?_) (fun hq => ?_)
        | refine cco (fun hq => ?_) (fun hq => ?_))
      refine forQ_next [] (k + 1) ⟨rfl, rfl, trivial, ⟨rfl, rfl, trivial⟩⟩ ⟨by omega, by omega, ?_⟩ (by omega)
      rw [allTo_succ, hr, hp]; rfl
  · have hd := dge hge
    repeat' (first
      | refine VC_seq ?_
      | refine VC_region ?_
      | refine VL_nil ?_
      | refine VC_ret ?_
      | refine VC_exit ?_
      | refine VC_block ?_
      | refine VC_skip ?_
      | refine kbox ?_
      | refine kall ?_
      | refine kst ?_
      | refine ksN ?_
      | refine klt ?_
      | refine kl1 ?_
      | refine klK ?_
      | refine kap ?_
      | ((first | apply VL_q | apply VG_q | apply VS_q2); (first  | exact qmv (by rfl) | exact qas (by rfl) | exact ql1 (by rfl) | exact qlA (by rfl) | exact qfa (by rfl) | exact qmf (by rfl) | exact qfd (by rfl) | exact qm1 (by rfl) | exact qbd (by rfl) | exact qno (by rfl) | exact qex (by rfl) | exact qln (by rfl) | exact qls (by rfl) | exact qlr (by rfl) | exact qpt (by rfl) | exact qpf (by rfl) | exact qcp (by rfl) | exact qbe (by rfl) | exact qbn (by rfl) | exact qsn (by rfl) | exact qad (by rfl) | exact qsa (by rfl) | exact qsu (by rfl) | exact QS_bin (by rfl) (by rfl) (by first | exact B_slnil | exact Bq_eql_Msg | exact Bq_neq_Msg | exact Bq_eql_Pair | exact Bq_neq_Pair | exact Bq_eql_Op | exact Bq_neq_Op | exact Bq_eql_Cfg | exact Bq_neq_Cfg)); rfl)
      | refine sst ?_
      | refine VS_nil ?_
      | refine eeq ?_
      | refine ees ?_ (by first | exact es1 (by rfl) | exact esN (by rfl))
      | refine VE_nil ?_
      | refine kyes ?_
      | refine kno ?_
      | refine gyes ?_
      | refine gno ?_
      | refine knoU ?_
      | refine gnoU ?_
      | refine VG_nil ⟨by rfl, ?_⟩
      | refine VG_nil ?_
      | refine dT ?_
      | refine d1 ?_
      | refine dQ ?_
      | refine ctr ?_
      | refine cfa ?_
      | refine kdec (fun hq => ?_) (fun hq => ?_)
      | refine gdec (fun hq => ?_) (fun hq => ?_)
      | refine cco (fun hq => ?_) (fun hq => ?_))
    show Res _ _ _ _
    refine Res.one (by rfl) (ResV_tmp (by rfl) ?_)
    refine congrArg Value.bool ?_
    rcases hk2 with hk2 | hk2
    · have : k = l.length := by omega
      have hh : allTo (risP l) l.length = true := this ▸ hr
      exact hh.symm
    · subst hk2
      unfold risS
      have : l.length = 0 ∨ l.length = 1 := by omega
      rcases this with h | h <;> rw [h] <;> rfl
end Go.Proofs.Ytclbmfepdlffnaa
namespace Go.Proofs.Ytclbmfepdlffnaa
open Go Go.RowKit
set_option linter.unusedVariables false
set_option maxRecDepth 20000
set_option linter.unusedSimpArgs false
set_option maxHeartbeats 2000000
attribute [local irreducible] Calls
/-- The texts that a kid is for. -/
def rangeN (l : List ByteArray) (n : Nat) : Span := norm ⟨if 0 < n then sAt l (n - 1) else em, if n < l.length then sAt l n else em, !decide (n < l.length)⟩
def rangeS (l : List ByteArray) (i : Int) : Span := if i < 0 ∨ (l.length : Int) < i then spE else rangeN l i.toNat
theorem rangeS_n {l : List ByteArray} {n : Nat} (h : n ≤ l.length) : rangeS l (n : Int) = rangeN l n := by
  unfold rangeS
  rw [if_neg (by omega), Int.toNat_natCast]
theorem rangeS_out {l : List ByteArray} {i : Int} (h : i < 0 ∨ (l.length : Int) < i) : rangeS l i = spE := if_pos h
theorem ref_RangeS (v : Value) (l : List ByteArray) (i : Int) (w : World) (hl : SlS w v l) (hs : ∀ s ∈ l, s.size ≤ 1000000000) (hn : l.length ≤ 1000000000) :
    Calls Try.prog 99 #[v, .int .i64 i] w fun e w' => e = .returned (.agg #[.string (rangeS l i).lo, .string (rangeS l i).hi, .bool (rangeS l i).opn]) ∧ Below w.heap.size w w' := by
  obtain ⟨A, c, rfl, hc1, hc2, _⟩ := id hl
  have hM := hl.toM
  unfold maxLen at hc2
  by_cases h0 : i < 0 ∨ (l.length : Int) < i
  · rw [rangeS_out h0]
    cases h1 : decide (i < 0) with
    | true =>
      refine V_flat (args := [.slice A l.length c, .int .i64 i]) (M := Mem.of w) Try.func99 rfl Try.ntmps99 (by rfl) (Mem.le_refl _) ?_
      repeat' (first
        | refine VC_seq ?_
        | refine VC_region ?_
        | refine VL_nil ?_
        | refine VC_ret ?_
        | refine VC_exit ?_
        | refine VC_block ?_
        | refine VC_skip ?_
        | refine kbox ?_
        | refine kall ?_
        | refine kst ?_
        | refine ksN ?_
        | refine klt ?_
        | refine kl1 ?_
        | refine klK ?_
        | refine kap ?_
        | ((first | apply VL_q | apply VG_q | apply VS_q2); (first  | exact qmv (by rfl) | exact qas (by rfl) | exact ql1 (by rfl) | exact qlA (by rfl) | exact qfa (by rfl) | exact qmf (by rfl) | exact qfd (by rfl) | exact qm1 (by rfl) | exact qbd (by rfl) | exact qno (by rfl) | exact qex (by rfl) | exact qln (by rfl) | exact qls (by rfl) | exact qlr (by rfl) | exact qpt (by rfl) | exact qpf (by rfl) | exact qcp (by rfl) | exact qbe (by rfl) | exact qbn (by rfl) | exact qsn (by rfl) | exact qad (by rfl) | exact qsa (by rfl) | exact qsu (by rfl) | exact QS_bin (by rfl) (by rfl) (by first | exact B_slnil | exact Bq_eql_Msg | exact Bq_neq_Msg | exact Bq_eql_Pair | exact Bq_neq_Pair | exact Bq_eql_Op | exact Bq_neq_Op | exact Bq_eql_Cfg | exact Bq_neq_Cfg)); rfl)
        | refine sst ?_
        | refine VS_nil ?_
        | refine eeq ?_
        | refine ees ?_ (by first | exact es1 (by rfl) | exact esN (by rfl))
        | refine VE_nil ?_
        | refine kyes ?_
        | refine kno ?_
        | refine gyes ?_
        | refine gno ?_
        | refine knoU ?_
        | refine gnoU ?_
        | refine VG_nil ⟨by rfl, ?_⟩
        | refine VG_nil ?_
        | refine dT ?_
        | refine d1 ?_
        | refine dQ ?_
        | refine ctr ?_
        | refine cfa ?_
        | refine kdec (fun hq => ?_) (fun hq => ?_)
        | refine gdec (fun hq => ?_) (fun hq => ?_)
        | refine cco (fun hq => ?_) (fun hq => ?_))
      show Res _ _ _ _
      refine Res.one (by rfl) (ResV_agg (by rfl) (by rfl) _ (by rfl) ?_)
      rfl
    | false =>
      have h2 : decide ((l.length : Int) < i) = true := by
        simp only [decide_eq_false_iff_not] at h1
        exact decide_eq_true (by omega)
      refine V_flat (args := [.slice A l.length c, .int .i64 i]) (M := Mem.of w) Try.func99 rfl Try.ntmps99 (by rfl) (Mem.le_refl _) ?_
      repeat' (first
        | refine VC_seq ?_
        | refine VC_region ?_
        | refine VL_nil ?_
        | refine VC_ret ?_
        | refine VC_exit ?_
        | refine VC_block ?_
        | refine VC_skip ?_
        | refine kbox ?_
        | refine kall ?_
        | refine kst ?_
        | refine ksN ?_
        | refine klt ?_
        | refine kl1 ?_
        | refine klK ?_
        | refine kap ?_
        | ((first | apply VL_q | apply VG_q | apply VS_q2); (first  | exact qmv (by rfl) | exact qas (by rfl) | exact ql1 (by rfl) | exact qlA (by rfl) | exact qfa (by rfl) | exact qmf (by rfl) | exact qfd (by rfl) | exact qm1 (by rfl) | exact qbd (by rfl) | exact qno (by rfl) | exact qex (by rfl) | exact qln (by rfl) | exact qls (by rfl) | exact qlr (by rfl) | exact qpt (by rfl) | exact qpf (by rfl) | exact qcp (by rfl) | exact qbe (by rfl) | exact qbn (by rfl) | exact qsn (by rfl) | exact qad (by rfl) | exact qsa (by rfl) | exact qsu (by rfl) | exact QS_bin (by rfl) (by rfl) (by first | exact B_slnil | exact Bq_eql_Msg | exact Bq_neq_Msg | exact Bq_eql_Pair | exact Bq_neq_Pair | exact Bq_eql_Op | exact Bq_neq_Op | exact Bq_eql_Cfg | exact Bq_neq_Cfg)); rfl)
        | refine sst ?_
        | refine VS_nil ?_
        | refine eeq ?_
        | refine ees ?_ (by first | exact es1 (by rfl) | exact esN (by rfl))
        | refine VE_nil ?_
        | refine kyes ?_
        | refine kno ?_
        | refine gyes ?_
        | refine gno ?_
        | refine knoU ?_
        | refine gnoU ?_
        | refine VG_nil ⟨by rfl, ?_⟩
        | refine VG_nil ?_
        | refine dT ?_
        | refine d1 ?_
        | refine dQ ?_
        | refine ctr ?_
        | refine cfa ?_
        | refine kdec (fun hq => ?_) (fun hq => ?_)
        | refine gdec (fun hq => ?_) (fun hq => ?_)
        | refine cco (fun hq => ?_) (fun hq => ?_))
      show Res _ _ _ _
      refine Res.one (by rfl) (ResV_agg (by rfl) (by rfl) _ (by rfl) ?_)
      rfl
  · obtain ⟨n, rfl⟩ : ∃ n : Nat, i = n := ⟨i.toNat, by omega⟩
    have hnl : n ≤ l.length := by omega
    rw [rangeS_n hnl]
    have g1 : decide ((n : Int) < 0) = false := decide_eq_false (by omega)
    have g2 : decide ((l.length : Int) < (n : Int)) = false := decide_eq_false (by omega)
    have cN := fun (s : Span) (W : World) (h1 : s.lo.size ≤ 1000000000) (h2 : s.hi.size ≤ 1000000000) => ref_Norm s W (by unfold maxLen; omega) (by unfold maxLen; omega)
    rcases Nat.eq_zero_or_pos n with hz | hz
    · subst hz
      have g3 : decide ((0 : Int) < ((0 : Nat) : Int)) = false := by decide
      rcases Nat.lt_or_ge 0 l.length with hlt | hge
      · have g4 := dlt hlt
        obtain ⟨b, off, rfl, hcA⟩ := hM.get hlt
        have z1 := hs l[0] (List.getElem_mem hlt)
        have hR : rangeN l 0 = norm ⟨em, l[0], false⟩ := by unfold rangeN; rw [if_neg (by omega), if_pos hlt, decide_eq_true hlt, sAt_eq hlt]; rfl
        rw [hR]
        have cQ := fun W => cN ⟨em, l[0], false⟩ W (show em.size ≤ 1000000000 by decide) z1
        refine V_flat (args := [.slice (some ⟨b, off, none⟩) l.length c, .int .i64 ((0 : Nat) : Int)]) (M := Mem.of w) Try.func99 rfl Try.ntmps99 (by rfl) (Mem.le_refl _) ?_
        repeat' (first
          | refine VC_seq ?_
          | refine VC_region ?_
          | refine VL_nil ?_
          | refine VC_ret ?_
          | refine VC_exit ?_
          | refine VC_block ?_
          | refine VC_skip ?_
          | refine kbox ?_
          | refine kall ?_
          | refine kst ?_
          | refine ksN ?_
          | refine klt ?_
          | refine kl1 ?_
          | refine klK ?_
          | refine kap ?_
          | ((first | apply VL_q | apply VG_q | apply VS_q2); (first | exact QS_indexAddr (0) (by rfl) (by rfl) (by omega) (by omega) | exact QS_mload1 (by rfl) (hcA 0 _ (by rfl)) | exact QS_mload1 (by rfl) (hcA _ _ (by rfl)) | exact QS_mloadN _ (by rfl) hcA _ (by rfl) | exact QS_call (by rfl) (fun W _ => cQ W) | exact qmv (by rfl) | exact qas (by rfl) | exact ql1 (by rfl) | exact qlA (by rfl) | exact qfa (by rfl) | exact qmf (by rfl) | exact qfd (by rfl) | exact qm1 (by rfl) | exact qbd (by rfl) | exact qno (by rfl) | exact qex (by rfl) | exact qln (by rfl) | exact qls (by rfl) | exact qlr (by rfl) | exact qpt (by rfl) | exact qpf (by rfl) | exact qcp (by rfl) | exact qbe (by rfl) | exact qbn (by rfl) | exact qsn (by rfl) | exact qad (by rfl) | exact qsa (by rfl) | exact qsu (by rfl) | exact QS_bin (by rfl) (by rfl) (by first | exact B_slnil | exact Bq_eql_Msg | exact Bq_neq_Msg | exact Bq_eql_Pair | exact Bq_neq_Pair | exact Bq_eql_Op | exact Bq_neq_Op | exact Bq_eql_Cfg | exact Bq_neq_Cfg)); rfl)
          | refine sst ?_
          | refine VS_nil ?_
          | refine eeq ?_
          | refine ees ?_ (by first | exact es1 (by rfl) | exact esN (by rfl))
          | refine VE_nil ?_
          | refine kyes ?_
          | refine kno ?_
          | refine gyes ?_
          | refine gno ?_
          | refine knoU ?_
          | refine gnoU ?_
          | refine VG_nil ⟨by rfl, ?_⟩
          | refine VG_nil ?_
          | refine dT ?_
          | refine d1 ?_
          | refine dQ ?_
          | refine ctr ?_
          | refine cfa ?_
          | refine kdec (fun hq => ?_) (fun hq => ?_)
          | refine gdec (fun hq => ?_) (fun hq => ?_)
          | refine cco (fun hq => ?_) (fun hq => ?_))
        show Res _ _ _ _
        refine Res.one (by rfl) (ResV_agg (by rfl) (by rfl) _ (by rfl) ?_)
        rfl
      · have g4 := dge hge
        have hR : rangeN l 0 = norm ⟨em, em, true⟩ := by unfold rangeN; rw [if_neg (by omega), if_neg (by omega), decide_eq_false (by omega)]; rfl
        rw [hR]
        have cQ := fun W => cN ⟨em, em, true⟩ W (show em.size ≤ 1000000000 by decide) (show em.size ≤ 1000000000 by decide)
        refine V_flat (args := [.slice A l.length c, .int .i64 ((0 : Nat) : Int)]) (M := Mem.of w) Try.func99 rfl Try.ntmps99 (by rfl) (Mem.le_refl _) ?_
        repeat' (first
          | refine VC_seq ?_
          | refine VC_region ?_
          | refine VL_nil ?_
          | refine VC_ret ?_
          | refine VC_exit ?_
          | refine VC_block ?_
          | refine VC_skip ?_
          | refine kbox ?_
          | refine kall ?_
          | refine kst ?_
          | refine ksN ?_
          | refine klt ?_
          | refine kl1 ?_
          | refine klK ?_
          | refine kap ?_
          | ((first | apply VL_q | apply VG_q | apply VS_q2); (first | exact QS_call (by rfl) (fun W _ => cQ W) | exact qmv (by rfl) | exact qas (by rfl) | exact ql1 (by rfl) | exact qlA (by rfl) | exact qfa (by rfl) | exact qmf (by rfl) | exact qfd (by rfl) | exact qm1 (by rfl) | exact qbd (by rfl) | exact qno (by rfl) | exact qex (by rfl) | exact qln (by rfl) | exact qls (by rfl) | exact qlr (by rfl) | exact qpt (by rfl) | exact qpf (by rfl) | exact qcp (by rfl) | exact qbe (by rfl) | exact qbn (by rfl) | exact qsn (by rfl) | exact qad (by rfl) | exact qsa (by rfl) | exact qsu (by rfl) | exact QS_bin (by rfl) (by rfl) (by first | exact B_slnil | exact Bq_eql_Msg | exact Bq_neq_Msg | exact Bq_eql_Pair | exact Bq_neq_Pair | exact Bq_eql_Op | exact Bq_neq_Op | exact Bq_eql_Cfg | exact Bq_neq_Cfg)); rfl)
          | refine sst ?_
          | refine VS_nil ?_
          | refine eeq ?_
          | refine ees ?_ (by first | exact es1 (by rfl) | exact esN (by rfl))
          | refine VE_nil ?_
          | refine kyes ?_
          | refine kno ?_
          | refine gyes ?_
          | refine gno ?_
          | refine knoU ?_
          | refine gnoU ?_
          | refine VG_nil ⟨by rfl, ?_⟩
          | refine VG_nil ?_
          | refine dT ?_
          | refine d1 ?_
          | refine dQ ?_
          | refine ctr ?_
          | refine cfa ?_
          | refine kdec (fun hq => ?_) (fun hq => ?_)
          | refine gdec (fun hq => ?_) (fun hq => ?_)
          | refine cco (fun hq => ?_) (fun hq => ?_))
        show Res _ _ _ _
        refine Res.one (by rfl) (ResV_agg (by rfl) (by rfl) _ (by rfl) ?_)
        rfl
    · have g3 : decide ((0 : Int) < (n : Int)) = true := decide_eq_true (by omega)
      have hlt1 : n - 1 < l.length := by omega
      obtain ⟨b, off, rfl, hcB⟩ := hM.get hlt1
      have z1 := hs l[n - 1] (List.getElem_mem hlt1)
      rcases Nat.lt_or_ge n l.length with hlt | hge
      · have g4 := dlt hlt
        have z2 := hs l[n] (List.getElem_mem hlt)
        obtain ⟨b', off', he, hcA⟩ := hM.get hlt
        injection he with he
        injection he with he1 he2
        subst he1 he2
        have hR : rangeN l n = norm ⟨l[n - 1], l[n], false⟩ := by unfold rangeN; rw [if_pos hz, if_pos hlt, decide_eq_true hlt, sAt_eq hlt, sAt_eq hlt1]; rfl
        rw [hR]
        have cQ := fun W => cN ⟨l[n - 1], l[n], false⟩ W z1 z2
        refine V_flat (args := [.slice (some ⟨b, off, none⟩) l.length c, .int .i64 (n : Int)]) (M := Mem.of w) Try.func99 rfl Try.ntmps99 (by rfl) (Mem.le_refl _) ?_
        repeat' (first
          | refine VC_seq ?_
          | refine VC_region ?_
          | refine VL_nil ?_
          | refine VC_ret ?_
          | refine VC_exit ?_
          | refine VC_block ?_
          | refine VC_skip ?_
          | refine kbox ?_
          | refine kall ?_
          | refine kst ?_
          | refine ksN ?_
          | refine klt ?_
          | refine kl1 ?_
          | refine klK ?_
          | refine kap ?_
          | ((first | apply VL_q | apply VG_q | apply VS_q2); (first | exact QS_indexAddr (n) (by rfl) (by rfl) (by omega) (by omega) | exact QS_indexAddr (n - 1) (by rfl) (by rfl) (by omega) (by omega) | exact QS_mload1 (by rfl) (hcA 0 _ (by rfl)) | exact QS_mload1 (by rfl) (hcA _ _ (by rfl)) | exact QS_mloadN _ (by rfl) hcA _ (by rfl) | exact QS_mload1 (by rfl) (hcB 0 _ (by rfl)) | exact QS_mload1 (by rfl) (hcB _ _ (by rfl)) | exact QS_mloadN _ (by rfl) hcB _ (by rfl) | exact QS_call (by rfl) (fun W _ => cQ W) | exact qmv (by rfl) | exact qas (by rfl) | exact ql1 (by rfl) | exact qlA (by rfl) | exact qfa (by rfl) | exact qmf (by rfl) | exact qfd (by rfl) | exact qm1 (by rfl) | exact qbd (by rfl) | exact qno (by rfl) | exact qex (by rfl) | exact qln (by rfl) | exact qls (by rfl) | exact qlr (by rfl) | exact qpt (by rfl) | exact qpf (by rfl) | exact qcp (by rfl) | exact qbe (by rfl) | exact qbn (by rfl) | exact qsn (by rfl) | exact qad (by rfl) | exact qsa (by rfl) | exact qsu (by rfl) | exact QS_bin (by rfl) (by rfl) (by first | exact B_slnil | exact Bq_eql_Msg | exact Bq_neq_Msg | exact Bq_eql_Pair | exact Bq_neq_Pair | exact Bq_eql_Op | exact Bq_neq_Op | exact Bq_eql_Cfg | exact Bq_neq_Cfg)); rfl)
          | refine sst ?_
          | refine VS_nil ?_
          | refine eeq ?_
          | refine ees ?_ (by first | exact es1 (by rfl) | exact esN (by rfl))
          | refine VE_nil ?_
          | refine kyes ?_
          | refine kno ?_
          | refine gyes ?_
          | refine gno ?_
          | refine knoU ?_
          | refine gnoU ?_
          | refine VG_nil ⟨by rfl, ?_⟩
          | refine VG_nil ?_
          | refine dT ?_
          | refine d1 ?_
          | refine dQ ?_
          | refine ctr ?_
          | refine cfa ?_
          | refine kdec (fun hq => ?_) (fun hq => ?_)
          | refine gdec (fun hq => ?_) (fun hq => ?_)
          | refine cco (fun hq => ?_) (fun hq => ?_))
        show Res _ _ _ _
        refine Res.one (by rfl) (ResV_agg (by rfl) (by rfl) _ (by rfl) ?_)
        rfl
      · have g4 := dge hge
        have hR : rangeN l n = norm ⟨l[n - 1], em, true⟩ := by unfold rangeN; rw [if_pos hz, if_neg (by omega), decide_eq_false (by omega), sAt_eq hlt1]; rfl
        rw [hR]
        have cQ := fun W => cN ⟨l[n - 1], em, true⟩ W z1 (show em.size ≤ 1000000000 by decide)
        refine V_flat (args := [.slice (some ⟨b, off, none⟩) l.length c, .int .i64 (n : Int)]) (M := Mem.of w) Try.func99 rfl Try.ntmps99 (by rfl) (Mem.le_refl _) ?_
        repeat' (first
          | refine VC_seq ?_
          | refine VC_region ?_
          | refine VL_nil ?_
          | refine VC_ret ?_
          | refine VC_exit ?_
          | refine VC_block ?_
          | refine VC_skip ?_
          | refine kbox ?_
          | refine kall ?_
          | refine kst ?_
          | refine ksN ?_
          | refine klt ?_
          | refine kl1 ?_
          | refine klK ?_
          | refine kap ?_
          | ((first | apply VL_q | apply VG_q | apply VS_q2); (first | exact QS_indexAddr (n - 1) (by rfl) (by rfl) (by omega) (by omega) | exact QS_mload1 (by rfl) (hcB 0 _ (by rfl)) | exact QS_mload1 (by rfl) (hcB _ _ (by rfl)) | exact QS_mloadN _ (by rfl) hcB _ (by rfl) | exact QS_call (by rfl) (fun W _ => cQ W) | exact qmv (by rfl) | exact qas (by rfl) | exact ql1 (by rfl) | exact qlA (by rfl) | exact qfa (by rfl) | exact qmf (by rfl) | exact qfd (by rfl) | exact qm1 (by rfl) | exact qbd (by rfl) | exact qno (by rfl) | exact qex (by rfl) | exact qln (by rfl) | exact qls (by rfl) | exact qlr (by rfl) | exact qpt (by rfl) | exact qpf (by rfl) | exact qcp (by rfl) | exact qbe (by rfl) | exact qbn (by rfl) | exact qsn (by rfl) | exact qad (by rfl) | exact qsa (by rfl) | exact qsu (by rfl) | exact QS_bin (by rfl) (by rfl) (by first | exact B_slnil | exact Bq_eql_Msg | exact Bq_neq_Msg | exact Bq_eql_Pair | exact Bq_neq_Pair | exact Bq_eql_Op | exact Bq_neq_Op | exact Bq_eql_Cfg | exact Bq_neq_Cfg)); rfl)
          | refine sst ?_
          | refine VS_nil ?_
          | refine eeq ?_
          | refine ees ?_ (by first | exact es1 (by rfl) | exact esN (by rfl))
          | refine VE_nil ?_
          | refine kyes ?_
          | refine kno ?_
          | refine gyes ?_
          | refine gno ?_
          | refine knoU ?_
          | refine gnoU ?_
          | refine VG_nil ⟨by rfl, ?_⟩
          | refine VG_nil ?_
          | refine dT ?_
          | refine d1 ?_
          | refine dQ ?_
          | refine ctr ?_
          | refine cfa ?_
          | refine kdec (fun hq => ?_) (fun hq => ?_)
          | refine gdec (fun hq => ?_) (fun hq => ?_)
          | refine cco (fun hq => ?_) (fun hq => ?_))
        show Res _ _ _ _
        refine Res.one (by rfl) (ResV_agg (by rfl) (by rfl) _ (by rfl) ?_)
        rfl
end Go.Proofs.Ytclbmfepdlffnaa
namespace Go.Proofs.Ytclbmfepdlffnaa
open Go Go.RowKit
set_option linter.unusedVariables false
set_option maxRecDepth 20000
set_option linter.unusedSimpArgs false
set_option maxHeartbeats 2000000
attribute [local irreducible] Calls
end Go.Proofs.Ytclbmfepdlffnaa
namespace Go.Proofs.Ytclbmfepdlffnaa
open Go Go.RowKit
set_option linter.unusedVariables false
set_option maxRecDepth 20000
set_option linter.unusedSimpArgs false
set_option maxHeartbeats 2000000
attribute [local irreducible] Calls
theorem norm_size (s : Span) : (norm s).lo.size ≤ s.lo.size ∧ (norm s).hi.size ≤ s.hi.size := by
  unfold norm
  split
  · exact ⟨Nat.zero_le _, Nat.zero_le _⟩
  · split
    · exact ⟨Nat.le_refl _, Nat.zero_le _⟩
    · exact ⟨Nat.le_refl _, Nat.le_refl _⟩
theorem sAt_size {ps : List ByteArray} {n : Nat} (h : ∀ s ∈ ps, s.size ≤ n) (i : Nat) : (sAt ps i).size ≤ n := by
  unfold sAt
  cases hg : ps[i]? with
  | none => exact Nat.zero_le _
  | some x => exact h x (List.mem_of_getElem? hg)
theorem rangeS_size {ps : List ByteArray} {n : Nat} (h : ∀ s ∈ ps, s.size ≤ n) (i : Int) : (rangeS ps i).lo.size ≤ n ∧ (rangeS ps i).hi.size ≤ n := by
  unfold rangeS
  split
  · exact ⟨Nat.zero_le _, Nat.zero_le _⟩
  · unfold rangeN
    have h1 := norm_size ⟨if 0 < i.toNat then sAt ps (i.toNat - 1) else em, if i.toNat < ps.length then sAt ps i.toNat else em, !decide (i.toNat < ps.length)⟩
    have h2 := sAt_size h (i.toNat - 1)
    have h3 := sAt_size h i.toNat
    refine ⟨Nat.le_trans h1.1 ?_, Nat.le_trans h1.2 ?_⟩ <;> simp only <;> split <;> first | assumption | exact Nat.zero_le _
end Go.Proofs.Ytclbmfepdlffnaa
namespace Go.Proofs.Ytclbmfepdlffnaa
open Go Go.RowKit
set_option linter.unusedVariables false
set_option maxRecDepth 20000
set_option linter.unusedSimpArgs false
set_option maxHeartbeats 2000000
attribute [local irreducible] Calls
theorem has_own {m : Msg} (h : rightM m = true) : has (spanM m) m.key = true := by
  by_cases h4 : m.kind = 4
  · unfold rightM at h
    rw [if_pos h4] at h
    simp only [Bool.and_eq_true] at h
    have he := h.2.2
    rw [empty_iff] at he
    have : (spanM m).lo = m.key := by unfold spanM; rw [if_pos h4]
    rw [this] at he
    simpa using he
  · unfold spanM
    rw [if_neg h4, has_point]; simp
theorem touch_of {a b : Span} {x : ByteArray} (h1 : has a x = true) (h2 : has b x = true) : touch a b = true := by
  unfold touch
  cases he : empty (meet a b) with
  | false => rfl
  | true =>
    have := has_empty he x
    rw [has_meet, h1, h2] at this
    cases this
end Go.Proofs.Ytclbmfepdlffnaa
