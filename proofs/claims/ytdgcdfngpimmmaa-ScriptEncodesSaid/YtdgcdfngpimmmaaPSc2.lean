/- Texts with their length ahead; the taker's methods; an operation of bytes: plain Lean and walks. -/
import Derived.Test.YtdgcdfngpimmmaaPSc
import Derived.Test.YtdgcdfngpimmmaaPLg6
namespace Go.Proofs.Ytdgcdfngpimmmaa
open Go Go.RowKit
attribute [local irreducible] Calls
set_option linter.unusedVariables false
set_option maxRecDepth 20000
set_option linter.unusedSimpArgs false
set_option maxHeartbeats 4000000
/-- Is there a whole text? -/
def okT (s : ByteArray) : Bool := decide (0 < s.size) && decide (byt s 0 + 1 ≤ (s.size : Int))
def hd1 (s : ByteArray) : Nat := 1 + (byt s 0).toNat
def takeT (s : ByteArray) : ByteArray × ByteArray × Bool := if okT s = true then (s.extract 1 (hd1 s), s.extract (hd1 s) s.size, true) else (em, em, false)
theorem ba_em {s : ByteArray} (h : s.size = 0) : s = em := by
  have : s.data.toList = [] := List.length_eq_zero_iff.1 (by simpa using h)
  cases s; rename_i d; cases d; simp_all
theorem em_dec (s : ByteArray) : decide (s = ⟨#[]⟩) = decide (s.size = 0) := by
  by_cases h : s.size = 0
  · rw [ba_em h]; rfl
  · have : s ≠ ⟨#[]⟩ := fun e => h (by rw [e]; rfl)
    simp [h, this]
theorem pack_TakeText (s : ByteArray) (w : World) (hs : s.size ≤ 1000000) : Calls Try.prog 53 #[.string s] w fun e w' => e = .returned (.tuple #[.string (takeT s).1, .string (takeT s).2.1, .bool (takeT s).2.2]) ∧ Below w.heap.size w w' := by
  have hb := byt_lt s 0
  have e0 := em_dec s
  rcases Nat.eq_zero_or_pos s.size with h0 | h0
  · have hq : decide (s = ⟨#[]⟩) = true := by rw [e0]; exact decide_eq_true h0
    have hk : okT s = false := by unfold okT; simp [h0]
    unfold takeT
    rw [if_neg (by rw [hk]; simp)]
    refine V_flat (args := [.string s]) (M := Mem.no) Try.func53 rfl Try.ntmps53 (by rfl) (Mem.no_le _) ?_
    repeat' (first
      | refine VC_seq ?_
      | refine VC_region ?_
      | refine VL_nil ?_
      | refine VC_ret ?_
      | refine VC_exit ?_
      | refine VC_block ?_
      | refine VC_skip ?_
      | refine kbox ?_
      | refine kall ?_
      | refine kst ?_
      | refine ksN ?_
      | refine klt ?_
      | refine kl1 ?_
      | refine klK ?_
      | refine kap ?_
      | ((first | apply VL_q | apply VG_q | apply VS_q2); (first | exact qi0 (by rfl) | exact qi1 (by rfl) | exact qwd (by rfl) | exact qnr (by rfl) | exact qni (by rfl) | exact qmv (by rfl) | exact qas (by rfl) | exact ql1 (by rfl) | exact qlA (by rfl) | exact qfa (by rfl) | exact qmf (by rfl) | exact qfd (by rfl) | exact qm1 (by rfl) | exact qbd (by rfl) | exact qno (by rfl) | exact qex (by rfl) | exact qln (by rfl) | exact qls (by rfl) | exact qlr (by rfl) | exact qpt (by rfl) | exact qpf (by rfl) | exact qcp (by rfl) | exact qbe (by rfl) | exact qbn (by rfl) | exact qsn (by rfl) | exact qad (by rfl) | exact qsa (by rfl) | exact qsu (by rfl) | exact QS_bin (by rfl) (by rfl) (by first | exact B_slnil | exact Bq_eql_Pair | exact Bq_neq_Pair | exact Bq_eql_Op | exact Bq_neq_Op | exact Bq_eql_Cfg | exact Bq_neq_Cfg)); rfl)
      | refine sst ?_
      | refine VS_nil ?_
      | refine eeq ?_
      | refine ees ?_ (by first | exact es1 (by rfl) | exact esN (by rfl))
      | refine VE_nil ?_
      | refine kyes ?_
      | refine kno ?_
      | refine gyes ?_
      | refine gno ?_
      | refine knoU ?_
      | refine gnoU ?_
      | refine VG_nil ⟨by rfl, ?_⟩
      | refine VG_nil ?_
      | refine dT ?_
      | refine d1 ?_
      | refine dQ ?_
      | refine ctr ?_
      | refine cfa ?_
      | refine kdec (fun hq => ?_) (fun hq => ?_)
      | refine gdec (fun hq => ?_) (fun hq => ?_)
      | refine cco (fun hq => ?_) (fun hq => ?_))
    exact Res.three (by rfl) (ResV_tmp (by rfl) rfl) (ResV_tmp (by rfl) rfl) (ResV_tmp (by rfl) rfl)
  · have hq : decide (s = ⟨#[]⟩) = false := by rw [e0]; exact decide_eq_false (by omega)
    by_cases h1 : byt s 0 + 1 ≤ (s.size : Int)
    · have hk : okT s = true := by unfold okT; simp [h0, h1]
      have hlt : decide ((s.size : Int) - 1 < byt s 0) = false := decide_eq_false (by omega)
      have hz : (1 : Int) + byt s 0 = ((hd1 s : Nat) : Int) := by unfold hd1; omega
      have hz2 : hd1 s ≤ s.size := by unfold hd1; omega
      have hz1 : 1 ≤ hd1 s := by unfold hd1; omega
      unfold takeT
      rw [if_pos hk]
      refine V_flat (args := [.string s]) (M := Mem.no) Try.func53 rfl Try.ntmps53 (by rfl) (Mem.no_le _) ?_
      repeat' (first
        | refine VC_seq ?_
        | refine VC_region ?_
        | refine VL_nil ?_
        | refine VC_ret ?_
        | refine VC_exit ?_
        | refine VC_block ?_
        | refine VC_skip ?_
        | refine kbox ?_
        | refine kall ?_
        | refine kst ?_
        | refine ksN ?_
        | refine klt ?_
        | refine kl1 ?_
        | refine klK ?_
        | refine kap ?_
        | ((first | apply VL_q | apply VG_q | apply VS_q2); (first | exact qi0 (by rfl) | exact qi1 (by rfl) | exact qwd (by rfl) | exact qnr (by rfl) | exact qni (by rfl) | exact QS_cutS 1 (hd1 s) (by rfl) (by rfl) (by show Env.op _ _ = _; rw [← hz]; rfl) hz1 hz2 | exact QS_cutS (hd1 s) s.size (by rfl) (by show Env.op _ _ = _; rw [← hz]; rfl) (by rfl) hz2 (Nat.le_refl _) | exact qmv (by rfl) | exact qas (by rfl) | exact ql1 (by rfl) | exact qlA (by rfl) | exact qfa (by rfl) | exact qmf (by rfl) | exact qfd (by rfl) | exact qm1 (by rfl) | exact qbd (by rfl) | exact qno (by rfl) | exact qex (by rfl) | exact qln (by rfl) | exact qls (by rfl) | exact qlr (by rfl) | exact qpt (by rfl) | exact qpf (by rfl) | exact qcp (by rfl) | exact qbe (by rfl) | exact qbn (by rfl) | exact qsn (by rfl) | exact qad (by rfl) | exact qsa (by rfl) | exact qsu (by rfl) | exact QS_bin (by rfl) (by rfl) (by first | exact B_slnil | exact Bq_eql_Pair | exact Bq_neq_Pair | exact Bq_eql_Op | exact Bq_neq_Op | exact Bq_eql_Cfg | exact Bq_neq_Cfg)); rfl)
        | refine sst ?_
        | refine VS_nil ?_
        | refine eeq ?_
        | refine ees ?_ (by first | exact es1 (by rfl) | exact esN (by rfl))
        | refine VE_nil ?_
        | refine kyes ?_
        | refine kno ?_
        | refine gyes ?_
        | refine gno ?_
        | refine knoU ?_
        | refine gnoU ?_
        | refine VG_nil ⟨by rfl, ?_⟩
        | refine VG_nil ?_
        | refine dT ?_
        | refine d1 ?_
        | refine dQ ?_
        | refine ctr ?_
        | refine cfa ?_
        | refine kdec (fun hq => ?_) (fun hq => ?_)
        | refine gdec (fun hq => ?_) (fun hq => ?_)
        | refine cco (fun hq => ?_) (fun hq => ?_))
      exact Res.three (by rfl) (ResV_tmp (by rfl) rfl) (ResV_tmp (by rfl) rfl) (ResV_tmp (by rfl) rfl)
    · have hk : okT s = false := by unfold okT; simp [h1]
      have hlt : decide ((s.size : Int) - 1 < byt s 0) = true := decide_eq_true (by omega)
      unfold takeT
      rw [if_neg (by rw [hk]; simp)]
      refine V_flat (args := [.string s]) (M := Mem.no) Try.func53 rfl Try.ntmps53 (by rfl) (Mem.no_le _) ?_
      repeat' (first
        | refine VC_seq ?_
        | refine VC_region ?_
        | refine VL_nil ?_
        | refine VC_ret ?_
        | refine VC_exit ?_
        | refine VC_block ?_
        | refine VC_skip ?_
        | refine kbox ?_
        | refine kall ?_
        | refine kst ?_
        | refine ksN ?_
        | refine klt ?_
        | refine kl1 ?_
        | refine klK ?_
        | refine kap ?_
        | ((first | apply VL_q | apply VG_q | apply VS_q2); (first | exact qi0 (by rfl) | exact qi1 (by rfl) | exact qwd (by rfl) | exact qnr (by rfl) | exact qni (by rfl) | exact qmv (by rfl) | exact qas (by rfl) | exact ql1 (by rfl) | exact qlA (by rfl) | exact qfa (by rfl) | exact qmf (by rfl) | exact qfd (by rfl) | exact qm1 (by rfl) | exact qbd (by rfl) | exact qno (by rfl) | exact qex (by rfl) | exact qln (by rfl) | exact qls (by rfl) | exact qlr (by rfl) | exact qpt (by rfl) | exact qpf (by rfl) | exact qcp (by rfl) | exact qbe (by rfl) | exact qbn (by rfl) | exact qsn (by rfl) | exact qad (by rfl) | exact qsa (by rfl) | exact qsu (by rfl) | exact QS_bin (by rfl) (by rfl) (by first | exact B_slnil | exact Bq_eql_Pair | exact Bq_neq_Pair | exact Bq_eql_Op | exact Bq_neq_Op | exact Bq_eql_Cfg | exact Bq_neq_Cfg)); rfl)
        | refine sst ?_
        | refine VS_nil ?_
        | refine eeq ?_
        | refine ees ?_ (by first | exact es1 (by rfl) | exact esN (by rfl))
        | refine VE_nil ?_
        | refine kyes ?_
        | refine kno ?_
        | refine gyes ?_
        | refine gno ?_
        | refine knoU ?_
        | refine gnoU ?_
        | refine VG_nil ⟨by rfl, ?_⟩
        | refine VG_nil ?_
        | refine dT ?_
        | refine d1 ?_
        | refine dQ ?_
        | refine ctr ?_
        | refine cfa ?_
        | refine kdec (fun hq => ?_) (fun hq => ?_)
        | refine gdec (fun hq => ?_) (fun hq => ?_)
        | refine cco (fun hq => ?_) (fun hq => ?_))
      exact Res.three (by rfl) (ResV_tmp (by rfl) rfl) (ResV_tmp (by rfl) rfl) (ResV_tmp (by rfl) rfl)
def b1 (s : ByteArray) : Int := if s.size = 0 then 0 else byt s 0
def r1 (s : ByteArray) : ByteArray := if s.size = 0 then em else s.extract 1 s.size
abbrev tkC (s : ByteArray) (k : Bool) : List Value := [.string s, .bool k]
theorem size_ext (s : ByteArray) (a b : Nat) : (s.extract a b).size ≤ s.size := by rw [ByteArray.size_extract]; omega
theorem size_r1 {s : ByteArray} {n : Nat} (h : s.size ≤ n) : (r1 s).size ≤ n := by
  unfold r1
  split
  · exact Nat.le_trans (Nat.le_of_eq rfl) (Nat.zero_le _)
  · exact Nat.le_trans (size_ext _ _ _) h
theorem size_tk1 {s : ByteArray} {n : Nat} (h : s.size ≤ n) : (takeT s).1.size ≤ n := by
  unfold takeT
  split
  · exact Nat.le_trans (size_ext _ _ _) h
  · exact Nat.zero_le _
theorem size_tk2 {s : ByteArray} {n : Nat} (h : s.size ≤ n) : (takeT s).2.1.size ≤ n := by
  unfold takeT
  split
  · exact Nat.le_trans (size_ext _ _ _) h
  · exact Nat.zero_le _
theorem op_byte1 (b : Nat) (s : ByteArray) (k : Bool) (M : Mem) (hs : s.size ≤ 1000000) : CallX Try.prog 57 [.pointer (some ⟨b, 0, none⟩)] M [.nblk (.pointer (some ⟨b, 0, none⟩)) 111 (tkC s k)] (fun v own' => v = .int .i64 (b1 s) ∧ own' = [.nblk (.pointer (some ⟨b, 0, none⟩)) 111 (tkC (r1 s) (k && !decide (s.size = 0)))]) := by
  refine V_x Try.func57 rfl Try.ntmps57 (by rfl) (fun w M0 => ?_)
  have e0 := em_dec s
  rcases Nat.eq_zero_or_pos s.size with h0 | h0
  · have hq : decide (s = ⟨#[]⟩) = true := by rw [e0]; exact decide_eq_true h0
    repeat' (first
      | refine knb 0 ?_
      | refine VC_seq ?_
      | refine VC_region ?_
      | refine VL_nil ?_
      | refine VC_ret ?_
      | refine VC_exit ?_
      | refine VC_block ?_
      | refine VC_skip ?_
      | refine kbox ?_
      | refine kall ?_
      | refine kst ?_
      | refine ksN ?_
      | refine klt ?_
      | refine kl1 ?_
      | refine klK ?_
      | refine kap ?_
      | ((first | apply VL_q | apply VG_q | apply VS_q2); (first | exact qi0 (by rfl) | exact qi1 (by rfl) | exact qwd (by rfl) | exact qnr (by rfl) | exact qni (by rfl) | exact QS_nload1 0 (by rfl) (by rfl) (by rfl) (by rfl) | exact qmv (by rfl) | exact qas (by rfl) | exact ql1 (by rfl) | exact qlA (by rfl) | exact qfa (by rfl) | exact qmf (by rfl) | exact qfd (by rfl) | exact qm1 (by rfl) | exact qbd (by rfl) | exact qno (by rfl) | exact qex (by rfl) | exact qln (by rfl) | exact qls (by rfl) | exact qlr (by rfl) | exact qpt (by rfl) | exact qpf (by rfl) | exact qcp (by rfl) | exact qbe (by rfl) | exact qbn (by rfl) | exact qsn (by rfl) | exact qad (by rfl) | exact qsa (by rfl) | exact qsu (by rfl) | exact QS_bin (by rfl) (by rfl) (by first | exact B_slnil | exact Bq_eql_Pair | exact Bq_neq_Pair | exact Bq_eql_Op | exact Bq_neq_Op | exact Bq_eql_Cfg | exact Bq_neq_Cfg)); rfl)
      | refine sst ?_
      | refine VS_nil ?_
      | refine eeq ?_
      | refine ees ?_ (by first | exact es1 (by rfl) | exact esN (by rfl))
      | refine VE_nil ?_
      | refine kyes ?_
      | refine kno ?_
      | refine gyes ?_
      | refine gno ?_
      | refine knoU ?_
      | refine gnoU ?_
      | refine VG_nil ⟨by rfl, ?_⟩
      | refine VG_nil ?_
      | refine dT ?_
      | refine d1 ?_
      | refine dQ ?_
      | refine ctr ?_
      | refine cfa ?_
      | refine kdec (fun hq => ?_) (fun hq => ?_)
      | refine gdec (fun hq => ?_) (fun hq => ?_)
      | refine cco (fun hq => ?_) (fun hq => ?_))
    refine ⟨_, [0], [.nblk (.pointer (some ⟨b, 0, none⟩)) 111 (tkC s false)], Res.one (by rfl) (ResV_tmp (by rfl) rfl), Mem.le_refl _, rfl, ⟨rfl, trivial⟩, ?_, ?_⟩
    · unfold b1; rw [if_pos h0]
    · have h1 : r1 s = s := by unfold r1; rw [if_pos h0]; exact (ba_em h0).symm
      have h2 : decide (s.size = 0) = true := decide_eq_true h0
      rw [h1, h2]; simp
  · have hq : decide (s = ⟨#[]⟩) = false := by rw [e0]; exact decide_eq_false (by omega)
    repeat' (first
      | refine knb 0 ?_
      | refine VC_seq ?_
      | refine VC_region ?_
      | refine VL_nil ?_
      | refine VC_ret ?_
      | refine VC_exit ?_
      | refine VC_block ?_
      | refine VC_skip ?_
      | refine kbox ?_
      | refine kall ?_
      | refine kst ?_
      | refine ksN ?_
      | refine klt ?_
      | refine kl1 ?_
      | refine klK ?_
      | refine kap ?_
      | ((first | apply VL_q | apply VG_q | apply VS_q2); (first | exact qi0 (by rfl) | exact qi1 (by rfl) | exact qwd (by rfl) | exact qnr (by rfl) | exact qni (by rfl) | exact QS_nload1 0 (by rfl) (by rfl) (by rfl) (by rfl) | exact QS_cutS 1 s.size (by rfl) (by rfl) (by rfl) (by omega) (Nat.le_refl _) | exact qmv (by rfl) | exact qas (by rfl) | exact ql1 (by rfl) | exact qlA (by rfl) | exact qfa (by rfl) | exact qmf (by rfl) | exact qfd (by rfl) | exact qm1 (by rfl) | exact qbd (by rfl) | exact qno (by rfl) | exact qex (by rfl) | exact qln (by rfl) | exact qls (by rfl) | exact qlr (by rfl) | exact qpt (by rfl) | exact qpf (by rfl) | exact qcp (by rfl) | exact qbe (by rfl) | exact qbn (by rfl) | exact qsn (by rfl) | exact qad (by rfl) | exact qsa (by rfl) | exact qsu (by rfl) | exact QS_bin (by rfl) (by rfl) (by first | exact B_slnil | exact Bq_eql_Pair | exact Bq_neq_Pair | exact Bq_eql_Op | exact Bq_neq_Op | exact Bq_eql_Cfg | exact Bq_neq_Cfg)); rfl)
      | refine sst ?_
      | refine VS_nil ?_
      | refine eeq ?_
      | refine ees ?_ (by first | exact es1 (by rfl) | exact esN (by rfl))
      | refine VE_nil ?_
      | refine kyes ?_
      | refine kno ?_
      | refine gyes ?_
      | refine gno ?_
      | refine knoU ?_
      | refine gnoU ?_
      | refine VG_nil ⟨by rfl, ?_⟩
      | refine VG_nil ?_
      | refine dT ?_
      | refine d1 ?_
      | refine dQ ?_
      | refine ctr ?_
      | refine cfa ?_
      | refine kdec (fun hq => ?_) (fun hq => ?_)
      | refine gdec (fun hq => ?_) (fun hq => ?_)
      | refine cco (fun hq => ?_) (fun hq => ?_))
    refine ⟨_, [0], [.nblk (.pointer (some ⟨b, 0, none⟩)) 111 (tkC (s.extract 1 s.size) k)], Res.one (by rfl) (ResV_tmp (by rfl) rfl), Mem.le_refl _, rfl, ⟨rfl, trivial⟩, ?_, ?_⟩
    · unfold b1; rw [if_neg (by omega)]
    · have : decide (s.size = 0) = false := decide_eq_false (by omega)
      rw [this]; unfold r1; rw [if_neg (by omega)]; simp
theorem op_text (b : Nat) (s : ByteArray) (k : Bool) (M : Mem) (hs : s.size ≤ 1000000) : CallX Try.prog 58 [.pointer (some ⟨b, 0, none⟩)] M [.nblk (.pointer (some ⟨b, 0, none⟩)) 111 (tkC s k)] (fun v own' => v = .string (takeT s).1 ∧ own' = [.nblk (.pointer (some ⟨b, 0, none⟩)) 111 (tkC (takeT s).2.1 (k && (takeT s).2.2))]) := by
  refine V_x Try.func58 rfl Try.ntmps58 (by rfl) (fun w M0 => ?_)
  cases k with
  | true =>
    repeat' (first
      | refine knb 0 ?_
      | refine VC_seq ?_
      | refine VC_region ?_
      | refine VL_nil ?_
      | refine VC_ret ?_
      | refine VC_exit ?_
      | refine VC_block ?_
      | refine VC_skip ?_
      | refine kbox ?_
      | refine kall ?_
      | refine kst ?_
      | refine ksN ?_
      | refine klt ?_
      | refine kl1 ?_
      | refine klK ?_
      | refine kap ?_
      | ((first | apply VL_q | apply VG_q | apply VS_q2); (first | exact qi0 (by rfl) | exact qi1 (by rfl) | exact qwd (by rfl) | exact qnr (by rfl) | exact qni (by rfl) | exact QS_nload1 0 (by rfl) (by rfl) (by rfl) (by rfl) | exact QS_call (by rfl) (fun W _ => pack_TakeText s W hs) | exact qmv (by rfl) | exact qas (by rfl) | exact ql1 (by rfl) | exact qlA (by rfl) | exact qfa (by rfl) | exact qmf (by rfl) | exact qfd (by rfl) | exact qm1 (by rfl) | exact qbd (by rfl) | exact qno (by rfl) | exact qex (by rfl) | exact qln (by rfl) | exact qls (by rfl) | exact qlr (by rfl) | exact qpt (by rfl) | exact qpf (by rfl) | exact qcp (by rfl) | exact qbe (by rfl) | exact qbn (by rfl) | exact qsn (by rfl) | exact qad (by rfl) | exact qsa (by rfl) | exact qsu (by rfl) | exact QS_bin (by rfl) (by rfl) (by first | exact B_slnil | exact Bq_eql_Pair | exact Bq_neq_Pair | exact Bq_eql_Op | exact Bq_neq_Op | exact Bq_eql_Cfg | exact Bq_neq_Cfg)); rfl)
      | refine sst ?_
      | refine VS_nil ?_
      | refine eeq ?_
      | refine ees ?_ (by first | exact es1 (by rfl) | exact esN (by rfl))
      | refine VE_nil ?_
      | refine kyes ?_
      | refine kno ?_
      | refine gyes ?_
      | refine gno ?_
      | refine knoU ?_
      | refine gnoU ?_
      | refine VG_nil ⟨by rfl, ?_⟩
      | refine VG_nil ?_
      | refine dT ?_
      | refine d1 ?_
      | refine dQ ?_
      | refine ctr ?_
      | refine cfa ?_
      | refine kdec (fun hq => ?_) (fun hq => ?_)
      | refine gdec (fun hq => ?_) (fun hq => ?_)
      | refine cco (fun hq => ?_) (fun hq => ?_))
    refine ⟨_, [0], [.nblk (.pointer (some ⟨b, 0, none⟩)) 111 (tkC (takeT s).2.1 (true && (takeT s).2.2))], Res.one (by rfl) (ResV_tmp (by rfl) rfl), Mem.le_refl _, rfl, ⟨rfl, trivial⟩, rfl, rfl⟩
  | false =>
    repeat' (first
      | refine knb 0 ?_
      | refine VC_seq ?_
      | refine VC_region ?_
      | refine VL_nil ?_
      | refine VC_ret ?_
      | refine VC_exit ?_
      | refine VC_block ?_
      | refine VC_skip ?_
      | refine kbox ?_
      | refine kall ?_
      | refine kst ?_
      | refine ksN ?_
      | refine klt ?_
      | refine kl1 ?_
      | refine klK ?_
      | refine kap ?_
      | ((first | apply VL_q | apply VG_q | apply VS_q2); (first | exact qi0 (by rfl) | exact qi1 (by rfl) | exact qwd (by rfl) | exact qnr (by rfl) | exact qni (by rfl) | exact QS_nload1 0 (by rfl) (by rfl) (by rfl) (by rfl) | exact QS_call (by rfl) (fun W _ => pack_TakeText s W hs) | exact qmv (by rfl) | exact qas (by rfl) | exact ql1 (by rfl) | exact qlA (by rfl) | exact qfa (by rfl) | exact qmf (by rfl) | exact qfd (by rfl) | exact qm1 (by rfl) | exact qbd (by rfl) | exact qno (by rfl) | exact qex (by rfl) | exact qln (by rfl) | exact qls (by rfl) | exact qlr (by rfl) | exact qpt (by rfl) | exact qpf (by rfl) | exact qcp (by rfl) | exact qbe (by rfl) | exact qbn (by rfl) | exact qsn (by rfl) | exact qad (by rfl) | exact qsa (by rfl) | exact qsu (by rfl) | exact QS_bin (by rfl) (by rfl) (by first | exact B_slnil | exact Bq_eql_Pair | exact Bq_neq_Pair | exact Bq_eql_Op | exact Bq_neq_Op | exact Bq_eql_Cfg | exact Bq_neq_Cfg)); rfl)
      | refine sst ?_
      | refine VS_nil ?_
      | refine eeq ?_
      | refine ees ?_ (by first | exact es1 (by rfl) | exact esN (by rfl))
      | refine VE_nil ?_
      | refine kyes ?_
      | refine kno ?_
      | refine gyes ?_
      | refine gno ?_
      | refine knoU ?_
      | refine gnoU ?_
      | refine VG_nil ⟨by rfl, ?_⟩
      | refine VG_nil ?_
      | refine dT ?_
      | refine d1 ?_
      | refine dQ ?_
      | refine ctr ?_
      | refine cfa ?_
      | refine kdec (fun hq => ?_) (fun hq => ?_)
      | refine gdec (fun hq => ?_) (fun hq => ?_)
      | refine cco (fun hq => ?_) (fun hq => ?_))
    refine ⟨_, [0], [.nblk (.pointer (some ⟨b, 0, none⟩)) 111 (tkC (takeT s).2.1 (false && (takeT s).2.2))], Res.one (by rfl) (ResV_tmp (by rfl) rfl), Mem.le_refl _, rfl, ⟨rfl, trivial⟩, rfl, rfl⟩
end Go.Proofs.Ytdgcdfngpimmmaa
