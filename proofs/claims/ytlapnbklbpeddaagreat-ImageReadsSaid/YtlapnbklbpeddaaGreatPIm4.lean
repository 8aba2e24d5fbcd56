/- An eye reads a number, a count. -/
import Derived.Test.YtlapnbklbpeddaaGreatPIm3
namespace Go.Proofs.YtlapnbklbpeddaaGreat
open Go Go.RowKit
attribute [local irreducible] Calls
set_option linter.unusedVariables false
set_option maxRecDepth 20000
set_option linter.unusedSimpArgs false
set_option maxHeartbeats 4000000
abbrev u8C (x : UInt8) : List Value := [.int .u8 (x.toNat : Int)]
theorem bcells_u8 (b : ByteArray) : bcells b = (bl b).flatMap u8C := by
  unfold bcells
  show (bl b).map _ = _
  induction bl b with
  | nil => rfl
  | cons x l ih => rw [List.map_cons, List.flatMap_cons, ih]; rfl
def shW (n : Int) : Int := IntKind.i64.wrap (n * 2 ^ 8)
def orB (a b : Int) : Int := IntKind.i64.wrap (((BitVec.ofInt 64 a ||| BitVec.ofInt 64 b).toNat : Nat) : Int)
def orW (n : Int) (c : UInt8) : Int := orB (shW n) (c.toNat : Int)
def numV (l : List UInt8) : Int := l.foldl orW 0
section
variable {P : Program} {t : TypeId} {x y : Operand}
theorem B_shl8 {a : Int} : Bin P .shl t x y (.int .i64 a) (.int .u64 8) (.int .i64 (shW a)) := .mk fun W => by
  simp [go_sem, Op.shift, shW]
theorem B_or {a b : Int} : Bin P .or t x y (.int .i64 a) (.int .i64 b) (.int .i64 (orB a b)) := .mk fun W => by
  simp [go_sem, Op.intBits, orB, IntKind.bits, -BitVec.toNat_or]
  rfl
end
theorem size_tkV (s : ByteArray) (n : Nat) (hn : n ≤ 1000) : (tkV s n).size = n := by
  unfold tkV
  split
  · rw [← bl_len]
    show (Lib.repeatL [0] n).length = n
    have : ∀ n, (Lib.repeatL ([0] : List UInt8) n).length = n := fun n => by
      induction n with
      | zero => rfl
      | succ n ih => simp [Lib.repeatL, ih]
    exact this n
  · rw [← bl_len, bl_ext]
    simp [bl_len]
    omega
theorem eye_num (b : Nat) (s : ByteArray) (k : Bool) (M : Mem) : CallX Tryz.prog 29 [eyP b] M [.nblk (eyP b) 78 (eyC s k)]
    (fun v own' => v = .int .i64 (numV (bl (tkV s 8))) ∧ own' = [.nblk (eyP b) 78 (eyC (tkS s 8) (tkK s k 8))]) := by
  refine V_x Tryz.func29 rfl Tryz.ntmps29 (by rfl) (fun w M0 => ?_)
  repeat' (first | refine VC_seq ?_ | refine VC_region ?_ | refine VL_nil ?_ | ((apply VL_q); (first | exact qmv (by rfl) | exact qas (by rfl)); rfl))
  refine VL_callX (own1 := [.nblk (eyP b) 78 (eyC s k)]) [0] (by rfl) (by rfl) ⟨rfl, trivial⟩ (fun M' _ => eye_take b s k 8 M' (by omega)) (by rfl) (by rfl) ?_
  rintro _ _ ⟨rfl, rfl⟩
  have h8 := size_tkV s 8 (by omega)
  generalize tkV s 8 = a at *
  have hz : a.size ≤ maxLen := by unfold maxLen; omega
  refine VL_bytes (by rfl) hz (by rfl) (fun v M1 hle1 hrow => ?_)
  rw [bcells_u8, show a.size = (bl a).length from (bl_len _).symm] at hrow
  have hsl : SlM M1 1 u8C v (bl a) := hrow.slM (fun _ _ => rfl)
  have hl8 : (bl a).length = 8 := by rw [bl_len]; exact h8
  generalize bl a = l at *
  obtain ⟨A, c, rfl, hc1, hc2, _⟩ := id hsl
  repeat' (first | refine VL_nil ?_ | refine VC_block ?_ | ((apply VL_q); (first | exact qmv (by rfl) | exact qln (by rfl)); rfl))
  refine VC_for (fun i : Nat => ⟨M1, [.gone, .nblk (eyP b) 78 (eyC (tkS s 8) (tkK s k 8))], [(3, .v (.int .i64 (numV (l.take i)))), (8, .v (.slice A l.length c)), (9, .v (.int .i64 l.length)), (10, .v (.int .i64 i))]⟩) (fun i => i ≤ l.length) (fun i => l.length - i) [0, 1] 0 ⟨rfl, rfl, ⟨rfl, rfl, trivial⟩, ⟨rfl, rfl, rfl, rfl, trivial⟩⟩ (by omega) ?_
  intro i hi
  rcases Nat.lt_or_ge i l.length with hlt | hge
  · have hd := dlt hlt
    obtain ⟨b2, off2, rfl, hcA⟩ := hsl.get hlt
    have hx : (0 : Int) ≤ (l[i].toNat : Int) ∧ (l[i].toNat : Int) < 256 := by have := UInt8.toNat_lt l[i]; omega
    have e6 : numV (l.take (i + 1)) = orB (shW (numV (l.take i))) (l[i].toNat : Int) := by
      rw [List.take_succ_eq_append_getElem hlt]; unfold numV; rw [List.foldl_append]; rfl
    generalize numV (l.take i) = m at *
    repeat' (first | refine VC_seq ?_ | refine VC_region ?_ | refine VL_nil ?_ | refine VC_block ?_ | refine VC_skip ?_ | ((apply VL_q); (first | exact qwd (by rfl) | exact QS_indexAddr (i) (by rfl) (by rfl) (by omega) (by omega) | exact QS_mload1 (by rfl) (hcA 0 _ (by rfl)) | exact QS_bin (by rfl) (by rfl) B_shl8 | exact QS_bin (by rfl) (by rfl) B_or | exact qmv (by rfl) | exact qas (by rfl) | exact qcp (by rfl) | exact qad (by rfl)); rfl) | refine ctr ?_)
    exact forQ_next (Q := fun _ _ => True) [0, 1] (i + 1) ⟨rfl, rfl, ⟨rfl, rfl, trivial⟩, ⟨by rw [e6]; rfl, rfl, rfl, rfl, trivial⟩⟩ (by omega) (by omega)
  · have hd := dge hge
    obtain rfl : i = l.length := by omega
    rw [List.take_length]
    repeat' (first | refine VC_seq ?_ | refine VC_region ?_ | refine VL_nil ?_ | refine VC_ret ?_ | refine VC_exit ?_ | ((apply VL_q); (first | exact qmv (by rfl) | exact qas (by rfl) | exact qcp (by rfl)); rfl) | refine cfa ?_)
    exact ⟨_, [1], [.nblk (eyP b) 78 (eyC (tkS s 8) (tkK s k 8))], Res.one (by rfl) (ResV_tmp (by rfl) rfl), hle1, rfl, ⟨rfl, trivial⟩, rfl, rfl⟩
def ctB (s : ByteArray) : Bool := decide (numV (bl (tkV s 8)) < 0) || decide (((tkS s 8).size : Int) < numV (bl (tkV s 8)))
def ctV (s : ByteArray) : Nat := if ctB s then 0 else (numV (bl (tkV s 8))).toNat
def ctS (s : ByteArray) : ByteArray := if ctB s then em else tkS s 8
def ctK (s : ByteArray) (k : Bool) : Bool := if ctB s then false else tkK s k 8
theorem eye_count (b : Nat) (s : ByteArray) (k : Bool) (M : Mem) : CallX Tryz.prog 30 [eyP b] M [.nblk (eyP b) 78 (eyC s k)]
    (fun v own' => v = .int .i64 (ctV s : Nat) ∧ own' = [.nblk (eyP b) 78 (eyC (ctS s) (ctK s k))]) := by
  refine V_x Tryz.func30 rfl Tryz.ntmps30 (by rfl) (fun w M0 => ?_)
  repeat' (first | refine VC_seq ?_ | refine VC_region ?_ | refine VL_nil ?_ | ((apply VL_q); (first | exact qmv (by rfl) | exact qas (by rfl)); rfl))
  refine VL_callX (own1 := [.nblk (eyP b) 78 (eyC s k)]) [0] (by rfl) (by rfl) ⟨rfl, trivial⟩ (fun M' _ => eye_num b s k M') (by rfl) (by rfl) ?_
  rintro _ _ ⟨rfl, rfl⟩
  unfold ctV ctS ctK ctB
  generalize numV (bl (tkV s 8)) = m at *
  generalize tkS s 8 = s1 at *
  generalize tkK s k 8 = k1 at *
  rcases Int.lt_or_le m 0 with h0 | h0
  · have d0 : decide (m < 0) = true := decide_eq_true h0
    simp only [d0, Bool.true_or, if_true]
    repeat' (first | refine knb 1 ?_ | refine VC_seq ?_ | refine VC_region ?_ | refine VL_nil ?_ | refine VC_ret ?_ | ((apply VL_q); (first | exact qni (by rfl) | exact qmv (by rfl) | exact qas (by rfl) | exact qmf (by rfl) | exact qpt (by rfl) | exact qcp (by rfl)); rfl) | refine kno ?_ | refine ctr ?_)
    exact ⟨_, [1], [.nblk (eyP b) 78 (eyC em false)], Res.one (by rfl) (ResV_tmp (by rfl) rfl), Mem.le_refl _, rfl, ⟨rfl, trivial⟩, rfl, rfl⟩
  · have d0 : decide (m < 0) = false := decide_eq_false (by omega)
    rcases Int.lt_or_le (s1.size : Int) m with h1 | h1
    · have d1 : decide ((s1.size : Int) < m) = true := decide_eq_true h1
      simp only [d0, d1, Bool.or_true, if_true]
      repeat' (first | refine knb 1 ?_ | refine VC_seq ?_ | refine VC_region ?_ | refine VL_nil ?_ | refine VC_ret ?_ | ((apply VL_q); (first | exact qni (by rfl) | exact QS_nload1 1 (by rfl) (by rfl) (by rfl) (by rfl) | exact qmv (by rfl) | exact qas (by rfl) | exact qmf (by rfl) | exact qls (by rfl) | exact qpf (by rfl) | exact qcp (by rfl)); rfl) | refine kyes ?_ | refine ctr ?_)
      exact ⟨_, [1], [.nblk (eyP b) 78 (eyC em false)], Res.one (by rfl) (ResV_tmp (by rfl) rfl), Mem.le_refl _, rfl, ⟨rfl, trivial⟩, rfl, rfl⟩
    · have d1 : decide ((s1.size : Int) < m) = false := decide_eq_false (by omega)
      simp only [d0, d1, Bool.or_false, Bool.false_eq_true, if_false]
      repeat' (first | refine VC_seq ?_ | refine VC_region ?_ | refine VL_nil ?_ | refine VC_ret ?_ | refine VC_skip ?_ | ((apply VL_q); (first | exact qni (by rfl) | exact QS_nload1 1 (by rfl) (by rfl) (by rfl) (by rfl) | exact qmv (by rfl) | exact qas (by rfl) | exact qmf (by rfl) | exact qls (by rfl) | exact qpf (by rfl) | exact qcp (by rfl)); rfl) | refine kyes ?_ | refine cfa ?_)
      exact ⟨_, [1], [.nblk (eyP b) 78 (eyC s1 k1)], Res.one (by rfl) (ResV_tmp (by rfl) rfl), Mem.le_refl _, rfl, ⟨rfl, trivial⟩, by rw [Int.toNat_of_nonneg h0], rfl⟩
end Go.Proofs.YtlapnbklbpeddaaGreat
