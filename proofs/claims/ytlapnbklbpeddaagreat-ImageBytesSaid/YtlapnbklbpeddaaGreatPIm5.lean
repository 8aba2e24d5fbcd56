import Derived.Test.YtlapnbklbpeddaaGreatPIm3
import Derived.Test.YtlapnbklbpeddaaGreatPNd6
/- An eye reads a number, a count. -/
namespace Go.Proofs.YtlapnbklbpeddaaGreat
open Go Go.RowKit
attribute [local irreducible] Calls
set_option linter.unusedVariables false
set_option maxRecDepth 20000
set_option linter.unusedSimpArgs false
set_option maxHeartbeats 4000000
abbrev u8C (x : UInt8) : List Value := [.int .u8 (x.toNat : Int)]
theorem bcells_u8 (b : ByteArray) : bcells b = (bl b).flatMap u8C := by
  unfold bcells
  show (bl b).map _ = _
  induction bl b with
  | nil => rfl
  | cons x l ih => rw [List.map_cons, List.flatMap_cons, ih]; rfl
def shW (n : Int) : Int := IntKind.i64.wrap (n * 2 ^ 8)
def orB (a b : Int) : Int := IntKind.i64.wrap (((BitVec.ofInt 64 a ||| BitVec.ofInt 64 b).toNat : Nat) : Int)
def orW (n : Int) (c : UInt8) : Int := orB (shW n) (c.toNat : Int)
def numV (l : List UInt8) : Int := l.foldl orW 0
section
variable {P : Program} {t : TypeId} {x y : Operand}
theorem B_shl8 {a : Int} : Bin P .shl t x y (.int .i64 a) (.int .u64 8) (.int .i64 (shW a)) := .mk fun W => by
  simp [go_sem, Op.shift, shW]
theorem B_or {a b : Int} : Bin P .or t x y (.int .i64 a) (.int .i64 b) (.int .i64 (orB a b)) := .mk fun W => by
  simp [go_sem, Op.intBits, orB, IntKind.bits, -BitVec.toNat_or]
  rfl
end
theorem size_tkV (s : ByteArray) (n : Nat) (hn : n ≤ 1000) : (tkV s n).size = n := by
  unfold tkV
  split
  · rw [← bl_len]
    show (Lib.repeatL [0] n).length = n
    have : ∀ n, (Lib.repeatL ([0] : List UInt8) n).length = n := fun n => by
      induction n with
      | zero => rfl
      | succ n ih => simp [Lib.repeatL, ih]
    exact this n
  · rw [← bl_len, bl_ext]
    simp [bl_len]
    omega
theorem eye_num (b : Nat) (s : ByteArray) (k : Bool) (M : Mem) : CallX Tryz.prog 29 [eyP b] M [.nblk (eyP b) 78 (eyC s k)]
    (fun v own' => v = .int .i64 (numV (bl (tkV s 8))) ∧ own' = [.nblk (eyP b) 78 (eyC (tkS s 8) (tkK s k 8))]) := by
  refine V_x Tryz.func29 rfl Tryz.ntmps29 (by rfl) (fun w M0 => ?_)
  repeat' (first | refine VC_seq ?_ | refine VC_region ?_ | refine VL_nil ?_ | ((apply VL_q); (first | exact qmv (by rfl) | exact qas (by rfl)); rfl))
  refine VL_callX (own1 := [.nblk (eyP b) 78 (eyC s k)]) [0] (by rfl) (by rfl) ⟨rfl, trivial⟩ (fun M' _ => eye_take b s k 8 M' (by omega)) (by rfl) (by rfl) ?_
  rintro _ _ ⟨rfl, rfl⟩
  have h8 := size_tkV s 8 (by omega)
  generalize tkV s 8 = a at *
  have hz : a.size ≤ maxLen := by unfold maxLen; omega
  refine VL_bytes (by rfl) hz (by rfl) (fun v M1 hle1 hrow => ?_)
  rw [bcells_u8, show a.size = (bl a).length from (bl_len _).symm] at hrow
  have hsl : SlM M1 1 u8C v (bl a) := hrow.slM (fun _ _ => rfl)
  have hl8 : (bl a).length = 8 := by rw [bl_len]; exact h8
  generalize bl a = l at *
  obtain ⟨A, c, rfl, hc1, hc2, _⟩ := id hsl
  repeat' (first | refine VL_nil ?_ | refine VC_block ?_ | ((apply VL_q); (first | exact qmv (by rfl) | exact qln (by rfl)); rfl))
  refine VC_for (fun i : Nat => ⟨M1, [.gone, .nblk (eyP b) 78 (eyC (tkS s 8) (tkK s k 8))], [(3, .v (.int .i64 (numV (l.take i)))), (8, .v (.slice A l.length c)), (9, .v (.int .i64 l.length)), (10, .v (.int .i64 i))]⟩) (fun i => i ≤ l.length) (fun i => l.length - i) [0, 1] 0 ⟨rfl, rfl, ⟨rfl, rfl, trivial⟩, ⟨rfl, rfl, rfl, rfl, trivial⟩⟩ (by omega) ?_
  intro i hi
  rcases Nat.lt_or_ge i l.length with hlt | hge
  · have hd := dlt hlt
    obtain ⟨b2, off2, rfl, hcA⟩ := hsl.get hlt
    have hx : (0 : Int) ≤ (l[i].toNat : Int) ∧ (l[i].toNat : Int) < 256 := by have := UInt8.toNat_lt l[i]; omega
    have e6 : numV (l.take (i + 1)) = orB (shW (numV (l.take i))) (l[i].toNat : Int) := by
      rw [List.take_succ_eq_append_getElem hlt]; unfold numV; rw [List.foldl_append]; rfl
    generalize numV (l.take i) = m at *
    repeat' (first | refine VC_seq ?_ | refine VC_region ?_ | refine VL_nil ?_ | refine VC_block ?_ | refine VC_skip ?_ | ((apply VL_q); (first | exact qwd (by rfl) | exact QS_indexAddr (i) (by rfl) (by rfl) (by omega) (by omega) | exact QS_mload1 (by rfl) (hcA 0 _ (by rfl)) | exact QS_bin (by rfl) (by rfl) B_shl8 | exact QS_bin (by rfl) (by rfl) B_or | exact qmv (by rfl) | exact qas (by rfl) | exact qcp (by rfl) | exact qad (by rfl)); rfl) | refine ctr ?_)
    exact forQ_next (Q := fun _ _ => True) [0, 1] (i + 1) ⟨rfl, rfl, ⟨rfl, rfl, trivial⟩, ⟨by rw [e6]; rfl, rfl, rfl, rfl, trivial⟩⟩ (by omega) (by omega)
  · have hd := dge hge
    obtain rfl : i = l.length := by omega
    rw [List.take_length]
    repeat' (first | refine VC_seq ?_ | refine VC_region ?_ | refine VL_nil ?_ | refine VC_ret ?_ | refine VC_exit ?_ | ((apply VL_q); (first | exact qmv (by rfl) | exact qas (by rfl) | exact qcp (by rfl)); rfl) | refine cfa ?_)
    exact ⟨_, [1], [.nblk (eyP b) 78 (eyC (tkS s 8) (tkK s k 8))], Res.one (by rfl) (ResV_tmp (by rfl) rfl), hle1, rfl, ⟨rfl, trivial⟩, rfl, rfl⟩
def ctB (s : ByteArray) : Bool := decide (numV (bl (tkV s 8)) < 0) || decide (((tkS s 8).size : Int) < numV (bl (tkV s 8)))
def ctV (s : ByteArray) : Nat := if ctB s then 0 else (numV (bl (tkV s 8))).toNat
def ctS (s : ByteArray) : ByteArray := if ctB s then em else tkS s 8
def ctK (s : ByteArray) (k : Bool) : Bool := if ctB s then false else tkK s k 8
theorem eye_count (b : Nat) (s : ByteArray) (k : Bool) (M : Mem) : CallX Tryz.prog 30 [eyP b] M [.nblk (eyP b) 78 (eyC s k)]
    (fun v own' => v = .int .i64 (ctV s : Nat) ∧ own' = [.nblk (eyP b) 78 (eyC (ctS s) (ctK s k))]) := by
  refine V_x Tryz.func30 rfl Tryz.ntmps30 (by rfl) (fun w M0 => ?_)
  repeat' (first | refine VC_seq ?_ | refine VC_region ?_ | refine VL_nil ?_ | ((apply VL_q); (first | exact qmv (by rfl) | exact qas (by rfl)); rfl))
  refine VL_callX (own1 := [.nblk (eyP b) 78 (eyC s k)]) [0] (by rfl) (by rfl) ⟨rfl, trivial⟩ (fun M' _ => eye_num b s k M') (by rfl) (by rfl) ?_
  rintro _ _ ⟨rfl, rfl⟩
  unfold ctV ctS ctK ctB
  generalize numV (bl (tkV s 8)) = m at *
  generalize tkS s 8 = s1 at *
  generalize tkK s k 8 = k1 at *
  rcases Int.lt_or_le m 0 with h0 | h0
  · have d0 : decide (m < 0) = true := decide_eq_true h0
    simp only [d0, Bool.true_or, if_true]
    repeat' (first | refine knb 1 ?_ | refine VC_seq ?_ | refine VC_region ?_ | refine VL_nil ?_ | refine VC_ret ?_ | ((apply VL_q); (first | exact qni (by rfl) | exact qmv (by rfl) | exact qas (by rfl) | exact qmf (by rfl) | exact qpt (by rfl) | exact qcp (by rfl)); rfl) | refine kno ?_ | refine ctr ?_)
    exact ⟨_, [1], [.nblk (eyP b) 78 (eyC em false)], Res.one (by rfl) (ResV_tmp (by rfl) rfl), Mem.le_refl _, rfl, ⟨rfl, trivial⟩, rfl, rfl⟩
  · have d0 : decide (m < 0) = false := decide_eq_false (by omega)
    rcases Int.lt_or_le (s1.size : Int) m with h1 | h1
    · have d1 : decide ((s1.size : Int) < m) = true := decide_eq_true h1
      simp only [d0, d1, Bool.or_true, if_true]
      repeat' (first | refine knb 1 ?_ | refine VC_seq ?_ | refine VC_region ?_ | refine VL_nil ?_ | refine VC_ret ?_ | ((apply VL_q); (first | exact qni (by rfl) | exact QS_nload1 1 (by rfl) (by rfl) (by rfl) (by rfl) | exact qmv (by rfl) | exact qas (by rfl) | exact qmf (by rfl) | exact qls (by rfl) | exact qpf (by rfl) | exact qcp (by rfl)); rfl) | refine kyes ?_ | refine ctr ?_)
      exact ⟨_, [1], [.nblk (eyP b) 78 (eyC em false)], Res.one (by rfl) (ResV_tmp (by rfl) rfl), Mem.le_refl _, rfl, ⟨rfl, trivial⟩, rfl, rfl⟩
    · have d1 : decide ((s1.size : Int) < m) = false := decide_eq_false (by omega)
      simp only [d0, d1, Bool.or_false, Bool.false_eq_true, if_false]
      repeat' (first | refine VC_seq ?_ | refine VC_region ?_ | refine VL_nil ?_ | refine VC_ret ?_ | refine VC_skip ?_ | ((apply VL_q); (first | exact qni (by rfl) | exact QS_nload1 1 (by rfl) (by rfl) (by rfl) (by rfl) | exact qmv (by rfl) | exact qas (by rfl) | exact qmf (by rfl) | exact qls (by rfl) | exact qpf (by rfl) | exact qcp (by rfl)); rfl) | refine kyes ?_ | refine cfa ?_)
      exact ⟨_, [1], [.nblk (eyP b) 78 (eyC s1 k1)], Res.one (by rfl) (ResV_tmp (by rfl) rfl), Mem.le_refl _, rfl, ⟨rfl, trivial⟩, by rw [Int.toNat_of_nonneg h0], rfl⟩
end Go.Proofs.YtlapnbklbpeddaaGreat
/- An eye reads a node: the plain functions, the contracts by one state. -/
namespace Go.Proofs.YtlapnbklbpeddaaGreat
open Go Go.RowKit
attribute [local irreducible] Calls
set_option linter.unusedVariables false
set_option maxRecDepth 20000
set_option linter.unusedSimpArgs false
set_option maxHeartbeats 4000000
section
variable {P : Program} {w : World} {M0 M : Mem} {N : Nat} {hd : Nat → Value} {own : List Ob} {env : Env} {W : World}
/-- A call that is handed named objects, as one of some effects. -/
theorem EX_callX {ops : Array Oper} {dst : Option Tmp} {ty : TypeId} {pos : String} {aft : Array Edge} {f : FuncId} {xs : Array Operand} {ats : Array TypeId} {vs : List Value} {own1 : List Ob} {Post : Value → List Ob → Prop} (ρ : List Nat) [hf : CalT P f] (hv : env.vals xs.toList = some vs) (hnd : nodupB ρ = true) (hsub : OwnSub own1 ρ own) (hc : ∀ M', M.le M' → CallX P f vs M' own1 Post) :
    EX P w M0 N ops ⟨dst, .call ⟨.value (.func f), xs, ats⟩, ty, pos, aft, none⟩ ⟨M, own, env⟩ {x : Value × List Ob // Post x.1 x.2} (fun _ => M) (fun x => goneAt ρ own ++ x.1.2) (fun x => .v x.1.1) := ⟨fun hd a W hR => by
  rw [if_pos (by simp [Region.wanted])]
  rw [exec_call (s := ⟨M, own, env⟩) hR.2 hf.h hv]
  simp only [EffRun]
  obtain ⟨M', h1, h2, h3⟩ := lend_wd hR.1 hnd hsub
  refine (hc M' h1 w M0 _ W h2).mono fun e W' ⟨v, hd', own', he, hWd, hp⟩ => ⟨v, he, ⟨⟨v, own'⟩, hp⟩, _, fun i hi => ?_, h3 hd' own' W' hWd, rfl⟩
  show (if i < own.length then hd i else hd' (i - own.length)) = hd i
  rw [if_pos hi], fun x => by show own.length ≤ (goneAt ρ own ++ x.1.2).length; rw [List.length_append, len_goneAt]; omega, fun _ => rfl⟩
theorem B_subw {P : Program} {t : TypeId} {x y : Operand} {a b : Int} : Bin P .sub t x y (.int .i64 a) (.int .i64 b) (.int .i64 (IntKind.i64.wrap (a - b))) := .mk fun W => by simp [go_sem]
end
abbrev Ey := ByteArray × Bool
abbrev eO (b : Nat) (e : Ey) : Ob := .nblk (eyP b) 78 (eyC e.1 e.2)
def eN (e : Ey) : Int × Ey := (numV (bl (tkV e.1 8)), (tkS e.1 8, tkK e.1 e.2 8))
def eF (e : Ey) : Bool × Ey := (fgV e.1, (tkS e.1 1, tkK e.1 e.2 1))
def eT (e : Ey) : ByteArray × Ey := ((takeT e.1).1, ((takeT e.1).2.1, e.2 && (takeT e.1).2.2))
def eC (e : Ey) : Nat × Ey := (ctV e.1, (ctS e.1, ctK e.1 e.2))
/-- n things, one behind the other. -/
def eR {α : Type} (f : Ey → α × Ey) : Nat → Ey → List α × Ey
  | 0, e => ([], e)
  | n + 1, e => ((f e).1 :: (eR f n (f e).2).1, (eR f n (f e).2).2)
def eM (e : Ey) : Msg × Ey :=
  let a := eN e; let b := eN a.2; let c := eT b.2; let d := eF c.2; let h := eT d.2; let v := eT h.2
  (⟨a.1, b.1, c.1, h.1, d.1, v.1⟩, v.2)
def eP (e : Ey) : Pair × Ey := let a := eT e; let b := eT a.2; (⟨a.1, b.1⟩, b.2)
theorem size_tkS (s : ByteArray) (n : Nat) : (tkS s n).size ≤ s.size := by
  unfold tkS
  split
  · exact Nat.zero_le _
  · exact size_ext _ _ _
theorem eN_sz (e : Ey) : (eN e).2.1.size ≤ e.1.size := size_tkS _ _
theorem eF_sz (e : Ey) : (eF e).2.1.size ≤ e.1.size := size_tkS _ _
theorem eT_sz (e : Ey) : (eT e).2.1.size ≤ e.1.size := size_tk2 (Nat.le_refl _)
theorem eC_sz (e : Ey) : (eC e).2.1.size ≤ e.1.size := by
  show (ctS e.1).size ≤ _
  unfold ctS
  split
  · exact Nat.zero_le _
  · exact size_tkS _ _
theorem eC_le (e : Ey) : (eC e).1 ≤ e.1.size := by
  show ctV e.1 ≤ _
  have h := size_tkS e.1 8
  unfold ctV
  split
  · exact Nat.zero_le _
  · rename_i hc
    unfold ctB at hc
    rw [Bool.or_eq_true, not_or, decide_eq_true_iff, decide_eq_true_iff] at hc
    omega
theorem eM_sz (e : Ey) : (eM e).2.1.size ≤ e.1.size :=
  Nat.le_trans (eT_sz _) (Nat.le_trans (eT_sz _) (Nat.le_trans (eF_sz _) (Nat.le_trans (eT_sz _) (Nat.le_trans (eN_sz _) (eN_sz _)))))
theorem eP_sz (e : Ey) : (eP e).2.1.size ≤ e.1.size := Nat.le_trans (eT_sz _) (eT_sz _)
theorem eR_len {α : Type} (f : Ey → α × Ey) : ∀ (n : Nat) (e : Ey), (eR f n e).1.length = n
  | 0, _ => rfl
  | n + 1, e => by show (_ :: _).length = _; rw [List.length_cons, eR_len f n]
theorem eR_sz {α : Type} {f : Ey → α × Ey} (hf : ∀ e, (f e).2.1.size ≤ e.1.size) : ∀ (n : Nat) (e : Ey), (eR f n e).2.1.size ≤ e.1.size
  | 0, _ => Nat.le_refl _
  | n + 1, e => Nat.le_trans (eR_sz hf n _) (hf e)
theorem eR_snoc {α : Type} (f : Ey → α × Ey) : ∀ (n : Nat) (e : Ey), eR f (n + 1) e = ((eR f n e).1 ++ [(f (eR f n e).2).1], (f (eR f n e).2).2)
  | 0, _ => rfl
  | n + 1, e => by
    show ((f e).1 :: (eR f (n + 1) (f e).2).1, (eR f (n + 1) (f e).2).2) = _
    rw [eR_snoc f n (f e).2]
    rfl
theorem eyeN (b : Nat) (e : Ey) (M : Mem) : CallX Tryz.prog 29 [eyP b] M [eO b e] (fun v own' => v = .int .i64 (eN e).1 ∧ own' = [eO b (eN e).2]) := eye_num b e.1 e.2 M
theorem eyeF (b : Nat) (e : Ey) (M : Mem) : CallX Tryz.prog 59 [eyP b] M [eO b e] (fun v own' => v = .bool (eF e).1 ∧ own' = [eO b (eF e).2]) := eye_flag b e.1 e.2 M
theorem eyeT (b : Nat) (e : Ey) (M : Mem) (hs : e.1.size ≤ 100000000) : CallX Tryz.prog 60 [eyP b] M [eO b e] (fun v own' => v = .string (eT e).1 ∧ own' = [eO b (eT e).2]) := eye_text b e.1 e.2 M hs
theorem eyeC (b : Nat) (e : Ey) (M : Mem) : CallX Tryz.prog 30 [eyP b] M [eO b e] (fun v own' => v = .int .i64 ((eC e).1 : Nat) ∧ own' = [eO b (eC e).2]) := eye_count b e.1 e.2 M
end Go.Proofs.YtlapnbklbpeddaaGreat
