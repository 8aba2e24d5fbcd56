import Derived.Test.YtlapnbklbpeddaaGreatPIm9
/- An array's place by an index. -/
namespace Go.Proofs.YtlapnbklbpeddaaGreat
open Go Go.RowKit
attribute [local irreducible] Calls
set_option linter.unusedVariables false
set_option maxRecDepth 20000
set_option linter.unusedSimpArgs false
set_option maxHeartbeats 4000000
section
variable {P : Program} {w : World} {M0 : Mem} {N : Nat} {s : St} {dst : Option Tmp} {ty : TypeId} {pos : String} {aft : Array Edge} {g : Option (Nat × Bool)}
def arrB (P : Program) (t : TypeId) (len k : Nat) : Bool := match P.underlying t with | some (.array n e) => Nat.beq n len && sizeB P e k | _ => false
class ArrT (P : Program) (t : TypeId) (len k : outParam Nat) : Prop where
  h : arrB P t len k = true
theorem QS_idxA {x y : Operand} {t : TypeId} {o off len k : Nat} {kd : IntKind} {i : Int} (n : Nat) (hx : s.env.op x = some (.p o off)) (hy : s.env.op y = some (.v (.int kd i))) (hi : i = (n : Int)) [ha : ArrT P t len k] (hn : n < len) :
    QS P w M0 N ⟨dst, .indexAddr t x y, ty, pos, aft, g⟩ s (.p o (off + n * k)) := QS_run fun hd a W hR => by
  have h1 := hR.2.eval hx
  have h2 := hR.2.eval hy
  simp only [SV.den] at h1 h2
  have ht := ha.h
  unfold arrB at ht
  split at ht
  · rename_i m e hu
    rw [Bool.and_eq_true] at ht
    have hm : m = len := Nat.eq_of_beq_eq_true ht.1
    subst hm hi
    have hs := run_sizeOf_of ht.2
    simp only [execOp, h1, h2, Instr.indexAt, Sem.run_bind, asIntOf, Sem.run_pure, Result.andThen_ok, run_underlying hu, SV.den, Instr.sureAddr]
    rw [if_pos ⟨by omega, by omega⟩]
    simp only [Sem.run_bind, Sem.run_pure, Result.andThen_ok, hs, Int.toNat_natCast, Addr.add_lit]
  · cases ht
end
instance : ArrT Tryz.prog 130 8 1 := ⟨by kernel_rfl⟩
end Go.Proofs.YtlapnbklbpeddaaGreat
/- A shift to the right by a variable amount; its low byte is a digit. -/
namespace Go.Proofs.YtlapnbklbpeddaaGreat
open Go Go.RowKit
set_option linter.unusedVariables false
set_option maxRecDepth 20000
set_option linter.unusedSimpArgs false
theorem B_shrN {P : Program} {t : TypeId} {x y : Operand} {a : Int} (n : Nat) (hn : n ≤ 64) : Bin P .shr t x y (.int .i64 a) (.int .i64 (n : Int)) (.int .i64 (a.fdiv (2 ^ n))) := .mk fun W => by
  simp [go_sem, Op.shift, IntKind.bits, Nat.min_eq_left hn]
  exact (Int.fdiv_eq_ediv_of_nonneg _ (Int.le_of_lt (Int.pow_pos (by omega)))).symm
theorem shr_dg (n : Int) (k : Nat) : b8 (n.fdiv (2 ^ (8 * k))) = dg n k := by
  unfold dg
  rw [Int.fdiv_eq_ediv_of_nonneg _ (Int.le_of_lt (Int.pow_pos (by omega))), Int.pow_mul]
  rfl
end Go.Proofs.YtlapnbklbpeddaaGreat
/- The whole of an array as a slice. -/
namespace Go.Proofs.YtlapnbklbpeddaaGreat
open Go Go.RowKit
attribute [local irreducible] Calls
set_option linter.unusedVariables false
set_option maxRecDepth 20000
set_option linter.unusedSimpArgs false
set_option maxHeartbeats 400000
section
variable {P : Program} {w : World} {M0 : Mem} {N : Nat} {s : St} {dst : Option Tmp} {ty : TypeId} {pos : String} {aft : Array Edge} {g : Option (Nat × Bool)}
theorem QS_slA {x : Operand} {t : TypeId} {b len k : Nat} (hx : s.env.op x = some (.v (.pointer (some ⟨b, 0, none⟩)))) [ha : ArrT P t len k] :
    QS P w M0 N ⟨dst, .slice t x none none none, ty, pos, aft, g⟩ s (.v (.slice (some ⟨b, 0, none⟩) len len)) := QS_run fun hd a W hR => by
  have h1 := hR.2.eval hx
  simp only [SV.den] at h1
  have ht := ha.h
  unfold arrB at ht
  split at ht
  · rename_i m e hu
    rw [Bool.and_eq_true] at ht
    have hm : m = len := Nat.eq_of_beq_eq_true ht.1
    subst hm
    have hs := run_sizeOf_of ht.2
    simp [execOp, h1, Instr.sliceAt, Sem.run_bind, Sem.run_pure, Result.andThen_ok, run_underlying hu, SV.den, Instr.sureAddr, Instr.sliceBounds, hs, Addr.add_lit]
  · cases ht
end
end Go.Proofs.YtlapnbklbpeddaaGreat
/- image.number: eight bytes of a number, and bytes out of a named block as a text. -/
namespace Go.Proofs.YtlapnbklbpeddaaGreat
open Go Go.RowKit
attribute [local irreducible] Calls
set_option linter.unusedVariables false
set_option maxRecDepth 20000
set_option linter.unusedSimpArgs false
set_option maxHeartbeats 2000000
section
variable {P : Program} {w : World} {M0 : Mem} {N : Nat} {dst : Option Tmp} {ty : TypeId} {pos : String} {aft : Array Edge} {g : Option (Nat × Bool)} {s : St}
theorem QS_bytesB {src t e tb : TypeId} {x : Operand} {i bk n c : Nat} {u0 : Value} (b : ByteArray) [hB : ByteT P src e] [ht : StrT P t] (hx : s.env.op x = some (.v (.slice (some ⟨bk, 0, none⟩) n c))) (ho : s.own[i]? = some (.nblk u0 tb (bcells b))) (hf : foot u0 = some bk) (hn : n = b.size) : QS P w M0 N ⟨dst, .convert src t x, ty, pos, aft, g⟩ s (.v (.string b)) := QS_run fun hd a W hR => by
  have h1 := hR.2.eval hx
  simp only [SV.den] at h1
  have hcells : ∀ j (hj : j < b.data.toList.length), W.cell? ((⟨bk, 0, none⟩ : Addr).add j) = some (.int .u8 ((b.data.toList[j]).toNat : Int)) := fun j hj => by
    have e1 : (bcells b)[j]? = some (.int .u8 ((b.data.toList[j]).toNat : Int)) := by simp [bcells, List.getElem?_eq_getElem hj]
    have h2 := ob_cell (hR.1.own i _ ho) (off := j) e1
    rw [nfoot_eq (hR.1.own i _ ho) hf] at h2
    have ea : (⟨bk, 0, none⟩ : Addr).add j = ⟨bk, j, none⟩ := by
      unfold Addr.add
      split <;> simp_all
    rw [ea]
    exact h2
  have h4 := run_convert_bytes_back W src t e ⟨bk, 0, none⟩ c b.data.toList hB.h hB.he (isStrB_u ht.h) hcells
  have hn' : b.data.toList.length = n := by rw [hn]; simp
  rw [hn'] at h4
  simp only [execOp, h1, Sem.run_bind, h4]
  rfl
theorem B_shrI {t : TypeId} {x y : Operand} {a b : Int} (n : Nat) (hn : n ≤ 64) (hb : b = (n : Int)) : Bin P .shr t x y (.int .i64 a) (.int .i64 b) (.int .i64 (a.fdiv (2 ^ n))) := by
  subst hb
  exact B_shrN n hn
end
instance : ZerT Tryz.prog 130 (.agg #[.int .u8 0, .int .u8 0, .int .u8 0, .int .u8 0, .int .u8 0, .int .u8 0, .int .u8 0, .int .u8 0]) := ⟨Tryz.zeroValue130⟩
/-- The array's bytes once k digits are written. -/
def arK (n : Int) (k : Nat) : List Value := (List.range 8).map fun i => if i < k then .int .u8 ((dg n (7 - i)).toNat : Int) else .int .u8 0
theorem arK_len (n : Int) (k : Nat) : (arK n k).length = 8 := by unfold arK; simp
theorem arK_set (n : Int) {k : Nat} (h : k < 8) : (arK n k).set k (.int .u8 ((dg n (7 - k)).toNat : Int)) = arK n (k + 1) := by
  match k, h with
  | 0, _ => rfl
  | 1, _ => rfl
  | 2, _ => rfl
  | 3, _ => rfl
  | 4, _ => rfl
  | 5, _ => rfl
  | 6, _ => rfl
  | 7, _ => rfl
theorem arK_all (n : Int) : arK n 8 = bcells (numB n) := rfl
theorem image_number (n : Int) (w : World) : Calls Tryz.prog 43 #[.int .i64 n] w fun e w' => e = .returned (.string (numB n)) ∧ Below w.heap.size w w' := by
  refine V_flat (args := [.int .i64 n]) (M := Mem.no) Tryz.func43 rfl Tryz.ntmps43 (by rfl) (Mem.no_le _) ?_
  repeat' (first | refine VC_seq ?_ | refine VC_region ?_ | refine VL_nil ?_ | refine VC_block ?_ | refine kall ?_ | ((apply VL_q); (first | exact qmv (by rfl) | exact qas (by rfl)); rfl))
  refine VC_for (fun k : Nat => ⟨Mem.no, [.blk 130 (arK n k)], [(0, .v (.int .i64 n)), (3, .p 0 0), (5, .v (.int .i64 k))]⟩) (fun k => k ≤ 8) (fun k => 8 - k) [0] 0 ⟨rfl, rfl, ⟨rfl, trivial⟩, ⟨rfl, rfl, rfl, trivial⟩⟩ (by omega) ?_
  intro k hk
  rcases Nat.lt_or_ge k 8 with hlt | hge
  · have hd : decide ((k : Int) < 8) = true := decide_eq_true (by omega)
    have hs := arK_set n hlt
    have hl := arK_len n k
    have hdg : b8 (n.fdiv (2 ^ (8 * (7 - k)))) = dg n (7 - k) := shr_dg n (7 - k)
    have hz : (8 : Int) * (7 - (k : Int)) = ((8 * (7 - k) : Nat) : Int) := by omega
    have hoff : Nat.blt (0 + k * 1) (arK n k).length = true := by rw [Nat.blt_eq, hl]; omega
    generalize hcs : arK n k = cs at *
    repeat' (first | refine VC_seq ?_ | refine VC_region ?_ | refine VL_nil ?_ | refine VC_block ?_ | refine VC_skip ?_ | ((apply VL_q); (first | exact qnr (by rfl) | exact QS_bin (by rfl) (by rfl) (B_mul (by omega) (by omega)) | exact QS_bin (by rfl) (by rfl) (B_shrI (8 * (7 - k)) (by omega) hz) | exact QS_idxA k (by rfl) (by rfl) rfl hlt | exact qmv (by rfl) | exact qas (by rfl) | exact qcp (by rfl) | exact qsu (by rfl)); rfl) | refine ctr ?_)
    refine VL_store1 (by rfl) (by rfl) (by rfl) hoff (by rfl) (by rfl) ?_
    repeat' (first | refine VC_region ?_ | refine VL_nil ?_ | ((apply VL_q); (first | exact qmv (by rfl) | exact qad (by rfl)); rfl))
    refine forQ_next (Q := fun _ _ => True) [0] (k + 1) ⟨rfl, rfl, ⟨?_, trivial⟩, ⟨rfl, rfl, rfl, trivial⟩⟩ (by omega) (by omega)
    show _ = some (Ob.blk 130 (arK n (k + 1)))
    rw [← hs, ← hdg]
    simp
  · have hd : decide ((k : Int) < 8) = false := decide_eq_false (by omega)
    obtain rfl : k = 8 := by omega
    rw [arK_all]
    have hz := numB_size n
    generalize numB n = b at *
    repeat' (first | refine VC_seq ?_ | refine VC_region ?_ | refine VL_nil ?_ | refine VC_exit ?_ | ((apply VL_q); (exact qcp (by rfl)); rfl) | refine cfa ?_)
    refine VL_nameB 0 (by rfl) (fun bk => ?_)
    repeat' (first | refine VL_nil ?_ | refine VC_ret ?_ | ((apply VL_q); (first | exact QS_slA (by rfl) | exact QS_bytesB (i := 0) b (by rfl) (by rfl) (by rfl) hz.symm | exact qas (by rfl)); rfl))
    show Res _ _ _ _
    refine Res.one (by rfl) (ResV_tmp (by rfl) ?_)
    rfl
end Go.Proofs.YtlapnbklbpeddaaGreat
