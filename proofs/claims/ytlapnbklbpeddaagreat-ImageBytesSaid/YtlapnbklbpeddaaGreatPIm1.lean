/- Texts with their length ahead: the document's Text, the code's Text and TakeText; the document's numbers and flags. -/
import Derived.Test.YtlapnbklbpeddaaGreatPSeB
import Derived.Test.YtlapnbklbpeddaaGreatPFe
namespace Go.Proofs.YtlapnbklbpeddaaGreat
open Go Go.RowKit
attribute [local irreducible] Calls
set_option linter.unusedVariables false
set_option maxRecDepth 20000
set_option linter.unusedSimpArgs false
set_option maxHeartbeats 4000000
theorem bl_app (s t : ByteArray) : bl (s ++ t) = bl s ++ bl t := by
  unfold bl
  rw [ByteArray.data_append, Array.toList_append]
theorem bl_ext (s : ByteArray) (a b : Nat) : bl (s.extract a b) = ((bl s).take b).drop a := by
  unfold bl
  rw [ByteArray.data_extract, Array.toList_extract, List.extract_eq_take_drop, List.drop_take]
theorem bl_len (s : ByteArray) : (bl s).length = s.size := by simp [bl]
theorem byt_bl (s : ByteArray) (j : Nat) : byt s j = (((bl s).getD j 0).toNat : Int) := rfl
def textR (s : ByteArray) : ByteArray := (⟨#[b8 s.size]⟩ : ByteArray) ++ s
theorem bl_textR (s : ByteArray) : bl (textR s) = b8 s.size :: bl s := by
  unfold textR
  rw [bl_app]; rfl
theorem sz1 (x : UInt8) : (⟨#[x]⟩ : ByteArray).size = 1 := rfl
theorem size_textR (s : ByteArray) : (textR s).size = 1 + s.size := by unfold textR; rw [size_app, sz1]
section
variable {P : Program} {w : World} {M0 : Mem} {N : Nat} {dst : Option Tmp} {ty : TypeId} {pos : String} {aft : Array Edge} {g : Option (Nat × Bool)} {s : St}
theorem qb1 {src t e e2 : TypeId} {x : Operand} {i n : Nat} {u : UInt8} [hB : ByteT P src e] [ht : StrT P t] (hx : s.env.op x = some (.r i)) (ho : s.own[i]? = some (.row e2 1 n [.int .u8 (u.toNat : Int)]) := by rfl) : QS P w M0 N ⟨dst, .convert src t x, ty, pos, aft, g⟩ s (.v (.string ⟨#[u]⟩)) := by
  have h := QS_bytesS (P := P) (w := w) (M0 := M0) (N := N) (dst := dst) (ty := ty) (pos := pos) (aft := aft) (g := g) (t := t) (src := src) (hx := hx) (ho := ho) (hB := hB) (ht := ht) (fun v hv => ⟨u, List.mem_singleton.1 hv⟩)
  have e1 : unb [Value.int .u8 (u.toNat : Int)] = [u] := by simp [unb]
  rw [e1] at h
  exact h
theorem qsz {t t2 : TypeId} {x y : Operand} {a b : ByteArray} (hx : s.env.op x = some (.v (.string a))) (hy : s.env.op y = some (.v (.string b)) := by rfl) (h : (a ++ b).size ≤ maxLen := by first | assumption | (simp only [size_app, size_textR, sz1]; unfold maxLen; omega)) : QS P w M0 N ⟨dst, .binOp .add t x y t2, ty, pos, aft, g⟩ s (.v (.string (a ++ b))) := QS_bin hx hy (B_sadd h)
end
theorem ref_Text (s : ByteArray) (w : World) (hs : s.size ≤ 1000000) : Calls Tryz.prog 62 #[.string s] w fun e w' => e = .returned (.string (textR s)) ∧ Below w.heap.size w w' := by
  unfold textR
  refine V_flat (args := [.string s]) (M := Mem.no) Tryz.func62 rfl Tryz.ntmps62 (by rfl) (Mem.no_le _) ?_
  repeat' (first | refine VC_seq ?_ | refine VC_region ?_ | refine VL_nil ?_ | refine VC_ret ?_ | refine klt ?_ | ((apply VL_q); (first | exact qnr (by rfl) | exact qb1 (by rfl) | exact qsz (by rfl) | exact qmv (by rfl) | exact qas (by rfl) | exact qls (by rfl)); rfl))
  show Res _ _ _ _
  refine Res.one (by rfl) (ResV_tmp (by rfl) ?_)
  rfl
theorem pack_Text (s : ByteArray) (w : World) (hs : s.size ≤ 1000000) : Calls Tryz.prog 85 #[.string s] w fun e w' => e = .returned (.tuple #[.string (if s.size ≤ 255 then textR s else em), .bool (decide (s.size ≤ 255))]) ∧ Below w.heap.size w w' := by
  by_cases h : s.size ≤ 255
  · have d : decide ((255 : Int) < (s.size : Int)) = false := decide_eq_false (by omega)
    rw [if_pos h, decide_eq_true h]
    have ht : textR s = (⟨#[b8 s.size]⟩ : ByteArray) ++ s := by unfold textR; rfl
    rw [ht]
    refine V_flat (args := [.string s]) (M := Mem.no) Tryz.func85 rfl Tryz.ntmps85 (by rfl) (Mem.no_le _) ?_
    repeat' (first | refine VC_seq ?_ | refine VC_region ?_ | refine VL_nil ?_ | refine VC_ret ?_ | refine VC_skip ?_ | refine klt ?_ | ((apply VL_q); (first | exact qnr (by rfl) | exact qb1 (by rfl) | exact qsz (by rfl) | exact qmv (by rfl) | exact qas (by rfl) | exact qls (by rfl) | exact qcp (by rfl)); rfl) | refine cfa ?_)
    exact Res.two (by rfl) (ResV_tmp (by rfl) rfl) (ResV_tmp (by rfl) rfl)
  · have d : decide ((255 : Int) < (s.size : Int)) = true := decide_eq_true (by omega)
    rw [if_neg h, decide_eq_false h]
    refine V_flat (args := [.string s]) (M := Mem.no) Tryz.func85 rfl Tryz.ntmps85 (by rfl) (Mem.no_le _) ?_
    repeat' (first | refine VC_seq ?_ | refine VC_region ?_ | refine VL_nil ?_ | refine VC_ret ?_ | ((apply VL_q); (first | exact qmv (by rfl) | exact qas (by rfl) | exact qls (by rfl) | exact qcp (by rfl)); rfl) | refine ctr ?_)
    exact Res.two (by rfl) (ResV_tmp (by rfl) rfl) (ResV_tmp (by rfl) rfl)
theorem pack_TextS (s : ByteArray) (w : World) (hs : s.size ≤ 255) : Calls Tryz.prog 85 #[.string s] w fun e w' => e = .returned (.tuple #[.string (textR s), .bool true]) ∧ Below w.heap.size w w' := by
  have := pack_Text s w (by omega)
  rwa [if_pos hs, decide_eq_true hs] at this
def okT (s : ByteArray) : Bool := decide (0 < s.size) && decide (byt s 0 + 1 ≤ (s.size : Int))
def hd1 (s : ByteArray) : Nat := 1 + (byt s 0).toNat
def takeT (s : ByteArray) : ByteArray × ByteArray × Bool := if okT s = true then (s.extract 1 (hd1 s), s.extract (hd1 s) s.size, true) else (em, em, false)
theorem ba_em {s : ByteArray} (h : s.size = 0) : s = em := by
  have : s.data.toList = [] := List.length_eq_zero_iff.1 (by simpa using h)
  cases s; rename_i d; cases d; simp_all
theorem em_dec (s : ByteArray) : decide (s = ⟨#[]⟩) = decide (s.size = 0) := by
  by_cases h : s.size = 0
  · rw [ba_em h]; rfl
  · have : s ≠ ⟨#[]⟩ := fun e => h (by rw [e]; rfl)
    simp [h, this]
theorem pack_TakeText (s : ByteArray) (w : World) (hs : s.size ≤ 100000000) : Calls Tryz.prog 96 #[.string s] w fun e w' => e = .returned (.tuple #[.string (takeT s).1, .string (takeT s).2.1, .bool (takeT s).2.2]) ∧ Below w.heap.size w w' := by
  have hb := byt_lt s 0
  have e0 := em_dec s
  rcases Nat.eq_zero_or_pos s.size with h0 | h0
  · have hq : decide (s = ⟨#[]⟩) = true := by rw [e0]; exact decide_eq_true h0
    have hk : okT s = false := by unfold okT; simp [h0]
    unfold takeT
    rw [if_neg (by rw [hk]; simp)]
    refine V_flat (args := [.string s]) (M := Mem.no) Tryz.func96 rfl Tryz.ntmps96 (by rfl) (Mem.no_le _) ?_
    repeat' (first | refine VC_seq ?_ | refine VC_region ?_ | refine VL_nil ?_ | refine VC_ret ?_ | ((apply VL_q); (first | exact qmv (by rfl) | exact qas (by rfl) | exact qpt (by rfl) | exact qcp (by rfl)); rfl) | refine kno ?_ | refine ctr ?_)
    exact Res.three (by rfl) (ResV_tmp (by rfl) rfl) (ResV_tmp (by rfl) rfl) (ResV_tmp (by rfl) rfl)
  · have hq : decide (s = ⟨#[]⟩) = false := by rw [e0]; exact decide_eq_false (by omega)
    by_cases h1 : byt s 0 + 1 ≤ (s.size : Int)
    · have hk : okT s = true := by unfold okT; simp [h0, h1]
      have hlt : decide ((s.size : Int) - 1 < byt s 0) = false := decide_eq_false (by omega)
      have hz : (1 : Int) + byt s 0 = ((hd1 s : Nat) : Int) := by unfold hd1; omega
      have hz2 : hd1 s ≤ s.size := by unfold hd1; omega
      have hz1 : 1 ≤ hd1 s := by unfold hd1; omega
      unfold takeT
      rw [if_pos hk]
      refine V_flat (args := [.string s]) (M := Mem.no) Tryz.func96 rfl Tryz.ntmps96 (by rfl) (Mem.no_le _) ?_
      repeat' (first | refine VC_seq ?_ | refine VC_region ?_ | refine VL_nil ?_ | refine VC_ret ?_ | refine VC_skip ?_ | ((first | apply VL_q | apply VG_q); (first | exact qi0 (by rfl) | exact qwd (by rfl) | exact QS_cutS 1 (hd1 s) (by rfl) (by rfl) (by show Env.op _ _ = _; rw [← hz]; rfl) hz1 hz2 | exact QS_cutS (hd1 s) s.size (by rfl) (by show Env.op _ _ = _; rw [← hz]; rfl) (by rfl) hz2 (Nat.le_refl _) | exact qmv (by rfl) | exact qas (by rfl) | exact qls (by rfl) | exact qpf (by rfl) | exact qcp (by rfl) | exact qad (by rfl) | exact qsu (by rfl)); rfl) | refine kyes ?_ | refine VG_nil ?_ | refine dQ ?_ | refine cfa ?_)
      exact Res.three (by rfl) (ResV_tmp (by rfl) rfl) (ResV_tmp (by rfl) rfl) (ResV_tmp (by rfl) rfl)
    · have hk : okT s = false := by unfold okT; simp [h1]
      have hlt : decide ((s.size : Int) - 1 < byt s 0) = true := decide_eq_true (by omega)
      unfold takeT
      rw [if_neg (by rw [hk]; simp)]
      refine V_flat (args := [.string s]) (M := Mem.no) Tryz.func96 rfl Tryz.ntmps96 (by rfl) (Mem.no_le _) ?_
      repeat' (first | refine VC_seq ?_ | refine VC_region ?_ | refine VL_nil ?_ | refine VC_ret ?_ | ((apply VL_q); (first | exact qi0 (by rfl) | exact qwd (by rfl) | exact qmv (by rfl) | exact qas (by rfl) | exact qls (by rfl) | exact qpf (by rfl) | exact qcp (by rfl) | exact qsu (by rfl)); rfl) | refine kyes ?_ | refine ctr ?_)
      exact Res.three (by rfl) (ResV_tmp (by rfl) rfl) (ResV_tmp (by rfl) rfl) (ResV_tmp (by rfl) rfl)
theorem size_ext (s : ByteArray) (a b : Nat) : (s.extract a b).size ≤ s.size := by rw [ByteArray.size_extract]; omega
theorem size_tk2 {s : ByteArray} {n : Nat} (h : s.size ≤ n) : (takeT s).2.1.size ≤ n := by
  unfold takeT
  split
  · exact Nat.le_trans (size_ext _ _ _) h
  · exact Nat.zero_le _
/-- A digit of a number, by 256; eight of them, the greatest first. -/
def dg (n : Int) (i : Nat) : UInt8 := b8 (n / 256 ^ i)
def numL (n : Int) : List UInt8 := ((List.range 8).map (dg n)).reverse
def numB (n : Int) : ByteArray := ⟨(numL n).toArray⟩
theorem numB_size (n : Int) : (numB n).size = 8 := by rw [← bl_len]; show (numL n).length = 8; simp [numL]
def dgB (n : Int) (k : Nat) : ByteArray := ⟨(((List.range k).map (dg n)).reverse).toArray⟩
theorem dgB_step (n : Int) (k : Nat) : (⟨#[dg n k]⟩ : ByteArray) ++ dgB n k = dgB n (k + 1) := bl_inj (by
  rw [bl_app]
  show [dg n k] ++ ((List.range k).map (dg n)).reverse = ((List.range (k + 1)).map (dg n)).reverse
  rw [List.range_succ, List.map_append, List.reverse_append]; rfl)
theorem dgB_size (n : Int) (k : Nat) : (dgB n k).size = k := by rw [← bl_len]; show (((List.range k).map (dg n)).reverse).length = k; simp
theorem b8_mod (n : Int) : b8 (n % 256) = b8 n := by unfold b8; rw [Int.emod_emod_of_dvd _ (by decide)]
theorem ref_Num (n : Int) (w : World) (h0 : 0 ≤ n) (h1 : n ≤ 9223372036854775807) : Calls Tryz.prog 32 #[.int .i64 n] w fun e w' => e = .returned (.string (numB n)) ∧ Below w.heap.size w w' := by
  refine V_flat (args := [.int .i64 n]) (M := Mem.no) Tryz.func32 rfl Tryz.ntmps32 (by rfl) (Mem.no_le _) ?_
  repeat' (first | refine VC_seq ?_ | refine VC_region ?_ | refine VL_nil ?_ | refine VC_block ?_ | ((apply VL_q); (exact qas (by rfl)); rfl))
  refine VC_for (fun k : Nat => ⟨Mem.no, [], [(0, .v (.int .i64 (n / 256 ^ k))), (3, .v (.string (dgB n k))), (4, .v (.int .i64 k))]⟩) (fun k => k ≤ 8) (fun k => 8 - k) [] 0 ⟨rfl, rfl, trivial, ⟨by simp; rfl, rfl, rfl, trivial⟩⟩ (by omega) ?_
  intro k hk
  have hz := dgB_size n k
  rcases Nat.lt_or_ge k 8 with hlt | hge
  · have hd : decide ((k : Int) < 8) = true := decide_eq_true (by omega)
    have hp : (0 : Int) < 256 ^ k := Int.pow_pos (by omega)
    have hn0 : 0 ≤ n / 256 ^ k := Int.ediv_nonneg h0 (by omega)
    have hn1 : n / 256 ^ k ≤ n := Int.ediv_le_self _ h0
    have hs := dgB_step n k
    have hb : b8 (n / 256 ^ k % 256) = dg n k := b8_mod _
    have hq : n / 256 ^ (k + 1) = n / 256 ^ k / 256 := by rw [Int.pow_succ, Int.ediv_ediv_of_nonneg (by omega)]
    rw [← hb] at hs
    generalize n / 256 ^ k = m at *
    generalize dgB n k = sB at *
    repeat' (first | refine VC_seq ?_ | refine VC_region ?_ | refine VL_nil ?_ | refine VC_block ?_ | refine VC_skip ?_ | refine klt ?_ | ((apply VL_q); (first | exact QS_bin (by rfl) (by rfl) (B_rem hn0 (by omega) (by omega)) | exact QS_bin (by rfl) (by rfl) (B_quo hn0 (by omega) (by omega)) | exact qnr (by rfl) | exact qb1 (by rfl) | exact qsz (by rfl) (by rfl) (by simp only [size_app, sz1]; unfold maxLen; omega) | exact qmv (by rfl) | exact qas (by rfl) | exact qcp (by rfl) | exact qad (by rfl)); rfl) | refine ctr ?_)
    exact forQ_next (Q := fun _ _ => True) [] (k + 1) ⟨rfl, rfl, trivial, ⟨by rw [hq]; rfl, by rw [← hs]; rfl, rfl, trivial⟩⟩ (by omega) (by omega)
  · have hd : decide ((k : Int) < 8) = false := decide_eq_false (by omega)
    obtain rfl : k = 8 := by omega
    repeat' (first | refine VC_seq ?_ | refine VC_region ?_ | refine VL_nil ?_ | refine VC_ret ?_ | refine VC_exit ?_ | ((apply VL_q); (first | exact qmv (by rfl) | exact qas (by rfl) | exact qcp (by rfl)); rfl) | refine cfa ?_)
    show Res _ _ _ _
    refine Res.one (by rfl) (ResV_tmp (by rfl) ?_)
    rfl
def flgB (b : Bool) : ByteArray := if b = true then ⟨#[1]⟩ else ⟨#[0]⟩
theorem flgB_size (b : Bool) : (flgB b).size = 1 := by cases b <;> rfl
theorem ref_Flag (b : Bool) (w : World) : Calls Tryz.prog 61 #[.bool b] w fun e w' => e = .returned (.string (flgB b)) ∧ Below w.heap.size w w' := by
  cases b
  all_goals
    refine V_flat (args := [.bool _]) (M := Mem.no) Tryz.func61 rfl Tryz.ntmps61 (by rfl) (Mem.no_le _) ?_
    repeat' (first | refine VC_seq ?_ | refine VC_region ?_ | refine VL_nil ?_ | refine VC_ret ?_ | refine VC_skip ?_ | ((apply VL_q); (first | exact qmv (by rfl) | exact qas (by rfl)); rfl) | refine ctr ?_ | refine cfa ?_)
    show Res _ _ _ _
    refine Res.one (by rfl) (ResV_tmp (by rfl) ?_)
    rfl
theorem image_flag (b : Bool) (w : World) : Calls Tryz.prog 44 #[.bool b] w fun e w' => e = .returned (.string (flgB b)) ∧ Below w.heap.size w w' := by
  cases b
  all_goals
    refine V_flat (args := [.bool _]) (M := Mem.no) Tryz.func44 rfl Tryz.ntmps44 (by rfl) (Mem.no_le _) ?_
    repeat' (first | refine VC_seq ?_ | refine VC_region ?_ | refine VL_nil ?_ | refine VC_ret ?_ | refine VC_skip ?_ | ((apply VL_q); (first | exact qmv (by rfl) | exact qas (by rfl)); rfl) | refine ctr ?_ | refine cfa ?_)
    show Res _ _ _ _
    refine Res.one (by rfl) (ResV_tmp (by rfl) ?_)
    rfl
end Go.Proofs.YtlapnbklbpeddaaGreat
