import Derived.Test.YtlapnbklbpeddaaGreatPIm1
import Derived.Shelf.Strings.Repeat
/- The library's Repeat: its contract by names, from the kit's shelf. -/
namespace Go.Proofs.YtlapnbklbpeddaaGreat
open Go Go.RowKit Go.Shelf
set_option linter.unusedVariables false
set_option maxRecDepth 20000
set_option linter.unusedSimpArgs false
set_option maxHeartbeats 4000000
def ρr : Ren := ⟨fun x => match x with | 99 => 110 | 105 => 95 | 165 => 111 | 166 => 19 | 169 => 22 | 170 => 112 | 206 => 94 | 212 => 109 | 240 => 42 | 241 => 123 | 263 => 121 | 264 => 122 | 276 => 84 | 277 => 127 | x => x, fun t => match t with | 0 => 0 | 3 => 3 | 4 => 4 | 5 => 5 | 9 => 9 | 20 => 20 | 37 => 49 | 46 => 110 | 51 => 153 | 53 => 156 | 70 => 48 | 72 => 51 | 75 => 55 | 76 => 56 | 80 => 60 | 109 => 149 | 127 => 98 | 146 => 154 | 148 => 157 | 164 => 128 | t => t, fun g => g⟩
theorem layR : Lays.n105 Tryz.prog ρr := {
  mixed := by kernel_rfl
  f99 := by kernel_rfl
  f105 := by kernel_rfl
  f165 := by kernel_rfl
  f166 := by kernel_rfl
  f169 := by kernel_rfl
  f170 := by kernel_rfl
  f206 := by kernel_rfl
  f212 := by kernel_rfl
  f240 := by kernel_rfl
  f241 := by kernel_rfl
  f263 := by kernel_rfl
  f264 := by kernel_rfl
  f276 := by kernel_rfl
  f277 := by kernel_rfl
  t0 := by kernel_rfl
  a0 := fun w => by kernel_rfl
  z0 := fun w => by kernel_rfl
  v0 := fun w => by kernel_rfl
  t3 := by kernel_rfl
  a3 := fun w => by kernel_rfl
  z3 := fun w => by kernel_rfl
  v3 := fun w => by kernel_rfl
  t4 := by kernel_rfl
  a4 := fun w => by kernel_rfl
  z4 := fun w => by kernel_rfl
  v4 := fun w => by kernel_rfl
  t5 := by kernel_rfl
  a5 := fun w => by kernel_rfl
  z5 := fun w => by kernel_rfl
  v5 := fun w => by kernel_rfl
  t9 := by kernel_rfl
  a9 := fun w => by kernel_rfl
  z9 := fun w => by kernel_rfl
  v9 := fun w => by kernel_rfl
  t20 := by kernel_rfl
  a20 := fun w => by kernel_rfl
  z20 := fun w => by kernel_rfl
  v20 := fun w => by kernel_rfl
  t37 := by kernel_rfl
  a37 := fun w => by kernel_rfl
  z37 := fun w => by kernel_rfl
  v37 := fun w => by kernel_rfl
  t46 := by kernel_rfl
  a46 := fun w => by kernel_rfl
  z46 := fun w => by kernel_rfl
  v46 := fun w => by kernel_rfl
  t51 := by kernel_rfl
  a51 := fun w => by kernel_rfl
  z51 := fun w => by kernel_rfl
  v51 := fun w => by kernel_rfl
  t53 := by kernel_rfl
  a53 := fun w => by kernel_rfl
  z53 := fun w => by kernel_rfl
  v53 := fun w => by kernel_rfl
  t70 := by kernel_rfl
  a70 := fun w => by kernel_rfl
  z70 := fun w => by kernel_rfl
  v70 := fun w => by kernel_rfl
  t72 := by kernel_rfl
  a72 := fun w => by kernel_rfl
  z72 := fun w => by kernel_rfl
  v72 := fun w => by kernel_rfl
  t75 := by kernel_rfl
  a75 := fun w => by kernel_rfl
  z75 := fun w => by kernel_rfl
  v75 := fun w => by kernel_rfl
  t76 := by kernel_rfl
  a76 := fun w => by kernel_rfl
  z76 := fun w => by kernel_rfl
  v76 := fun w => by kernel_rfl
  t109 := by kernel_rfl
  a109 := fun w => by kernel_rfl
  z109 := fun w => by kernel_rfl
  v109 := fun w => by kernel_rfl
  t127 := by kernel_rfl
  a127 := fun w => by kernel_rfl
  z127 := fun w => by kernel_rfl
  v127 := fun w => by kernel_rfl
  t146 := by kernel_rfl
  a146 := fun w => by kernel_rfl
  z146 := fun w => by kernel_rfl
  v146 := fun w => by kernel_rfl
  t148 := by kernel_rfl
  a148 := fun w => by kernel_rfl
  z148 := fun w => by kernel_rfl
  v148 := fun w => by kernel_rfl
  t164 := by kernel_rfl
  a164 := fun w => by kernel_rfl
  z164 := fun w => by kernel_rfl
  v164 := fun w => by kernel_rfl }
theorem layX : Go.Proofs.Builder.Extra Tryz.prog ρr := {
  sizeBuilder := by kernel_rfl
  liesBuilder := by kernel_rfl
  t5 := by kernel_rfl
  a5 := fun w => by kernel_rfl
  z5 := fun w => by kernel_rfl
  v5 := fun w => by kernel_rfl
  infoByte := by kernel_rfl
  cellsByte := by kernel_rfl
  sizeByte := by kernel_rfl
  neB5 := by decide }
theorem strings_Repeat0 (c : Nat) (w : World) (hc : c ≤ 1000000) : Calls Tryz.prog 95 #[.string ⟨#[0]⟩, .int .i64 c] w fun e w' => e = .returned (.string ⟨(Lib.repeatL [0] c).toArray⟩) ∧ Below w.heap.size w w' :=
  Any.strings_Repeat layR layX ⟨#[0]⟩ c w (by omega) (by show 1 * c ≤ _; omega)
end Go.Proofs.YtlapnbklbpeddaaGreat
/- An eye takes bytes, a flag, a text. -/
namespace Go.Proofs.YtlapnbklbpeddaaGreat
open Go Go.RowKit
attribute [local irreducible] Calls
set_option linter.unusedVariables false
set_option maxRecDepth 20000
set_option linter.unusedSimpArgs false
set_option maxHeartbeats 4000000
abbrev eyC (s : ByteArray) (k : Bool) : List Value := [.string s, .bool k]
abbrev eyP (b : Nat) : Value := .pointer (some ⟨b, 0, none⟩)
def zerB (n : Nat) : ByteArray := ⟨(Lib.repeatL [0] n).toArray⟩
def tkV (s : ByteArray) (n : Nat) : ByteArray := if s.size < n then zerB n else s.extract 0 n
def tkS (s : ByteArray) (n : Nat) : ByteArray := if s.size < n then em else s.extract n s.size
def tkK (s : ByteArray) (k : Bool) (n : Nat) : Bool := if s.size < n then false else k
theorem eye_take (b : Nat) (s : ByteArray) (k : Bool) (n : Nat) (M : Mem) (hn : n ≤ 1000) : CallX Tryz.prog 58 [eyP b, .int .i64 (n : Nat)] M [.nblk (eyP b) 78 (eyC s k)]
    (fun v own' => v = .string (tkV s n) ∧ own' = [.nblk (eyP b) 78 (eyC (tkS s n) (tkK s k n))]) := by
  refine V_x Tryz.func58 rfl Tryz.ntmps58 (by rfl) (fun w M0 => ?_)
  unfold tkV tkS tkK
  by_cases h : s.size < n
  · have d : decide ((s.size : Int) < (n : Int)) = true := decide_eq_true (by omega)
    have cR := fun W => strings_Repeat0 n W (by omega)
    rw [if_pos h, if_pos h, if_pos h]
    repeat' (first | refine knb 0 ?_ | refine VC_seq ?_ | refine VC_region ?_ | refine VL_nil ?_ | refine VC_ret ?_ | ((apply VL_q); (first | exact qni (by rfl) | exact QS_nload1 0 (by rfl) (by rfl) (by rfl) (by rfl) | exact QS_call (by rfl) (fun W _ => cR W) | exact qmv (by rfl) | exact qas (by rfl) | exact qmf (by rfl) | exact qls (by rfl) | exact qcp (by rfl)); rfl) | refine ctr ?_)
    exact ⟨_, [0], [.nblk (eyP b) 78 (eyC em false)], Res.one (by rfl) (ResV_tmp (by rfl) rfl), Mem.le_refl _, rfl, ⟨rfl, trivial⟩, rfl, rfl⟩
  · have d : decide ((s.size : Int) < (n : Int)) = false := decide_eq_false (by omega)
    rw [if_neg h, if_neg h, if_neg h]
    repeat' (first | refine knb 0 ?_ | refine VC_seq ?_ | refine VC_region ?_ | refine VL_nil ?_ | refine VC_ret ?_ | refine VC_skip ?_ | ((apply VL_q); (first | exact qni (by rfl) | exact QS_nload1 0 (by rfl) (by rfl) (by rfl) (by rfl) | exact QS_cutS 0 n (by rfl) (by rfl) (by rfl) (by omega) (by omega) | exact QS_cutS n s.size (by rfl) (by rfl) (by rfl) (by omega) (Nat.le_refl _) | exact qmv (by rfl) | exact qas (by rfl) | exact qmf (by rfl) | exact qls (by rfl) | exact qcp (by rfl)); rfl) | refine cfa ?_)
    exact ⟨_, [0], [.nblk (eyP b) 78 (eyC (s.extract n s.size) k)], Res.one (by rfl) (ResV_tmp (by rfl) rfl), Mem.le_refl _, rfl, ⟨rfl, trivial⟩, rfl, rfl⟩
def fgV (s : ByteArray) : Bool := decide (tkV s 1 = ⟨#[1]⟩)
theorem eye_flag (b : Nat) (s : ByteArray) (k : Bool) (M : Mem) : CallX Tryz.prog 59 [eyP b] M [.nblk (eyP b) 78 (eyC s k)]
    (fun v own' => v = .bool (fgV s) ∧ own' = [.nblk (eyP b) 78 (eyC (tkS s 1) (tkK s k 1))]) := by
  refine V_x Tryz.func59 rfl Tryz.ntmps59 (by rfl) (fun w M0 => ?_)
  repeat' (first | refine VC_seq ?_ | refine VC_region ?_ | refine VL_nil ?_ | ((apply VL_q); (first | exact qmv (by rfl) | exact qas (by rfl)); rfl))
  refine VL_callX (own1 := [.nblk (eyP b) 78 (eyC s k)]) [0] (by rfl) (by rfl) ⟨rfl, trivial⟩ (fun M' _ => eye_take b s k 1 M' (by omega)) (by rfl) (by rfl) ?_
  rintro _ _ ⟨rfl, rfl⟩
  repeat' (first | refine VL_nil ?_ | refine VC_ret ?_ | ((apply VL_q); (first | exact qas (by rfl) | exact qcp (by rfl)); rfl))
  exact ⟨_, [1], [.nblk (eyP b) 78 (eyC (tkS s 1) (tkK s k 1))], Res.one (by rfl) (ResV_tmp (by rfl) rfl), Mem.le_refl _, rfl, ⟨rfl, trivial⟩, rfl, rfl⟩
theorem eye_text (b : Nat) (s : ByteArray) (k : Bool) (M : Mem) (hs : s.size ≤ 100000000) : CallX Tryz.prog 60 [eyP b] M [.nblk (eyP b) 78 (eyC s k)]
    (fun v own' => v = .string (takeT s).1 ∧ own' = [.nblk (eyP b) 78 (eyC (takeT s).2.1 (k && (takeT s).2.2))]) := by
  refine V_x Tryz.func60 rfl Tryz.ntmps60 (by rfl) (fun w M0 => ?_)
  cases k with
  | true =>
    repeat' (first | refine knb 0 ?_ | refine VC_seq ?_ | refine VC_region ?_ | refine VL_nil ?_ | refine VC_ret ?_ | ((apply VL_q); (first | exact qni (by rfl) | exact QS_nload1 0 (by rfl) (by rfl) (by rfl) (by rfl) | exact QS_call (by rfl) (fun W _ => pack_TakeText s W hs) | exact qmv (by rfl) | exact qas (by rfl) | exact qmf (by rfl) | exact qex (by rfl) | exact qpt (by rfl)); rfl) | refine kyes ?_)
    refine ⟨_, [0], [.nblk (eyP b) 78 (eyC (takeT s).2.1 (true && (takeT s).2.2))], Res.one (by rfl) (ResV_tmp (by rfl) rfl), Mem.le_refl _, rfl, ⟨rfl, trivial⟩, rfl, rfl⟩
  | false =>
    repeat' (first | refine knb 0 ?_ | refine VC_seq ?_ | refine VC_region ?_ | refine VL_nil ?_ | refine VC_ret ?_ | ((apply VL_q); (first | exact qni (by rfl) | exact QS_nload1 0 (by rfl) (by rfl) (by rfl) (by rfl) | exact QS_call (by rfl) (fun W _ => pack_TakeText s W hs) | exact qmv (by rfl) | exact qas (by rfl) | exact qmf (by rfl) | exact qex (by rfl) | exact qpf (by rfl)); rfl) | refine kno ?_)
    refine ⟨_, [0], [.nblk (eyP b) 78 (eyC (takeT s).2.1 (false && (takeT s).2.2))], Res.one (by rfl) (ResV_tmp (by rfl) rfl), Mem.le_refl _, rfl, ⟨rfl, trivial⟩, rfl, rfl⟩
end Go.Proofs.YtlapnbklbpeddaaGreat
