/- Operations and entries as bytes: plain Lean, no program in sight. -/
import Derived.Test.YtdgcdfngpimmmaaPSc3
namespace Go.Proofs.Ytdgcdfngpimmmaa
open Go Go.RowKit
set_option linter.unusedVariables false
set_option maxRecDepth 20000
set_option linter.unusedSimpArgs false
theorem bl_app (s t : ByteArray) : bl (s ++ t) = bl s ++ bl t := by
  unfold bl
  rw [ByteArray.data_append, Array.toList_append]
theorem bl_ext (s : ByteArray) (a b : Nat) : bl (s.extract a b) = ((bl s).take b).drop a := by
  unfold bl
  rw [ByteArray.data_extract, Array.toList_extract, List.extract_eq_take_drop, List.drop_take]
theorem bl_len (s : ByteArray) : (bl s).length = s.size := by simp [bl]
theorem byt_bl (s : ByteArray) (j : Nat) : byt s j = (((bl s).getD j 0).toNat : Int) := rfl
/-- A text with its length ahead. -/
def textR (s : ByteArray) : ByteArray := (⟨#[b8 s.size]⟩ : ByteArray) ++ s
theorem bl_textR (s : ByteArray) : bl (textR s) = b8 s.size :: bl s := by
  unfold textR
  rw [bl_app]; rfl
theorem b1_bl {s : ByteArray} {x : UInt8} {l : List UInt8} (h : bl s = x :: l) : b1 s = (x.toNat : Int) := by
  have hs : s.size ≠ 0 := by rw [← bl_len, h]; simp
  unfold b1
  rw [if_neg hs, byt_bl, h]; rfl
theorem r1_bl {s : ByteArray} {x : UInt8} {l : List UInt8} (h : bl s = x :: l) : bl (r1 s) = l := by
  have hs : s.size ≠ 0 := by rw [← bl_len, h]; simp
  unfold r1
  rw [if_neg hs, bl_ext, List.take_of_length_le (by rw [bl_len]; exact Nat.le_refl _), h]; rfl
/-- Text behind text is read back. -/
theorem takeT_text {t s r : ByteArray} (h : bl t = bl (textR s) ++ bl r) (hs : s.size ≤ 255) : takeT t = (s, r, true) := by
  rw [bl_textR, List.cons_append] at h
  have hb : (b8 s.size).toNat = s.size := by
    unfold b8
    have : ((s.size : Int) % 256).toNat = s.size := by omega
    rw [this]
    simp
    omega
  have hb0 : byt t 0 = (s.size : Int) := by rw [byt_bl, h]; show ((b8 s.size).toNat : Int) = _; rw [hb]
  have hz : t.size = s.size + r.size + 1 := by rw [← bl_len, h, ← bl_len s, ← bl_len r]; simp
  have hh : hd1 t = 1 + s.size := by unfold hd1; rw [hb0]; simp
  have hk : okT t = true := by
    unfold okT
    rw [hb0, hz]
    simp only [Bool.and_eq_true, decide_eq_true_eq]
    omega
  unfold takeT
  rw [if_pos hk]
  have e1 : t.extract 1 (hd1 t) = s := bl_inj (by
    rw [bl_ext, h, hh, Nat.add_comm 1, List.take_succ_cons, List.drop_succ_cons, List.drop_zero, ← bl_len s, List.take_left])
  have e2 : t.extract (hd1 t) t.size = r := bl_inj (by
    rw [bl_ext, List.take_of_length_le (by rw [bl_len]; exact Nat.le_refl _), h, hh, Nat.add_comm 1, List.drop_succ_cons, ← bl_len s, List.drop_left])
  rw [e1, e2]
/-- An operation's bytes. -/
def bytesO (o : Op) : ByteArray :=
  let s0 := (⟨#[b8 o.kind]⟩ : ByteArray) ++ textR o.key
  let s1 := if o.kind ≤ 2 then s0 ++ textR o.val else s0
  let s2 := if rangedO o = true then (if o.opn = true then s1 ++ ⟨#[1]⟩ else s1 ++ ((⟨#[0]⟩ : ByteArray) ++ textR o.hi)) else s1
  if o.kind = 6 then s2 ++ ⟨#[b8 o.limit]⟩ else s2
theorem fin_bad {o : Op} {r : ByteArray} {k : Bool} (h : (fin o r k).2 = false) : (fin o r k).1 = opE := by
  unfold fin at h ⊢
  split at h
  · cases h
  · rename_i hc; rw [if_neg hc]
theorem ofO_bad {s : ByteArray} (h : (ofO s).2 = false) : (ofO s).1 = opE := by
  unfold ofO at h ⊢
  repeat' split at h
  all_goals first | (simp_all; done) | skip
  all_goals (simp_all; try exact fin_bad h)
theorem bl_one (x : UInt8) : bl ⟨#[x]⟩ = [x] := rfl
end Go.Proofs.Ytdgcdfngpimmmaa
