/- Plain facts about texts (bytes in order) that all proofs of this seat use: no program in sight. -/
import Derived.WalkKit
import Derived.WalkSpells
import Derived.WalkLawsBesides
import Derived.Lib.Strings
import Derived.Lib.Hide
namespace Go.Proofs.Ytipbbbamjckjoaa
open Go.RowKit
set_option linter.unusedVariables false
set_option maxRecDepth 20000
set_option linter.unusedSimpArgs false

theorem retv {v u : Value} (h : v = u) : Ending.returned v = .returned u := by rw [h]
theorem strv {a b : ByteArray} (h : a = b) : Value.string a = .string b := by rw [h]
theorem boolv {a b : Bool} (h : a = b) : Value.bool a = .bool b := by rw [h]
/-- A text's bytes. -/
abbrev bl (s : ByteArray) : List UInt8 := s.data.toList
theorem bl_inj {a b : ByteArray} (h : bl a = bl b) : a = b := by
  rw [← Lib.mk_data a, ← Lib.mk_data b]; exact congrArg (fun l : List UInt8 => (⟨l.toArray⟩ : ByteArray)) h
theorem bl_size (s : ByteArray) : s.size = (bl s).length := Lib.size_eq s
theorem bl_extract (s : ByteArray) (a b : Nat) : bl (s.extract a b) = ((bl s).drop a).take (b - a) := Lib.extract_data s a b
theorem bl_append (a b : ByteArray) : bl (a ++ b) = bl a ++ bl b := by simp [bl]
theorem beq_bl (a b : ByteArray) : (a.toList == b.toList) = decide (a = b) := by
  rw [Lib.toList_data, Lib.toList_data]
  by_cases h : a = b
  · simp [h]
  · simp only [h, decide_false, beq_eq_false_iff_ne]; exact fun e => h (bl_inj e)
theorem beq_self_bl (a : ByteArray) : (a.toList == a.toList) = true := by simp
/-- The empty text. -/
abbrev em : ByteArray := ⟨#[]⟩
theorem size_em : em.size = 0 := rfl
theorem bl_em : bl em = [] := rfl
theorem eq_em {s : ByteArray} (h : s.size = 0) : s = em := bl_inj (by rw [bl_em]; exact List.eq_nil_of_length_eq_zero (by rw [← bl_size]; exact h))

/-- A text's end, of at most 16 bytes. -/
def tl (s : ByteArray) : ByteArray := s.extract (s.size - 16) s.size
theorem bl_tl (s : ByteArray) : bl (tl s) = (bl s).drop ((bl s).length - 16) := by
  unfold tl
  rw [bl_extract, bl_size]
  exact List.take_of_length_le (by simp)
theorem size_tl (s : ByteArray) : (tl s).size = min s.size 16 := by
  rw [bl_size, bl_tl, bl_size, List.length_drop]; omega
theorem tl_short (s : ByteArray) (h : s.size ≤ 16) : tl s = s := bl_inj (by rw [bl_tl, ← bl_size, Nat.sub_eq_zero_of_le h]; rfl)
theorem drop_app (l m : List UInt8) (k : Nat) : (l.drop (l.length - k) ++ m).drop ((l.drop (l.length - k) ++ m).length - k) = (l ++ m).drop ((l ++ m).length - k) := by
  rw [List.drop_append, List.drop_append]
  simp only [List.drop_drop, List.length_append, List.length_drop]
  congr 1
  · congr 1; omega
  · congr 1; omega
theorem tl_tl (a b : ByteArray) : tl (tl a ++ b) = tl (a ++ b) := bl_inj (by
  rw [bl_tl, bl_append, bl_tl, bl_tl, bl_append]; exact drop_app _ _ 16)
theorem drop_app2 (l m : List UInt8) (k : Nat) : (l ++ m.drop (m.length - k)).drop ((l ++ m.drop (m.length - k)).length - k) = (l ++ m).drop ((l ++ m).length - k) := by
  simp only [List.length_append, List.length_drop]
  by_cases h : k ≤ m.length
  · rw [show l.length + (m.length - (m.length - k)) - k = l.length from by omega, show l.length + m.length - k = l.length + (m.length - k) from by omega,
      List.drop_left, ← List.drop_drop, List.drop_left]
  · have : m.length - k = 0 := by omega
    rw [this]; simp only [List.drop_zero, Nat.sub_zero]
theorem tl_app_tl (a b : ByteArray) : tl (a ++ tl b) = tl (a ++ b) := bl_inj (by
  rw [bl_tl, bl_append, bl_tl, bl_tl, bl_append]; exact drop_app2 _ _ 16)
theorem app_assoc (a b c : ByteArray) : a ++ b ++ c = a ++ (b ++ c) := bl_inj (by simp [bl])
theorem app_em (a : ByteArray) : a ++ em = a := bl_inj (by simp [bl, em])
theorem em_app (a : ByteArray) : em ++ a = a := bl_inj (by simp [bl, em])
theorem size_app (a b : ByteArray) : (a ++ b).size = a.size + b.size := by simp

end Go.Proofs.Ytipbbbamjckjoaa
