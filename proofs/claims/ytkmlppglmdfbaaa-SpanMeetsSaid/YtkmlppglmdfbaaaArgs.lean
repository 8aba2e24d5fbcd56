/- Structs of one-cell fields among the arguments, and slices of them, as plain Lean data. -/
import Derived.Test.YtkmlppglmdfbaaaData
import Derived.Test.YtkmlppglmdfbaaaTypes
namespace Go.Proofs.Ytkmlppglmdfbaaa
open Go.ChangeShapes Go.WideShapes Go.ChangeAt Go.RowKit Go.Deep
set_option linter.unusedVariables false
set_option linter.unusedSimpArgs false
/-- All texts and numbers of such a struct are in range. -/
def Span.In (a : Span) : Prop := Sz a.lo ∧ Sz a.hi
abbrev spanCells (a : Span) : List Value := [.string a.lo, .string a.hi, .bool a.opn]
theorem rd_span {H : Type} {enc : TypeId × Value → H} {W : World} (n : Nat) (cs : List Value) (y : DataW H × List MemPlace) (h : DataW.trod enc Try.prog W 0 (fun _ => true) true n 33 cs = some y) (hw : Wt Try.prog 33 y.1) :
    ∃ a : Span, cs = spanCells a ∧ a.In := by
  obtain ⟨hl, hf⟩ := rd_struct Try.underlying33 (by kernel_rfl) (by kernel_rfl) h hw
  obtain ⟨v0, y0, m0, hv0, ht0, hw0⟩ := hf 0 _ rfl
  obtain ⟨v1, y1, m1, hv1, ht1, hw1⟩ := hf 1 _ rfl
  obtain ⟨v2, y2, m2, hv2, ht2, hw2⟩ := hf 2 _ rfl
  obtain ⟨x0, e0, g0⟩ := rd_str Try.underlying9 ht0 hw0
  obtain ⟨x1, e1, g1⟩ := rd_str Try.underlying9 ht1 hw1
  obtain ⟨x2, e2⟩ := rd_bool Try.underlying4 ht2
  match cs, hl with
  | [c0, c1, c2], _ =>
    simp at hv0 e0
    simp at hv1 e1
    simp at hv2 e2
    subst hv0 e0 hv1 e1 hv2 e2
    exact ⟨⟨x0, x1, x2⟩, rfl, g0, g1⟩
theorem arg_span {H : Type} {enc : TypeId × Value → H} {W : World} {base : Nat} {v : Value} {d : DataW H} {p : List MemPlace} (hv : Value.okWide Try.prog W .any base 33 v) (h : DataW.Trod enc Try.prog W 0 (fun _ => true) true 33 v d p) (hw : Wt Try.prog 33 d) :
    ∃ a : Span, v = .agg #[.string a.lo, .string a.hi, .bool a.opn] ∧ a.In := by
  obtain ⟨cs, rfl, hsz⟩ := okWide_struct Try.underlying33 hv
  obtain ⟨fuel, hf⟩ := h
  obtain ⟨a, ha, hin⟩ := rd_span fuel cs.toList _ hf hw
  refine ⟨a, ?_, hin⟩
  obtain ⟨l⟩ := cs
  simp only at ha
  rw [ha]
abbrev SlSpan (w : World) (v : Value) (l : List Span) : Prop := Sl w 3 spanCells v l
/-- All texts and numbers of such a struct are in range. -/
def Eff.In (a : Eff) : Prop := I64 a.kind ∧ Sz a.val
abbrev effCells (a : Eff) : List Value := [.int .i64 a.kind, .string a.val]
theorem rd_eff {H : Type} {enc : TypeId × Value → H} {W : World} (n : Nat) (cs : List Value) (y : DataW H × List MemPlace) (h : DataW.trod enc Try.prog W 0 (fun _ => true) true n 46 cs = some y) (hw : Wt Try.prog 46 y.1) :
    ∃ a : Eff, cs = effCells a ∧ a.In := by
  obtain ⟨hl, hf⟩ := rd_struct Try.underlying46 (by kernel_rfl) (by kernel_rfl) h hw
  obtain ⟨v0, y0, m0, hv0, ht0, hw0⟩ := hf 0 _ rfl
  obtain ⟨v1, y1, m1, hv1, ht1, hw1⟩ := hf 1 _ rfl
  obtain ⟨x0, e0, g0⟩ := rd_int Try.underlying3 ht0
  obtain ⟨x1, e1, g1⟩ := rd_str Try.underlying9 ht1 hw1
  match cs, hl with
  | [c0, c1], _ =>
    simp at hv0 e0
    simp at hv1 e1
    subst hv0 e0 hv1 e1
    exact ⟨⟨x0, x1⟩, rfl, g0, g1⟩
theorem arg_eff {H : Type} {enc : TypeId × Value → H} {W : World} {base : Nat} {v : Value} {d : DataW H} {p : List MemPlace} (hv : Value.okWide Try.prog W .any base 46 v) (h : DataW.Trod enc Try.prog W 0 (fun _ => true) true 46 v d p) (hw : Wt Try.prog 46 d) :
    ∃ a : Eff, v = .agg #[.int .i64 a.kind, .string a.val] ∧ a.In := by
  obtain ⟨cs, rfl, hsz⟩ := okWide_struct Try.underlying46 hv
  obtain ⟨fuel, hf⟩ := h
  obtain ⟨a, ha, hin⟩ := rd_eff fuel cs.toList _ hf hw
  refine ⟨a, ?_, hin⟩
  obtain ⟨l⟩ := cs
  simp only at ha
  rw [ha]
abbrev SlEff (w : World) (v : Value) (l : List Eff) : Prop := Sl w 2 effCells v l
theorem arg_effs {H : Type} {enc : TypeId × Value → H} {W : World} {base : Nat} {v : Value} {d : DataW H} {p : List MemPlace} (hv : Value.okWide Try.prog W .any base 53 v) (h : DataW.Trod enc Try.prog W 0 (fun _ => true) true 53 v d p) (hw : Wt Try.prog 53 d) :
    ∃ l : List Eff, SlEff W v l ∧ (∀ a ∈ l, a.In) ∧ l.length * 24 ≤ 140737488351232 :=
  arg_slice Try.underlying53 (by kernel_rfl : Try.prog.cellsOf 46 = 2) (by omega) (by kernel_rfl : Try.prog.bytesOf 46 = 24) effCells Eff.In rd_eff hv h hw
end Go.Proofs.Ytkmlppglmdfbaaa
