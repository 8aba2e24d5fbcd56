/- Structs of one-cell fields among the arguments, and slices of them, as plain Lean data. -/
import Derived.Test.YtipbbbamjckjoaaData
import Derived.Test.YtipbbbamjckjoaaTypes
namespace Go.Proofs.Ytipbbbamjckjoaa
open Go.ChangeShapes Go.WideShapes Go.ChangeAt Go.RowKit Go.Deep
set_option linter.unusedVariables false
set_option maxRecDepth 20000
set_option linter.unusedSimpArgs false
/-- All texts and numbers of such a struct are in range. -/
def Span.In (a : Span) : Prop := Sz a.lo ∧ Sz a.hi
abbrev spanCells (a : Span) : List Value := [.string a.lo, .string a.hi, .bool a.opn]
theorem rd_span {H : Type} {enc : TypeId × Value → H} {W : World} (n : Nat) (cs : List Value) (y : DataW H × List MemPlace) (h : DataW.trod enc Try.prog W 0 (fun _ => true) true n 28 cs = some y) (hw : Wt Try.prog 28 y.1) :
    ∃ a : Span, cs = spanCells a ∧ a.In := by
  obtain ⟨hl, hf⟩ := rd_struct Try.underlying28 (by kernel_rfl) (by kernel_rfl) h hw
  obtain ⟨v0, y0, m0, hv0, ht0, hw0⟩ := hf 0 _ rfl
  obtain ⟨v1, y1, m1, hv1, ht1, hw1⟩ := hf 1 _ rfl
  obtain ⟨v2, y2, m2, hv2, ht2, hw2⟩ := hf 2 _ rfl
  obtain ⟨x0, e0, g0⟩ := rd_str Try.underlying9 ht0 hw0
  obtain ⟨x1, e1, g1⟩ := rd_str Try.underlying9 ht1 hw1
  obtain ⟨x2, e2⟩ := rd_bool Try.underlying4 ht2
  match cs, hl with
  | [c0, c1, c2], _ =>
    simp at hv0 e0
    simp at hv1 e1
    simp at hv2 e2
    subst hv0 e0 hv1 e1 hv2 e2
    exact ⟨⟨x0, x1, x2⟩, rfl, g0, g1⟩
theorem arg_span {H : Type} {enc : TypeId × Value → H} {W : World} {base : Nat} {v : Value} {d : DataW H} {p : List MemPlace} (hv : Value.okWide Try.prog W .any base 28 v) (h : DataW.Trod enc Try.prog W 0 (fun _ => true) true 28 v d p) (hw : Wt Try.prog 28 d) :
    ∃ a : Span, v = .agg #[.string a.lo, .string a.hi, .bool a.opn] ∧ a.In := by
  obtain ⟨cs, rfl, hsz⟩ := okWide_struct Try.underlying28 hv
  obtain ⟨fuel, hf⟩ := h
  obtain ⟨a, ha, hin⟩ := rd_span fuel cs.toList _ hf hw
  refine ⟨a, ?_, hin⟩
  obtain ⟨l⟩ := cs
  simp only at ha
  rw [ha]
abbrev SlSpan (w : World) (v : Value) (l : List Span) : Prop := Sl w 3 spanCells v l
/-- All texts and numbers of such a struct are in range. -/
def Eff.In (a : Eff) : Prop := I64 a.kind ∧ Sz a.val
abbrev effCells (a : Eff) : List Value := [.int .i64 a.kind, .string a.val]
theorem rd_eff {H : Type} {enc : TypeId × Value → H} {W : World} (n : Nat) (cs : List Value) (y : DataW H × List MemPlace) (h : DataW.trod enc Try.prog W 0 (fun _ => true) true n 34 cs = some y) (hw : Wt Try.prog 34 y.1) :
    ∃ a : Eff, cs = effCells a ∧ a.In := by
  obtain ⟨hl, hf⟩ := rd_struct Try.underlying34 (by kernel_rfl) (by kernel_rfl) h hw
  obtain ⟨v0, y0, m0, hv0, ht0, hw0⟩ := hf 0 _ rfl
  obtain ⟨v1, y1, m1, hv1, ht1, hw1⟩ := hf 1 _ rfl
  obtain ⟨x0, e0, g0⟩ := rd_int Try.underlying3 ht0
  obtain ⟨x1, e1, g1⟩ := rd_str Try.underlying9 ht1 hw1
  match cs, hl with
  | [c0, c1], _ =>
    simp at hv0 e0
    simp at hv1 e1
    subst hv0 e0 hv1 e1
    exact ⟨⟨x0, x1⟩, rfl, g0, g1⟩
theorem arg_eff {H : Type} {enc : TypeId × Value → H} {W : World} {base : Nat} {v : Value} {d : DataW H} {p : List MemPlace} (hv : Value.okWide Try.prog W .any base 34 v) (h : DataW.Trod enc Try.prog W 0 (fun _ => true) true 34 v d p) (hw : Wt Try.prog 34 d) :
    ∃ a : Eff, v = .agg #[.int .i64 a.kind, .string a.val] ∧ a.In := by
  obtain ⟨cs, rfl, hsz⟩ := okWide_struct Try.underlying34 hv
  obtain ⟨fuel, hf⟩ := h
  obtain ⟨a, ha, hin⟩ := rd_eff fuel cs.toList _ hf hw
  refine ⟨a, ?_, hin⟩
  obtain ⟨l⟩ := cs
  simp only at ha
  rw [ha]
abbrev SlEff (w : World) (v : Value) (l : List Eff) : Prop := Sl w 2 effCells v l
/-- All texts and numbers of such a struct are in range. -/
def Msg.In (a : Msg) : Prop := I64 a.stamp ∧ I64 a.kind ∧ Sz a.key ∧ Sz a.hi ∧ Sz a.val
abbrev msgCells (a : Msg) : List Value := [.int .i64 a.stamp, .int .i64 a.kind, .string a.key, .string a.hi, .bool a.opn, .string a.val]
theorem rd_msg {H : Type} {enc : TypeId × Value → H} {W : World} (n : Nat) (cs : List Value) (y : DataW H × List MemPlace) (h : DataW.trod enc Try.prog W 0 (fun _ => true) true n 25 cs = some y) (hw : Wt Try.prog 25 y.1) :
    ∃ a : Msg, cs = msgCells a ∧ a.In := by
  obtain ⟨hl, hf⟩ := rd_struct Try.underlying25 (by kernel_rfl) (by kernel_rfl) h hw
  obtain ⟨v0, y0, m0, hv0, ht0, hw0⟩ := hf 0 _ rfl
  obtain ⟨v1, y1, m1, hv1, ht1, hw1⟩ := hf 1 _ rfl
  obtain ⟨v2, y2, m2, hv2, ht2, hw2⟩ := hf 2 _ rfl
  obtain ⟨v3, y3, m3, hv3, ht3, hw3⟩ := hf 3 _ rfl
  obtain ⟨v4, y4, m4, hv4, ht4, hw4⟩ := hf 4 _ rfl
  obtain ⟨v5, y5, m5, hv5, ht5, hw5⟩ := hf 5 _ rfl
  obtain ⟨x0, e0, g0⟩ := rd_int Try.underlying3 ht0
  obtain ⟨x1, e1, g1⟩ := rd_int Try.underlying3 ht1
  obtain ⟨x2, e2, g2⟩ := rd_str Try.underlying9 ht2 hw2
  obtain ⟨x3, e3, g3⟩ := rd_str Try.underlying9 ht3 hw3
  obtain ⟨x4, e4⟩ := rd_bool Try.underlying4 ht4
  obtain ⟨x5, e5, g5⟩ := rd_str Try.underlying9 ht5 hw5
  match cs, hl with
  | [c0, c1, c2, c3, c4, c5], _ =>
    simp at hv0 e0
    simp at hv1 e1
    simp at hv2 e2
    simp at hv3 e3
    simp at hv4 e4
    simp at hv5 e5
    subst hv0 e0 hv1 e1 hv2 e2 hv3 e3 hv4 e4 hv5 e5
    exact ⟨⟨x0, x1, x2, x3, x4, x5⟩, rfl, g0, g1, g2, g3, g5⟩
theorem arg_msg {H : Type} {enc : TypeId × Value → H} {W : World} {base : Nat} {v : Value} {d : DataW H} {p : List MemPlace} (hv : Value.okWide Try.prog W .any base 25 v) (h : DataW.Trod enc Try.prog W 0 (fun _ => true) true 25 v d p) (hw : Wt Try.prog 25 d) :
    ∃ a : Msg, v = .agg #[.int .i64 a.stamp, .int .i64 a.kind, .string a.key, .string a.hi, .bool a.opn, .string a.val] ∧ a.In := by
  obtain ⟨cs, rfl, hsz⟩ := okWide_struct Try.underlying25 hv
  obtain ⟨fuel, hf⟩ := h
  obtain ⟨a, ha, hin⟩ := rd_msg fuel cs.toList _ hf hw
  refine ⟨a, ?_, hin⟩
  obtain ⟨l⟩ := cs
  simp only at ha
  rw [ha]
abbrev SlMsg (w : World) (v : Value) (l : List Msg) : Prop := Sl w 6 msgCells v l
theorem arg_msgs {H : Type} {enc : TypeId × Value → H} {W : World} {base : Nat} {v : Value} {d : DataW H} {p : List MemPlace} (hv : Value.okWide Try.prog W .any base 22 v) (h : DataW.Trod enc Try.prog W 0 (fun _ => true) true 22 v d p) (hw : Wt Try.prog 22 d) :
    ∃ l : List Msg, SlMsg W v l ∧ (∀ a ∈ l, a.In) ∧ l.length * 72 ≤ 140737488351232 :=
  arg_slice Try.underlying22 (by kernel_rfl : Try.prog.cellsOf 25 = 6) (by omega) (by kernel_rfl : Try.prog.bytesOf 25 = 72) msgCells Msg.In rd_msg hv h hw
/-- All texts and numbers of such a struct are in range. -/
def Pair.In (a : Pair) : Prop := Sz a.key ∧ Sz a.val
abbrev pairCells (a : Pair) : List Value := [.string a.key, .string a.val]
theorem rd_pair {H : Type} {enc : TypeId × Value → H} {W : World} (n : Nat) (cs : List Value) (y : DataW H × List MemPlace) (h : DataW.trod enc Try.prog W 0 (fun _ => true) true n 73 cs = some y) (hw : Wt Try.prog 73 y.1) :
    ∃ a : Pair, cs = pairCells a ∧ a.In := by
  obtain ⟨hl, hf⟩ := rd_struct Try.underlying73 (by kernel_rfl) (by kernel_rfl) h hw
  obtain ⟨v0, y0, m0, hv0, ht0, hw0⟩ := hf 0 _ rfl
  obtain ⟨v1, y1, m1, hv1, ht1, hw1⟩ := hf 1 _ rfl
  obtain ⟨x0, e0, g0⟩ := rd_str Try.underlying9 ht0 hw0
  obtain ⟨x1, e1, g1⟩ := rd_str Try.underlying9 ht1 hw1
  match cs, hl with
  | [c0, c1], _ =>
    simp at hv0 e0
    simp at hv1 e1
    subst hv0 e0 hv1 e1
    exact ⟨⟨x0, x1⟩, rfl, g0, g1⟩
theorem arg_pair {H : Type} {enc : TypeId × Value → H} {W : World} {base : Nat} {v : Value} {d : DataW H} {p : List MemPlace} (hv : Value.okWide Try.prog W .any base 73 v) (h : DataW.Trod enc Try.prog W 0 (fun _ => true) true 73 v d p) (hw : Wt Try.prog 73 d) :
    ∃ a : Pair, v = .agg #[.string a.key, .string a.val] ∧ a.In := by
  obtain ⟨cs, rfl, hsz⟩ := okWide_struct Try.underlying73 hv
  obtain ⟨fuel, hf⟩ := h
  obtain ⟨a, ha, hin⟩ := rd_pair fuel cs.toList _ hf hw
  refine ⟨a, ?_, hin⟩
  obtain ⟨l⟩ := cs
  simp only at ha
  rw [ha]
abbrev SlPair (w : World) (v : Value) (l : List Pair) : Prop := Sl w 2 pairCells v l
theorem arg_pairs {H : Type} {enc : TypeId × Value → H} {W : World} {base : Nat} {v : Value} {d : DataW H} {p : List MemPlace} (hv : Value.okWide Try.prog W .any base 64 v) (h : DataW.Trod enc Try.prog W 0 (fun _ => true) true 64 v d p) (hw : Wt Try.prog 64 d) :
    ∃ l : List Pair, SlPair W v l ∧ (∀ a ∈ l, a.In) ∧ l.length * 32 ≤ 140737488351232 :=
  arg_slice Try.underlying64 (by kernel_rfl : Try.prog.cellsOf 73 = 2) (by omega) (by kernel_rfl : Try.prog.bytesOf 73 = 32) pairCells Pair.In rd_pair hv h hw
end Go.Proofs.Ytipbbbamjckjoaa
