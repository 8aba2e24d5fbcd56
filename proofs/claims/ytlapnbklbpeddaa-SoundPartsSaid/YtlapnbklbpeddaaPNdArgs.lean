/- Nodes and configurations among the arguments. -/
import Derived.Test.YtlapnbklbpeddaaPNd6
namespace Go.Proofs.Ytlapnbklbpeddaa
open Go.ChangeShapes Go.WideShapes Go.ChangeAt Go.RowKit Go.Deep
set_option linter.unusedVariables false
set_option maxRecDepth 20000
set_option linter.unusedSimpArgs false
theorem rd_ints {H : Type} {enc : TypeId × Value → H} {W : World} (n : Nat) (cs : List Value) (y : DataW H × List MemPlace) (h : DataW.trod enc Try.prog W 0 (fun _ => true) true n 3 cs = some y) (hw : Wt Try.prog 3 y.1) :
    ∃ a : Int, cs = intCells a ∧ I64 a := rd_int Try.underlying3 h
theorem rd_node {H : Type} {enc : TypeId × Value → H} {W : World} (n : Nat) (cs : List Value) (y : DataW H × List MemPlace) (h : DataW.trod enc Try.prog W 0 (fun _ => true) true n 35 cs = some y) (hw : Wt Try.prog 35 y.1) :
    ∃ a : Nd, cs = ndCells a ∧ a.Ok (Mem.of W) ∧ a.In := by
  obtain ⟨hl, hf⟩ := rd_struct Try.underlying35 (by kernel_rfl) (by kernel_rfl) h hw
  obtain ⟨v0, y0, m0, hv0, ht0, hw0⟩ := hf 0 _ rfl
  obtain ⟨v1, y1, m1, hv1, ht1, hw1⟩ := hf 1 _ rfl
  obtain ⟨v2, y2, m2, hv2, ht2, hw2⟩ := hf 2 _ rfl
  obtain ⟨v3, y3, m3, hv3, ht3, hw3⟩ := hf 3 _ rfl
  obtain ⟨v4, y4, m4, hv4, ht4, hw4⟩ := hf 4 _ rfl
  obtain ⟨v5, y5, m5, hv5, ht5, hw5⟩ := hf 5 _ rfl
  obtain ⟨v6, y6, m6, hv6, ht6, hw6⟩ := hf 6 _ rfl
  obtain ⟨v7, y7, m7, hv7, ht7, hw7⟩ := hf 7 _ rfl
  obtain ⟨v8, y8, m8, hv8, ht8, hw8⟩ := hf 8 _ rfl
  obtain ⟨v9, y9, m9, hv9, ht9, hw9⟩ := hf 9 _ rfl
  obtain ⟨x0, e0, g0⟩ := rd_int Try.underlying3 ht0
  obtain ⟨x1, e1, g1⟩ := rd_int Try.underlying3 ht1
  obtain ⟨x2, u2, e2, s2, g2, _⟩ := rd_slice Try.underlying30 (by kernel_rfl : Try.prog.cellsOf 9 = 1) (by omega) (by kernel_rfl : Try.prog.bytesOf 9 = 16) strCells Sz rd_strs ht2 hw2
  obtain ⟨x3, u3, e3, s3, g3, _⟩ := rd_slice Try.underlying31 (by kernel_rfl : Try.prog.cellsOf 3 = 1) (by omega) (by kernel_rfl : Try.prog.bytesOf 3 = 8) intCells I64 rd_ints ht3 hw3
  obtain ⟨x4, e4, g4⟩ := rd_str Try.underlying9 ht4 hw4
  obtain ⟨x5, e5⟩ := rd_bool Try.underlying4 ht5
  obtain ⟨x6, e6, g6⟩ := rd_int Try.underlying3 ht6
  obtain ⟨x7, e7, g7⟩ := rd_int Try.underlying3 ht7
  obtain ⟨x8, u8, e8, s8, g8, _⟩ := rd_slice Try.underlying32 (by kernel_rfl : Try.prog.cellsOf 44 = 6) (by omega) (by kernel_rfl : Try.prog.bytesOf 44 = 72) msgCells Msg.In rd_msg ht8 hw8
  obtain ⟨x9, u9, e9, s9, g9, _⟩ := rd_slice Try.underlying33 (by kernel_rfl : Try.prog.cellsOf 75 = 2) (by omega) (by kernel_rfl : Try.prog.bytesOf 75 = 32) pairCells Pair.In rd_pair ht9 hw9
  match cs, hl with
  | [c0, c1, c2, c3, c4, c5, c6, c7, c8, c9], _ =>
    simp at hv0 e0
    simp at hv1 e1
    simp at hv2 e2
    simp at hv3 e3
    simp at hv4 e4
    simp at hv5 e5
    simp at hv6 e6
    simp at hv7 e7
    simp at hv8 e8
    simp at hv9 e9
    subst hv0 e0 hv1 e1 hv2 e2 hv3 e3 hv4 e4 hv5 e5 hv6 e6 hv7 e7 hv8 e8 hv9 e9
    exact ⟨⟨x0, x1, _, x2, _, x3, x4, x5, x6, x7, _, x8, _, x9⟩, rfl, ⟨s2.toM, s3.toM, s8.toM, s9.toM⟩, ⟨g0, g1, g6, g7, g4, g2, g3, g8, g9⟩⟩
end Go.Proofs.Ytlapnbklbpeddaa
