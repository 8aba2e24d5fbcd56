/- Entries among the arguments. -/
import Derived.Test.YtdgcdfngpimmmaaPSc7
namespace Go.Proofs.Ytdgcdfngpimmmaa
open Go.ChangeShapes Go.WideShapes Go.ChangeAt Go.RowKit Go.Deep
set_option linter.unusedVariables false
set_option maxRecDepth 20000
set_option linter.unusedSimpArgs false
theorem rd_intsE {H : Type} {enc : TypeId × Value → H} {W : World} (n : Nat) (cs : List Value) (y : DataW H × List MemPlace) (h : DataW.trod enc Try.prog W 0 (fun _ => true) true n 3 cs = some y) (hw : Wt Try.prog 3 y.1) :
    ∃ a : Int, cs = intC a ∧ I64 a := rd_int Try.underlying3 h
/-- The fields of a struct, of any size. -/
theorem rd_structN {H : Type} {enc : TypeId × Value → H} {P : Program} {w : World} {t : TypeId} {fs : Array Field} {fuel : Nat} {cs : List Value} {x : DataW H × List MemPlace} (ht : P.underlying t = some (.struct fs))
    (h : DataW.trod enc P w 0 (fun _ => true) true fuel t cs = some x) (hw : Wt P t x.1) :
    cs.length = P.cellsOf t ∧ ∀ (j : Nat) (f : Field), fs[j]? = some f → ∃ (y : DataW H × List MemPlace) (n : Nat), DataW.trod enc P w 0 (fun _ => true) true n f.type ((cs.drop f.offset).take (P.cellsOf f.type)) = some y ∧ Wt P f.type y.1 := by
  obtain ⟨xs, n, rfl, rfl, hl, hxl, hf⟩ := DataW.trod_struct ht h
  refine ⟨hl, fun j f hj => ?_⟩
  have hjl : j < fs.size := (Array.getElem?_eq_some_iff.1 hj).1
  have h1 := hf j f hj
  have hxj : xs[j]? = some (xs[j]'(by omega)) := List.getElem?_eq_getElem (by omega)
  rw [hxj] at h1
  refine ⟨_, n, h1, fun m hm => hw m ?_⟩
  simp only [DataW.weights, ht]
  refine DataW.weights_mem_each (j := j) ?_ ?_ m hm
  · rw [List.getElem?_map, Array.getElem?_toList, hj]; rfl
  · rw [List.getElem?_map, hxj]; rfl
theorem rd_entry {H : Type} {enc : TypeId × Value → H} {W : World} (n : Nat) (cs : List Value) (y : DataW H × List MemPlace) (h : DataW.trod enc Try.prog W 0 (fun _ => true) true n 33 cs = some y) (hw : Wt Try.prog 33 y.1) :
    ∃ a : Ent, cs = enCells a ∧ a.Ok (Mem.of W) := by
  obtain ⟨hl, hf⟩ := rd_structN Try.underlying33 h hw
  have hc1 : Try.prog.cellsOf 3 = 1 := by kernel_rfl
  have hc2 : Try.prog.cellsOf 30 = 6 := by kernel_rfl
  have hc3 : Try.prog.cellsOf 31 = 1 := by kernel_rfl
  have hc4 : Try.prog.cellsOf 33 = 9 := by kernel_rfl
  rw [hc4] at hl
  obtain ⟨y0, m0, ht0, hw0⟩ := hf 0 _ rfl
  obtain ⟨y1, m1, ht1, hw1⟩ := hf 1 _ rfl
  obtain ⟨y2, m2, ht2, hw2⟩ := hf 2 _ rfl
  obtain ⟨y3, m3, ht3, hw3⟩ := hf 3 _ rfl
  clear hf
  have ht0 : DataW.trod enc Try.prog W 0 (fun _ => true) true m0 3 ((cs.drop 0).take (Try.prog.cellsOf 3)) = some y0 := ht0
  have ht1 : DataW.trod enc Try.prog W 0 (fun _ => true) true m1 3 ((cs.drop 1).take (Try.prog.cellsOf 3)) = some y1 := ht1
  have ht2 : DataW.trod enc Try.prog W 0 (fun _ => true) true m2 30 ((cs.drop 2).take (Try.prog.cellsOf 30)) = some y2 := ht2
  have ht3 : DataW.trod enc Try.prog W 0 (fun _ => true) true m3 31 ((cs.drop 8).take (Try.prog.cellsOf 31)) = some y3 := ht3
  rw [hc1] at ht0 ht1
  rw [hc2] at ht2
  rw [hc3] at ht3
  obtain ⟨x0, e0, g0⟩ := rd_int Try.underlying3 ht0
  obtain ⟨x1, e1, g1⟩ := rd_int Try.underlying3 ht1
  obtain ⟨x2, e2, g2⟩ := rd_op _ _ _ ht2 hw2
  obtain ⟨x3, u3, e3, s3, g3, _⟩ := rd_slice Try.underlying31 (by kernel_rfl : Try.prog.cellsOf 3 = 1) (by omega) (by kernel_rfl : Try.prog.bytesOf 3 = 8) intC I64 rd_intsE ht3 hw3
  obtain ⟨k2, q2, r2, b2, t2, l2⟩ := x2
  clear ht0 ht1 ht2 ht3 hw0 hw1 hw2 hw3 h hw
  match cs, hl with
  | [c0, c1, c2, c3, c4, c5, c6, c7, c8], _ =>
    simp at e0 e1 e3
    simp [opCells] at e2
    obtain ⟨rfl, rfl, rfl, rfl, rfl, rfl⟩ := e2
    subst e0 e1 e3
    exact ⟨⟨x0, x1, ⟨k2, q2, r2, b2, t2, l2⟩, _, x3⟩, rfl, s3.toM⟩
theorem arg_entries {H : Type} {enc : TypeId × Value → H} {W : World} {base : Nat} {v : Value} {d : DataW H} {p : List MemPlace} (hv : Value.okWide Try.prog W .any base 26 v) (h : DataW.Trod enc Try.prog W 0 (fun _ => true) true 26 v d p) (hw : Wt Try.prog 26 d) :
    ∃ l : List Ent, Sl W 9 enCells v l ∧ (∀ a ∈ l, a.Ok (Mem.of W)) := by
  obtain ⟨l, h1, h2, _⟩ := arg_slice Try.underlying26 (by kernel_rfl : Try.prog.cellsOf 33 = 9) (by omega) rfl enCells (fun a => a.Ok (Mem.of W)) rd_entry hv h hw
  exact ⟨l, h1, h2⟩
end Go.Proofs.Ytdgcdfngpimmmaa
