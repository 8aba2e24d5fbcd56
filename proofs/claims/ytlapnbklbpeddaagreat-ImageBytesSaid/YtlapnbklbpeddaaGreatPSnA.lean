import Derived.Test.YtlapnbklbpeddaaGreatPNd6
import Derived.Test.YtlapnbklbpeddaaGreatPSeB
/- Nodes and configurations among the arguments. -/
namespace Go.Proofs.YtlapnbklbpeddaaGreat
open Go.ChangeShapes Go.WideShapes Go.ChangeAt Go.RowKit Go.Deep
set_option linter.unusedVariables false
set_option maxRecDepth 20000
set_option linter.unusedSimpArgs false
theorem rd_ints {H : Type} {enc : TypeId × Value → H} {W : World} (n : Nat) (cs : List Value) (y : DataW H × List MemPlace) (h : DataW.trod enc Tryz.prog W 0 (fun _ => true) true n 3 cs = some y) (hw : Wt Tryz.prog 3 y.1) :
    ∃ a : Int, cs = intCells a ∧ I64 a := rd_int Tryz.underlying3 h
theorem rd_node {H : Type} {enc : TypeId × Value → H} {W : World} (n : Nat) (cs : List Value) (y : DataW H × List MemPlace) (h : DataW.trod enc Tryz.prog W 0 (fun _ => true) true n 35 cs = some y) (hw : Wt Tryz.prog 35 y.1) :
    ∃ a : Nd, cs = ndCells a ∧ a.Ok (Mem.of W) ∧ a.In := by
  obtain ⟨hl, hf⟩ := rd_struct Tryz.underlying35 (by kernel_rfl) (by kernel_rfl) h hw
  obtain ⟨v0, y0, m0, hv0, ht0, hw0⟩ := hf 0 _ rfl
  obtain ⟨v1, y1, m1, hv1, ht1, hw1⟩ := hf 1 _ rfl
  obtain ⟨v2, y2, m2, hv2, ht2, hw2⟩ := hf 2 _ rfl
  obtain ⟨v3, y3, m3, hv3, ht3, hw3⟩ := hf 3 _ rfl
  obtain ⟨v4, y4, m4, hv4, ht4, hw4⟩ := hf 4 _ rfl
  obtain ⟨v5, y5, m5, hv5, ht5, hw5⟩ := hf 5 _ rfl
  obtain ⟨v6, y6, m6, hv6, ht6, hw6⟩ := hf 6 _ rfl
  obtain ⟨v7, y7, m7, hv7, ht7, hw7⟩ := hf 7 _ rfl
  obtain ⟨v8, y8, m8, hv8, ht8, hw8⟩ := hf 8 _ rfl
  obtain ⟨v9, y9, m9, hv9, ht9, hw9⟩ := hf 9 _ rfl
  obtain ⟨x0, e0, g0⟩ := rd_int Tryz.underlying3 ht0
  obtain ⟨x1, e1, g1⟩ := rd_int Tryz.underlying3 ht1
  obtain ⟨x2, u2, e2, s2, g2, _⟩ := rd_slice Tryz.underlying30 (by kernel_rfl : Tryz.prog.cellsOf 9 = 1) (by omega) (by kernel_rfl : Tryz.prog.bytesOf 9 = 16) strCells Sz rd_strs ht2 hw2
  obtain ⟨x3, u3, e3, s3, g3, _⟩ := rd_slice Tryz.underlying31 (by kernel_rfl : Tryz.prog.cellsOf 3 = 1) (by omega) (by kernel_rfl : Tryz.prog.bytesOf 3 = 8) intCells I64 rd_ints ht3 hw3
  obtain ⟨x4, e4, g4⟩ := rd_str Tryz.underlying9 ht4 hw4
  obtain ⟨x5, e5⟩ := rd_bool Tryz.underlying4 ht5
  obtain ⟨x6, e6, g6⟩ := rd_int Tryz.underlying3 ht6
  obtain ⟨x7, e7, g7⟩ := rd_int Tryz.underlying3 ht7
  obtain ⟨x8, u8, e8, s8, g8, _⟩ := rd_slice Tryz.underlying32 (by kernel_rfl : Tryz.prog.cellsOf 73 = 6) (by omega) (by kernel_rfl : Tryz.prog.bytesOf 73 = 72) msgCells Msg.In rd_msg ht8 hw8
  obtain ⟨x9, u9, e9, s9, g9, _⟩ := rd_slice Tryz.underlying33 (by kernel_rfl : Tryz.prog.cellsOf 85 = 2) (by omega) (by kernel_rfl : Tryz.prog.bytesOf 85 = 32) pairCells Pair.In rd_pair ht9 hw9
  match cs, hl with
  | [c0, c1, c2, c3, c4, c5, c6, c7, c8, c9], _ =>
    simp at hv0 e0
    simp at hv1 e1
    simp at hv2 e2
    simp at hv3 e3
    simp at hv4 e4
    simp at hv5 e5
    simp at hv6 e6
    simp at hv7 e7
    simp at hv8 e8
    simp at hv9 e9
    subst hv0 e0 hv1 e1 hv2 e2 hv3 e3 hv4 e4 hv5 e5 hv6 e6 hv7 e7 hv8 e8 hv9 e9
    exact ⟨⟨x0, x1, _, x2, _, x3, x4, x5, x6, x7, _, x8, _, x9⟩, rfl, ⟨s2.toM, s3.toM, s8.toM, s9.toM⟩, ⟨g0, g1, g6, g7, g4, g2, g3, g8, g9⟩⟩
end Go.Proofs.YtlapnbklbpeddaaGreat
/- Nodes among the arguments, how light they are; the chapter's example. -/
namespace Go.Proofs.YtlapnbklbpeddaaGreat
section
open Go.ChangeShapes Go.WideShapes Go.ChangeAt Go.RowKit Go.Deep
set_option linter.unusedVariables false
set_option maxRecDepth 20000
theorem arg_nodes {H : Type} {enc : TypeId × Value → H} {W : World} {base : Nat} {v : Value} {d : DataW H} {p : List MemPlace} (hv : Value.okWide Tryz.prog W .any base 24 v) (h : DataW.Trod enc Tryz.prog W 0 (fun _ => true) true 24 v d p) (hw : Wt Tryz.prog 24 d) :
    ∃ l : List Nd, Sl W 10 ndCells v l ∧ (∀ a ∈ l, a.Ok (Mem.of W) ∧ a.In) ∧ l.length * 152 ≤ 140737488351232 :=
  arg_slice Tryz.underlying24 (by kernel_rfl : Tryz.prog.cellsOf 35 = 10) (by omega) (by kernel_rfl : Tryz.prog.bytesOf 35 = 152) ndCells (fun a => a.Ok (Mem.of W) ∧ a.In) rd_node hv h hw
end
open Go Go.RowKit
attribute [local irreducible] Calls
set_option linter.unusedVariables false
set_option linter.unusedSimpArgs false
set_option maxHeartbeats 4000000
theorem light_bigM {n : Nd} {most : Int} (hi : n.In) (hm : most ≤ 1000000) (h : lightN most n = true) : n.Big := by
  unfold lightN at h
  simp only [Bool.and_eq_true, Bool.not_eq_true', decide_eq_true_eq, decide_eq_false_iff_not] at h
  obtain ⟨⟨⟨⟨h1, h2⟩, h3⟩, h4⟩, h5⟩ := h
  have b1 := longP_bounds h1
  have b2 := lng_tot most n.ps 0 (by omega)
  have b4 := few_bounds h4
  exact ⟨by omega, fun s hs => by have := tot_mem hs; omega, by omega, by omega, fun m hm => by have := b4.2 m hm; omega, by omega, fun p hp => by have := b1.2 p hp; omega, by omega, hi.ms⟩
theorem ref_LightN (v : Value) (l : List Nd) (n most : Int) (w : World) (M : Mem) (hMw : M.le (Mem.of w)) (hl : SlM M 10 ndCells v l) (hok : ∀ a ∈ l, a.Ok M) (hin : ∀ a ∈ l, a.In) (h0 : 0 ≤ most) (h1 : most ≤ 100000) (hn : n ≤ 1000000000) :
    Calls Tryz.prog 5 #[v, .int .i64 n, .int .i64 most] w fun e w' => e = .returned (.bool (lightL n most l)) ∧ Below w.heap.size w w' := by
  by_cases hq : n < (l.length : Int)
  · obtain ⟨A, c, rfl, hc1, hc2, _⟩ := id hl
    have hd : decide (n < (l.length : Int)) = true := decide_eq_true hq
    unfold lightL
    rw [hd]
    refine V_flat (args := [.slice A l.length c, .int .i64 n, .int .i64 most]) (M := M) Tryz.func5 rfl Tryz.ntmps5 (by rfl) (hMw) ?_
    repeat' (first | refine VC_seq ?_ | refine VC_region ?_ | refine VL_nil ?_ | refine VC_ret ?_ | ((apply VL_q); (first | exact qmv (by rfl) | exact qas (by rfl) | exact qln (by rfl) | exact qcp (by rfl)); rfl) | refine ctr ?_)
    show Res _ _ _ _
    refine Res.one (by rfl) (ResV_tmp (by rfl) ?_)
    rfl
  · exact ref_Light v l n most w M hMw hl hok hin h0 h1 (by omega)
theorem light_nds {M : Mem} {l : List Nd} {n most : Int} (hok : ∀ a ∈ l, a.Ok M) (hin : ∀ a ∈ l, a.In) (hn : n ≤ 100000) (hm : most ≤ 1000000) (h : lightL n most l = true) : NdsOk M l := by
  unfold lightL at h
  simp only [Bool.and_eq_true, Bool.not_eq_true', decide_eq_false_iff_not] at h
  exact ⟨hok, fun a ha => light_bigM (hin a ha) hm (List.all_eq_true.1 h.2 a ha), hin, by omega⟩
def cf4 : Cfg := ⟨4, 2, 36, 1, 0⟩
theorem leaf_nds (M : Mem) : NdsOk M [leaf0 0] := ⟨fun a ha => by rw [List.mem_singleton.1 ha]; exact leaf0_ok M 0, fun a ha => by rw [List.mem_singleton.1 ha]; exact leaf0_big 0, fun a ha => by
  rw [List.mem_singleton.1 ha]
  exact ⟨by unfold I64; decide, by unfold I64; decide, by unfold I64; decide, by unfold I64; decide, by show em.size ≤ _; decide, fun s hs => (by cases hs), fun s hs => (by cases hs), fun s hs => (by cases hs), fun s hs => (by cases hs)⟩, by decide⟩
theorem aw1 : soundC cf4 [leaf0 0] = true := by decide +kernel
end Go.Proofs.YtlapnbklbpeddaaGreat
