/- Nodes among the arguments, how light they are; the chapter's example. -/
import Derived.Test.YtlapnbklbpeddaaPSeB
import Derived.Test.YtlapnbklbpeddaaPNdArgs
namespace Go.Proofs.Ytlapnbklbpeddaa
section
open Go.ChangeShapes Go.WideShapes Go.ChangeAt Go.RowKit Go.Deep
set_option linter.unusedVariables false
set_option maxRecDepth 20000
theorem arg_nodes {H : Type} {enc : TypeId × Value → H} {W : World} {base : Nat} {v : Value} {d : DataW H} {p : List MemPlace} (hv : Value.okWide Try.prog W .any base 24 v) (h : DataW.Trod enc Try.prog W 0 (fun _ => true) true 24 v d p) (hw : Wt Try.prog 24 d) :
    ∃ l : List Nd, Sl W 10 ndCells v l ∧ (∀ a ∈ l, a.Ok (Mem.of W) ∧ a.In) ∧ l.length * 152 ≤ 140737488351232 :=
  arg_slice Try.underlying24 (by kernel_rfl : Try.prog.cellsOf 35 = 10) (by omega) (by kernel_rfl : Try.prog.bytesOf 35 = 152) ndCells (fun a => a.Ok (Mem.of W) ∧ a.In) rd_node hv h hw
end
open Go Go.RowKit
attribute [local irreducible] Calls
set_option linter.unusedVariables false
set_option linter.unusedSimpArgs false
set_option maxHeartbeats 4000000
theorem light_bigM {n : Nd} {most : Int} (hi : n.In) (hm : most ≤ 1000000) (h : lightN most n = true) : n.Big := by
  unfold lightN at h
  simp only [Bool.and_eq_true, Bool.not_eq_true', decide_eq_true_eq, decide_eq_false_iff_not] at h
  obtain ⟨⟨⟨⟨h1, h2⟩, h3⟩, h4⟩, h5⟩ := h
  have b1 := longP_bounds h1
  have b2 := lng_tot most n.ps 0 (by omega)
  have b4 := few_bounds h4
  exact ⟨by omega, fun s hs => by have := tot_mem hs; omega, by omega, by omega, fun m hm => by have := b4.2 m hm; omega, by omega, fun p hp => by have := b1.2 p hp; omega, by omega, hi.ms⟩
theorem ref_LightN (v : Value) (l : List Nd) (n most : Int) (w : World) (M : Mem) (hMw : M.le (Mem.of w)) (hl : SlM M 10 ndCells v l) (hok : ∀ a ∈ l, a.Ok M) (hin : ∀ a ∈ l, a.In) (h0 : 0 ≤ most) (h1 : most ≤ 100000) (hn : n ≤ 1000000000) :
    Calls Try.prog 5 #[v, .int .i64 n, .int .i64 most] w fun e w' => e = .returned (.bool (lightL n most l)) ∧ Below w.heap.size w w' := by
  by_cases hq : n < (l.length : Int)
  · obtain ⟨A, c, rfl, hc1, hc2, _⟩ := id hl
    have hd : decide (n < (l.length : Int)) = true := decide_eq_true hq
    unfold lightL
    rw [hd]
    refine V_flat (args := [.slice A l.length c, .int .i64 n, .int .i64 most]) (M := M) Try.func5 rfl Try.ntmps5 (by rfl) (hMw) ?_
    repeat' (first | refine VC_seq ?_ | refine VC_region ?_ | refine VL_nil ?_ | refine VC_ret ?_ | ((apply VL_q); (first | exact qmv (by rfl) | exact qas (by rfl) | exact qln (by rfl) | exact qcp (by rfl)); rfl) | refine ctr ?_)
    show Res _ _ _ _
    refine Res.one (by rfl) (ResV_tmp (by rfl) ?_)
    rfl
  · exact ref_Light v l n most w M hMw hl hok hin h0 h1 (by omega)
theorem light_nds {M : Mem} {l : List Nd} {n most : Int} (hok : ∀ a ∈ l, a.Ok M) (hin : ∀ a ∈ l, a.In) (hn : n ≤ 100000) (hm : most ≤ 1000000) (h : lightL n most l = true) : NdsOk M l := by
  unfold lightL at h
  simp only [Bool.and_eq_true, Bool.not_eq_true', decide_eq_false_iff_not] at h
  exact ⟨hok, fun a ha => light_bigM (hin a ha) hm (List.all_eq_true.1 h.2 a ha), hin, by omega⟩
def cf4 : Cfg := ⟨4, 2, 36, 1, 0⟩
theorem leaf_nds (M : Mem) : NdsOk M [leaf0 0] := ⟨fun a ha => by rw [List.mem_singleton.1 ha]; exact leaf0_ok M 0, fun a ha => by rw [List.mem_singleton.1 ha]; exact leaf0_big 0, fun a ha => by
  rw [List.mem_singleton.1 ha]
  exact ⟨by unfold I64; decide, by unfold I64; decide, by unfold I64; decide, by unfold I64; decide, by show em.size ≤ _; decide, fun s hs => (by cases hs), fun s hs => (by cases hs), fun s hs => (by cases hs), fun s hs => (by cases hs)⟩, by decide⟩
theorem nil_nds (M : Mem) : NdsOk M [] := ⟨fun a ha => (by cases ha), fun a ha => (by cases ha), fun a ha => (by cases ha), by decide⟩
theorem aw1 : soundC cf4 [leaf0 0] = true := by decide +kernel
theorem aw2 : linkC [leaf0 0] = true := by decide +kernel
theorem aw3 : ordC [leaf0 0] = true := by decide +kernel
theorem aw4 : soundC cf4 [] = false := by decide +kernel
theorem sound_awake (w : World) : Calls Try.prog 6 #[] w fun e w' => e = .returned (.bool true) ∧ Below w.heap.size w w' := by
  refine V_flat (args := []) (M := Mem.of w) Try.func6 rfl Try.ntmps6 (by rfl) (Mem.le_refl _) ?_
  repeat' (first | refine VC_seq ?_ | refine VC_region ?_ | refine VL_nil ?_ | refine kall ?_ | refine ksN ?_ | refine kl1 ?_ | ((apply VL_q); (first | exact qmv (by rfl) | exact qas (by rfl) | exact qlA (by rfl) | exact qbd (by rfl)); rfl))
  refine VL_frz 0 (by rfl) (fun u M1 hle1 hrow => ?_)
  have hS : SlM M1 10 ndCells u [leaf0 0] := RowM.slM (k := 10) (cells := ndCells) (l := [leaf0 0]) (fun _ _ => rfl) hrow
  have c1 := fun W (hW : M1.le (Mem.of W)) => sound_Check cf4 u [leaf0 0] W M1 hW hS (leaf_nds M1)
  have c2 := fun W (hW : M1.le (Mem.of W)) => sound_Linked u [leaf0 0] W M1 hW hS (leaf_nds M1)
  have c3 := fun W (hW : M1.le (Mem.of W)) => sound_Ordered u [leaf0 0] W M1 hW hS (leaf_nds M1)
  have c4 := fun W (hW : M1.le (Mem.of W)) => sound_Check cf4 (.slice none 0 0) [] W M1 hW (SlM.nil _ _ _) (nil_nds M1)
  rw [aw1] at c1
  rw [aw2] at c2
  rw [aw3] at c3
  rw [aw4] at c4
  repeat' (first | refine VL_nil ?_ | refine VC_ret ?_ | ((apply VL_q); (first | exact QS_call (by rfl) c1 | exact QS_call (by rfl) c2 | exact QS_call (by rfl) c3 | exact QS_call (by rfl) c4 | exact qmv (by rfl) | exact qas (by rfl) | exact qlA (by rfl) | exact qno (by rfl) | exact qpt (by rfl)); rfl) | refine kyes ?_)
  show Res _ _ _ _
  refine Res.one (by rfl) (ResV_tmp (by rfl) ?_)
  rfl
end Go.Proofs.Ytlapnbklbpeddaa
