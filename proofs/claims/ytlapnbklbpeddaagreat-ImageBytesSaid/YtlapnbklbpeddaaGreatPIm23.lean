/- Two lists of nodes that are the same; what any bytes are read as; the chapter's example. -/
import Derived.Test.YtlapnbklbpeddaaGreatPIm22
import Derived.Test.YtlapnbklbpeddaaGreatPSnA
namespace Go.Proofs.YtlapnbklbpeddaaGreat
open Go Go.RowKit
attribute [local irreducible] Calls
set_option linter.unusedVariables false
set_option maxRecDepth 20000
set_option linter.unusedSimpArgs false
set_option maxHeartbeats 4000000
theorem ref_AllS (v u : Value) (X l : List Nd) (w : World) (M : Mem) (hMw : M.le (Mem.of w)) (hX : SlM M 10 ndCells v X) (hl : SlM M 10 ndCells u l) (okX : ∀ a ∈ X, a.Ok M) (okl : ∀ a ∈ l, a.Ok M) (h : X.map strip = l.map strip) (hn : l.length ≤ 1000000000) :
    Calls Tryz.prog 13 #[v, u] w fun e w' => e = .returned (.bool true) ∧ Below w.heap.size w w' := by
  have hlen : X.length = l.length := by have := congrArg List.length h; simpa using this
  obtain ⟨A, ca, rfl, hc1, hc2, _⟩ := id hX
  obtain ⟨B, cb, rfl, hd1, hd2, _⟩ := id hl
  have hne : ((X.length : Int) != (l.length : Int)) = false := by rw [hlen]; simp
  refine V_flat (args := [.slice A X.length ca, .slice B l.length cb]) (M := M) Tryz.func13 rfl Tryz.ntmps13 (by rfl) (hMw) ?_
  repeat' (first | refine VC_seq ?_ | refine VC_region ?_ | refine VL_nil ?_ | refine VC_block ?_ | refine VC_skip ?_ | ((apply VL_q); (first | exact qmv (by rfl) | exact qas (by rfl) | exact qln (by rfl) | exact qcp (by rfl)); rfl) | refine cfa ?_)
  refine VC_for (fun k : Nat => ⟨M, [], [(0, .v (.slice A X.length ca)), (1, .v (.slice B l.length cb)), (5, .v (.int .i64 k))]⟩) (fun k => k ≤ X.length) (fun k => X.length - k) [] 0 ⟨rfl, rfl, trivial, ⟨rfl, rfl, rfl, trivial⟩⟩ (by omega) ?_
  intro k hk
  rcases Nat.lt_or_ge k X.length with hlt | hge
  · have hd := dlt hlt
    have hlt2 : k < l.length := by omega
    obtain ⟨b, off, rfl, hcA⟩ := hX.get hlt
    obtain ⟨b', off', rfl, hcB⟩ := hl.get hlt2
    have hs : strip X[k] = strip l[k] := by
      have h1 := congrArg (fun L : List Nd => L[k]?) h
      simpa [List.getElem?_map, List.getElem?_eq_getElem hlt, List.getElem?_eq_getElem hlt2] using h1
    have hS := sameN_strip hs
    have o1 := okX _ (List.getElem_mem hlt)
    have o2 := okl _ (List.getElem_mem hlt2)
    have cS := fun W (hW : M.le (Mem.of W)) => ref_SameN X[k] l[k] W (o1.mono hW) (o2.mono hW)
    rw [hS] at cS
    repeat' (first | refine VC_seq ?_ | refine VC_region ?_ | refine VL_nil ?_ | refine VC_block ?_ | refine VC_skip ?_ | ((first | apply VL_q | apply VG_q); (first | exact QS_indexAddr (k) (by rfl) (by rfl) (by omega) (by omega) | exact QS_mloadN _ (by rfl) hcA _ (by rfl) | exact QS_mloadN _ (by rfl) hcB _ (by rfl) | exact QS_call (by rfl) cS | exact qmv (by rfl) | exact qas (by rfl) | exact qno (by rfl) | exact qln (by rfl) | exact qcp (by rfl) | exact qad (by rfl)); rfl) | refine VG_nil ?_ | refine dQ ?_ | refine ctr ?_ | refine cfa ?_)
    exact forQ_next (Q := fun _ _ => True) [] (k + 1) ⟨rfl, rfl, trivial, ⟨rfl, rfl, rfl, trivial⟩⟩ (by omega) (by omega)
  · have hd := dge hge
    repeat' (first | refine VC_seq ?_ | refine VC_region ?_ | refine VL_nil ?_ | refine VC_ret ?_ | refine VC_exit ?_ | ((apply VL_q); (first | exact qmv (by rfl) | exact qas (by rfl) | exact qln (by rfl) | exact qcp (by rfl)); rfl) | refine cfa ?_)
    show Res _ _ _ _
    refine Res.one (by rfl) (ResV_tmp (by rfl) ?_)
    rfl
def s110 : ByteArray := imgB cf4 [leaf0 0]
theorem s110_size : s110.size = 110 := by
  unfold s110 imgB cfgB nodeB headB
  simp only [catB, size_app, numB_size, flgB_size, size_textR, nodeB, headB]
  rfl
theorem aw52a : okC cf4 = true := by decide
theorem aw52b : placedB [leaf0 0] = true := by decide
theorem aw52c : soundR cf4 [leaf0 0] = true := by rw [← sound_eq]; exact aw1
theorem aw52d : bytesV cf4 [leaf0 0] = (s110, 0) := bytes_ok aw52a aw52b aw52c
theorem image_awake (w : World) : Calls Tryz.prog 6 #[] w fun e w' => e = .returned (.bool true) ∧ Below w.heap.size w w' := by
  have hfit := sound_fit aw52a (leaf_nds Mem.no).inn aw52c
  obtain ⟨r1, r2, r3⟩ := rd_back aw52a aw52b aw52c hfit.1 hfit.2
  have hz := s110_size
  have hr1 : (rdC s110).1 = cf4 := by unfold s110; rw [r1]
  have hr2 : (rdL s110).1 = [leaf0 0].map strip := by unfold s110; rw [r2]
  have hr3 : Unit → rdB s110 = true := fun _ => r3
  clear r1 r2 r3
  have q1 : eqv cf4 cf4 = true := eqv_self _
  refine V_flat (args := []) (M := Mem.of w) Tryz.func6 rfl Tryz.ntmps6 (by rfl) (Mem.le_refl _) ?_
  repeat' (first | refine VC_seq ?_ | refine VC_region ?_ | refine VL_nil ?_ | refine kall ?_ | refine ksN ?_ | refine kl1 ?_ | ((apply VL_q); (first | exact qmv (by rfl) | exact qas (by rfl) | exact qlA (by rfl) | exact qbd (by rfl)); rfl))
  refine VL_frz 1 (by rfl) (fun u M1 hle1 hrow => ?_)
  have hS : SlM M1 10 ndCells u [leaf0 0] := RowM.slM (k := 10) (cells := ndCells) (l := [leaf0 0]) (fun _ _ => rfl) hrow
  have c1 := fun W (hW : M1.le (Mem.of W)) => image_Bytes cf4 u [leaf0 0] W M1 hW hS (leaf_nds M1)
  have c2 := fun W (hW : M1.le (Mem.of W)) => image_Size cf4 u [leaf0 0] W M1 hW hS (leaf_nds M1)
  have c3 : ∀ W, M1.le (Mem.of W) → Calls Tryz.prog 11 #[.string s110] W (RetM M1 W (ReadPost s110)) := fun W hW => image_Read s110 W M1 hW (by rw [hz]; omega) (by rw [hr2]; intro a ha; rw [List.mem_singleton.1 ha]; exact ⟨leaf0_big 0, (leaf_nds M1).inn _ (List.mem_singleton.2 rfl)⟩) (by rw [hr2]; decide)
  rw [aw52d] at c1 c2
  dsimp only at c1 c2
  rw [hz] at c2
  have q2 : ((s110.size : Int) == 110) = true := by rw [hz]; rfl
  generalize s110 = s at *
  repeat' (first | refine VC_seq ?_ | refine VC_region ?_ | refine VL_nil ?_ | ((apply VL_q); (first | exact QS_call (by rfl) c1 | exact qmv (by rfl) | exact qas (by rfl) | exact qex (by rfl)); rfl))
  refine VL_callM (by rfl) c3 (by rfl) (fun r M2 hle2 hpost => ?_)
  rcases hpost with ⟨-, X, v, rfl, hX, hXs, hXn⟩ | ⟨hb, -⟩
  · rw [hr2] at hXs
    have hXl : X.length = 1 := by have := congrArg List.length hXs; simpa using this
    obtain ⟨A, ca, rfl, _⟩ := id hX
    rw [hXl, hr1]
    have c2' := fun W (hW : M2.le (Mem.of W)) => c2 W (hle2.trans hW)
    repeat' (first | refine VC_seq ?_ | refine VC_region ?_ | refine VL_nil ?_ | refine VC_ret ?_ | refine kall ?_ | refine ksN ?_ | ((apply VL_q); (first | exact QS_call (by rfl) c2' | exact qmv (by rfl) | exact qas (by rfl) | exact qlA (by rfl) | exact qex (by rfl) | exact qln (by rfl) | exact qls (by rfl) | exact qpt (by rfl) | exact qcp (by rfl) | exact QS_bin (by rfl) (by rfl) (by exact Bq_eql_Cfg)); rfl) | refine kyes ?_)
    show Res _ _ _ _
    refine Res.one (by rfl) (ResV_tmp (by rfl) ?_)
    rfl
  · rw [hr3 ()] at hb; cases hb
end Go.Proofs.YtlapnbklbpeddaaGreat
