import Derived.Test.YtlapnbklbpeddaaGreatPNd6
import Derived.Test.YtlapnbklbpeddaaGreatPSeB
import Derived.Test.YtlapnbklbpeddaaGreatPIm22
/- Nodes and configurations among the arguments. -/
namespace Go.Proofs.YtlapnbklbpeddaaGreat
open Go.ChangeShapes Go.WideShapes Go.ChangeAt Go.RowKit Go.Deep
set_option linter.unusedVariables false
set_option maxRecDepth 20000
set_option linter.unusedSimpArgs false
end Go.Proofs.YtlapnbklbpeddaaGreat
/- Nodes among the arguments, how light they are; the chapter's example. -/
namespace Go.Proofs.YtlapnbklbpeddaaGreat
section
open Go.ChangeShapes Go.WideShapes Go.ChangeAt Go.RowKit Go.Deep
set_option linter.unusedVariables false
set_option maxRecDepth 20000
end
open Go Go.RowKit
attribute [local irreducible] Calls
set_option linter.unusedVariables false
set_option linter.unusedSimpArgs false
set_option maxHeartbeats 4000000
def cf4 : Cfg := ⟨4, 2, 36, 1, 0⟩
theorem leaf_nds (M : Mem) : NdsOk M [leaf0 0] := ⟨fun a ha => by rw [List.mem_singleton.1 ha]; exact leaf0_ok M 0, fun a ha => by rw [List.mem_singleton.1 ha]; exact leaf0_big 0, fun a ha => by
  rw [List.mem_singleton.1 ha]
  exact ⟨by unfold I64; decide, by unfold I64; decide, by unfold I64; decide, by unfold I64; decide, by show em.size ≤ _; decide, fun s hs => (by cases hs), fun s hs => (by cases hs), fun s hs => (by cases hs), fun s hs => (by cases hs)⟩, by decide⟩
theorem aw1 : soundC cf4 [leaf0 0] = true := by decide +kernel
end Go.Proofs.YtlapnbklbpeddaaGreat
/- Two lists of nodes that are the same; what any bytes are read as; the chapter's example. -/
namespace Go.Proofs.YtlapnbklbpeddaaGreat
open Go Go.RowKit
attribute [local irreducible] Calls
set_option linter.unusedVariables false
set_option maxRecDepth 20000
set_option linter.unusedSimpArgs false
set_option maxHeartbeats 4000000
theorem eL_fit : ∀ (r i : Nat) (e : Ey), e.1.size ≤ 1000000 → i + r ≤ 1000000000 → (∀ a ∈ (eL r i e).1, a.Big ∧ a.In) ∧ (eL r i e).1.length ≤ r
  | 0, _, _, _, _ => ⟨fun a ha => (by cases ha), Nat.le_refl _⟩
  | r + 1, i, e, he, hi => by
    rw [eL]
    by_cases hk : e.2 = true
    · rw [if_pos hk]
      have h1 := eA_fit i e nil0 nil0 nil0 nil0 ⟨by omega, by omega⟩ he
      have h2 := eL_fit r (i + 1) (eA i e nil0 nil0 nil0 nil0).2 (Nat.le_trans (eA_sz _ _ _ _ _ _) he) (by omega)
      refine ⟨fun a ha => ?_, ?_⟩
      · rcases List.mem_cons.1 ha with rfl | h
        · exact h1
        · exact h2.1 a h
      · show (eL r (i + 1) _).1.length + 1 ≤ r + 1
        omega
    · rw [if_neg hk]
      exact ⟨fun a ha => (by cases ha), Nat.zero_le _⟩
theorem rdL_fit (s : ByteArray) (hs : s.size ≤ 100000) : (∀ a ∈ (rdL s).1, a.Big ∧ a.In) ∧ (rdL s).1.length ≤ 100000 := by
  have h1 := rdN_sz s
  have h2 := eL_fit (rdN s).1 0 (rdN s).2 (by omega) (by omega)
  have h3 : rdL s = eL (rdN s).1 0 (rdN s).2 := rfl
  rw [← h3] at h2
  exact ⟨h2.1, by omega⟩
def s110 : ByteArray := imgB cf4 [leaf0 0]
theorem s110_size : s110.size = 110 := by
  unfold s110 imgB cfgB nodeB headB
  simp only [catB, size_app, numB_size, flgB_size, size_textR, nodeB, headB]
  rfl
theorem aw52a : okC cf4 = true := by decide
theorem aw52b : placedB [leaf0 0] = true := by decide
theorem aw52c : soundR cf4 [leaf0 0] = true := by rw [← sound_eq]; exact aw1
theorem aw52d : bytesV cf4 [leaf0 0] = (s110, 0) := bytes_ok aw52a aw52b aw52c
theorem image_awake (w : World) : Calls Tryz.prog 6 #[] w fun e w' => e = .returned (.bool true) ∧ Below w.heap.size w w' := by
  have hfit := sound_fit aw52a (leaf_nds Mem.no).inn aw52c
  obtain ⟨r1, r2, r3⟩ := rd_back aw52a aw52b aw52c hfit.1 hfit.2
  have hz := s110_size
  have hr1 : (rdC s110).1 = cf4 := by unfold s110; rw [r1]
  have hr2 : (rdL s110).1 = [leaf0 0].map strip := by unfold s110; rw [r2]
  have hr3 : Unit → rdB s110 = true := fun _ => r3
  clear r1 r2 r3
  have q1 : eqv cf4 cf4 = true := eqv_self _
  refine V_flat (args := []) (M := Mem.of w) Tryz.func6 rfl Tryz.ntmps6 (by rfl) (Mem.le_refl _) ?_
  repeat' (first | refine VC_seq ?_ | refine VC_region ?_ | refine VL_nil ?_ | refine kall ?_ | refine ksN ?_ | refine kl1 ?_ | ((apply VL_q); (first | exact qmv (by rfl) | exact qas (by rfl) | exact qlA (by rfl) | exact qbd (by rfl)); rfl))
  refine VL_frz 1 (by rfl) (fun u M1 hle1 hrow => ?_)
  have hS : SlM M1 10 ndCells u [leaf0 0] := RowM.slM (k := 10) (cells := ndCells) (l := [leaf0 0]) (fun _ _ => rfl) hrow
  have c1 := fun W (hW : M1.le (Mem.of W)) => image_Bytes cf4 u [leaf0 0] W M1 hW hS (leaf_nds M1)
  have c2 := fun W (hW : M1.le (Mem.of W)) => image_Size cf4 u [leaf0 0] W M1 hW hS (leaf_nds M1)
  have c3 : ∀ W, M1.le (Mem.of W) → Calls Tryz.prog 11 #[.string s110] W (RetM M1 W (ReadPost s110)) := fun W hW => image_Read s110 W M1 hW (by rw [hz]; omega) (by rw [hr2]; intro a ha; rw [List.mem_singleton.1 ha]; exact ⟨leaf0_big 0, (leaf_nds M1).inn _ (List.mem_singleton.2 rfl)⟩) (by rw [hr2]; decide)
  rw [aw52d] at c1 c2
  dsimp only at c1 c2
  rw [hz] at c2
  have q2 : ((s110.size : Int) == 110) = true := by rw [hz]; rfl
  generalize s110 = s at *
  repeat' (first | refine VC_seq ?_ | refine VC_region ?_ | refine VL_nil ?_ | ((apply VL_q); (first | exact QS_call (by rfl) c1 | exact qmv (by rfl) | exact qas (by rfl) | exact qex (by rfl)); rfl))
  refine VL_callM (by rfl) c3 (by rfl) (fun r M2 hle2 hpost => ?_)
  rcases hpost with ⟨-, X, v, rfl, hX, hXs, hXn⟩ | ⟨hb, -⟩
  · rw [hr2] at hXs
    have hXl : X.length = 1 := by have := congrArg List.length hXs; simpa using this
    obtain ⟨A, ca, rfl, _⟩ := id hX
    rw [hXl, hr1]
    have c2' := fun W (hW : M2.le (Mem.of W)) => c2 W (hle2.trans hW)
    repeat' (first | refine VC_seq ?_ | refine VC_region ?_ | refine VL_nil ?_ | refine VC_ret ?_ | refine kall ?_ | refine ksN ?_ | ((apply VL_q); (first | exact QS_call (by rfl) c2' | exact qmv (by rfl) | exact qas (by rfl) | exact qlA (by rfl) | exact qex (by rfl) | exact qln (by rfl) | exact qls (by rfl) | exact qpt (by rfl) | exact qcp (by rfl) | exact QS_bin (by rfl) (by rfl) (by exact Bq_eql_Cfg)); rfl) | refine kyes ?_)
    show Res _ _ _ _
    refine Res.one (by rfl) (ResV_tmp (by rfl) ?_)
    rfl
  · rw [hr3 ()] at hb; cases hb
end Go.Proofs.YtlapnbklbpeddaaGreat
/- The walk of ImageReads. -/
namespace Go.Proofs.YtlapnbklbpeddaaGreat.lawImageReads
open Go Go.RowKit
set_option linter.unusedVariables false
set_option maxRecDepth 20000
set_option linter.unusedSimpArgs false
set_option maxHeartbeats 4000000
attribute [local irreducible] Calls
theorem walk (s : ByteArray) (w : World) : Calls Tryz.prog 4 #[.string s] w fun e w' => e = .returned (.bool true) ∧ Below w.heap.size w w' := by
  have cA := fun W => image_awake W
  by_cases hs : s.size ≤ 20000
  · have hd : decide ((20000 : Int) < (s.size : Int)) = false := decide_eq_false (by omega)
    obtain ⟨hfit, hlen⟩ := rdL_fit s (by omega)
    have c1 : ∀ W, (Mem.of w).le (Mem.of W) → Calls Tryz.prog 11 #[.string s] W (RetM (Mem.of w) W (ReadPost s)) := fun W hW => image_Read s W (Mem.of w) hW (by omega) hfit hlen
    refine V_flat (args := [.string s]) (M := Mem.of w) Tryz.func4 rfl Tryz.ntmps4 (by rfl) (Mem.le_refl _) ?_
    repeat' (first | refine VC_seq ?_ | refine VC_region ?_ | refine VL_nil ?_ | refine VC_skip ?_ | ((apply VL_q); (first | exact qmv (by rfl) | exact qas (by rfl) | exact qls (by rfl) | exact qcp (by rfl)); rfl) | refine cfa ?_)
    refine VL_callM (by rfl) c1 (by rfl) (fun r M2 hle2 hpost => ?_)
    rcases hpost with ⟨hb, X, v, rfl, hX, hXs, hXn⟩ | ⟨hb, rfl⟩
    · unfold rdB at hb
      simp only [Bool.and_eq_true, decide_eq_true_eq] at hb
      obtain ⟨⟨⟨⟨b1, b2⟩, b3⟩, b4⟩, b5⟩ := hb
      rw [← hXs, soundR_strip] at b4
      rw [← hXs, imgB_strip] at b5
      clear b1 b3
      obtain ⟨A, ca, rfl, _⟩ := id hX
      generalize (rdC s).1 = c at *
      have hsf := sound_fit b2 hXn.inn b4
      have c2 := fun W => ref_RightC c W
      have c3 := fun W (hW : M2.le (Mem.of W)) => ref_Sound c _ X W M2 hW hX hXn
      have c4 := fun W (hW : M2.le (Mem.of W)) => ref_ImageB c _ X W M2 hW hX hXn.ok b2 hsf.1 hsf.2
      rw [b2] at c2
      rw [b4] at c3
      rw [b5] at c4
      have q : decide (s = s) = true := decide_eq_true rfl
      repeat' (first | refine VC_seq ?_ | refine VC_region ?_ | refine VL_nil ?_ | refine VC_ret ?_ | refine VC_skip ?_ | refine kall ?_ | refine ksN ?_ | ((apply VL_q); (first | exact QS_call (by rfl) (fun W _ => c2 W) | exact QS_call (by rfl) c3 | exact QS_call (by rfl) c4 | exact QS_call (by rfl) (fun W _ => cA W) | exact qmv (by rfl) | exact qas (by rfl) | exact qlA (by rfl) | exact qex (by rfl) | exact qpt (by rfl) | exact qcp (by rfl)); rfl) | refine kyes ?_ | refine cfa ?_)
      show Res _ _ _ _
      refine Res.one (by rfl) (ResV_tmp (by rfl) ?_)
      rfl
    · clear hb
      have q : eqv cfg0 cfg0 = true := eqv_self _
      repeat' (first | refine VC_seq ?_ | refine VC_region ?_ | refine VL_nil ?_ | refine VC_ret ?_ | refine kall ?_ | refine ksN ?_ | ((apply VL_q); (first | exact QS_call (by rfl) (fun W _ => cA W) | exact qmv (by rfl) | exact qas (by rfl) | exact qlA (by rfl) | exact qbd (by rfl) | exact qex (by rfl) | exact qln (by rfl) | exact qpt (by rfl) | exact qcp (by rfl) | exact QS_bin (by rfl) (by rfl) (by exact Bq_eql_Cfg)); rfl) | refine kyes ?_ | refine ctr ?_)
      show Res _ _ _ _
      refine Res.one (by rfl) (ResV_tmp (by rfl) ?_)
      rfl
  · have hd : decide ((20000 : Int) < (s.size : Int)) = true := decide_eq_true (by omega)
    refine V_flat (args := [.string s]) (M := Mem.of w) Tryz.func4 rfl Tryz.ntmps4 (by rfl) (Mem.le_refl _) ?_
    repeat' (first | refine VC_seq ?_ | refine VC_region ?_ | refine VL_nil ?_ | refine VC_ret ?_ | ((apply VL_q); (first | exact QS_call (by rfl) (fun W _ => cA W) | exact qmv (by rfl) | exact qas (by rfl) | exact qls (by rfl) | exact qcp (by rfl)); rfl) | refine ctr ?_)
    show Res _ _ _ _
    refine Res.one (by rfl) (ResV_tmp (by rfl) ?_)
    rfl
end Go.Proofs.YtlapnbklbpeddaaGreat.lawImageReads
