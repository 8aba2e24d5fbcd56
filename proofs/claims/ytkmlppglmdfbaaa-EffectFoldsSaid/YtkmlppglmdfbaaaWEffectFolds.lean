/- The walk of the law EffectFolds. -/
import Derived.Test.YtkmlppglmdfbaaaEffF
import Derived.Lib.MinMaxS
import Derived.Test.YtkmlppglmdfbaaaSlices
namespace Go.Proofs.Ytkmlppglmdfbaaa.lawEffectFolds
open Go.ChangeShapes Go.WideShapes Go.ChangeAt Go.RowKit Go.Sort
set_option linter.unusedVariables false
set_option linter.unusedSimpArgs false
attribute [local go_sem ↓] run_eql_Eff run_neq_Eff

set_option maxHeartbeats 1000000 in
theorem walk (v : Value) (l : List Eff) (n : Int) (w : World) (hl : SlEff w v l) (hs : ∀ e ∈ l, Sz e.val) (hn : I64 n) :
    Calls Try.prog 11 #[v, .int .i64 n] w fun e w' => e = .returned (.bool true) ∧ Below w.heap.size w w' := by
  obtain ⟨A, c, rfl, hc1, hc2, _⟩ := id hl
  unfold maxLen at hc2
  by_cases g1 : 100 < l.length
  · have d1 : decide ((100 : Int) < (l.length : Int)) = true := decide_eq_true (by omega)
    go_enter Try.func11, Try.ntmps11
    go_wp2_with fail
    (with_reducible refine (effect_awake _).mono ?_); rintro e w' ⟨rfl, hb1⟩
    obtain ⟨hc_hb1, hf_hb1⟩ := bcell hb1
    have hz_hb1 := size_le hb1
    repeat (first | simp only [World.size_alloc] at hc_hb1 | simp only [World.size_setCell] at hc_hb1 | simp only [World.size_drew] at hc_hb1)
    repeat (first | simp only [World.size_alloc] at hf_hb1 | simp only [World.size_setCell] at hf_hb1 | simp only [World.size_drew] at hf_hb1)
    repeat (first | simp only [World.size_alloc] at hz_hb1 | simp only [World.size_setCell] at hz_hb1 | simp only [World.size_drew] at hz_hb1)
    have hb1_ := Lib.hid (below_next (w := w) (by go_grown) hb1)
    clear hb1
    have hb1 := hb1_.out
    clear hb1_
    go_wp2
    go_ret
    exact ⟨rfl, by assumption⟩
  have d1 : decide ((100 : Int) < (l.length : Int)) = false := decide_eq_false (by omega)
  cases ha : l.all rightE
  · have HA : Hid (∀ W, SlEff W (.slice A l.length c) l → Calls Try.prog 46 #[.slice A l.length c] W fun e w' => e = .returned (.bool false) ∧ Below W.heap.size W w') := Lib.hid (fun W h => by have := ref_AllE _ l W h hs; rw [ha] at this; exact this)
    go_enter Try.func11, Try.ntmps11
    go_wp2_with fail
    (with_reducible refine (HA.out _ hl).mono ?_); rintro e w' ⟨rfl, hb1⟩
    obtain ⟨hc_hb1, hf_hb1⟩ := bcell hb1
    have hz_hb1 := size_le hb1
    repeat (first | simp only [World.size_alloc] at hc_hb1 | simp only [World.size_setCell] at hc_hb1 | simp only [World.size_drew] at hc_hb1)
    repeat (first | simp only [World.size_alloc] at hf_hb1 | simp only [World.size_setCell] at hf_hb1 | simp only [World.size_drew] at hf_hb1)
    repeat (first | simp only [World.size_alloc] at hz_hb1 | simp only [World.size_setCell] at hz_hb1 | simp only [World.size_drew] at hz_hb1)
    have hb1_ := Lib.hid (below_next (w := w) (by go_grown) hb1)
    clear hb1
    have hb1 := hb1_.out
    clear hb1_
    go_wp2_with fail
    (with_reducible refine (effect_awake _).mono ?_); rintro e w' ⟨rfl, hb2⟩
    obtain ⟨hc_hb2, hf_hb2⟩ := bcell hb2
    have hz_hb2 := size_le hb2
    repeat (first | simp only [World.size_alloc] at hc_hb2 | simp only [World.size_setCell] at hc_hb2 | simp only [World.size_drew] at hc_hb2)
    repeat (first | simp only [World.size_alloc] at hf_hb2 | simp only [World.size_setCell] at hf_hb2 | simp only [World.size_drew] at hf_hb2)
    repeat (first | simp only [World.size_alloc] at hz_hb2 | simp only [World.size_setCell] at hz_hb2 | simp only [World.size_drew] at hz_hb2)
    have hb2_ := Lib.hid (below_next (w := w) (by go_grown) hb2)
    clear hb2
    have hb2 := hb2_.out
    clear hb2_
    go_wp2
    go_ret
    exact ⟨rfl, by assumption⟩
  have HA : Hid (∀ W, SlEff W (.slice A l.length c) l → Calls Try.prog 46 #[.slice A l.length c] W fun e w' => e = .returned (.bool true) ∧ Below W.heap.size W w') := Lib.hid (fun W h => by have := ref_AllE _ l W h hs; rw [ha] at this; exact this)
  have hr : ∀ e ∈ l, rightE e = true := by simpa using ha
  have HR := Lib.hid hr
  go_enter Try.func11, Try.ntmps11
  go_wp2_with fail
  (with_reducible refine (HA.out _ hl).mono ?_); rintro e w1 ⟨rfl, hb1⟩
  have HB1 := Lib.hid (show Below w.heap.size w w1 from hb1)
  have hz1 : w.heap.size ≤ w1.heap.size := hb1.size
  clear hb1 ha hs
  go_wp2
  go_loopw [20] (fun i w' => ∃ (k : Nat) (a : Eff), k ≤ l.length ∧ i = .int .i64 k ∧ Hid (rightE a = true) ∧ Hid (foldE a (l.drop k) = foldE keepE l) ∧ w'.cell? ⟨w1.heap.size, 0, none⟩ = some (.int .i64 a.kind) ∧ w'.cell? ⟨w1.heap.size, 1, none⟩ = some (.string a.val) ∧ w'.frozen? ⟨w1.heap.size, 0, none⟩ = false ∧ w'.frozen? ⟨w1.heap.size, 1, none⟩ = false ∧ w1.heap.size < w'.heap.size ∧ Hid (Below w.heap.size w w')) (fun i w' => l.length - (intOf i).toNat)
  case atStart => exact ⟨0, keepE, Nat.zero_le _, by go_num, Lib.hid right_keep, Lib.hid rfl, by simp [go_sem, keepE], by simp [go_sem, keepE], by simp [go_sem], by simp [go_sem], by simp [go_sem], Lib.hid (by have := HB1.out; go_grown)⟩
  case round =>
    obtain ⟨k, a, hk, rfl, ha, hrest, c0, c1, f0, f1, hsz, hbr⟩ := hrel
    by_cases hlt : k < l.length
    · obtain ⟨b, off, rfl, hb, hc0, hc1'⟩ := Eff.at_ hl hlt
      have e0 := (hbr.out.cell (p := ⟨b, off + k * 2, none⟩) hb).trans hc0
      have e1 := (hbr.out.cell (p := ⟨b, off + k * 2 + 1, none⟩) hb).trans hc1'
      have HS := Lib.hid (HR.out l[k] (List.getElem_mem hlt))
      have HF := Lib.hid (foldE_step (a := a) hlt)
      clear hc0 hc1'
      generalize l[k] = x at *
      have HC : Hid (∀ W, Calls Try.prog 43 #[.agg #[.int .i64 a.kind, .string a.val], .agg #[.int .i64 x.kind, .string x.val]] W fun e w' => e = .returned (.agg #[.int .i64 (thenE a x).kind, .string (thenE a x).val]) ∧ Below W.heap.size W w') := Lib.hid (fun W => by
        have := ref_Then a x W (by have := rightE_size ha.out; omega) (by have := rightE_size HS.out; omega)
        rw [refThen_eq ha.out] at this; exact this)
      go_wp2_with fail
      (with_reducible refine (HC.out _).mono ?_); rintro e w2 ⟨rfl, hb2⟩
      obtain ⟨hcc, hff⟩ := bcell hb2
      have hzz := size_le hb2
      repeat (first | simp only [World.size_alloc] at hcc | simp only [World.size_setCell] at hcc)
      repeat (first | simp only [World.size_alloc] at hff | simp only [World.size_setCell] at hff)
      repeat (first | simp only [World.size_alloc] at hzz | simp only [World.size_setCell] at hzz)
      have g0 := hcc w1.heap.size 0 (by omega)
      have g1 := hcc w1.heap.size 1 (by omega)
      have h0 := hff w1.heap.size 0 (by omega)
      have h1 := hff w1.heap.size 1 (by omega)
      simp [go_sem, hsz, c0, c1] at g0 g1
      simp [go_sem, hsz, f0, f1] at h0 h1
      have hs2 : w1.heap.size < w2.heap.size := by omega
      have hbr' := hbr.out
      have HB := Lib.hid (below_next (w := w) (by go_grown) hb2)
      clear hb2 hbr' hcc hff hzz
      have hbr2 := HB.out
      go_wp2
      go_roundw
      case rel => exact ⟨k + 1, thenE a x, by omega, by go_num, Lib.hid (right_then ha.out HS.out), Lib.hid (HF.out.symm.trans hrest.out), by simp [go_sem, g0, g1, hs2, h0, h1], by simp [go_sem, g0, g1, hs2, h0, h1], by simp [go_sem, g0, g1, hs2, h0, h1], by simp [go_sem, g0, g1, hs2, h0, h1], by simp [go_sem, hs2], Lib.hid (by go_grown)⟩
      case measure => simp [intOf]; omega
    · have HE := (foldE_stop (a := a) (l := l) (k := k) (by omega)).symm.trans hrest.out
      subst HE
      have HX : Hid (∀ W v', SlEff W v' l → Calls Try.prog 47 #[v'] W fun e w' => e = .returned (.agg #[.int .i64 (foldE keepE l).kind, .string (foldE keepE l).val]) ∧ Below W.heap.size W w') := Lib.hid (fun W v' h => effect_Fold v' l W h HR.out)
      have hlr := hl.keep hbr.out
      have hself := @eqv_self Eff _ (foldE keepE l)
      have HX1 : Hid (∀ q W v', SlEff W v' (l.take q) → Calls Try.prog 47 #[v'] W fun e w' => e = .returned (.agg #[.int .i64 (foldE keepE (l.take q)).kind, .string (foldE keepE (l.take q)).val]) ∧ Below W.heap.size W w') := Lib.hid (fun q W v' h => effect_Fold v' (l.take q) W h (fun e he => HR.out e (List.mem_of_mem_take he)))
      have HX2 : Hid (∀ q W v', SlEff W v' (l.drop q) → Calls Try.prog 47 #[v'] W fun e w' => e = .returned (.agg #[.int .i64 (foldE keepE (l.drop q)).kind, .string (foldE keepE (l.drop q)).val]) ∧ Below W.heap.size W w') := Lib.hid (fun q W v' h => effect_Fold v' (l.drop q) W h (fun e he => HR.out e (List.mem_of_mem_drop he)))
      have HX3 : Hid (∀ q W, Calls Try.prog 40 #[.agg #[.int .i64 (foldE keepE (l.take q)).kind, .string (foldE keepE (l.take q)).val], .agg #[.int .i64 (foldE keepE (l.drop q)).kind, .string (foldE keepE (l.drop q)).val]] W fun e w' => e = .returned (.agg #[.int .i64 (foldE keepE l).kind, .string (foldE keepE l).val]) ∧ Below W.heap.size W w') := Lib.hid (fun q W => by
        have r1 := right_fold (l.take q) keepE right_keep (fun e he => HR.out e (List.mem_of_mem_take he))
        have r2 := right_fold (l.drop q) keepE right_keep (fun e he => HR.out e (List.mem_of_mem_drop he))
        have := effect_Then _ _ W (Nat.le_trans (rightE_size r1) (by omega)) (Nat.le_trans (rightE_size r2) (by omega))
        rw [fold_split l q HR.out] at this
        exact this)
      have hi : max (0 : Int) (min n l.length) = (((max 0 (min n l.length)).toNat : Nat) : Int) := by omega
      generalize hq : (max 0 (min n (l.length : Int))).toNat = q at *
      have hql : q ≤ l.length := by omega
      have hq2 : (q : Int) ≤ l.length := by omega
      go_wp2
      refine wp_region_below (by kernel_rfl) (by kernel_rfl) ?_
      have hgr := @grow_cell
      repeat (go_big_quiet_step (first | (with_reducible exact qb (HX.out _ _ (hlr.grown _ _))) | (with_reducible exact qb (HX1.out q _ _ ((hlr.take hql).grown _ _))) | (with_reducible exact qb (HX2.out q _ _ ((hlr.drop hql).grown _ _))) | (with_reducible exact qb (HX3.out q _)) | (with_reducible exact qb (effect_awake _))))
      refine wpQuiet_nil ?_
      clear hgr
      intro w3 hb3
      have HB3 := Lib.hid (below_next hbr.out hb3)
      clear hb3
      go_wp2
      all_goals
        go_ret
        exact ⟨rfl, HB3.out⟩
end Go.Proofs.Ytkmlppglmdfbaaa.lawEffectFolds
