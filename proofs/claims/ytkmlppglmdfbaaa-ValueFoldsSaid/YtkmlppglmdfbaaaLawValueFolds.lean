/- ValueFolds: any texts one behind the other come to the end of all of them; it returns true for every input. -/
import Derived.Test.YtkmlppglmdfbaaaFold
namespace Go.Proofs.Ytkmlppglmdfbaaa.lawValueFolds
open Go.ChangeShapes Go.WideShapes Go.ChangeAt Go.RowKit
set_option linter.unusedVariables false

set_option maxHeartbeats 400000 in
theorem walk (v : Value) (l : List ByteArray) (w : World) (hl : SlS w v l) (hs : ∀ s ∈ l, Sz s) :
    Calls Try.prog 5 #[v] w fun e w' => e = .returned (.bool true) ∧ Below w.heap.size w w' := by
  by_cases h1 : 2000 < lngFrom 2000 0 l
  · have d1 : decide ((2000 : Int) < lngFrom 2000 0 l) = true := by simpa using h1
    go_enter Try.func5, Try.ntmps5
    go_wp2_with fail
    (with_reducible refine (ref_Long _ _ _ _ hl hs (by omega) (by omega)).mono ?_); rintro e w' ⟨rfl, rfl⟩
    go_wp2_with fail
    (with_reducible refine (value_awake _).mono ?_); rintro e w' ⟨rfl, rfl⟩
    go_wp2
    go_ret
    exact ⟨rfl, Below.refl _ _⟩
  have ht := lng_tot 2000 l 0 (by omega)
  have d1 : decide ((2000 : Int) < lngFrom 2000 0 l) = false := by simpa using h1
  have hsz : (cat em l).size ≤ 2000 := by rw [size_cat, size_em]; omega
  have hF : foldTl em l = tl (cat em l) := by
    have := foldTl_cat l em
    rwa [tl_short em (by rw [size_em]; omega)] at this
  have HF := Lib.hid hF
  have HZ := Lib.hid hsz
  have HT := Lib.hid ht
  clear hF hsz ht
  obtain ⟨A, c, rfl, hc1, hc2, _⟩ := id hl
  unfold maxLen at hc2
  go_enter Try.func5, Try.ntmps5
  go_wp2_with fail
  (with_reducible refine (ref_Long _ _ _ _ hl hs (by omega) (by omega)).mono ?_); rintro e w' ⟨rfl, rfl⟩
  go_wp2
  go_loop [3, 12] (fun o i => ∃ (k : Nat) (a : ByteArray), k ≤ l.length ∧ i = .int .i64 k ∧ o = .string a ∧ Hid (a.size + tot (l.drop k) ≤ 2000) ∧ Hid (cat a (l.drop k) = cat em l)) (fun _ i => l.length - (intOf i).toNat)
  case atStart => exact ⟨0, em, Nat.zero_le _, by go_num, rfl, Lib.hid (by have := HT.out; rw [size_em]; simp only [List.drop_zero]; omega), Lib.hid rfl⟩
  case round =>
    obtain ⟨k, a, hk, rfl, rfl, ha, hrest⟩ := hrel
    by_cases hlt : k < l.length
    · obtain ⟨b, off, rfl, hb, hcell⟩ := hl.at_ hlt
      have HR := Lib.hid (cat_step (a := a) hlt)
      have ha' := ha.out
      have HA : Hid ((a ++ l[k]).size + tot (l.drop (k + 1)) ≤ 2000) := Lib.hid (by
        rw [size_app]; rw [drop_get hlt] at ha'; simp only [tot, List.map_cons, List.sum_cons] at ha' ⊢; omega)
      have hz : a.size + l[k].size ≤ 2000 := by rw [drop_get hlt] at ha'; simp only [tot, List.map_cons, List.sum_cons] at ha'; omega
      clear ha'
      go_wp2
      go_round
      case rel => exact ⟨k + 1, a ++ l[k], by omega, by go_num, rfl, HA, Lib.hid (HR.out.symm.trans hrest.out)⟩
      case measure => simp [intOf]; omega
    · have hR := (cat_stop (a := a) (l := l) (k := k) (by omega)).symm.trans hrest.out
      subst hR
      have hm : (cat em l).size ≤ maxLen := Nat.le_trans HZ.out (by unfold maxLen; omega)
      have HM := Lib.hid hm
      clear hm
      go_wp2_with fail
      (with_reducible refine (value_Fold _ _ _ hl hs).mono ?_); rintro e w' ⟨rfl, rfl⟩
      rw [HF.out]
      go_wp2_with fail
      (with_reducible refine (ref_Tail _ _ HM.out).mono ?_); rintro e w' ⟨rfl, rfl⟩
      go_wp2_with fail
      (with_reducible refine (value_awake _).mono ?_); rintro e w' ⟨rfl, rfl⟩
      go_wp2
      go_ret
      exact ⟨rfl, Below.refl _ _⟩

theorem opened {H : Type} {enc : TypeId × Value → H} {W : World} {base : Nat} {args : Array Value} {ds : List (DataW H)} {p : List MemPlace}
    (hval : ∀ (j : Nat) t v, (#[28] : Array TypeId)[j]? = some t → args[j]? = some v → Value.okWide Try.prog W .any base t v)
    (hA : DataW.TrodAll enc Try.prog W 0 (fun _ => true) true (#[28] : Array TypeId).toList args.toList ds p)
    (hsz : (DataW.weightsEach Try.prog (#[28] : Array TypeId).toList ds).all (· ≤ reachBytes) = true) :
    Calls Try.prog 5 args W (fun e w' => e = .returned (.bool true) ∧ Below W.heap.size W w') ∧ Rows.valueFoldsSpec.fn H (ds ++ []) = { results := [.lit (.bool true)], args := ds } := by
  obtain ⟨v0, d0, p0, rfl, rfl, h0⟩ := args1 hA
  obtain ⟨l, hl, hs, hb⟩ := arg_slice Try.underlying28 (by kernel_rfl : Try.prog.cellsOf 9 = 1) (by omega) (by kernel_rfl : Try.prog.bytesOf 9 = 16) strCells Sz rd_strs (hval 0 _ v0 rfl rfl) h0 (Wt.of_each hsz (j := 0) rfl rfl)
  exact ⟨walk v0 l W hl hs, rfl⟩

set_option maxRecDepth 100000 in
theorem lifted (os : Os) (started : os.Started) (H : Type) (enc : TypeId × Value → H) :
    ReturnsInHanded {} Try.checked os 5 .any (Rows.valueFoldsSpec.pre6 enc Try.prog Try.f5 Rows.valueFoldsRow.domain false) (Rows.valueFoldsSpec.post enc Try.prog Try.f5 false true false false) := by
  refine returnsInHanded_of_change_sized (C := Try.checked) own started (by kernel_rfl) Try.func5
    (ChangeSpec.witness6 (enc := enc) (C := Try.checked) false ⟨#[], #[.slice none 0 0], []⟩ 8 (by kernel_rfl) (by kernel_rfl) (by kernel_rfl) (by kernel_rfl)) ?_
  intro W base args ds gs before hval hW hcnd hsz _
  obtain ⟨p, q, hA, hV, hpq, hfz, hnd⟩ := id hW
  obtain ⟨rfl, rfl⟩ := trodVars_none hV
  have hval' : ∀ (j : Nat) t v, Try.f5.params[j]? = some t → args[j]? = some v → Value.okWide Try.prog W .any base t v := hval
  have hA' : DataW.TrodAll enc Try.prog W 0 (fun _ => true) true Try.f5.params.toList args.toList ds p := hA
  have hsz' : (DataW.weightsEach Try.prog (Try.f5.params.toList ++ []) (ds ++ [])).all (· ≤ reachBytes) = true := hsz
  rw [Try.params5] at hval' hA' hsz'
  rw [List.append_nil, List.append_nil] at hsz'
  obtain ⟨hc, hds⟩ := opened hval' hA' hsz'
  refine hc.mono fun e W' ⟨he, hg⟩ => ⟨_, he, ?_⟩
  exact law_post laid (by kernel_rfl) rfl Try.underlying4 rfl hds hW hg

theorem proved : Rows.ValueFoldsSaid :=
  OpenClaim.holds_of_wide 5 Try.f5 rfl rfl rfl rfl rfl rfl rfl ⟨rfl, rfl, rfl, rfl, rfl⟩ rfl rfl rfl rfl rfl (by kernel_rfl) Try.func5 (by kernel_rfl)
    (of_decide_eq_true (by kernel_rfl)) (by unfold Func.isWrapper; first | (rw [if_pos (by decide +kernel)]; kernel_rfl) | (rw [if_neg (by decide +kernel)]; exact ⟨rfl, rfl⟩))
    (fun os started H enc _ => lifted os started H enc)
end Go.Proofs.Ytkmlppglmdfbaaa.lawValueFolds
