/- ValueJoins: of any three values it is all one in which order they are put together; it returns true for every input. -/
import Derived.Test.YtkmlppglmdfbaaaVal
import Derived.Test.YtkmlppglmdfbaaaLaw
namespace Go.Proofs.Ytkmlppglmdfbaaa.lawValueJoins
open Go.ChangeShapes Go.WideShapes Go.ChangeAt Go.RowKit
open Go.ChangeMaps (open_string shut_string)
set_option linter.unusedVariables false

set_option maxHeartbeats 400000 in
theorem walk (a b c : ByteArray) (ha : a.size ≤ maxLen) (hb : b.size ≤ maxLen) (hc : c.size ≤ maxLen) (w : World) :
    Calls Try.prog 4 #[.string a, .string b, .string c] w fun e w' => e = .returned (.bool true) ∧ Below w.heap.size w w' := by
  unfold maxLen at ha hb hc
  by_cases h1 : 16 < a.size
  · go_enter Try.func4, Try.ntmps4
    go_wp2_with fail
    (with_reducible refine (value_awake _).mono ?_); rintro e w' ⟨rfl, rfl⟩
    go_wp2
    go_ret
    exact ⟨rfl, Below.refl _ _⟩
  by_cases h2 : 16 < b.size
  · go_enter Try.func4, Try.ntmps4
    go_wp2_with fail
    (with_reducible refine (value_awake _).mono ?_); rintro e w' ⟨rfl, rfl⟩
    go_wp2
    go_ret
    exact ⟨rfl, Below.refl _ _⟩
  by_cases h3 : 16 < c.size
  · go_enter Try.func4, Try.ntmps4
    go_wp2_with fail
    (with_reducible refine (value_awake _).mono ?_); rintro e w' ⟨rfl, rfl⟩
    go_wp2
    go_ret
    exact ⟨rfl, Below.refl _ _⟩
  have s1 := size_tl (a ++ b)
  have s2 := size_tl (b ++ c)
  have m1 : (a ++ b).size ≤ maxLen := by rw [size_app]; unfold maxLen; omega
  have m2 : (tl (a ++ b) ++ c).size ≤ maxLen := by rw [size_app, s1]; unfold maxLen; omega
  have m3 : (b ++ c).size ≤ maxLen := by rw [size_app]; unfold maxLen; omega
  have m4 : (a ++ tl (b ++ c)).size ≤ maxLen := by rw [size_app, s2]; unfold maxLen; omega
  have m5 : (a ++ em).size ≤ maxLen := by rw [app_em]; unfold maxLen; omega
  have m6 : (em ++ a).size ≤ maxLen := by rw [em_app]; unfold maxLen; omega
  have m7 : (tl (a ++ b)).size ≤ maxLen := by rw [s1]; unfold maxLen; omega
  have e1 : tl (a ++ tl (b ++ c)) = tl (tl (a ++ b) ++ c) := by rw [tl_app_tl, tl_tl, app_assoc]
  have e2 : tl (a ++ em) = a := by rw [app_em, tl_short _ (by omega)]
  have e3 : tl (em ++ a) = a := by rw [em_app, tl_short _ (by omega)]
  have e4 : (tl (a ++ b)).size ≤ 16 := by rw [s1]; omega
  have M1 := Lib.hid m1
  have M2 := Lib.hid m2
  have M3 := Lib.hid m3
  have M4 := Lib.hid m4
  have M5 := Lib.hid m5
  have M6 := Lib.hid m6
  have M7 := Lib.hid m7
  have E1 := Lib.hid e1
  have E2 := Lib.hid e2
  have E3 := Lib.hid e3
  have d1 : decide ((16 : Int) < (a.size : Int)) = false := by simp; omega
  have d2 : decide ((16 : Int) < (b.size : Int)) = false := by simp; omega
  have d3 : decide ((16 : Int) < (c.size : Int)) = false := by simp; omega
  have d4 : decide (((tl (a ++ b)).size : Int) ≤ 16) = true := by simp; omega
  clear s1 s2 e4 m1 m2 m3 m4 m5 m6 m7 e1 e2 e3
  go_enter Try.func4, Try.ntmps4
  go_wp2_with fail
  (with_reducible refine (value_Add _ _ _ M1.out).mono ?_); rintro e w' ⟨rfl, rfl⟩
  go_wp2_with fail
  (with_reducible refine (value_Add _ _ _ M2.out).mono ?_); rintro e w' ⟨rfl, rfl⟩
  go_wp2_with fail
  (with_reducible refine (value_Add _ _ _ M3.out).mono ?_); rintro e w' ⟨rfl, rfl⟩
  go_wp2_with fail
  (with_reducible refine (value_Add _ _ _ M4.out).mono ?_); rintro e w' ⟨rfl, rfl⟩
  rw [E1.out]
  go_wp2_with fail
  (with_reducible refine (value_Add _ _ _ M5.out).mono ?_); rintro e w' ⟨rfl, rfl⟩
  rw [E2.out]
  go_wp2_with fail
  (with_reducible refine (value_Add _ _ _ M6.out).mono ?_); rintro e w' ⟨rfl, rfl⟩
  rw [E3.out]
  go_wp2_with fail
  (with_reducible refine (value_Add _ _ _ M1.out).mono ?_); rintro e w' ⟨rfl, rfl⟩
  go_wp2_with fail
  (with_reducible refine (value_Right _ _ M7.out).mono ?_); rintro e w' ⟨rfl, rfl⟩
  go_wp2_with fail
  (with_reducible refine (value_awake _).mono ?_); rintro e w' ⟨rfl, rfl⟩
  go_wp2
  go_ret
  exact ⟨rfl, Below.refl _ _⟩

theorem opened {H : Type} {enc : TypeId × Value → H} {W : World} {base : Nat} {args : Array Value} {ds : List (DataW H)} {p : List MemPlace}
    (hval : ∀ (j : Nat) t v, (#[9, 9, 9] : Array TypeId)[j]? = some t → args[j]? = some v → Value.okWide Try.prog W .any base t v)
    (hA : DataW.TrodAll enc Try.prog W 0 (fun _ => true) true (#[9, 9, 9] : Array TypeId).toList args.toList ds p)
    (hsz : (DataW.weightsEach Try.prog (#[9, 9, 9] : Array TypeId).toList ds).all (· ≤ reachBytes) = true) :
    Calls Try.prog 4 args W (fun e w' => e = .returned (.bool true) ∧ Below W.heap.size W w') ∧ Rows.valueJoinsSpec.fn H (ds ++ []) = { results := [.lit (.bool true)], args := ds } := by
  obtain ⟨v0, v1, v2, d0, d1, d2, p0, p1, p2, rfl, rfl, h0, h1, h2⟩ := args3 hA
  obtain ⟨a, rfl, rfl, rfl, ha⟩ := open_string Try.underlying9 (hval 0 _ v0 rfl rfl) h0
  obtain ⟨b, rfl, rfl, rfl, hb⟩ := open_string Try.underlying9 (hval 1 _ v1 rfl rfl) h1
  obtain ⟨c, rfl, rfl, rfl, hc⟩ := open_string Try.underlying9 (hval 2 _ v2 rfl rfl) h2
  exact ⟨walk a b c ha hb hc W, rfl⟩

set_option maxRecDepth 100000 in
theorem lifted (os : Os) (started : os.Started) (H : Type) (enc : TypeId × Value → H) :
    ReturnsInHanded {} Try.checked os 4 .any (Rows.valueJoinsSpec.pre6 enc Try.prog Try.f4 Rows.valueJoinsRow.domain false) (Rows.valueJoinsSpec.post enc Try.prog Try.f4 false true false false) := by
  refine returnsInHanded_of_change_sized (C := Try.checked) own started (by kernel_rfl) Try.func4
    (ChangeSpec.witness6 (enc := enc) (C := Try.checked) false ⟨#[], #[.string ByteArray.empty, .string ByteArray.empty, .string ByteArray.empty], []⟩ 8 (by kernel_rfl) (by kernel_rfl) (by kernel_rfl) (by kernel_rfl)) ?_
  intro W base args ds gs before hval hW hcnd hsz _
  obtain ⟨p, q, hA, hV, hpq, hfz, hnd⟩ := id hW
  obtain ⟨rfl, rfl⟩ := trodVars_none hV
  have hval' : ∀ (j : Nat) t v, Try.f4.params[j]? = some t → args[j]? = some v → Value.okWide Try.prog W .any base t v := hval
  have hA' : DataW.TrodAll enc Try.prog W 0 (fun _ => true) true Try.f4.params.toList args.toList ds p := hA
  have hsz' : (DataW.weightsEach Try.prog (Try.f4.params.toList ++ []) (ds ++ [])).all (· ≤ reachBytes) = true := hsz
  rw [Try.params4] at hval' hA' hsz'
  rw [List.append_nil, List.append_nil] at hsz'
  obtain ⟨hc, hds⟩ := opened hval' hA' hsz'
  refine hc.mono fun e W' ⟨he, hg⟩ => ⟨_, he, ?_⟩
  exact law_post laid (by kernel_rfl) rfl Try.underlying4 rfl hds hW hg

theorem proved : Rows.ValueJoinsSaid :=
  OpenClaim.holds_of_wide 4 Try.f4 rfl rfl rfl rfl rfl rfl rfl ⟨rfl, rfl, rfl, rfl, rfl⟩ rfl rfl rfl rfl rfl (by kernel_rfl) Try.func4 (by kernel_rfl)
    (of_decide_eq_true (by kernel_rfl)) (by unfold Func.isWrapper; first | (rw [if_pos (by decide +kernel)]; kernel_rfl) | (rw [if_neg (by decide +kernel)]; exact ⟨rfl, rfl⟩))
    (fun os started H enc _ => lifted os started H enc)
end Go.Proofs.Ytkmlppglmdfbaaa.lawValueJoins
