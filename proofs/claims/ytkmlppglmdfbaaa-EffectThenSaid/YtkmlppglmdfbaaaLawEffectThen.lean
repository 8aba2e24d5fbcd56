/- EffectThen: any two effects one behind the other, as one; it returns true for every input. -/
import Derived.Test.YtkmlppglmdfbaaaWEffectThen
import Derived.Test.YtkmlppglmdfbaaaArgs
import Derived.Test.YtkmlppglmdfbaaaLaw
namespace Go.Proofs.Ytkmlppglmdfbaaa.lawEffectThen
open Go.ChangeShapes Go.WideShapes Go.ChangeAt Go.RowKit
set_option linter.unusedVariables false
set_option linter.unusedSimpArgs false

theorem opened {H : Type} {enc : TypeId × Value → H} {W : World} {base : Nat} {args : Array Value} {ds : List (DataW H)} {p : List MemPlace}
    (hval : ∀ (j : Nat) t v, (#[46, 46, 4, 9] : Array TypeId)[j]? = some t → args[j]? = some v → Value.okWide Try.prog W .any base t v)
    (hA : DataW.TrodAll enc Try.prog W 0 (fun _ => true) true (#[46, 46, 4, 9] : Array TypeId).toList args.toList ds p)
    (hsz : (DataW.weightsEach Try.prog (#[46, 46, 4, 9] : Array TypeId).toList ds).all (· ≤ reachBytes) = true) :
    Calls Try.prog 9 args W (fun e w' => e = .returned (.bool true) ∧ Below W.heap.size W w') ∧ Rows.effectThenSpec.fn H (ds ++ []) = { results := [.lit (.bool true)], args := ds } := by
  obtain ⟨v0, v1, v2, v3, d0, d1, d2, d3, p0, p1, p2, p3, rfl, rfl, h0, h1, h2, h3⟩ := args4 hA
  obtain ⟨s, rfl, hs⟩ := arg_eff (hval 0 _ v0 rfl rfl) h0 (Wt.of_each hsz (j := 0) rfl rfl)
  obtain ⟨t, rfl, ht⟩ := arg_eff (hval 1 _ v1 rfl rfl) h1 (Wt.of_each hsz (j := 1) rfl rfl)
  obtain ⟨b, rfl⟩ := arg_bool (hval 2 _ v2 rfl rfl) h2
  obtain ⟨v, rfl, hv⟩ := arg_string (hval 3 _ v3 rfl rfl) h3 (Wt.of_each hsz (j := 3) rfl rfl)
  exact ⟨walk s t b v W hs.2 ht.2 hv, rfl⟩

set_option maxRecDepth 100000 in
theorem lifted (os : Os) (started : os.Started) (H : Type) (enc : TypeId × Value → H) :
    ReturnsInHanded {} Try.checked os 9 .any (Rows.effectThenSpec.pre6 enc Try.prog Try.f9 Rows.effectThenRow.domain false) (Rows.effectThenSpec.post enc Try.prog Try.f9 false true false false) := by
  refine returnsInHanded_of_change_sized (C := Try.checked) own started (by kernel_rfl) Try.func9
    (ChangeSpec.witness6 (enc := enc) (C := Try.checked) false ⟨#[], #[.agg #[.int .i64 0, .string ByteArray.empty], .agg #[.int .i64 0, .string ByteArray.empty], .bool false, .string ByteArray.empty], []⟩ 8 (by kernel_rfl) (by kernel_rfl) (by kernel_rfl) (by kernel_rfl)) ?_
  intro W base args ds gs before hval hW hcnd hsz _
  obtain ⟨p, q, hA, hV, hpq, hfz, hnd⟩ := id hW
  obtain ⟨rfl, rfl⟩ := trodVars_none hV
  have hval' : ∀ (j : Nat) t v, Try.f9.params[j]? = some t → args[j]? = some v → Value.okWide Try.prog W .any base t v := hval
  have hA' : DataW.TrodAll enc Try.prog W 0 (fun _ => true) true Try.f9.params.toList args.toList ds p := hA
  have hsz' : (DataW.weightsEach Try.prog (Try.f9.params.toList ++ []) (ds ++ [])).all (· ≤ reachBytes) = true := hsz
  rw [Try.params9] at hval' hA' hsz'
  rw [List.append_nil, List.append_nil] at hsz'
  obtain ⟨hc, hds⟩ := opened hval' hA' hsz'
  refine hc.mono fun e W' ⟨he, hg⟩ => ⟨_, he, ?_⟩
  exact law_post laid (by kernel_rfl) rfl Try.underlying4 rfl hds hW hg

theorem proved : Rows.EffectThenSaid :=
  OpenClaim.holds_of_wide 9 Try.f9 rfl rfl rfl rfl rfl rfl rfl ⟨rfl, rfl, rfl, rfl, rfl⟩ rfl rfl rfl rfl rfl (by kernel_rfl) Try.func9 (by kernel_rfl)
    (of_decide_eq_true (by kernel_rfl)) (by unfold Func.isWrapper; first | (rw [if_pos (by decide +kernel)]; kernel_rfl) | (rw [if_neg (by decide +kernel)]; exact ⟨rfl, rfl⟩))
    (fun os started H enc _ => lifted os started H enc)
end Go.Proofs.Ytkmlppglmdfbaaa.lawEffectThen
