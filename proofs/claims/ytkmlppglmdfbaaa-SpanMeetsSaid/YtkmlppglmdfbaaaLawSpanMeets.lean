/- SpanMeets: what any two spans of at most 300 bytes have in common, and what one has on both sides of a text; it returns true for every input. -/
import Derived.Test.YtkmlppglmdfbaaaWSpanMeets
import Derived.Test.YtkmlppglmdfbaaaArgs
namespace Go.Proofs.Ytkmlppglmdfbaaa.lawSpanMeets
open Go.ChangeShapes Go.WideShapes Go.ChangeAt Go.RowKit
set_option linter.unusedVariables false
set_option linter.unusedSimpArgs false

theorem opened {H : Type} {enc : TypeId × Value → H} {W : World} {base : Nat} {args : Array Value} {ds : List (DataW H)} {p : List MemPlace}
    (hval : ∀ (j : Nat) t v, (#[33, 33, 9] : Array TypeId)[j]? = some t → args[j]? = some v → Value.okWide Try.prog W .any base t v)
    (hA : DataW.TrodAll enc Try.prog W 0 (fun _ => true) true (#[33, 33, 9] : Array TypeId).toList args.toList ds p)
    (hsz : (DataW.weightsEach Try.prog (#[33, 33, 9] : Array TypeId).toList ds).all (· ≤ reachBytes) = true) :
    Calls Try.prog 7 args W (fun e w' => e = .returned (.bool true) ∧ Below W.heap.size W w') ∧ Rows.spanMeetsSpec.fn H (ds ++ []) = { results := [.lit (.bool true)], args := ds } := by
  obtain ⟨v0, v1, v2, d0, d1, d2, p0, p1, p2, rfl, rfl, h0, h1, h2⟩ := args3 hA
  obtain ⟨s, rfl, hs⟩ := arg_span (hval 0 _ v0 rfl rfl) h0 (Wt.of_each hsz (j := 0) rfl rfl)
  obtain ⟨t, rfl, ht⟩ := arg_span (hval 1 _ v1 rfl rfl) h1 (Wt.of_each hsz (j := 1) rfl rfl)
  obtain ⟨k, rfl, hk⟩ := arg_string (hval 2 _ v2 rfl rfl) h2 (Wt.of_each hsz (j := 2) rfl rfl)
  exact ⟨walk s t k W hs.1 hs.2 ht.1 ht.2 hk, rfl⟩

set_option maxRecDepth 100000 in
theorem lifted (os : Os) (started : os.Started) (H : Type) (enc : TypeId × Value → H) :
    ReturnsInHanded {} Try.checked os 7 .any (Rows.spanMeetsSpec.pre6 enc Try.prog Try.f7 Rows.spanMeetsRow.domain false) (Rows.spanMeetsSpec.post enc Try.prog Try.f7 false true false false) := by
  refine returnsInHanded_of_change_sized (C := Try.checked) own started (by kernel_rfl) Try.func7
    (ChangeSpec.witness6 (enc := enc) (C := Try.checked) false ⟨#[], #[.agg #[.string ByteArray.empty, .string ByteArray.empty, .bool false], .agg #[.string ByteArray.empty, .string ByteArray.empty, .bool false], .string ByteArray.empty], []⟩ 8 (by kernel_rfl) (by kernel_rfl) (by kernel_rfl) (by kernel_rfl)) ?_
  intro W base args ds gs before hval hW hcnd hsz _
  obtain ⟨p, q, hA, hV, hpq, hfz, hnd⟩ := id hW
  obtain ⟨rfl, rfl⟩ := trodVars_none hV
  have hval' : ∀ (j : Nat) t v, Try.f7.params[j]? = some t → args[j]? = some v → Value.okWide Try.prog W .any base t v := hval
  have hA' : DataW.TrodAll enc Try.prog W 0 (fun _ => true) true Try.f7.params.toList args.toList ds p := hA
  have hsz' : (DataW.weightsEach Try.prog (Try.f7.params.toList ++ []) (ds ++ [])).all (· ≤ reachBytes) = true := hsz
  rw [Try.params7] at hval' hA' hsz'
  rw [List.append_nil, List.append_nil] at hsz'
  obtain ⟨hc, hds⟩ := opened hval' hA' hsz'
  refine hc.mono fun e W' ⟨he, hg⟩ => ⟨_, he, ?_⟩
  exact law_post laid (by kernel_rfl) rfl Try.underlying4 rfl hds hW hg

theorem proved : Rows.SpanMeetsSaid :=
  OpenClaim.holds_of_wide 7 Try.f7 rfl rfl rfl rfl rfl rfl rfl ⟨rfl, rfl, rfl, rfl, rfl⟩ rfl rfl rfl rfl rfl (by kernel_rfl) Try.func7 (by kernel_rfl)
    (of_decide_eq_true (by kernel_rfl)) (by unfold Func.isWrapper; first | (rw [if_pos (by decide +kernel)]; kernel_rfl) | (rw [if_neg (by decide +kernel)]; exact ⟨rfl, rfl⟩))
    (fun os started H enc _ => lifted os started H enc)
end Go.Proofs.Ytkmlppglmdfbaaa.lawSpanMeets
