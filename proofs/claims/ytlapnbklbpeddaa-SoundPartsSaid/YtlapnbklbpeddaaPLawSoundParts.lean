/- SoundParts: of a sound tree that has another Right, or Seen, at one node: whether it is Linked, and Ordered; it returns true for every input. -/
import Derived.Test.YtlapnbklbpeddaaPWSoundParts
namespace Go.Proofs.Ytlapnbklbpeddaa.lawSoundParts
open Go.ChangeShapes Go.WideShapes Go.ChangeAt Go.RowKit
set_option linter.unusedVariables false
set_option linter.unusedSimpArgs false

set_option maxRecDepth 100000 in
theorem opened {H : Type} {enc : TypeId × Value → H} {W : World} {base : Nat} {args : Array Value} {ds : List (DataW H)} {p : List MemPlace}
    (hval : ∀ (j : Nat) t v, (#[23, 24, 3, 3, 3] : Array TypeId)[j]? = some t → args[j]? = some v → Value.okWide Try.prog W .any base t v)
    (hA : DataW.TrodAll enc Try.prog W 0 (fun _ => true) true (#[23, 24, 3, 3, 3] : Array TypeId).toList args.toList ds p)
    (hsz : (DataW.weightsEach Try.prog (#[23, 24, 3, 3, 3] : Array TypeId).toList ds).all (· ≤ reachBytes) = true) :
    Calls Try.prog 4 args W (fun e w' => e = .returned (.bool true) ∧ Below W.heap.size W w') ∧ Rows.soundPartsSpec.fn H (ds ++ []) = { results := [.lit (.bool true)], args := ds } := by
  obtain ⟨v0, v1, v2, v3, v4, d0, d1, d2, d3, d4, p0, p1, p2, p3, p4, rfl, rfl, h0, h1, h2, h3, h4⟩ := args5 hA
  obtain ⟨c, rfl, hc⟩ := arg_cfg (hval 0 _ v0 rfl rfl) h0 (Wt.of_each hsz (j := 0) rfl rfl)
  obtain ⟨l, hl, hn, hlen⟩ := arg_nodes (hval 1 _ v1 rfl rfl) h1 (Wt.of_each hsz (j := 1) rfl rfl)
  obtain ⟨x, rfl, hx⟩ := arg_int (hval 2 _ v2 rfl rfl) h2
  obtain ⟨r, rfl, hr⟩ := arg_int (hval 3 _ v3 rfl rfl) h3
  obtain ⟨s, rfl, hs⟩ := arg_int (hval 4 _ v4 rfl rfl) h4
  exact ⟨walk c v1 l x r s W hl hn hlen hr hs, rfl⟩

set_option maxRecDepth 100000 in
theorem lifted (os : Os) (started : os.Started) (H : Type) (enc : TypeId × Value → H) :
    ReturnsInHanded {} Try.checked os 4 .any (Rows.soundPartsSpec.pre6 enc Try.prog Try.f4 Rows.soundPartsRow.domain false) (Rows.soundPartsSpec.post enc Try.prog Try.f4 false true false false) := by
  refine returnsInHanded_of_change_sized (C := Try.checked) own started (by kernel_rfl) Try.func4
    (ChangeSpec.witness6 (enc := enc) (C := Try.checked) false ⟨#[], #[.agg #[.int .i64 0, .int .i64 0, .int .i64 0, .int .i64 0, .int .i64 0], .slice none 0 0, .int .i64 0, .int .i64 0, .int .i64 0], []⟩ 8 (by kernel_rfl) (by kernel_rfl) (by kernel_rfl) (by kernel_rfl)) ?_
  intro W base args ds gs before hval hW hcnd hsz _
  obtain ⟨p, q, hA, hV, hpq, hfz, hnd⟩ := id hW
  obtain ⟨rfl, rfl⟩ := trodVars_none hV
  have hval' : ∀ (j : Nat) t v, Try.f4.params[j]? = some t → args[j]? = some v → Value.okWide Try.prog W .any base t v := hval
  have hA' : DataW.TrodAll enc Try.prog W 0 (fun _ => true) true Try.f4.params.toList args.toList ds p := hA
  have hsz' : (DataW.weightsEach Try.prog (Try.f4.params.toList ++ []) (ds ++ [])).all (· ≤ reachBytes) = true := hsz
  rw [Try.params4] at hval' hA' hsz'
  rw [List.append_nil, List.append_nil] at hsz'
  obtain ⟨hc, hds⟩ := opened hval' hA' hsz'
  refine hc.mono fun e W' ⟨he, hg⟩ => ⟨_, he, ?_⟩
  exact law_post laid (by kernel_rfl) rfl Try.underlying4 rfl hds hW hg

theorem proved : Rows.SoundPartsSaid :=
  OpenClaim.holds_of_wide 4 Try.f4 rfl rfl rfl rfl rfl rfl rfl ⟨rfl, rfl, rfl, rfl, rfl⟩ rfl rfl rfl rfl rfl (by kernel_rfl) Try.func4 (by kernel_rfl)
    (of_decide_eq_true (by kernel_rfl)) (by unfold Func.isWrapper; first | (rw [if_pos (by decide +kernel)]; kernel_rfl) | (rw [if_neg (by decide +kernel)]; exact ⟨rfl, rfl⟩))
    (fun os started H enc _ => lifted os started H enc)
end Go.Proofs.Ytlapnbklbpeddaa.lawSoundParts
