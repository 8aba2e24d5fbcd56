/- FrontChooses: the front of any messages, to which kid they go on, and which are for each kid; it returns true for every input. -/
import Derived.Test.YtipbbbamjckjoaaWFrontChooses
import Derived.Test.YtipbbbamjckjoaaA
namespace Go.Proofs.Ytipbbbamjckjoaa.lawFrontChooses
open Go.ChangeShapes Go.WideShapes Go.ChangeAt Go.RowKit
set_option linter.unusedVariables false
set_option linter.unusedSimpArgs false

set_option maxRecDepth 100000 in
theorem opened {H : Type} {enc : TypeId × Value → H} {W : World} {base : Nat} {args : Array Value} {ds : List (DataW H)} {p : List MemPlace}
    (hval : ∀ (j : Nat) t v, (#[43, 22, 3] : Array TypeId)[j]? = some t → args[j]? = some v → Value.okWide Try.prog W .any base t v)
    (hA : DataW.TrodAll enc Try.prog W 0 (fun _ => true) true (#[43, 22, 3] : Array TypeId).toList args.toList ds p)
    (hsz : (DataW.weightsEach Try.prog (#[43, 22, 3] : Array TypeId).toList ds).all (· ≤ reachBytes) = true) :
    Calls Try.prog 8 args W (fun e w' => e = .returned (.bool true) ∧ Below W.heap.size W w') ∧ Rows.frontChoosesSpec.fn H (ds ++ []) = { results := [.lit (.bool true)], args := ds } := by
  obtain ⟨v0, v1, v2, d0, d1, d2, p0, p1, p2, rfl, rfl, h0, h1, h2⟩ := args3 hA
  obtain ⟨ps, hps, hsin, _⟩ := arg_slice Try.underlying43 (by kernel_rfl : Try.prog.cellsOf 9 = 1) (by omega) (by kernel_rfl : Try.prog.bytesOf 9 = 16) strCells Sz rd_strs (hval 0 _ v0 rfl rfl) h0 (Wt.of_each hsz (j := 0) rfl rfl)
  obtain ⟨l, hl, hin, hlen⟩ := arg_msgs (hval 1 _ v1 rfl rfl) h1 (Wt.of_each hsz (j := 1) rfl rfl)
  obtain ⟨i, rfl, hi⟩ := arg_int (hval 2 _ v2 rfl rfl) h2
  exact ⟨walk v0 v1 ps l i W hps hl hsin hin, rfl⟩

set_option maxRecDepth 100000 in
theorem lifted (os : Os) (started : os.Started) (H : Type) (enc : TypeId × Value → H) :
    ReturnsInHanded {} Try.checked os 8 .any (Rows.frontChoosesSpec.pre6 enc Try.prog Try.f8 Rows.frontChoosesRow.domain false) (Rows.frontChoosesSpec.post enc Try.prog Try.f8 false true false false) := by
  refine returnsInHanded_of_change_sized (C := Try.checked) own started (by kernel_rfl) Try.func8
    (ChangeSpec.witness6 (enc := enc) (C := Try.checked) false ⟨#[], #[.slice none 0 0, .slice none 0 0, .int .i64 0], []⟩ 8 (by kernel_rfl) (by kernel_rfl) (by kernel_rfl) (by kernel_rfl)) ?_
  intro W base args ds gs before hval hW hcnd hsz _
  obtain ⟨p, q, hA, hV, hpq, hfz, hnd⟩ := id hW
  obtain ⟨rfl, rfl⟩ := trodVars_none hV
  have hval' : ∀ (j : Nat) t v, Try.f8.params[j]? = some t → args[j]? = some v → Value.okWide Try.prog W .any base t v := hval
  have hA' : DataW.TrodAll enc Try.prog W 0 (fun _ => true) true Try.f8.params.toList args.toList ds p := hA
  have hsz' : (DataW.weightsEach Try.prog (Try.f8.params.toList ++ []) (ds ++ [])).all (· ≤ reachBytes) = true := hsz
  rw [Try.params8] at hval' hA' hsz'
  rw [List.append_nil, List.append_nil] at hsz'
  obtain ⟨hc, hds⟩ := opened hval' hA' hsz'
  refine hc.mono fun e W' ⟨he, hg⟩ => ⟨_, he, ?_⟩
  exact law_post laid (by kernel_rfl) rfl Try.underlying4 rfl hds hW hg

theorem proved : Rows.FrontChoosesSaid :=
  OpenClaim.holds_of_wide 8 Try.f8 rfl rfl rfl rfl rfl rfl rfl ⟨rfl, rfl, rfl, rfl, rfl⟩ rfl rfl rfl rfl rfl (by kernel_rfl) Try.func8 (by kernel_rfl)
    (of_decide_eq_true (by kernel_rfl)) (by unfold Func.isWrapper; first | (rw [if_pos (by decide +kernel)]; kernel_rfl) | (rw [if_neg (by decide +kernel)]; exact ⟨rfl, rfl⟩))
    (fun os started H enc _ => lifted os started H enc)
end Go.Proofs.Ytipbbbamjckjoaa.lawFrontChooses
