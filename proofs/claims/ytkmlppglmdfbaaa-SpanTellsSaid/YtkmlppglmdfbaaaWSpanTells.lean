/- The walk of the law SpanTells. -/
import Derived.Test.YtkmlppglmdfbaaaSpanM
import Derived.Test.YtkmlppglmdfbaaaSpanR2
import Derived.Test.YtkmlppglmdfbaaaEnds
import Derived.Test.YtkmlppglmdfbaaaSpanAwake
namespace Go.Proofs.Ytkmlppglmdfbaaa.lawSpanTells
open Go.ChangeShapes Go.WideShapes Go.ChangeAt Go.RowKit Go.Sort
set_option linter.unusedVariables false
set_option linter.unusedSimpArgs false
attribute [local go_sem ↓] run_eql_Span run_neq_Span

set_option maxHeartbeats 1000000 in
theorem walk (s t : Span) (k : ByteArray) (w : World) (h1 : Sz s.lo) (h2 : Sz s.hi) (h3 : Sz t.lo) (h4 : Sz t.hi) (h5 : Sz k) :
    Calls Try.prog 6 #[.agg #[.string s.lo, .string s.hi, .bool s.opn], .agg #[.string t.lo, .string t.hi, .bool t.opn], .string k] w fun e w' => e = .returned (.bool true) ∧ Below w.heap.size w w' := by
  cases hsh : shortB s t k 300
  · go_enter Try.func6, Try.ntmps6
    go_wp2_with fail
    (with_reducible refine (ref_Short s t k 300 _ h1 h2 h3 h4 h5).mono ?_); rintro e w' ⟨rfl, hb1⟩
    obtain ⟨hc_hb1, hf_hb1⟩ := bcell hb1
    have hz_hb1 := size_le hb1
    repeat (first | simp only [World.size_alloc] at hc_hb1 | simp only [World.size_setCell] at hc_hb1 | simp only [World.size_drew] at hc_hb1)
    repeat (first | simp only [World.size_alloc] at hf_hb1 | simp only [World.size_setCell] at hf_hb1 | simp only [World.size_drew] at hf_hb1)
    repeat (first | simp only [World.size_alloc] at hz_hb1 | simp only [World.size_setCell] at hz_hb1 | simp only [World.size_drew] at hz_hb1)
    have hb1_ := Lib.hid (below_next (w := w) (by go_grown) hb1)
    clear hb1
    have hb1 := hb1_.out
    clear hb1_
    go_wp2_with fail
    (with_reducible refine (span_awake _).mono ?_); rintro e w' ⟨rfl, hb2⟩
    obtain ⟨hc_hb2, hf_hb2⟩ := bcell hb2
    have hz_hb2 := size_le hb2
    repeat (first | simp only [World.size_alloc] at hc_hb2 | simp only [World.size_setCell] at hc_hb2 | simp only [World.size_drew] at hc_hb2)
    repeat (first | simp only [World.size_alloc] at hf_hb2 | simp only [World.size_setCell] at hf_hb2 | simp only [World.size_drew] at hf_hb2)
    repeat (first | simp only [World.size_alloc] at hz_hb2 | simp only [World.size_setCell] at hz_hb2 | simp only [World.size_drew] at hz_hb2)
    have hb2_ := Lib.hid (below_next (w := w) (by go_grown) hb2)
    clear hb2
    have hb2 := hb2_.out
    clear hb2_
    go_wp2
    go_ret
    exact ⟨rfl, by assumption⟩
  have hz := hsh
  simp only [shortB, Bool.and_eq_true, decide_eq_true_eq] at hz
  obtain ⟨⟨hz1, hz2⟩, hz3⟩ := hz
  have HS := Lib.hid (show s.lo.size ≤ maxLen ∧ s.hi.size ≤ maxLen ∧ t.lo.size ≤ maxLen ∧ t.hi.size ≤ maxLen ∧ k.size ≤ 300 from by unfold maxLen; omega)
  have HE := Lib.hid (show s.lo.size ≤ 300 ∧ s.hi.size ≤ 300 ∧ t.lo.size ≤ 300 ∧ t.hi.size ≤ 300 from by omega)
  have hxs : ∀ x ∈ ends s t k, x.size ≤ 301 := by
    intro x hx
    simp only [ends, List.mem_cons, List.not_mem_nil, or_false] at hx
    have e1 := size_nx s.lo
    have e2 := size_nx s.hi
    have e3 := size_nx t.lo
    have e4 := size_nx t.hi
    have e5 := size_nx k
    rcases hx with rfl | rfl | rfl | rfl | rfl | rfl | rfl | rfl | rfl | rfl | rfl <;> first | omega | (rw [size_em]; omega)
  have HX := Lib.hid hxs
  have HL := Lib.hid (same_ends s t k)
  have HN := Lib.hid (has_norm s)
  have HP := Lib.hid (has_point k)
  clear hz1 hz2 hz3 hxs h1 h2 h3 h4 h5
  go_enter Try.func6, Try.ntmps6
  go_wp2_with fail
  (with_reducible refine (ref_Short s t k 300 _ (by unfold Sz; have := HE.out; omega) (by unfold Sz; have := HE.out; omega) (by unfold Sz; have := HE.out; omega) (by unfold Sz; have := HE.out; omega) (by unfold Sz; have := HS.out; omega)).mono ?_); rintro e w' ⟨rfl, hb1⟩
  obtain ⟨hc_hb1, hf_hb1⟩ := bcell hb1
  have hz_hb1 := size_le hb1
  repeat (first | simp only [World.size_alloc] at hc_hb1 | simp only [World.size_setCell] at hc_hb1 | simp only [World.size_drew] at hc_hb1)
  repeat (first | simp only [World.size_alloc] at hf_hb1 | simp only [World.size_setCell] at hf_hb1 | simp only [World.size_drew] at hf_hb1)
  repeat (first | simp only [World.size_alloc] at hz_hb1 | simp only [World.size_setCell] at hz_hb1 | simp only [World.size_drew] at hz_hb1)
  have hb1_ := Lib.hid (below_next (w := w) (by go_grown) hb1)
  clear hb1
  have hb1 := hb1_.out
  clear hb1_
  rw [hsh]
  go_wp2_with fail
  refine (ref_Ends s t k _ HE.out.1 HE.out.2.1 HE.out.2.2.1 HE.out.2.2.2 HS.out.2.2.2.2).mono ?_
  rintro e w1 ⟨v, rfl, hsl, hb2⟩
  obtain ⟨hc_hb2, hf_hb2⟩ := bcell hb2
  have hz_hb2 := size_le hb2
  repeat (first | simp only [World.size_alloc] at hc_hb2 | simp only [World.size_setCell] at hc_hb2)
  have c0 := hc_hb2 w.heap.size 0 (by omega)
  have c1 := hc_hb2 w.heap.size 1 (by omega)
  have c2 := hc_hb2 w.heap.size 2 (by omega)
  have d0 := hc_hb2 (w.heap.size + 1) 0 (by omega)
  have d1 := hc_hb2 (w.heap.size + 1) 1 (by omega)
  have d2 := hc_hb2 (w.heap.size + 1) 2 (by omega)
  have k0 := hc_hb1 w.heap.size 0 (by omega)
  have k1 := hc_hb1 w.heap.size 1 (by omega)
  have k2 := hc_hb1 w.heap.size 2 (by omega)
  have l0 := hc_hb1 (w.heap.size + 1) 0 (by omega)
  have l1 := hc_hb1 (w.heap.size + 1) 1 (by omega)
  have l2 := hc_hb1 (w.heap.size + 1) 2 (by omega)
  simp [go_sem] at k0 k1 k2 l0 l1 l2
  rw [k0] at c0
  rw [k1] at c1
  rw [k2] at c2
  rw [l0] at d0
  rw [l1] at d1
  rw [l2] at d2
  have hbw1 : Below w.heap.size w w1 := below_next hb1 hb2
  have hs1 : w.heap.size + 1 < w1.heap.size := by omega
  clear k0 k1 k2 l0 l1 l2 hc_hb2 hf_hb2 hc_hb1 hf_hb1 hb1 hb2 hz_hb2 hz_hb1
  generalize ends s t k = E at *
  obtain ⟨A, c, rfl, hc1, hc2, _⟩ := id hsl
  unfold maxLen at hc2
  go_wp2
  go_loopw [7, 21] (fun a i w' => ∃ (j : Nat) (acc : Bool), j ≤ E.length ∧ i = .int .i64 j ∧ a = .bool acc ∧ Hid (((E.take j).all fun x => has s x == has t x) = acc) ∧ Hid (Below w1.heap.size w1 w')) (fun a i w' => E.length - (intOf i).toNat)
  case atStart => exact ⟨0, true, Nat.zero_le _, by go_num, rfl, Lib.hid (by simp), Lib.hid (Below.refl _ _)⟩
  case round =>
    obtain ⟨j, acc, hj, rfl, rfl, hacc, hbr⟩ := hrel
    have hbr' := hbr.out
    have hsr : w1.heap.size ≤ wr.heap.size := hbr'.size
    have hw1 : w.heap.size < wr.heap.size := by omega
    have hw2 : w.heap.size + 1 < wr.heap.size := by omega
    have c0' := (hbr'.cell (p := ⟨w.heap.size, 0, none⟩) (by show w.heap.size < w1.heap.size; omega)).trans c0
    have c1' := (hbr'.cell (p := ⟨w.heap.size, 1, none⟩) (by show w.heap.size < w1.heap.size; omega)).trans c1
    have c2' := (hbr'.cell (p := ⟨w.heap.size, 2, none⟩) (by show w.heap.size < w1.heap.size; omega)).trans c2
    have d0' := (hbr'.cell (p := ⟨w.heap.size + 1, 0, none⟩) (by show w.heap.size + 1 < w1.heap.size; omega)).trans d0
    have d1' := (hbr'.cell (p := ⟨w.heap.size + 1, 1, none⟩) (by show w.heap.size + 1 < w1.heap.size; omega)).trans d1
    have d2' := (hbr'.cell (p := ⟨w.heap.size + 1, 2, none⟩) (by show w.heap.size + 1 < w1.heap.size; omega)).trans d2
    by_cases hlt : j < E.length
    · obtain ⟨b, off, rfl, hb, hcell⟩ := SlS.at_ hsl hlt
      have hcell' := (hbr'.cell (p := ⟨b, off + j, none⟩) hb).trans hcell
      have hxz := HX.out _ (List.getElem_mem hlt)
      have HT := Lib.hid (List.take_succ_eq_append_getElem hlt)
      generalize hxe : E[j] = x at *
      have hNx := HN.out x
      have hPx := HP.out x
      rw [← beq_bl] at hPx
      have hAx := has_all x
      clear hbr' hxe hcell c0 c1 c2 d0 d1 d2 hb hbw1
      have HXZ := Lib.hid (show x.size ≤ maxLen from by unfold maxLen; omega)
      clear hxz
      go_wp2
      refine wp_region_below (by kernel_rfl) (by kernel_rfl) ?_
      have hgr := @grow_cell
      repeat (go_big_quiet_step (first | (go_at_call 22; first | (with_reducible exact qb (span_Has s x _)) | (with_reducible exact qb (span_Has (norm s) x _)) | (with_reducible exact qb (span_Has (point k) x _)) | (with_reducible exact qb (span_Has all x _))) | (go_at_call 23; with_reducible exact qb (ref_Has s x _ HS.out.1 HS.out.2.1 HXZ.out)) | (go_at_call 24; with_reducible exact qb (span_Norm s _)) | (go_at_call 25; with_reducible exact qb (span_Point k (by have := HS.out; omega) _)) | (go_at_call 26; with_reducible exact qb (span_All _))))
      refine wpQuiet_nil ?_
      clear hgr
      intro w2 hb2
      have hbr2 : Below w1.heap.size w1 w2 := hbr.out.trans (hb2.mono hsr)
      have hs2 : wr.heap.size ≤ w2.heap.size := hb2.size
      have hv1 : w.heap.size < w2.heap.size := by omega
      have hv2 : w.heap.size + 1 < w2.heap.size := by omega
      have e0 := (hb2.cell (p := ⟨w.heap.size, 0, none⟩) hw1).trans c0'
      have e1 := (hb2.cell (p := ⟨w.heap.size, 1, none⟩) hw1).trans c1'
      have e2 := (hb2.cell (p := ⟨w.heap.size, 2, none⟩) hw1).trans c2'
      have g0 := (hb2.cell (p := ⟨w.heap.size + 1, 0, none⟩) hw2).trans d0'
      have g1 := (hb2.cell (p := ⟨w.heap.size + 1, 1, none⟩) hw2).trans d1'
      have g2 := (hb2.cell (p := ⟨w.heap.size + 1, 2, none⟩) hw2).trans d2'
      have hsr2 : w1.heap.size ≤ w2.heap.size := by omega
      have HBR2 := Lib.hid hbr2
      clear c0' c1' c2' d0' d1' d2' hb2 hbr2 hcell' hNx hPx hAx hw1 hw2 hs2
      cases acc
      · go_wp2
        refine wp_region_below (by kernel_rfl) (by kernel_rfl) ?_
        have hgr := @grow_cell
        repeat (go_big_quiet_step (fail))
        refine wpQuiet_nil ?_
        clear hgr
        intro w3 hb3
        have HB3 := Lib.hid (HBR2.out.trans (hb3.mono hsr2))
        clear hb3
        go_wp2
        go_roundw
        case rel => exact ⟨j + 1, false, by omega, by go_num, rfl, Lib.hid (by rw [HT.out, List.all_append, hacc.out]; rfl), HB3⟩
        case measure => simp [intOf]; omega
      · go_wp2
        refine wp_region_below (by kernel_rfl) (by kernel_rfl) ?_
        have hgr := @grow_cell
        repeat (go_big_quiet_step (first | (with_reducible exact qb (ref_Has s x _ HS.out.1 HS.out.2.1 HXZ.out)) | (with_reducible exact qb (ref_Has t x _ HS.out.2.2.1 HS.out.2.2.2.1 HXZ.out))))
        refine wpQuiet_nil ?_
        clear hgr
        intro w3 hb3
        have HB3 := Lib.hid (HBR2.out.trans (hb3.mono hsr2))
        clear hb3
        go_wp2
        go_roundw
        case rel => exact ⟨j + 1, (has s x == has t x), by omega, by go_num, rfl, Lib.hid (by rw [HT.out, List.all_append, hacc.out]; simp), HB3⟩
        case measure => simp [intOf]; omega
    · obtain rfl : j = E.length := by omega
      have hsame : acc = same s t := by rw [← hacc.out, List.take_length]; exact HL.out
      subst hsame
      have hself := @eqv_self Span _
      have hall : eqv (⟨all.lo, all.hi, all.opn⟩ : Span) ⟨⟨#[]⟩, ⟨#[]⟩, true⟩ = true := eqv_self _
      have HBW := Lib.hid (below_next hbw1 hbr')
      clear hbr' c0 c1 c2 d0 d1 d2 hacc hbw1
      go_wp2
      refine wp_region_below (by kernel_rfl) (by kernel_rfl) ?_
      have hgr := @grow_cell
      repeat (go_big_quiet_step (first | (go_at_call 27; with_reducible exact qb (span_Empty s _)) | (go_at_call 28; with_reducible exact qb (ref_Empty s _ HS.out.1 HS.out.2.1)) | (go_at_call 24; with_reducible exact qb (span_Norm s _)) | (go_at_call 29; with_reducible exact qb (ref_Norm s _ HS.out.1 HS.out.2.1)) | (go_at_call 30; with_reducible exact qb (span_Same s t _)) | (go_at_call 26; with_reducible exact qb (span_All _)) | (go_at_call 20; with_reducible exact qb (span_awake _))))
      refine wpQuiet_nil ?_
      clear hgr
      intro w3 hb3
      have HB3 := Lib.hid (below_next HBW.out hb3)
      clear hb3
      go_wp2
      go_ret
      exact ⟨rfl, HB3.out⟩
end Go.Proofs.Ytkmlppglmdfbaaa.lawSpanTells
