/- The walk of the law SpanWithin. -/
import Derived.Test.YtkmlppglmdfbaaaSpanM
import Derived.Test.YtkmlppglmdfbaaaSpanR2
import Derived.Test.YtkmlppglmdfbaaaEnds
import Derived.Test.YtkmlppglmdfbaaaSpanAwake
import Derived.Deep.Cut
namespace Go.Proofs.Ytkmlppglmdfbaaa.lawSpanWithin
open Go.ChangeShapes Go.WideShapes Go.ChangeAt Go.RowKit Go.Sort
set_option linter.unusedVariables false
set_option linter.unusedSimpArgs false

set_option maxHeartbeats 1000000 in
theorem walk (s t : Span) (w : World) (h1 : Sz s.lo) (h2 : Sz s.hi) (h3 : Sz t.lo) (h4 : Sz t.hi) :
    Calls Try.prog 8 #[.agg #[.string s.lo, .string s.hi, .bool s.opn], .agg #[.string t.lo, .string t.hi, .bool t.opn]] w fun e w' => e = .returned (.bool true) ∧ Below w.heap.size w w' := by
  have h5 : Sz em := by unfold Sz; rw [size_em]; omega
  cases hsh : shortB s t em 300
  · go_enter Try.func8, Try.ntmps8
    go_wp2_with fail
    (with_reducible refine (ref_Short s t em 300 _ h1 h2 h3 h4 h5).mono ?_); rintro e w' ⟨rfl, hb1⟩
    obtain ⟨hc_hb1, hf_hb1⟩ := bcell hb1
    have hz_hb1 := size_le hb1
    repeat (first | simp only [World.size_alloc] at hc_hb1 | simp only [World.size_setCell] at hc_hb1 | simp only [World.size_drew] at hc_hb1)
    repeat (first | simp only [World.size_alloc] at hf_hb1 | simp only [World.size_setCell] at hf_hb1 | simp only [World.size_drew] at hf_hb1)
    repeat (first | simp only [World.size_alloc] at hz_hb1 | simp only [World.size_setCell] at hz_hb1 | simp only [World.size_drew] at hz_hb1)
    have hb1_ := Lib.hid (below_next (w := w) (by go_grown) hb1)
    clear hb1
    have hb1 := hb1_.out
    clear hb1_
    go_wp2_with fail
    (with_reducible refine (span_awake _).mono ?_); rintro e w' ⟨rfl, hb2⟩
    obtain ⟨hc_hb2, hf_hb2⟩ := bcell hb2
    have hz_hb2 := size_le hb2
    repeat (first | simp only [World.size_alloc] at hc_hb2 | simp only [World.size_setCell] at hc_hb2 | simp only [World.size_drew] at hc_hb2)
    repeat (first | simp only [World.size_alloc] at hf_hb2 | simp only [World.size_setCell] at hf_hb2 | simp only [World.size_drew] at hf_hb2)
    repeat (first | simp only [World.size_alloc] at hz_hb2 | simp only [World.size_setCell] at hz_hb2 | simp only [World.size_drew] at hz_hb2)
    have hb2_ := Lib.hid (below_next (w := w) (by go_grown) hb2)
    clear hb2
    have hb2 := hb2_.out
    clear hb2_
    go_wp2
    go_ret
    exact ⟨rfl, by assumption⟩
  have hz := hsh
  simp only [shortB, Bool.and_eq_true, decide_eq_true_eq] at hz
  obtain ⟨⟨hz1, hz2⟩, hz3⟩ := hz
  have HS := Lib.hid (show s.lo.size ≤ maxLen ∧ s.hi.size ≤ maxLen ∧ t.lo.size ≤ maxLen ∧ t.hi.size ≤ maxLen from by unfold maxLen; omega)
  have HE := Lib.hid (show s.lo.size ≤ 300 ∧ s.hi.size ≤ 300 ∧ t.lo.size ≤ 300 ∧ t.hi.size ≤ 300 from by omega)
  have hxs : ∀ x ∈ ends s t em, x.size ≤ 301 := by
    intro x hx
    simp only [ends, List.mem_cons, List.not_mem_nil, or_false] at hx
    have e1 := size_nx s.lo
    have e2 := size_nx s.hi
    have e3 := size_nx t.lo
    have e4 := size_nx t.hi
    have e5 := size_nx em
    have e6 := size_em
    rcases hx with rfl | rfl | rfl | rfl | rfl | rfl | rfl | rfl | rfl | rfl | rfl <;> omega
  have HX := Lib.hid hxs
  have HL := Lib.hid (within_ends s t em)
  have HM := Lib.hid (touch_ends s t em)
  have HC := Lib.hid (touch_comm s t)
  have H5 := Lib.hid h5
  clear hz1 hz2 hz3 hxs h1 h2 h3 h4 h5
  go_enter Try.func8, Try.ntmps8
  go_wp2_with fail
  (with_reducible refine (ref_Short s t em 300 _ (by unfold Sz; have := HE.out; omega) (by unfold Sz; have := HE.out; omega) (by unfold Sz; have := HE.out; omega) (by unfold Sz; have := HE.out; omega) H5.out).mono ?_); rintro e w' ⟨rfl, hb1⟩
  obtain ⟨hc_hb1, hf_hb1⟩ := bcell hb1
  have hz_hb1 := size_le hb1
  repeat (first | simp only [World.size_alloc] at hc_hb1 | simp only [World.size_setCell] at hc_hb1 | simp only [World.size_drew] at hc_hb1)
  repeat (first | simp only [World.size_alloc] at hf_hb1 | simp only [World.size_setCell] at hf_hb1 | simp only [World.size_drew] at hf_hb1)
  repeat (first | simp only [World.size_alloc] at hz_hb1 | simp only [World.size_setCell] at hz_hb1 | simp only [World.size_drew] at hz_hb1)
  have hb1_ := Lib.hid (below_next (w := w) (by go_grown) hb1)
  clear hb1
  have hb1 := hb1_.out
  clear hb1_
  rw [hsh]
  go_wp2_with fail
  refine (ref_Ends s t em _ HE.out.1 HE.out.2.1 HE.out.2.2.1 HE.out.2.2.2 (by rw [size_em]; omega)).mono ?_
  rintro e w1 ⟨v, rfl, hsl, hb2⟩
  obtain ⟨hc_hb2, hf_hb2⟩ := bcell hb2
  have hz_hb2 := size_le hb2
  repeat (first | simp only [World.size_alloc] at hc_hb2 | simp only [World.size_setCell] at hc_hb2)
  have c0 := hc_hb2 w.heap.size 0 (by omega)
  have c1 := hc_hb2 w.heap.size 1 (by omega)
  have c2 := hc_hb2 w.heap.size 2 (by omega)
  have d0 := hc_hb2 (w.heap.size + 1) 0 (by omega)
  have d1 := hc_hb2 (w.heap.size + 1) 1 (by omega)
  have d2 := hc_hb2 (w.heap.size + 1) 2 (by omega)
  have k0 := hc_hb1 w.heap.size 0 (by omega)
  have k1 := hc_hb1 w.heap.size 1 (by omega)
  have k2 := hc_hb1 w.heap.size 2 (by omega)
  have l0 := hc_hb1 (w.heap.size + 1) 0 (by omega)
  have l1 := hc_hb1 (w.heap.size + 1) 1 (by omega)
  have l2 := hc_hb1 (w.heap.size + 1) 2 (by omega)
  simp [go_sem] at k0 k1 k2 l0 l1 l2
  rw [k0] at c0
  rw [k1] at c1
  rw [k2] at c2
  rw [l0] at d0
  rw [l1] at d1
  rw [l2] at d2
  have hbw1 : Below w.heap.size w w1 := below_next hb1 hb2
  have hs1 : w.heap.size + 1 < w1.heap.size := by omega
  clear k0 k1 k2 l0 l1 l2 hc_hb2 hf_hb2 hc_hb1 hf_hb1 hb1 hb2 hz_hb2 hz_hb1
  generalize ends s t em = E at *
  obtain ⟨A, c, rfl, hc1, hc2, _⟩ := id hsl
  unfold maxLen at hc2
  go_wp2
  go_loopw [5, 6, 18] (fun a o i w' => ∃ (j : Nat) (acc som : Bool), j ≤ E.length ∧ i = .int .i64 j ∧ a = .bool acc ∧ o = .bool som ∧ Hid (((E.take j).all fun x => !has s x || has t x) = acc) ∧ Hid (((E.take j).any fun x => has s x && has t x) = som) ∧ Hid (Below w1.heap.size w1 w')) (fun a o i w' => E.length - (intOf i).toNat)
  case atStart => exact ⟨0, true, false, Nat.zero_le _, by go_num, rfl, rfl, Lib.hid (by simp), Lib.hid (by simp), Lib.hid (Below.refl _ _)⟩
  case round =>
    obtain ⟨j, acc, som, hj, rfl, rfl, rfl, hacc, hsom, hbr⟩ := hrel
    have hbr' := hbr.out
    have hsr : w1.heap.size ≤ wr.heap.size := hbr'.size
    have hw1 : w.heap.size < wr.heap.size := by omega
    have hw2 : w.heap.size + 1 < wr.heap.size := by omega
    have c0' := (hbr'.cell (p := ⟨w.heap.size, 0, none⟩) (by show w.heap.size < w1.heap.size; omega)).trans c0
    have c1' := (hbr'.cell (p := ⟨w.heap.size, 1, none⟩) (by show w.heap.size < w1.heap.size; omega)).trans c1
    have c2' := (hbr'.cell (p := ⟨w.heap.size, 2, none⟩) (by show w.heap.size < w1.heap.size; omega)).trans c2
    have d0' := (hbr'.cell (p := ⟨w.heap.size + 1, 0, none⟩) (by show w.heap.size + 1 < w1.heap.size; omega)).trans d0
    have d1' := (hbr'.cell (p := ⟨w.heap.size + 1, 1, none⟩) (by show w.heap.size + 1 < w1.heap.size; omega)).trans d1
    have d2' := (hbr'.cell (p := ⟨w.heap.size + 1, 2, none⟩) (by show w.heap.size + 1 < w1.heap.size; omega)).trans d2
    by_cases hlt : j < E.length
    · obtain ⟨b, off, rfl, hb, hcell⟩ := SlS.at_ hsl hlt
      have hcell' := (hbr'.cell (p := ⟨b, off + j, none⟩) hb).trans hcell
      have hxz := HX.out _ (List.getElem_mem hlt)
      have HT := Lib.hid (List.take_succ_eq_append_getElem hlt)
      generalize hxe : E[j] = x at *
      clear hbr' hxe hcell c0 c1 c2 d0 d1 d2 hb hbw1
      have HXZ := Lib.hid (show x.size ≤ maxLen from by unfold maxLen; omega)
      clear hxz
      obtain ⟨bs, hhs⟩ : ∃ bs, has s x = bs := ⟨_, rfl⟩
      have HRs : Hid (∀ W, Calls Try.prog 23 #[.agg #[.string s.lo, .string s.hi, .bool s.opn], .string x] W fun e w' => e = .returned (.bool bs) ∧ Below W.heap.size W w') := Lib.hid (fun W => by have := ref_Has s x W HS.out.1 HS.out.2.1 HXZ.out; rw [hhs] at this; exact this)
      cases acc <;> cases som <;> cases bs
      all_goals
        go_upto_region 7 with (fail)
        refine wp_region_below0 ?_
        have hgr := @grow_cell
        repeat (go_big_quiet_step (first | (with_reducible exact qb (HRs.out _)) | (with_reducible exact qb (ref_Has t x _ HS.out.2.2.1 HS.out.2.2.2 HXZ.out))))
        refine wpQuiet_nil ?_
        clear hgr
        intro w2 hb2
        have hsr2 : wr.heap.size ≤ w2.heap.size := hb2.size
        have hv1 : w.heap.size < w2.heap.size := by omega
        have hv2 : w.heap.size + 1 < w2.heap.size := by omega
        have hsr3 : w1.heap.size ≤ w2.heap.size := by omega
        have c0'' := (hb2.cell (p := ⟨w.heap.size, 0, none⟩) hw1).trans c0'
        have c1'' := (hb2.cell (p := ⟨w.heap.size, 1, none⟩) hw1).trans c1'
        have c2'' := (hb2.cell (p := ⟨w.heap.size, 2, none⟩) hw1).trans c2'
        have d0'' := (hb2.cell (p := ⟨w.heap.size + 1, 0, none⟩) hw2).trans d0'
        have d1'' := (hb2.cell (p := ⟨w.heap.size + 1, 1, none⟩) hw2).trans d1'
        have d2'' := (hb2.cell (p := ⟨w.heap.size + 1, 2, none⟩) hw2).trans d2'
        have HBR2 := Lib.hid (hbr.out.trans (hb2.mono hsr))
        clear hb2 c0' c1' c2' d0' d1' d2' hcell' hw1 hw2 hsr2
        go_upto_region 8 with (fail)
        refine wp_region_below0 ?_
        have hgr := @grow_cell
        repeat (go_big_quiet_step (first | (with_reducible exact qb (HRs.out _)) | (with_reducible exact qb (ref_Has t x _ HS.out.2.2.1 HS.out.2.2.2 HXZ.out))))
        refine wpQuiet_nil ?_
        clear hgr
        intro w3 hb3
        have HBR3 := Lib.hid (HBR2.out.trans (hb3.mono hsr3))
        clear hb3
        go_wp2
        go_roundw
        case rel => exact ⟨j + 1, _, _, by omega, by go_num, rfl, rfl, Lib.hid (by rw [HT.out, List.all_append, hacc.out]; simp [hhs]), Lib.hid (by rw [HT.out, List.any_append, hsom.out]; simp [hhs]), HBR3⟩
        case measure => simp [intOf]; omega
    · obtain rfl : j = E.length := by omega
      have hsame : acc = within s t := by rw [← hacc.out, List.take_length]; exact HL.out
      have hsm : som = touch s t := by rw [← hsom.out, List.take_length]; exact HM.out
      subst hsame hsm
      have HTC : Hid (∀ W, Calls Try.prog 37 #[.agg #[.string t.lo, .string t.hi, .bool t.opn], .agg #[.string s.lo, .string s.hi, .bool s.opn]] W fun e w' => e = .returned (.bool (touch s t)) ∧ Below W.heap.size W w') := Lib.hid (fun W => by have := span_Touch t s W; rw [← HC.out] at this; exact this)
      have HBW := Lib.hid (below_next hbw1 hbr')
      clear hbr' c0 c1 c2 d0 d1 d2 hacc hsom hbw1
      go_upto_region 10 with (fail)
      refine wp_region_below0 ?_
      have hgr := @grow_cell
      repeat (go_big_quiet_step (first | (go_at_call 36; with_reducible exact qb (span_Within s t _)) | (with_reducible exact qb (span_Touch s t _)) | (with_reducible exact qb (HTC.out _)) | (go_at_call 20; with_reducible exact qb (span_awake _))))
      refine wpQuiet_nil ?_
      clear hgr
      intro w3 hb3
      have HB3 := Lib.hid (below_next HBW.out hb3)
      clear hb3
      go_wp2
      go_ret
      exact ⟨rfl, HB3.out⟩
end Go.Proofs.Ytkmlppglmdfbaaa.lawSpanWithin
