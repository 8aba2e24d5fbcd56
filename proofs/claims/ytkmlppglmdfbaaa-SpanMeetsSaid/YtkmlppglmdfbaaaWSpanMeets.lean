/- The walk of the law SpanMeets. -/
import Derived.Test.YtkmlppglmdfbaaaSpanM
import Derived.Test.YtkmlppglmdfbaaaSpanR2
import Derived.Test.YtkmlppglmdfbaaaEnds
import Derived.Test.YtkmlppglmdfbaaaSpanAwake
import Derived.Test.YtkmlppglmdfbaaaGrowTail
import Derived.Deep.Cut
namespace Go.Proofs.Ytkmlppglmdfbaaa.lawSpanMeets
open Go.ChangeShapes Go.WideShapes Go.ChangeAt Go.RowKit Go.Sort
set_option linter.unusedVariables false
set_option maxRecDepth 20000
set_option linter.unusedSimpArgs false
attribute [local go_sem ↓] run_eql_Span run_neq_Span

theorem norm_Ok {n : Nat} {s : Span} (h : s.Ok n) : (norm s).Ok n := by
  unfold norm
  have := size_em
  split
  · exact ⟨Nat.zero_le _, Nat.zero_le _⟩
  · split
    · exact ⟨h.1, Nat.zero_le _⟩
    · exact h
theorem meet_Ok {n : Nat} {s t : Span} (h : s.Ok n) (h' : t.Ok n) : (meet s t).Ok n := by
  refine norm_Ok ⟨?_, ?_⟩
  · show (mx s.lo t.lo).size ≤ n
    unfold mx; split
    · exact h'.1
    · exact h.1
  · show (meetHi s t).size ≤ n
    unfold meetHi mn
    split
    · exact h'.2
    · split
      · exact h.2
      · split
        · exact h'.2
        · exact h.2
theorem norm_meet (s t : Span) : norm (meet s t) = meet s t := norm_norm _

set_option maxHeartbeats 1000000 in
theorem walk (s t : Span) (k : ByteArray) (w : World) (h1 : Sz s.lo) (h2 : Sz s.hi) (h3 : Sz t.lo) (h4 : Sz t.hi) (h5 : Sz k) :
    Calls Try.prog 7 #[.agg #[.string s.lo, .string s.hi, .bool s.opn], .agg #[.string t.lo, .string t.hi, .bool t.opn], .string k] w fun e w' => e = .returned (.bool true) ∧ Below w.heap.size w w' := by
  cases hsh : shortB s t k 300
  · go_enter Try.func7, Try.ntmps7
    go_wp2_with fail
    (with_reducible refine (ref_Short s t k 300 _ h1 h2 h3 h4 h5).mono ?_); rintro e w' ⟨rfl, hb1⟩
    obtain ⟨hc_hb1, hf_hb1⟩ := bcell hb1
    have hz_hb1 := size_le hb1
    repeat (first | simp only [World.size_alloc] at hc_hb1 | simp only [World.size_setCell] at hc_hb1 | simp only [World.size_drew] at hc_hb1)
    repeat (first | simp only [World.size_alloc] at hf_hb1 | simp only [World.size_setCell] at hf_hb1 | simp only [World.size_drew] at hf_hb1)
    repeat (first | simp only [World.size_alloc] at hz_hb1 | simp only [World.size_setCell] at hz_hb1 | simp only [World.size_drew] at hz_hb1)
    have hb1_ := Lib.hid (below_next (w := w) (by go_grown) hb1)
    clear hb1
    have hb1 := hb1_.out
    clear hb1_
    go_wp2_with fail
    (with_reducible refine (span_awake _).mono ?_); rintro e w' ⟨rfl, hb2⟩
    obtain ⟨hc_hb2, hf_hb2⟩ := bcell hb2
    have hz_hb2 := size_le hb2
    repeat (first | simp only [World.size_alloc] at hc_hb2 | simp only [World.size_setCell] at hc_hb2 | simp only [World.size_drew] at hc_hb2)
    repeat (first | simp only [World.size_alloc] at hf_hb2 | simp only [World.size_setCell] at hf_hb2 | simp only [World.size_drew] at hf_hb2)
    repeat (first | simp only [World.size_alloc] at hz_hb2 | simp only [World.size_setCell] at hz_hb2 | simp only [World.size_drew] at hz_hb2)
    have hb2_ := Lib.hid (below_next (w := w) (by go_grown) hb2)
    clear hb2
    have hb2 := hb2_.out
    clear hb2_
    go_wp2
    go_ret
    exact ⟨rfl, by assumption⟩
  have hz := hsh
  simp only [shortB, Bool.and_eq_true, decide_eq_true_eq] at hz
  obtain ⟨⟨hz1, hz2⟩, hz3⟩ := hz
  have HS := Lib.hid (show s.lo.size ≤ maxLen ∧ s.hi.size ≤ maxLen ∧ t.lo.size ≤ maxLen ∧ t.hi.size ≤ maxLen ∧ k.size ≤ 300 from by unfold maxLen; omega)
  have HE := Lib.hid (show s.lo.size ≤ 300 ∧ s.hi.size ≤ 300 ∧ t.lo.size ≤ 300 ∧ t.hi.size ≤ 300 from by omega)
  have okS : s.Ok 300 := ⟨HE.out.1, HE.out.2.1⟩
  have okT : t.Ok 300 := ⟨HE.out.2.2.1, HE.out.2.2.2⟩
  have okM := meet_Ok okS okT
  have okB : (below s k).Ok 300 := meet_Ok okS ⟨Nat.zero_le _, HS.out.2.2.2.2⟩
  have okF : (from_ s k).Ok 300 := meet_Ok okS ⟨HS.out.2.2.2.2, Nat.zero_le _⟩
  have HO := Lib.hid (show (meet s t).lo.size ≤ maxLen ∧ (meet s t).hi.size ≤ maxLen ∧ (below s k).lo.size ≤ maxLen ∧ (below s k).hi.size ≤ maxLen ∧ (from_ s k).lo.size ≤ maxLen ∧ (from_ s k).hi.size ≤ maxLen from by
    have := okM.1; have := okM.2; have := okB.1; have := okB.2; have := okF.1; have := okF.2; unfold maxLen; omega)
  have hxs : ∀ x ∈ ends s t k, x.size ≤ 301 := by
    intro x hx
    simp only [ends, List.mem_cons, List.not_mem_nil, or_false] at hx
    have e1 := size_nx s.lo
    have e2 := size_nx s.hi
    have e3 := size_nx t.lo
    have e4 := size_nx t.hi
    have e5 := size_nx k
    rcases hx with rfl | rfl | rfl | rfl | rfl | rfl | rfl | rfl | rfl | rfl | rfl <;> first | omega | (rw [size_em]; omega)
  have HX := Lib.hid hxs
  have HZ := Lib.hid (show Sz s.lo ∧ Sz s.hi ∧ Sz t.lo ∧ Sz t.hi ∧ Sz k from ⟨h1, h2, h3, h4, h5⟩)
  have NM : Hid (∀ W, Calls Try.prog 29 #[.agg #[.string (meet s t).lo, .string (meet s t).hi, .bool (meet s t).opn]] W fun e w' => e = .returned (.agg #[.string (meet s t).lo, .string (meet s t).hi, .bool (meet s t).opn]) ∧ Below W.heap.size W w') := Lib.hid (fun W => by have := ref_Norm (meet s t) W HO.out.1 HO.out.2.1; rw [norm_meet] at this; exact this)
  have NB : Hid (∀ W, Calls Try.prog 29 #[.agg #[.string (below s k).lo, .string (below s k).hi, .bool (below s k).opn]] W fun e w' => e = .returned (.agg #[.string (below s k).lo, .string (below s k).hi, .bool (below s k).opn]) ∧ Below W.heap.size W w') := Lib.hid (fun W => by have := ref_Norm (below s k) W HO.out.2.2.1 HO.out.2.2.2.1; rw [show norm (below s k) = below s k from norm_meet _ _] at this; exact this)
  have NF : Hid (∀ W, Calls Try.prog 29 #[.agg #[.string (from_ s k).lo, .string (from_ s k).hi, .bool (from_ s k).opn]] W fun e w' => e = .returned (.agg #[.string (from_ s k).lo, .string (from_ s k).hi, .bool (from_ s k).opn]) ∧ Below W.heap.size W w') := Lib.hid (fun W => by have := ref_Norm (from_ s k) W HO.out.2.2.2.2.1 HO.out.2.2.2.2.2; rw [show norm (from_ s k) = from_ s k from norm_meet _ _] at this; exact this)
  clear hz1 hz2 hz3 hxs h1 h2 h3 h4 h5 okS okT okM okB okF
  go_enter Try.func7, Try.ntmps7
  go_wp2_with fail
  (with_reducible refine (ref_Short s t k 300 _ HZ.out.1 HZ.out.2.1 HZ.out.2.2.1 HZ.out.2.2.2.1 HZ.out.2.2.2.2).mono ?_); rintro e w1 ⟨rfl, hb_w1⟩
  obtain ⟨hc_w1, hf_w1⟩ := bcell hb_w1
  have hz_w1 := size_le hb_w1
  repeat (first | simp only [World.size_alloc] at hc_w1 | simp only [World.size_setCell] at hc_w1 | simp only [World.size_drew] at hc_w1)
  repeat (first | simp only [World.size_alloc] at hf_w1 | simp only [World.size_setCell] at hf_w1 | simp only [World.size_drew] at hf_w1)
  repeat (first | simp only [World.size_alloc] at hz_w1 | simp only [World.size_setCell] at hz_w1 | simp only [World.size_drew] at hz_w1)
  have l_w1_s : w.heap.size < w1.heap.size := by omega
  have c_w1_s_0 := hc_w1 (w.heap.size) 0 (by omega)
  (try simp [go_sem] at c_w1_s_0)
  have c_w1_s_1 := hc_w1 (w.heap.size) 1 (by omega)
  (try simp [go_sem] at c_w1_s_1)
  have c_w1_s_2 := hc_w1 (w.heap.size) 2 (by omega)
  (try simp [go_sem] at c_w1_s_2)
  have l_w1_sp1 : w.heap.size + 1 < w1.heap.size := by omega
  have c_w1_sp1_0 := hc_w1 (w.heap.size + 1) 0 (by omega)
  (try simp [go_sem] at c_w1_sp1_0)
  have c_w1_sp1_1 := hc_w1 (w.heap.size + 1) 1 (by omega)
  (try simp [go_sem] at c_w1_sp1_1)
  have c_w1_sp1_2 := hc_w1 (w.heap.size + 1) 2 (by omega)
  (try simp [go_sem] at c_w1_sp1_2)
  have hb_w1_ := Lib.hid (below_next (w := w) (by go_grown) hb_w1)
  clear hc_w1 hf_w1 hb_w1
  have hb_w1 := hb_w1_.out
  rw [hsh]
  go_upto_region 3 with (fail)
  refine wp_region_grow_tail 9 12 [(7, Obj.cells #[.string ⟨#[]⟩, .string ⟨#[]⟩, .bool false] 33), (8, Obj.cells #[.string ⟨#[]⟩, .string ⟨#[]⟩, .bool false] 33), (9, Obj.cells #[.string ⟨#[]⟩, .string ⟨#[]⟩, .bool false] 33)] (by kernel_rfl) (by kernel_rfl) rfl (by decide) (by kernel_rfl) ?_ ?_
  · intro j x hx
    match j, hx with
    | 0, hx => injection hx with hx; subst hx; exact ⟨_, rfl, rfl, fun _ => rfl, fun a W => by simp [go_sem]⟩
    | 1, hx => injection hx with hx; subst hx; exact ⟨_, rfl, rfl, fun _ => rfl, fun a W => by simp [go_sem]⟩
    | 2, hx => injection hx with hx; subst hx; exact ⟨_, rfl, rfl, fun _ => rfl, fun a W => by simp [go_sem]⟩
  refine ⟨.agg #[.string s.lo, .string s.hi, .bool s.opn], .inl ⟨rfl, fun W hb => ?_⟩, ?_⟩
  · simp [Oper.quietAt, Oper.quietUpon, go_sem, gcell hb, *]
  refine ⟨.agg #[.string t.lo, .string t.hi, .bool t.opn], .inl ⟨rfl, fun W hb => ?_⟩, ?_⟩
  · simp [Oper.quietAt, Oper.quietUpon, go_sem, gcell hb, *]
  refine ⟨.agg #[.string (meet s t).lo, .string (meet s t).hi, .bool (meet s t).opn], .inl ⟨rfl, fun W hb => ?_⟩, ?_⟩
  · (simp [Oper.quietAt, Oper.quietUpon, go_sem]; exact span_Meet s t W)
  refine ⟨.agg #[.string s.lo, .string s.hi, .bool s.opn], .inl ⟨rfl, fun W hb => ?_⟩, ?_⟩
  · simp [Oper.quietAt, Oper.quietUpon, go_sem, gcell hb, *]
  refine ⟨.string k, .inl ⟨rfl, fun W hb => ?_⟩, ?_⟩
  · simp [Oper.quietAt, Oper.quietUpon, go_sem, gcell hb, *]
  refine ⟨.agg #[.string (below s k).lo, .string (below s k).hi, .bool (below s k).opn], .inl ⟨rfl, fun W hb => ?_⟩, ?_⟩
  · (simp [Oper.quietAt, Oper.quietUpon, go_sem]; exact span_Below s k W)
  refine ⟨.agg #[.string s.lo, .string s.hi, .bool s.opn], .inl ⟨rfl, fun W hb => ?_⟩, ?_⟩
  · simp [Oper.quietAt, Oper.quietUpon, go_sem, gcell hb, *]
  refine ⟨.string k, .inl ⟨rfl, fun W hb => ?_⟩, ?_⟩
  · simp [Oper.quietAt, Oper.quietUpon, go_sem, gcell hb, *]
  refine ⟨.agg #[.string (from_ s k).lo, .string (from_ s k).hi, .bool (from_ s k).opn], .inl ⟨rfl, fun W hb => ?_⟩, ?_⟩
  · (simp [Oper.quietAt, Oper.quietUpon, go_sem]; exact span_From s k W)
  intro gs W hb hg hinj
  obtain ⟨l0, m0, x0⟩ := hg 0 _ rfl
  obtain ⟨l1, m1, x1⟩ := hg 1 _ rfl
  obtain ⟨l2, m2, x2⟩ := hg 2 _ rfl
  have n01 : gs 0 ≠ gs 1 := fun e => by have := hinj 0 1 (by decide) (by decide) e; omega
  have n02 : gs 0 ≠ gs 2 := fun e => by have := hinj 0 2 (by decide) (by decide) e; omega
  have n12 : gs 1 ≠ gs 2 := fun e => by have := hinj 1 2 (by decide) (by decide) e; omega
  simp only [List.drop, ovl, Act.put, List.setIfInBounds_toArray, List.set_cons_zero, List.set_cons_succ]
  have y00 := block_cell (j := 0) x0 rfl
  have y01 := block_cell (j := 1) x0 rfl
  have y02 := block_cell (j := 2) x0 rfl
  have y10 := block_cell (j := 0) x1 rfl
  have y11 := block_cell (j := 1) x1 rfl
  have y12 := block_cell (j := 2) x1 rfl
  have y20 := block_cell (j := 0) x2 rfl
  have y21 := block_cell (j := 1) x2 rfl
  have y22 := block_cell (j := 2) x2 rfl
  have z00 := block_frozen (j := 0) x0
  have z01 := block_frozen (j := 1) x0
  have z02 := block_frozen (j := 2) x0
  have z10 := block_frozen (j := 0) x1
  have z11 := block_frozen (j := 1) x1
  have z12 := block_frozen (j := 2) x1
  have z20 := block_frozen (j := 0) x2
  have z21 := block_frozen (j := 1) x2
  have z22 := block_frozen (j := 2) x2
  have v00 := (gcell hb w.heap.size 0 l_w1_s).trans c_w1_s_0
  have v01 := (gcell hb w.heap.size 1 l_w1_s).trans c_w1_s_1
  have v02 := (gcell hb w.heap.size 2 l_w1_s).trans c_w1_s_2
  have v10 := (gcell hb (w.heap.size + 1) 0 l_w1_sp1).trans c_w1_sp1_0
  have v11 := (gcell hb (w.heap.size + 1) 1 l_w1_sp1).trans c_w1_sp1_1
  have v12 := (gcell hb (w.heap.size + 1) 2 l_w1_sp1).trans c_w1_sp1_2
  clear hg hinj x0 x1 x2
  generalize gs 0 = g0 at *
  generalize gs 1 = g1 at *
  generalize gs 2 = g2 at *
  have u0 : w.heap.size ≠ g0 := by omega
  have u1 : w.heap.size ≠ g1 := by omega
  have u2 : w.heap.size ≠ g2 := by omega
  have u3 : w.heap.size + 1 ≠ g0 := by omega
  have u4 : w.heap.size + 1 ≠ g1 := by omega
  have u5 : w.heap.size + 1 ≠ g2 := by omega
  have HB := Lib.hid (below_next hb_w1 hb)
  clear hb hb_w1 hb_w1_ c_w1_s_0 c_w1_s_1 c_w1_s_2 c_w1_sp1_0 c_w1_sp1_1 c_w1_sp1_2
  go_wp2_with fail
  refine (ref_Ends s t k _ HE.out.1 HE.out.2.1 HE.out.2.2.1 HE.out.2.2.2 HS.out.2.2.2.2).mono ?_
  rintro e wa ⟨v, rfl, hsl, hb2⟩
  obtain ⟨hc_hb2, hf_hb2⟩ := bcell hb2
  have hz_hb2 := size_le hb2
  repeat (first | simp only [World.size_alloc] at hc_hb2 | simp only [World.size_setCell] at hc_hb2)
  repeat (first | simp only [World.size_alloc] at hz_hb2 | simp only [World.size_setCell] at hz_hb2)
  have c00 := hc_hb2 w.heap.size 0 (by omega)
  have c01 := hc_hb2 w.heap.size 1 (by omega)
  have c02 := hc_hb2 w.heap.size 2 (by omega)
  have c10 := hc_hb2 (w.heap.size + 1) 0 (by omega)
  have c11 := hc_hb2 (w.heap.size + 1) 1 (by omega)
  have c12 := hc_hb2 (w.heap.size + 1) 2 (by omega)
  have d00 := hc_hb2 g0 0 (by omega)
  have d01 := hc_hb2 g0 1 (by omega)
  have d02 := hc_hb2 g0 2 (by omega)
  have d10 := hc_hb2 g1 0 (by omega)
  have d11 := hc_hb2 g1 1 (by omega)
  have d12 := hc_hb2 g1 2 (by omega)
  have d20 := hc_hb2 g2 0 (by omega)
  have d21 := hc_hb2 g2 1 (by omega)
  have d22 := hc_hb2 g2 2 (by omega)
  simp [go_sem, u0, u1, u2, u3, u4, u5, v00, v01, v02, v10, v11, v12, Ne.symm u0, Ne.symm u1, Ne.symm u2, Ne.symm u3, Ne.symm u4, Ne.symm u5] at c00 c01 c02 c10 c11 c12
  simp [go_sem, n01, n02, n12, Ne.symm n01, Ne.symm n02, Ne.symm n12, y00, y01, y02, y10, y11, y12, y20, y21, y22] at d00 d01 d02 d10 d11 d12 d20 d21 d22
  have k0 : w.heap.size < wa.heap.size := by omega
  have k1 : w.heap.size + 1 < wa.heap.size := by omega
  have k2 : g0 < wa.heap.size := by omega
  have k3 : g1 < wa.heap.size := by omega
  have k4 : g2 < wa.heap.size := by omega
  have HB' := HB.out
  have HBA := Lib.hid (show Below w.heap.size w wa from below_next (w := w) (by go_grown) hb2)
  clear HB' HB hb2 hc_hb2 hf_hb2 hz_hb2 y00 y01 y02 y10 y11 y12 y20 y21 y22 z00 z01 z02 z10 z11 z12 z20 z21 z22 v00 v01 v02 v10 v11 v12 m0 m1 m2 l0 l1 l2 n01 n02 n12 u0 u1 u2 u3 u4 u5
  generalize ends s t k = E at *
  obtain ⟨A, c, rfl, hc1, hc2, _⟩ := id hsl
  unfold maxLen at hc2
  go_wp2
  go_loopw [33] (fun i w' => ∃ (j : Nat), j ≤ E.length ∧ i = .int .i64 j ∧ Hid (Below wa.heap.size wa w')) (fun i w' => E.length - (intOf i).toNat)
  case atStart => exact ⟨0, Nat.zero_le _, by go_num, Lib.hid (Below.refl _ _)⟩
  case round =>
    obtain ⟨j, hj, rfl, hbr⟩ := hrel
    have hbr' := hbr.out
    have hsr : wa.heap.size ≤ wr.heap.size := hbr'.size
    have p0 : w.heap.size < wr.heap.size := by omega
    have p1 : w.heap.size + 1 < wr.heap.size := by omega
    have p2 : g0 < wr.heap.size := by omega
    have p3 : g1 < wr.heap.size := by omega
    have p4 : g2 < wr.heap.size := by omega
    have rc00 := (hbr'.cell (p := ⟨w.heap.size, 0, none⟩) k0).trans c00
    have rc01 := (hbr'.cell (p := ⟨w.heap.size, 1, none⟩) k0).trans c01
    have rc02 := (hbr'.cell (p := ⟨w.heap.size, 2, none⟩) k0).trans c02
    have rc10 := (hbr'.cell (p := ⟨w.heap.size + 1, 0, none⟩) k1).trans c10
    have rc11 := (hbr'.cell (p := ⟨w.heap.size + 1, 1, none⟩) k1).trans c11
    have rc12 := (hbr'.cell (p := ⟨w.heap.size + 1, 2, none⟩) k1).trans c12
    have rd00 := (hbr'.cell (p := ⟨g0, 0, none⟩) k2).trans d00
    have rd01 := (hbr'.cell (p := ⟨g0, 1, none⟩) k2).trans d01
    have rd02 := (hbr'.cell (p := ⟨g0, 2, none⟩) k2).trans d02
    have rd10 := (hbr'.cell (p := ⟨g1, 0, none⟩) k3).trans d10
    have rd11 := (hbr'.cell (p := ⟨g1, 1, none⟩) k3).trans d11
    have rd12 := (hbr'.cell (p := ⟨g1, 2, none⟩) k3).trans d12
    have rd20 := (hbr'.cell (p := ⟨g2, 0, none⟩) k4).trans d20
    have rd21 := (hbr'.cell (p := ⟨g2, 1, none⟩) k4).trans d21
    have rd22 := (hbr'.cell (p := ⟨g2, 2, none⟩) k4).trans d22
    clear c00 c01 c02 c10 c11 c12 d00 d01 d02 d10 d11 d12 d20 d21 d22
    by_cases hlt : j < E.length
    · obtain ⟨b, off, rfl, hb, hcell⟩ := SlS.at_ hsl hlt
      have hcell' := (hbr'.cell (p := ⟨b, off + j, none⟩) hb).trans hcell
      have hxz := HX.out _ (List.getElem_mem hlt)
      generalize hxe : E[j] = x at *
      clear hbr' hxe hcell hb
      have HXZ := Lib.hid (show x.size ≤ maxLen from by unfold maxLen; omega)
      have HKZ := Lib.hid (show k.size ≤ maxLen from by have := HS.out; unfold maxLen; omega)
      clear hxz
      have e1 := has_meet s t x
      have e2 := has_below s k x
      have e3 := has_from s k x
      obtain ⟨bs, hbs⟩ : ∃ b, has s x = b := ⟨_, rfl⟩
      obtain ⟨bt, hbt⟩ : ∃ b, has t x = b := ⟨_, rfl⟩
      obtain ⟨bk, hbk⟩ : ∃ b, Op.bytesLess x.toList k.toList = b := ⟨_, rfl⟩
      have hbk' : lt x k = bk := hbk
      rw [hbs, hbt] at e1
      rw [hbs, hbk'] at e2 e3
      have CS : Hid (∀ W, Calls Try.prog 23 #[.agg #[.string s.lo, .string s.hi, .bool s.opn], .string x] W fun e w' => e = .returned (.bool bs) ∧ Below W.heap.size W w') := Lib.hid (fun W => by have := ref_Has s x W HS.out.1 HS.out.2.1 HXZ.out; rw [hbs] at this; exact this)
      have CT : Hid (∀ W, Calls Try.prog 23 #[.agg #[.string t.lo, .string t.hi, .bool t.opn], .string x] W fun e w' => e = .returned (.bool bt) ∧ Below W.heap.size W w') := Lib.hid (fun W => by have := ref_Has t x W HS.out.2.2.1 HS.out.2.2.2.1 HXZ.out; rw [hbt] at this; exact this)
      have CK : Hid (∀ W, Calls Try.prog 34 #[.string x, .string k] W fun e w' => e = .returned (.bool bk) ∧ Below W.heap.size W w') := Lib.hid (fun W => by have := ref_Less x k HXZ.out HKZ.out W; rw [hbk] at this; exact this)
      clear hbs hbt hbk hbk'
      cases bs <;> cases bt <;> cases bk
      all_goals
        simp only [Bool.true_and, Bool.false_and, Bool.and_self, Bool.and_true, Bool.and_false, Bool.not_true, Bool.not_false] at e1 e2 e3
        have CM : Hid (∀ W, Calls Try.prog 22 #[.agg #[.string (meet s t).lo, .string (meet s t).hi, .bool (meet s t).opn], .string x] W fun e w' => e = .returned (.bool _) ∧ Below W.heap.size W w') := Lib.hid (fun W => by have := span_Has (meet s t) x W; rw [e1] at this; exact this)
        have CB : Hid (∀ W, Calls Try.prog 22 #[.agg #[.string (below s k).lo, .string (below s k).hi, .bool (below s k).opn], .string x] W fun e w' => e = .returned (.bool _) ∧ Below W.heap.size W w') := Lib.hid (fun W => by have := span_Has (below s k) x W; rw [e2] at this; exact this)
        have CF : Hid (∀ W, Calls Try.prog 22 #[.agg #[.string (from_ s k).lo, .string (from_ s k).hi, .bool (from_ s k).opn], .string x] W fun e w' => e = .returned (.bool _) ∧ Below W.heap.size W w') := Lib.hid (fun W => by have := span_Has (from_ s k) x W; rw [e3] at this; exact this)
        clear e1 e2 e3
        go_upto_region 7 with (fail)
        refine wp_region_below0 ?_
        have hgr := @grow_cell
        repeat (go_big_quiet_step ((with_reducible exact qb (CS.out _))))
        refine wpQuiet_nil ?_
        clear hgr
        intro w2 hb2
        have hz2 : wr.heap.size ≤ w2.heap.size := hb2.size
        have q0 : w.heap.size < w2.heap.size := by omega
        have q1 : w.heap.size + 1 < w2.heap.size := by omega
        have q2 : g0 < w2.heap.size := by omega
        have q3 : g1 < w2.heap.size := by omega
        have q4 : g2 < w2.heap.size := by omega
        have sc00 := (hb2.cell (p := ⟨w.heap.size, 0, none⟩) p0).trans rc00
        have sc01 := (hb2.cell (p := ⟨w.heap.size, 1, none⟩) p0).trans rc01
        have sc02 := (hb2.cell (p := ⟨w.heap.size, 2, none⟩) p0).trans rc02
        have sc10 := (hb2.cell (p := ⟨w.heap.size + 1, 0, none⟩) p1).trans rc10
        have sc11 := (hb2.cell (p := ⟨w.heap.size + 1, 1, none⟩) p1).trans rc11
        have sc12 := (hb2.cell (p := ⟨w.heap.size + 1, 2, none⟩) p1).trans rc12
        have sd00 := (hb2.cell (p := ⟨g0, 0, none⟩) p2).trans rd00
        have sd01 := (hb2.cell (p := ⟨g0, 1, none⟩) p2).trans rd01
        have sd02 := (hb2.cell (p := ⟨g0, 2, none⟩) p2).trans rd02
        have sd10 := (hb2.cell (p := ⟨g1, 0, none⟩) p3).trans rd10
        have sd11 := (hb2.cell (p := ⟨g1, 1, none⟩) p3).trans rd11
        have sd12 := (hb2.cell (p := ⟨g1, 2, none⟩) p3).trans rd12
        have sd20 := (hb2.cell (p := ⟨g2, 0, none⟩) p4).trans rd20
        have sd21 := (hb2.cell (p := ⟨g2, 1, none⟩) p4).trans rd21
        have sd22 := (hb2.cell (p := ⟨g2, 2, none⟩) p4).trans rd22
        have HBR2 := Lib.hid (hbr.out.trans (hb2.mono hsr))
        have hsr2 : wa.heap.size ≤ w2.heap.size := by omega
        clear hb2 hcell' rc00 rc01 rc02 rc10 rc11 rc12 rd00 rd01 rd02 rd10 rd11 rd12 rd20 rd21 rd22
        go_upto_region 8 with (fail)
        refine wp_region_below0 ?_
        have hgr := @grow_cell
        repeat (go_big_quiet_step (first | (with_reducible exact qb (CM.out _)) | (with_reducible exact qb (CT.out _)) | (with_reducible exact qb (CB.out _)) | (with_reducible exact qb (CK.out _)) | (with_reducible exact qb (CF.out _))))
        refine wpQuiet_nil ?_
        clear hgr
        intro w3 hb3
        have HB3 := Lib.hid (HBR2.out.trans (hb3.mono hsr2))
        clear hb3
        go_wp2
        go_roundw
        case rel => exact ⟨j + 1, by omega, by go_num, HB3⟩
        case measure => simp [intOf]; omega
    · have HBW := Lib.hid (below_next HBA.out hbr')
      have hself := @eqv_self Span _
      clear hbr'
      go_wp2
      refine wp_region_below (by kernel_rfl) (by kernel_rfl) ?_
      have hgr := @grow_cell
      repeat (go_big_quiet_step (first | (with_reducible exact qb (NM.out _)) | (with_reducible exact qb (NB.out _)) | (with_reducible exact qb (NF.out _)) | (go_at_call 35; with_reducible exact qb (ref_Meet s t _ HS.out.1 HS.out.2.1 HS.out.2.2.1 HS.out.2.2.2.1)) | (go_at_call 20; with_reducible exact qb (span_awake _))))
      refine wpQuiet_nil ?_
      clear hgr
      intro w3 hb3
      have HB3 := Lib.hid (below_next HBW.out hb3)
      clear hb3
      go_wp2
      go_ret
      exact ⟨rfl, HB3.out⟩
end Go.Proofs.Ytkmlppglmdfbaaa.lawSpanMeets
