/- What an eye reads is within bounds (plain). -/
import Derived.Test.YtlapnbklbpeddaaGreatPIm16
namespace Go.Proofs.YtlapnbklbpeddaaGreat
open Go Go.RowKit
set_option linter.unusedVariables false
set_option maxRecDepth 20000
set_option linter.unusedSimpArgs false
theorem eA_sz (slot : Int) (e : Ey) (pv kv mv rv : Value) : (eA slot e pv kv mv rv).2.1.size ≤ e.1.size := by
  unfold eA
  dsimp only
  have z1 := eN_sz e
  generalize eN e = r1 at *
  have z2 := eN_sz r1.2
  generalize eN r1.2 = r2 at *
  have z3 := eN_sz r2.2
  generalize eN r2.2 = r3 at *
  have z4 := eF_sz r3.2
  generalize eF r3.2 = r4 at *
  have z5 := eT_sz r4.2
  generalize eT r4.2 = r5 at *
  have z6 := eC_sz r5.2
  generalize eC r5.2 = r6 at *
  have z7 := eR_sz eT_sz r6.1 r6.2
  generalize eR eT r6.1 r6.2 = r7 at *
  have z8 := eC_sz r7.2
  generalize eC r7.2 = r8 at *
  have z9 := eR_sz eN_sz r8.1 r8.2
  generalize eR eN r8.1 r8.2 = r9 at *
  have z10 := eC_sz r9.2
  generalize eC r9.2 = r10 at *
  have z11 := eR_sz eM_sz r10.1 r10.2
  generalize eR eM r10.1 r10.2 = r11 at *
  have z12 := eC_sz r11.2
  generalize eC r11.2 = r12 at *
  have z13 := eR_sz eP_sz r12.1 r12.2
  omega
theorem eA_strip (slot : Int) (e : Ey) (pv kv mv rv : Value) : strip (eA slot e pv kv mv rv).1 = (eA slot e nil0 nil0 nil0 nil0).1 ∧ (eA slot e pv kv mv rv).2 = (eA slot e nil0 nil0 nil0 nil0).2 := by
  unfold eA
  dsimp only
  generalize eN e = r1
  generalize eN r1.2 = r2
  generalize eN r2.2 = r3
  generalize eF r3.2 = r4
  generalize eT r4.2 = r5
  generalize eC r5.2 = r6
  generalize eR eT r6.1 r6.2 = r7
  generalize eC r7.2 = r8
  generalize eR eN r8.1 r8.2 = r9
  generalize eC r9.2 = r10
  generalize eR eM r10.1 r10.2 = r11
  generalize eC r11.2 = r12
  generalize eR eP r12.1 r12.2 = r13
  exact ⟨rfl, rfl⟩
theorem eG_sz (e : Ey) : (eG e).2.1.size ≤ e.1.size := Nat.le_trans (eN_sz _) (Nat.le_trans (eN_sz _) (Nat.le_trans (eN_sz _) (Nat.le_trans (eN_sz _) (eN_sz _))))
theorem rd0_sz (s : ByteArray) : (rd0 s).1.size ≤ s.size := by
  unfold rd0 cutP
  split
  · exact size_ext _ _ _
  · exact Nat.le_refl _
theorem rdN_sz (s : ByteArray) : (rdN s).1 ≤ s.size ∧ (rdN s).2.1.size ≤ s.size := by
  have h1 := rd0_sz s
  have h2 := eG_sz (rd0 s)
  have h3 := eC_le (rdC s).2
  have h4 := eC_sz (rdC s).2
  have h5 : (rdC s).2 = (eG (rd0 s)).2 := rfl
  rw [← h5] at h2
  exact ⟨by show (eC (rdC s).2).1 ≤ _; omega, by show (eC (rdC s).2).2.1.size ≤ _; omega⟩
/-- What is left to read, from here. -/
def eTail (s : ByteArray) (X : List Nd) (e : Ey) : Prop := X.map strip ++ (eL ((rdN s).1 - X.length) X.length e).1 = (rdL s).1 ∧ (eL ((rdN s).1 - X.length) X.length e).2 = (rdL s).2
theorem eTail_zero (s : ByteArray) : eTail s [] (rdN s).2 := by
  unfold eTail rdL
  rw [List.length_nil, Nat.sub_zero, List.map_nil, List.nil_append]
  exact ⟨rfl, rfl⟩
theorem eTail_step {s : ByteArray} {X : List Nd} {e e' : Ey} {n : Nd} {pv kv mv rv : Value} (h : eTail s X e) (hlt : X.length < (rdN s).1) (hk : e.2 = true) (hn : eA X.length e pv kv mv rv = (n, e')) : eTail s (X ++ [n]) e' := by
  obtain ⟨h1, h2⟩ := h
  have hs := eA_strip X.length e pv kv mv rv
  rw [hn] at hs
  dsimp only at hs
  have hr : (rdN s).1 - X.length = ((rdN s).1 - (X.length + 1)) + 1 := by omega
  rw [hr, eL, if_pos hk, ← hs.1, ← hs.2] at h1 h2
  unfold eTail
  rw [List.map_append, List.length_append]
  refine ⟨?_, h2⟩
  rw [List.append_assoc]
  exact h1
theorem eTail_all {s : ByteArray} {X : List Nd} {e : Ey} (h : eTail s X e) (hge : (rdN s).1 ≤ X.length) : X.map strip = (rdL s).1 ∧ e = (rdL s).2 := by
  obtain ⟨h1, h2⟩ := h
  rw [show (rdN s).1 - X.length = 0 by omega] at h1 h2
  rw [eL] at h1 h2
  rw [List.append_nil] at h1
  exact ⟨h1, h2⟩
theorem eTail_stop {s : ByteArray} {X : List Nd} {e : Ey} (h : eTail s X e) (hk : e.2 = false) : X.map strip = (rdL s).1 ∧ e = (rdL s).2 := by
  obtain ⟨h1, h2⟩ := h
  cases hr : (rdN s).1 - X.length with
  | zero =>
    rw [hr, eL] at h1 h2
    rw [List.append_nil] at h1
    exact ⟨h1, h2⟩
  | succ r =>
    rw [hr, eL, if_neg (by rw [hk]; simp)] at h1 h2
    rw [List.append_nil] at h1
    exact ⟨h1, h2⟩
end Go.Proofs.YtlapnbklbpeddaaGreat
