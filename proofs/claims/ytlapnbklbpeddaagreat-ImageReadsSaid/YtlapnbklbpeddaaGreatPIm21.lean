/- What an eye reads is within bounds (plain). -/
import Derived.Test.YtlapnbklbpeddaaGreatPIm16
namespace Go.Proofs.YtlapnbklbpeddaaGreat
open Go Go.RowKit
set_option linter.unusedVariables false
set_option maxRecDepth 20000
set_option linter.unusedSimpArgs false
theorem wrap_I64 (n : Int) : I64 (IntKind.i64.wrap n) := by
  unfold I64 IntKind.wrap
  have h : (2 : Int) ^ IntKind.i64.bits = 18446744073709551616 := by decide
  have h2 : (2 : Int) ^ (IntKind.i64.bits - 1) = 9223372036854775808 := by decide
  have h3 : IntKind.i64.signed = true := rfl
  simp only [h, h2, h3, Bool.true_and, decide_eq_true_eq, ge_iff_le]
  have h4 := Int.emod_nonneg n (show (18446744073709551616 : Int) ≠ 0 by omega)
  have h5 := Int.emod_lt_of_pos n (show (0 : Int) < 18446744073709551616 by omega)
  split <;> omega
theorem numV_I64 (l : List UInt8) : I64 (numV l) := by
  unfold numV
  have : ∀ (l : List UInt8) (a : Int), I64 a → I64 (l.foldl orW a) := fun l => by
    induction l with
    | nil => intro a h; exact h
    | cons x l ih => intro a _; exact ih _ (wrap_I64 _)
  exact this l 0 ⟨by omega, by omega⟩
theorem eN_I64 (e : Ey) : I64 (eN e).1 := numV_I64 _
theorem eT_le (e : Ey) {n : Nat} (h : e.1.size ≤ n) : (eT e).1.size ≤ n := size_tk1 h
theorem eR_all {α : Type} {f : Ey → α × Ey} {p : α → Prop} {B : Nat} (hp : ∀ e, e.1.size ≤ B → p (f e).1) (hs : ∀ e, (f e).2.1.size ≤ e.1.size) : ∀ (n : Nat) (e : Ey), e.1.size ≤ B → ∀ a ∈ (eR f n e).1, p a
  | 0, e, _, a, ha => by cases ha
  | n + 1, e, he, a, ha => by
    have ha' : a ∈ (f e).1 :: (eR f n (f e).2).1 := ha
    rcases List.mem_cons.1 ha' with rfl | h
    · exact hp e he
    · exact eR_all hp hs n (f e).2 (Nat.le_trans (hs e) he) a h
theorem eA_sz (slot : Int) (e : Ey) (pv kv mv rv : Value) : (eA slot e pv kv mv rv).2.1.size ≤ e.1.size := by
  unfold eA
  dsimp only
  have z1 := eN_sz e
  generalize eN e = r1 at *
  have z2 := eN_sz r1.2
  generalize eN r1.2 = r2 at *
  have z3 := eN_sz r2.2
  generalize eN r2.2 = r3 at *
  have z4 := eF_sz r3.2
  generalize eF r3.2 = r4 at *
  have z5 := eT_sz r4.2
  generalize eT r4.2 = r5 at *
  have z6 := eC_sz r5.2
  generalize eC r5.2 = r6 at *
  have z7 := eR_sz eT_sz r6.1 r6.2
  generalize eR eT r6.1 r6.2 = r7 at *
  have z8 := eC_sz r7.2
  generalize eC r7.2 = r8 at *
  have z9 := eR_sz eN_sz r8.1 r8.2
  generalize eR eN r8.1 r8.2 = r9 at *
  have z10 := eC_sz r9.2
  generalize eC r9.2 = r10 at *
  have z11 := eR_sz eM_sz r10.1 r10.2
  generalize eR eM r10.1 r10.2 = r11 at *
  have z12 := eC_sz r11.2
  generalize eC r11.2 = r12 at *
  have z13 := eR_sz eP_sz r12.1 r12.2
  omega
theorem eA_strip (slot : Int) (e : Ey) (pv kv mv rv : Value) : strip (eA slot e pv kv mv rv).1 = (eA slot e nil0 nil0 nil0 nil0).1 ∧ (eA slot e pv kv mv rv).2 = (eA slot e nil0 nil0 nil0 nil0).2 := by
  unfold eA
  dsimp only
  generalize eN e = r1
  generalize eN r1.2 = r2
  generalize eN r2.2 = r3
  generalize eF r3.2 = r4
  generalize eT r4.2 = r5
  generalize eC r5.2 = r6
  generalize eR eT r6.1 r6.2 = r7
  generalize eC r7.2 = r8
  generalize eR eN r8.1 r8.2 = r9
  generalize eC r9.2 = r10
  generalize eR eM r10.1 r10.2 = r11
  generalize eC r11.2 = r12
  generalize eR eP r12.1 r12.2 = r13
  exact ⟨rfl, rfl⟩
theorem eM_fit (e : Ey) (h : e.1.size ≤ 1000000) : ((eM e).1.key.size ≤ 1000000 ∧ (eM e).1.hi.size ≤ 1000000 ∧ (eM e).1.val.size ≤ 1000000) ∧ (eM e).1.In := by
  unfold eM Msg.In
  dsimp only
  have i1 := eN_I64 e
  have z1 := eN_sz e
  generalize eN e = r1 at *
  have i2 := eN_I64 r1.2
  have z2 := eN_sz r1.2
  generalize eN r1.2 = r2 at *
  have z3 := eT_sz r2.2
  have t3 := eT_le r2.2 (n := 1000000) (by omega)
  generalize eT r2.2 = r3 at *
  have z4 := eF_sz r3.2
  generalize eF r3.2 = r4 at *
  have z5 := eT_sz r4.2
  have t5 := eT_le r4.2 (n := 1000000) (by omega)
  generalize eT r4.2 = r5 at *
  have t6 := eT_le r5.2 (n := 1000000) (by omega)
  generalize eT r5.2 = r6 at *
  exact ⟨⟨t3, t5, t6⟩, i1, i2, by unfold Sz; omega, by unfold Sz; omega, by unfold Sz; omega⟩
theorem eP_fit (e : Ey) (h : e.1.size ≤ 1000000) : ((eP e).1.key.size ≤ 1000000 ∧ (eP e).1.val.size ≤ 1000000) ∧ (eP e).1.In := by
  unfold eP Pair.In
  dsimp only
  have z1 := eT_sz e
  have t1 := eT_le e h
  generalize eT e = r1 at *
  have t2 := eT_le r1.2 (n := 1000000) (by omega)
  generalize eT r1.2 = r2 at *
  exact ⟨⟨t1, t2⟩, by unfold Sz; omega, by unfold Sz; omega⟩
theorem eA_fit (slot : Int) (e : Ey) (pv kv mv rv : Value) (hs : I64 slot) (h : e.1.size ≤ 1000000) : (eA slot e pv kv mv rv).1.Big ∧ (eA slot e pv kv mv rv).1.In := by
  unfold eA
  dsimp only
  have z1 := eN_sz e
  have i1 := eN_I64 e
  generalize eN e = r1 at *
  have z2 := eN_sz r1.2
  have i2 := eN_I64 r1.2
  generalize eN r1.2 = r2 at *
  have z3 := eN_sz r2.2
  generalize eN r2.2 = r3 at *
  have z4 := eF_sz r3.2
  generalize eF r3.2 = r4 at *
  have z5 := eT_sz r4.2
  have t5 := eT_le r4.2 (n := 1000000) (by omega)
  generalize eT r4.2 = r5 at *
  have z6 := eC_sz r5.2
  have c6 := eC_le r5.2
  generalize eC r5.2 = r6 at *
  have z7 := eR_sz eT_sz r6.1 r6.2
  have l7 := eR_len eT r6.1 r6.2
  have p7 := eR_all (f := eT) (p := fun s : ByteArray => s.size ≤ 1000000) (B := 1000000) (fun e he => eT_le e he) eT_sz r6.1 r6.2 (by omega)
  generalize eR eT r6.1 r6.2 = r7 at *
  have z8 := eC_sz r7.2
  have c8 := eC_le r7.2
  generalize eC r7.2 = r8 at *
  have z9 := eR_sz eN_sz r8.1 r8.2
  have l9 := eR_len eN r8.1 r8.2
  have p9 := eR_all (f := eN) (p := fun n : Int => I64 n) (B := 1000000) (fun e he => eN_I64 e) eN_sz r8.1 r8.2 (by omega)
  generalize eR eN r8.1 r8.2 = r9 at *
  have z10 := eC_sz r9.2
  have c10 := eC_le r9.2
  generalize eC r9.2 = r10 at *
  have z11 := eR_sz eM_sz r10.1 r10.2
  have l11 := eR_len eM r10.1 r10.2
  have p11 := eR_all (f := eM) (p := fun m : Msg => (m.key.size ≤ 1000000 ∧ m.hi.size ≤ 1000000 ∧ m.val.size ≤ 1000000) ∧ m.In) (B := 1000000) (fun e he => eM_fit e he) eM_sz r10.1 r10.2 (by omega)
  generalize eR eM r10.1 r10.2 = r11 at *
  have z12 := eC_sz r11.2
  have c12 := eC_le r11.2
  generalize eC r11.2 = r12 at *
  have l13 := eR_len eP r12.1 r12.2
  have p13 := eR_all (f := eP) (p := fun m : Pair => (m.key.size ≤ 1000000 ∧ m.val.size ≤ 1000000) ∧ m.In) (B := 1000000) (fun e he => eP_fit e he) eP_sz r12.1 r12.2 (by omega)
  generalize eR eP r12.1 r12.2 = r13 at *
  have hw := wrap_I64 (r3.1 - 1)
  refine ⟨⟨t5, p7, by show r7.1.length ≤ _; omega, by show r9.1.length ≤ _; omega, fun m hm => (p11 m hm).1, by show r11.1.length ≤ _; omega, fun p hp => (p13 p hp).1, by show r13.1.length ≤ _; omega, fun m hm => (p11 m hm).2⟩, ⟨hs, i1, hw, i2, ?_, fun s hs => ?_, p9, fun m hm => (p11 m hm).2, fun p hp => (p13 p hp).2⟩⟩
  · show r5.1.size ≤ _; omega
  · have := p7 s hs
    show s.size ≤ _; omega
theorem eG_sz (e : Ey) : (eG e).2.1.size ≤ e.1.size := Nat.le_trans (eN_sz _) (Nat.le_trans (eN_sz _) (Nat.le_trans (eN_sz _) (Nat.le_trans (eN_sz _) (eN_sz _))))
theorem rd0_sz (s : ByteArray) : (rd0 s).1.size ≤ s.size := by
  unfold rd0 cutP
  split
  · exact size_ext _ _ _
  · exact Nat.le_refl _
theorem rdN_sz (s : ByteArray) : (rdN s).1 ≤ s.size ∧ (rdN s).2.1.size ≤ s.size := by
  have h1 := rd0_sz s
  have h2 := eG_sz (rd0 s)
  have h3 := eC_le (rdC s).2
  have h4 := eC_sz (rdC s).2
  have h5 : (rdC s).2 = (eG (rd0 s)).2 := rfl
  rw [← h5] at h2
  exact ⟨by show (eC (rdC s).2).1 ≤ _; omega, by show (eC (rdC s).2).2.1.size ≤ _; omega⟩
/-- What is left to read, from here. -/
def eTail (s : ByteArray) (X : List Nd) (e : Ey) : Prop := X.map strip ++ (eL ((rdN s).1 - X.length) X.length e).1 = (rdL s).1 ∧ (eL ((rdN s).1 - X.length) X.length e).2 = (rdL s).2
theorem eTail_zero (s : ByteArray) : eTail s [] (rdN s).2 := by
  unfold eTail rdL
  rw [List.length_nil, Nat.sub_zero, List.map_nil, List.nil_append]
  exact ⟨rfl, rfl⟩
theorem eTail_step {s : ByteArray} {X : List Nd} {e e' : Ey} {n : Nd} {pv kv mv rv : Value} (h : eTail s X e) (hlt : X.length < (rdN s).1) (hk : e.2 = true) (hn : eA X.length e pv kv mv rv = (n, e')) : eTail s (X ++ [n]) e' := by
  obtain ⟨h1, h2⟩ := h
  have hs := eA_strip X.length e pv kv mv rv
  rw [hn] at hs
  dsimp only at hs
  have hr : (rdN s).1 - X.length = ((rdN s).1 - (X.length + 1)) + 1 := by omega
  rw [hr, eL, if_pos hk, ← hs.1, ← hs.2] at h1 h2
  unfold eTail
  rw [List.map_append, List.length_append]
  refine ⟨?_, h2⟩
  rw [List.append_assoc]
  exact h1
theorem eTail_all {s : ByteArray} {X : List Nd} {e : Ey} (h : eTail s X e) (hge : (rdN s).1 ≤ X.length) : X.map strip = (rdL s).1 ∧ e = (rdL s).2 := by
  obtain ⟨h1, h2⟩ := h
  rw [show (rdN s).1 - X.length = 0 by omega] at h1 h2
  rw [eL] at h1 h2
  rw [List.append_nil] at h1
  exact ⟨h1, h2⟩
theorem eTail_stop {s : ByteArray} {X : List Nd} {e : Ey} (h : eTail s X e) (hk : e.2 = false) : X.map strip = (rdL s).1 ∧ e = (rdL s).2 := by
  obtain ⟨h1, h2⟩ := h
  cases hr : (rdN s).1 - X.length with
  | zero =>
    rw [hr, eL] at h1 h2
    rw [List.append_nil] at h1
    exact ⟨h1, h2⟩
  | succ r =>
    rw [hr, eL, if_neg (by rw [hk]; simp)] at h1 h2
    rw [List.append_nil] at h1
    exact ⟨h1, h2⟩
end Go.Proofs.YtlapnbklbpeddaaGreat
