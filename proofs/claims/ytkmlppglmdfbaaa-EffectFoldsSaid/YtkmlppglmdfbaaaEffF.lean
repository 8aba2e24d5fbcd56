/- The loops of the effect layer: whether all may be, and all of them one behind the other. -/
import Derived.Test.YtkmlppglmdfbaaaEffAwake
import Derived.Test.YtkmlppglmdfbaaaQuiet
import Derived.Test.YtkmlppglmdfbaaaArgs
import Derived.Test.YtkmlppglmdfbaaaFold
namespace Go.Proofs.Ytkmlppglmdfbaaa
open Go.RowKit Go.Sort
set_option linter.unusedVariables false
set_option linter.unusedSimpArgs false

theorem Eff.at_ {w : World} {A : Option Addr} {c : Nat} {l : List Eff} (h : SlEff w (.slice A l.length c) l) {i : Nat} (hi : i < l.length) :
    ∃ b off, A = some ⟨b, off, none⟩ ∧ b < w.heap.size ∧ w.cell? ⟨b, off + i * 2, none⟩ = some (.int .i64 l[i].kind) ∧ w.cell? ⟨b, off + i * 2 + 1, none⟩ = some (.string l[i].val) := by
  obtain ⟨b, off, rfl, hb, hc⟩ := h.get hi
  exact ⟨b, off, rfl, hb, hc 0 _ rfl, hc 1 _ rfl⟩

theorem all_step {l : List Eff} {k : Nat} (h : k < l.length) : ((l.drop k).all rightE) = (rightE l[k] && (l.drop (k + 1)).all rightE) := by rw [drop_get h]; rfl
theorem all_stop {l : List Eff} {k : Nat} (h : l.length ≤ k) : ((l.drop k).all rightE) = true := by rw [List.drop_eq_nil_of_le h]; rfl

set_option maxHeartbeats 400000 in
theorem ref_AllE (v : Value) (l : List Eff) (w : World) (hl : SlEff w v l) (hs : ∀ e ∈ l, Sz e.val) :
    Calls Try.prog 46 #[v] w fun e w' => e = .returned (.bool (l.all rightE)) ∧ Below w.heap.size w w' := by
  obtain ⟨A, c, rfl, hc1, hc2, _⟩ := id hl
  unfold maxLen at hc2
  go_enter Try.func46, Try.ntmps46
  go_wp2
  go_loopw [3] (fun i w' => ∃ (k : Nat), k ≤ l.length ∧ i = .int .i64 k ∧ Hid (((l.drop k).all rightE) = l.all rightE) ∧ Hid (Below w.heap.size w w')) (fun i w' => l.length - (intOf i).toNat)
  case atStart => exact ⟨0, Nat.zero_le _, by go_num, Lib.hid rfl, Lib.hid (Below.refl _ _)⟩
  case round =>
    obtain ⟨k, hk, rfl, hrest, hbr⟩ := hrel
    by_cases hlt : k < l.length
    · obtain ⟨b, off, rfl, hb, hc0, hc1'⟩ := Eff.at_ hl hlt
      have e0 := (hbr.out.cell (p := ⟨b, off + k * 2, none⟩) hb).trans hc0
      have e1 := (hbr.out.cell (p := ⟨b, off + k * 2 + 1, none⟩) hb).trans hc1'
      have HS := Lib.hid (hs l[k] (List.getElem_mem hlt))
      have HR := Lib.hid (all_step hlt)
      clear hc0 hc1'
      generalize l[k] = x at *
      cases hx : rightE x
      · have HC : Hid (∀ W, Calls Try.prog 38 #[.agg #[.int .i64 x.kind, .string x.val]] W fun e w' => e = .returned (.bool false) ∧ Below W.heap.size W w') := Lib.hid (fun W => by have := ref_RightE x W HS.out; rw [hx] at this; exact this)
        go_wp2_with fail
        (with_reducible refine (HC.out _).mono ?_); rintro e w' ⟨rfl, hb2⟩
        have HB := Lib.hid (below_next hbr.out hb2)
        clear hb2
        go_wp2
        go_ret
        refine ⟨retv (boolv ?_), HB.out⟩
        rw [← hrest.out, HR.out, hx]; rfl
      · have HC : Hid (∀ W, Calls Try.prog 38 #[.agg #[.int .i64 x.kind, .string x.val]] W fun e w' => e = .returned (.bool true) ∧ Below W.heap.size W w') := Lib.hid (fun W => by have := ref_RightE x W HS.out; rw [hx] at this; exact this)
        go_wp2_with fail
        (with_reducible refine (HC.out _).mono ?_); rintro e w' ⟨rfl, hb2⟩
        have HB := Lib.hid (below_next hbr.out hb2)
        clear hb2
        go_wp2
        go_roundw
        case rel => exact ⟨k + 1, by omega, by go_num, Lib.hid (by rw [← hrest.out, HR.out, hx]; rfl), HB⟩
        case measure => simp [intOf]; omega
    · have HR := Lib.hid (all_stop (l := l) (k := k) (by omega))
      go_wp2
      go_ret
      exact ⟨retv (boolv (HR.out.symm.trans hrest.out)), hbr.out⟩
theorem foldE_step {a : Eff} {l : List Eff} {k : Nat} (h : k < l.length) : foldE a (l.drop k) = foldE (thenE a l[k]) (l.drop (k + 1)) := by rw [drop_get h]; rfl
theorem foldE_stop {a : Eff} {l : List Eff} {k : Nat} (h : l.length ≤ k) : foldE a (l.drop k) = a := by rw [List.drop_eq_nil_of_le h]; rfl

set_option maxHeartbeats 400000 in
theorem effect_Fold (v : Value) (l : List Eff) (w : World) (hl : SlEff w v l) (hs : ∀ e ∈ l, rightE e = true) :
    Calls Try.prog 47 #[v] w fun e w' => e = .returned (.agg #[.int .i64 (foldE keepE l).kind, .string (foldE keepE l).val]) ∧ Below w.heap.size w w' := by
  obtain ⟨A, c, rfl, hc1, hc2, _⟩ := id hl
  unfold maxLen at hc2
  go_enter Try.func47, Try.ntmps47
  go_wp2
  go_loopw [7] (fun i w' => ∃ (k : Nat) (a : Eff), k ≤ l.length ∧ i = .int .i64 k ∧ Hid (rightE a = true) ∧ Hid (foldE a (l.drop k) = foldE keepE l) ∧ w'.cell? ⟨w.heap.size, 0, none⟩ = some (.int .i64 a.kind) ∧ w'.cell? ⟨w.heap.size, 1, none⟩ = some (.string a.val) ∧ w'.frozen? ⟨w.heap.size, 0, none⟩ = false ∧ w'.frozen? ⟨w.heap.size, 1, none⟩ = false ∧ w.heap.size < w'.heap.size ∧ Hid (Below w.heap.size w w')) (fun i w' => l.length - (intOf i).toNat)
  case atStart => exact ⟨0, keepE, Nat.zero_le _, by go_num, Lib.hid right_keep, Lib.hid rfl, by simp [go_sem, keepE], by simp [go_sem, keepE], by simp [go_sem], by simp [go_sem], by simp [go_sem], Lib.hid (by go_grown)⟩
  case round =>
    obtain ⟨k, a, hk, rfl, ha, hrest, c0, c1, f0, f1, hsz, hbr⟩ := hrel
    by_cases hlt : k < l.length
    · obtain ⟨b, off, rfl, hb, hc0, hc1'⟩ := Eff.at_ hl hlt
      have e0 := (hbr.out.cell (p := ⟨b, off + k * 2, none⟩) hb).trans hc0
      have e1 := (hbr.out.cell (p := ⟨b, off + k * 2 + 1, none⟩) hb).trans hc1'
      have HS := Lib.hid (hs l[k] (List.getElem_mem hlt))
      have HR := Lib.hid (foldE_step (a := a) hlt)
      clear hc0 hc1'
      generalize l[k] = x at *
      have HZ := Lib.hid (show a.val.size ≤ 3000 ∧ x.val.size ≤ 3000 from ⟨by have := rightE_size ha.out; omega, by have := rightE_size HS.out; omega⟩)
      go_wp2_with fail
      (with_reducible refine (effect_Then a x _ HZ.out.1 HZ.out.2).mono ?_); rintro e w2 ⟨rfl, hb2⟩
      obtain ⟨hcc, hff⟩ := bcell hb2
      have hzz := size_le hb2
      repeat (first | simp only [World.size_alloc] at hcc | simp only [World.size_setCell] at hcc)
      repeat (first | simp only [World.size_alloc] at hff | simp only [World.size_setCell] at hff)
      repeat (first | simp only [World.size_alloc] at hzz | simp only [World.size_setCell] at hzz)
      have g0 := hcc w.heap.size 0 (by omega)
      have g1 := hcc w.heap.size 1 (by omega)
      have h0 := hff w.heap.size 0 (by omega)
      have h1 := hff w.heap.size 1 (by omega)
      simp [go_sem, hsz, c0, c1] at g0 g1
      simp [go_sem, hsz, f0, f1] at h0 h1
      have hs2 : w.heap.size < w2.heap.size := by omega
      have hbr' := hbr.out
      have HB := Lib.hid (below_next (w := w) (by go_grown) hb2)
      clear hb2 hbr' hcc hff hzz
      have hbr2 := HB.out
      go_wp2
      go_roundw
      case rel => exact ⟨k + 1, thenE a x, by omega, by go_num, Lib.hid (right_then ha.out HS.out), Lib.hid (HR.out.symm.trans hrest.out), by simp [go_sem, g0, g1, hs2, h0, h1], by simp [go_sem, g0, g1, hs2, h0, h1], by simp [go_sem, g0, g1, hs2, h0, h1], by simp [go_sem, g0, g1, hs2, h0, h1], by simp [go_sem, hs2], Lib.hid (by go_grown)⟩
      case measure => simp [intOf]; omega
    · have HR := Lib.hid (foldE_stop (a := a) (l := l) (k := k) (by omega))
      have HE := HR.out.symm.trans hrest.out
      subst HE
      have hbr' := hbr.out
      go_wp2
      (try simp only [Exit.inBlock, Exit.then])
      refine bodyPost_ret (by simp [results, Try.results47, go_sem, c0, c1, f0, f1, hsz]; try rfl) rfl ?_
      exact ⟨retv (by simp), by go_grown⟩
end Go.Proofs.Ytkmlppglmdfbaaa
