/- Acts on a table: reading the arguments; what the acts leave: plain Lean. -/
import Derived.Test.YtdgcdfngpimmmaaPLt8
namespace Go.Proofs.Ytdgcdfngpimmmaa
open Go.ChangeShapes Go.WideShapes Go.ChangeAt Go.RowKit
set_option linter.unusedVariables false
set_option maxRecDepth 20000
set_option linter.unusedSimpArgs false
structure Actt where
  kind : Int
  thread : Int
  slot : Int
abbrev actK (a : Actt) : List Value := [.int .i64 a.kind, .int .i64 a.thread, .int .i64 a.slot]
theorem rd_act {H : Type} {enc : TypeId × Value → H} {W : World} (n : Nat) (cs : List Value) (y : DataW H × List MemPlace) (h : DataW.trod enc Try.prog W 0 (fun _ => true) true n 84 cs = some y) (hw : Wt Try.prog 84 y.1) :
    ∃ a : Actt, cs = actK a ∧ I64 a.kind := by
  obtain ⟨hl, hf⟩ := rd_struct Try.underlying84 (by kernel_rfl) (by kernel_rfl) h hw
  obtain ⟨v0, y0, m0, hv0, ht0, hw0⟩ := hf 0 _ rfl
  obtain ⟨v1, y1, m1, hv1, ht1, hw1⟩ := hf 1 _ rfl
  obtain ⟨v2, y2, m2, hv2, ht2, hw2⟩ := hf 2 _ rfl
  obtain ⟨x0, e0, g0⟩ := rd_int Try.underlying3 ht0
  obtain ⟨x1, e1, g1⟩ := rd_int Try.underlying3 ht1
  obtain ⟨x2, e2, g2⟩ := rd_int Try.underlying3 ht2
  match cs, hl with
  | [c0, c1, c2], _ =>
    simp at hv0 e0
    simp at hv1 e1
    simp at hv2 e2
    subst hv0 e0 hv1 e1 hv2 e2
    exact ⟨⟨x0, x1, x2⟩, rfl, g0⟩
theorem arg_acts {H : Type} {enc : TypeId × Value → H} {W : World} {base : Nat} {v : Value} {d : DataW H} {p : List MemPlace} (hv : Value.okWide Try.prog W .any base 79 v) (h : DataW.Trod enc Try.prog W 0 (fun _ => true) true 79 v d p) (hw : Wt Try.prog 79 d) :
    ∃ l : List Actt, Sl W 3 actK v l ∧ (∀ a ∈ l, I64 a.kind) ∧ l.length * 24 ≤ 140737488351232 :=
  arg_slice Try.underlying79 (by kernel_rfl : Try.prog.cellsOf 84 = 3) (by omega) (by kernel_rfl : Try.prog.bytesOf 84 = 24) actK (fun a => I64 a.kind) rd_act hv h hw
end Go.Proofs.Ytdgcdfngpimmmaa
namespace Go.Proofs.Ytdgcdfngpimmmaa
open Go Go.RowKit
set_option linter.unusedVariables false
set_option maxRecDepth 20000
set_option linter.unusedSimpArgs false
/-- What a slot keeps to. -/
def SOk (N : Nat) (s : Slt) : Prop := NSh s.u s.who.length ∧ Asc s.who ∧ s.who.length ≤ N ∧ (s.how = 0 → s.who = []) ∧ (s.how = 2 → s.who.length ≤ 1)
theorem SOk.mono {N N' : Nat} {s : Slt} (h : SOk N s) (hn : N ≤ N') : SOk N' s := ⟨h.1, h.2.1, Nat.le_trans h.2.2.1 hn, h.2.2.2⟩
theorem sok_zero : SOk 0 ⟨.slice none 0 0, [], 0⟩ := ⟨.inl ⟨rfl, rfl⟩, asc0, Nat.le_refl _, fun _ => rfl, fun _ => Nat.zero_le _⟩
theorem tk_ok {N : Nat} {s : Slt} (h : SOk N s) (t hw : Int) (hh : hw = 1 ∨ hw = 2) (u' : Value) (hu : NSh u' (tkR t s.who s.how hw).2.1.length) : SOk (N + 1) ⟨u', (tkR t s.who s.how hw).2.1, (tkR t s.who s.how hw).2.2⟩ := by
  obtain ⟨h1, h2, h3, h4, h5⟩ := h
  unfold tkR at hu ⊢
  split at hu
  · rename_i hc
    rw [if_pos hc] at *
    exact ⟨hu, h2, Nat.le_succ_of_le h3, h4, h5⟩
  · rename_i hc
    rw [if_neg hc] at *
    split at hu
    · rename_i hd
      rw [if_pos hd] at *
      exact ⟨hu, h2, Nat.le_succ_of_le h3, h4, h5⟩
    · rename_i hd
      rw [if_neg hd] at *
      have hm : ¬ t ∈ s.who := fun e => hc (.inr e)
      refine ⟨hu, asc_ins h2 hm, by rw [ins_len]; exact Nat.succ_le_succ h3, fun e => by exfalso; simp only at e; omega, fun e => ?_⟩
      simp only at e
      have h0 : s.how = 0 := by
        rcases Decidable.em (s.how = 0) with h | h
        · exact h
        · exact absurd (.inr ⟨e, h⟩) hd
      rw [ins_len, h4 h0]
      exact Nat.le_refl _
theorem set_all {T : List Slt} {k : Nat} {s : Slt} {p : Slt → Prop} (h : ∀ x ∈ T, p x) (hs : p s) : ∀ x ∈ T.set k s, p x := fun x hx => by
  rcases List.mem_or_eq_of_mem_set hx with h1 | h1
  · exact h x h1
  · rw [h1]; exact hs
theorem holds_slot {T : List Slt} {k : Nat} {h : Hld} (hh : h ∈ holdsTo T k) : ∃ i, i < k ∧ h.slot = (i : Int) := by
  unfold holdsTo at hh
  obtain ⟨i, hi, hx⟩ := List.mem_flatMap.1 hh
  refine ⟨i, List.mem_range.1 hi, ?_⟩
  split at hx
  · unfold holdsAt at hx
    obtain ⟨t, _, rfl⟩ := List.mem_map.1 hx
    rfl
  · cases hx
theorem holdsAt_slot {k : Nat} {s : Slt} {h : Hld} (hh : h ∈ holdsAt k s) : h.slot = (k : Int) ∧ h.thread ∈ s.who ∧ h.write = (s.how == 2) := by
  unfold holdsAt at hh
  obtain ⟨t, ht, rfl⟩ := List.mem_map.1 hh
  exact ⟨rfl, ht, rfl⟩
theorem mkCs_tab (m : Nat) : mkCs m = (List.replicate m (⟨.slice none 0 0, [], 0⟩ : Slt)).flatMap oneK := by
  apply List.ext_getElem?
  intro q
  rcases Nat.lt_or_ge q (m * 2) with h | h
  · have e1 := mkCs_get m (q / 2) (q % 2) (by omega) (by omega)
    have e2 := flat_get (k := 2) (cells := oneK) (List.replicate m (⟨.slice none 0 0, [], 0⟩ : Slt)) (q / 2) (q % 2) (by rw [List.length_replicate]; omega) (fun _ _ => rfl) (by omega)
    rw [show q / 2 * 2 + q % 2 = q by omega] at e1 e2
    rw [e1, e2]
    simp
  · rw [List.getElem?_eq_none (by rw [mkCs_len]; exact h), List.getElem?_eq_none (by rw [flat_len2, List.length_replicate]; exact h)]
theorem new_tab (b g c m : Nat) : [Ob.nblk (.pointer (some ⟨b, 0, none⟩)) 154 (tbC g m c), .nrow (.slice (some ⟨g, 0, none⟩) m c) 160 2 m (mkCs m)] ++ List.replicate m (.nrow (.slice none 0 0) 3 1 0 []) = tabOb b g c (List.replicate m ⟨.slice none 0 0, [], 0⟩) := by
  unfold tabOb
  rw [List.length_replicate, List.map_replicate, ← mkCs_tab]
  rfl
section
variable {P : Program} {w : World} {M0 M : Mem} {N : Nat} {env : Env}
theorem VL_own {ops : Array Oper} {l : List Oper} {own own' : List Ob} {Q : Post} (e : own = own') (h : VL P w M0 N ops l ⟨M, own', env⟩ Q) : VL P w M0 N ops l ⟨M, own, env⟩ Q := e ▸ h
theorem B_remu {x y : Operand} {t : TypeId} {a b : Int} (ha : 0 ≤ a) (hb : 0 < b) (hm : a ≤ 18446744073709551615) : Bin P .rem t x y (.int .u64 a) (.int .u64 b) (.int .u64 (a % b)) := .mk fun W => by
  have h1 : 0 ≤ a % b := Int.emod_nonneg a (by omega)
  have h2 : a % b ≤ a := by
    rcases Int.lt_or_le a b with h | h
    · rw [Int.emod_eq_of_lt ha h]; omega
    · have := Int.emod_lt_of_pos a hb; omega
  have h3 : a.tmod b = a % b := Int.tmod_eq_emod_of_nonneg ha
  have h4 : b ≠ 0 := by omega
  simp [go_sem, h3, h4, wrapu64 h1 (show a % b ≤ 18446744073709551615 by omega)]
end
theorem wrapu_bound (n : Int) : 0 ≤ IntKind.u64.wrap n ∧ IntKind.u64.wrap n ≤ 18446744073709551615 := by
  have h : IntKind.u64.wrap n = n % 18446744073709551616 := by simp [IntKind.wrap, IntKind.bits, IntKind.signed]
  rw [h]
  omega
end Go.Proofs.Ytdgcdfngpimmmaa
