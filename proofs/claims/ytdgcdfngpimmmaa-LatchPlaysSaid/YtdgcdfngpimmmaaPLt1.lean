/- The library's Insert of a number into a row of one's own: its contract by names, from the kit's shelf. -/
import Derived.Test.YtdgcdfngpimmmaaPLg10
import Derived.Test.YtdgcdfngpimmmaaPFd
import Derived.Shelf.Spec.SlicesInsertGrow
namespace Go.Proofs.Ytdgcdfngpimmmaa
open Go Go.RowKit Go.Shelf
set_option linter.unusedVariables false
set_option maxRecDepth 20000
set_option linter.unusedSimpArgs false
set_option maxHeartbeats 4000000
def ρi : Ren := ⟨fun x => match x with | 21 => 124 | 27 => 135 | 28 => 136 | 35 => 143 | 39 => 146 | x => x, fun t => match t with | 0 => 0 | 3 => 3 | 4 => 4 | 22 => 31 | t => t, fun x => x⟩
theorem layI : Lays2.n21 Try.prog ρi := {
  mixed := by kernel_rfl
  f21 := by kernel_rfl
  f27 := by kernel_rfl
  f28 := by kernel_rfl
  f35 := by kernel_rfl
  f39 := by kernel_rfl
  t0 := by kernel_rfl
  a0 := fun w => by kernel_rfl
  z0 := fun w => by kernel_rfl
  v0 := fun w => by kernel_rfl
  t3 := by kernel_rfl
  a3 := fun w => by kernel_rfl
  z3 := fun w => by kernel_rfl
  v3 := fun w => by kernel_rfl
  t4 := by kernel_rfl
  a4 := fun w => by kernel_rfl
  z4 := fun w => by kernel_rfl
  v4 := fun w => by kernel_rfl
  t22 := by kernel_rfl
  a22 := fun w => by kernel_rfl
  z22 := fun w => by kernel_rfl
  v22 := fun w => by kernel_rfl
  i3 := by kernel_rfl }
section
variable {w : World} {M0 M : Mem} {hd : Nat → Value} {own : List Ob} {W W' : World}
theorem Wd.sub {ρ : List Nat} {own' : List Ob} (h : Wd w M0 hd M own W) (hnd : nodupB ρ = true) (hs : OwnSub own' ρ own) : Wd w M0 (fun i => hd (ρ.getD i 0)) M own' W :=
  (Sub.rel (N := 0) (a := ⟨#[], []⟩) (s := ⟨M, own, []⟩) (s' := ⟨M, own', []⟩) (ρ := ρ) ⟨rfl, hnd, hs, trivial⟩ ⟨h, ⟨fun t sv ht => (nomatch ht), rfl, rfl⟩⟩).1
/-- Own object i becomes another one, at its own place or at a new one; all else is given up. -/
theorem Wd.swap {i : Nat} {o o' : Ob} {row : Option Nat} {v' : Value} (hW : Wd w M0 hd M own W) (hi : own[i]? = some o) (hne : o ≠ Ob.gone) (hg : W.grownBy W' row) (hrow : ∀ b, row = some b → foot (hd i) = some b) (hok : ObOk w.heap.size W' v' o') (hf : ∀ b, foot v' = some b → foot (hd i) = some b ∨ W.heap.size ≤ b) : ∃ hd', Wd w M0 hd' M [o'] W' := by
  have hup := hW.upd (o' := .gone) hi hne hg hrow trivial
  have hadd := hup.add (o' := o') (v' := v') hok (fun b hb => by
    rcases hf b hb with h2 | h2
    · refine ⟨hW.sep i _ b hi hne h2, fun q oq hq hqn hqf => ?_⟩
      by_cases hqi : q = i
      · subst hqi
        rw [List.getElem?_set_self (List.getElem?_eq_some_iff.1 hi).1] at hq
        exact hqn (Option.some.inj hq).symm
      · rw [List.getElem?_set_ne (Ne.symm hqi)] at hq
        exact hqi (hW.dis q i oq _ b hq hi hqn hne hqf h2)
    · refine ⟨(hW.fresh h2).1, fun q oq hq hqn hqf => ?_⟩
      by_cases hqi : q = i
      · subst hqi
        rw [List.getElem?_set_self (List.getElem?_eq_some_iff.1 hi).1] at hq
        exact hqn (Option.some.inj hq).symm
      · rw [List.getElem?_set_ne (Ne.symm hqi)] at hq
        exact (hW.fresh h2).2 q oq hq hqn hqf)
  refine ⟨_, hadd.sub (ρ := [own.length]) rfl ⟨?_, trivial⟩⟩
  rw [List.getElem?_append_right (by simp)]
  simp
end
theorem grown_trans {a b c : World} {r : Option Nat} (h : a.grownBy b none) (k : b.grownBy c r) (hr : ∀ x, r = some x → a.heap.size ≤ x) : a.grownBy c none :=
  ⟨k.os.trans h.os, k.tape.trans h.tape, k.output.trans h.output, Nat.le_trans h.size k.size, fun q hq _ => (k.block q (Nat.lt_of_lt_of_le hq h.size) (fun e => by have := hr q e.symm; omega)).trans (h.block q hq (by simp))⟩
theorem grown_same {a b c : World} {r : Option Nat} (h : a.grownBy b r) (k : b.grownBy c r) : a.grownBy c r :=
  ⟨k.os.trans h.os, k.tape.trans h.tape, k.output.trans h.output, Nat.le_trans h.size k.size, fun q hq hn => (k.block q (Nat.lt_of_lt_of_le hq h.size) hn).trans (h.block q hq hn)⟩
theorem ins_take {C cs : List Value} {n i : Nat} (x : Value) (hC : C.length = n + 1) (hCt : C.take n = cs) (hi : i ≤ n) : putL (putL C (i + 1) (cs.drop i)) i [x] = cs.take i ++ x :: cs.drop i := by
  have hcl : cs.length = n := by rw [← hCt, List.length_take]; omega
  have hCi : C.take i = cs.take i := by rw [← hCt, List.take_take, Nat.min_eq_left hi]
  rw [putL_eq _ _ C (by rw [List.length_drop]; omega)]
  rw [putL_eq _ _ _ (by simp; omega)]
  have e1 : (C.take (i + 1) ++ cs.drop i ++ C.drop (i + 1 + (cs.drop i).length)).take i = cs.take i := by
    rw [List.append_assoc, List.take_append_of_le_length (by simp; omega), List.take_take, Nat.min_eq_left (by omega), hCi]
  have e2 : (C.take (i + 1) ++ cs.drop i ++ C.drop (i + 1 + (cs.drop i).length)).drop (i + [x].length) = cs.drop i := by
    have h1 : C.drop (i + 1 + (cs.drop i).length) = [] := List.drop_eq_nil_of_le (by rw [List.length_drop]; omega)
    rw [h1, List.append_nil]
    have h2 : (C.take (i + 1)).length = i + 1 := by rw [List.length_take]; omega
    show (C.take (i + 1) ++ cs.drop i).drop (i + 1) = _
    exact List.drop_left' h2
  rw [e1, e2]
  simp
theorem ins_take2 {A Z D : List Value} {i : Nat} (x : Value) (hA : A.length = i) (hZ : Z.length = D.length + 1) : putL (putL (A ++ Z) i [x]) (i + 1) D = A ++ x :: D := by
  obtain ⟨z, Z', rfl⟩ : ∃ z Z', Z = z :: Z' := by
    cases Z with
    | nil => simp at hZ
    | cons z Z' => exact ⟨z, Z', rfl⟩
  have hZ' : Z'.length = D.length := by simpa using hZ
  have h1 : putL (A ++ z :: Z') i [x] = A ++ x :: Z' := by
    rw [putL_eq [x] i (A ++ z :: Z') (by rw [List.length_append, hA]; show i + 1 ≤ i + (Z'.length + 1); omega), List.take_left' hA]
    have h2 : (A ++ z :: Z').drop (i + [x].length) = Z' := by
      rw [show A ++ z :: Z' = (A ++ [z]) ++ Z' by simp]
      exact List.drop_left' (by rw [List.length_append, hA]; rfl)
    rw [h2]; simp
  rw [h1, show A ++ x :: Z' = (A ++ [x]) ++ Z' by simp]
  have h3 : (A ++ [x]).length = i + 1 := by rw [List.length_append, hA]; rfl
  rw [putL_eq D (i + 1) ((A ++ [x]) ++ Z') (by rw [List.length_append, h3]; omega), List.take_left' h3]
  rw [List.drop_eq_nil_of_le (by rw [List.length_append, h3]; omega)]
  simp
theorem ins_x (u lv x : Value) (i n : Nat) (cs : List Value) (M : Mem) (hi : i ≤ n) (hn : n ≤ 1000000) (hx : x.oneCell' = true) (hcs1 : ∀ v ∈ cs, v.oneCell' = true) :
    CallX Try.prog 124 [u, .int .i64 i, lv] M [.nrow u 3 1 n cs, .nrow lv 3 1 1 [x]] (fun v own' => NSh v (n + 1) ∧ own' = [.nrow v 3 1 (n + 1) (cs.take i ++ x :: cs.drop i)]) := by
  intro w M0 hd W hW
  have hO0 := hW.own 0 _ rfl
  have hO1 := hW.own 1 _ rfl
  obtain ⟨hu, hR0⟩ := id hO0
  obtain ⟨hl, hR1⟩ := id hO1
  obtain ⟨hcl, hR0'⟩ := id hR0
  obtain ⟨_, ⟨_, h⟩ | ⟨vb, vc, vcur, hvv, hvb1, hvb2, hvb3, hvb4, hvb5, hvb6⟩⟩ := id hR1
  · omega
  rw [hl] at hvv
  subst hvv
  rw [Nat.mul_one] at hcl
  have hvs : ∀ j v, ([x] : List Value)[j]? = some v → W.cell? ⟨vb, 0 + j, none⟩ = some v := fun j v hj => by
    rw [cell_of_row W vb (0 + j) _ _ _ hvb2]
    rw [← hvb6, List.getElem?_take] at hj
    split at hj
    · rw [Nat.zero_add]; simpa using hj
    · cases hj
  have hone : ∀ v ∈ ([x] : List Value), v.oneCell' = true := fun v hv => by rw [List.mem_singleton.1 hv]; exact hx
  have hnew : (cs.take i ++ x :: cs.drop i).length = (n + 1) * 1 := by simp; omega
  have hdone : ∀ (v' : Value) (W' : World) (row : Option Nat), W.grownBy W' row → (∀ b, row = some b → foot (hd 0) = some b) → W'.ownsRow w.heap.size 3 1 v' (n + 1) (cs.take i ++ x :: cs.drop i) → (∀ b, foot v' = some b → foot (hd 0) = some b ∨ W.heap.size ≤ b) →
      ∃ v hd' own', Ending.returned v' = .returned v ∧ Wd w M0 hd' M own' W' ∧ NSh v (n + 1) ∧ own' = [.nrow v 3 1 (n + 1) (cs.take i ++ x :: cs.drop i)] := fun v' W' row h1 h2 h3 h4 => by
    obtain ⟨hd', h5⟩ := hW.swap (i := 0) (o' := .nrow v' 3 1 (n + 1) (cs.take i ++ x :: cs.drop i)) (v' := v') rfl (by simp) h1 h2 ⟨rfl, h3⟩ h4
    exact ⟨v', hd', _, rfl, h5, row_shape h3, rfl⟩
  have hfresh : ∀ (W1 : World) (cap : Nat) (cur : Array Value), W.grownBy W1 none → W1.heap[W.heap.size]? = some (.cells cur 3 (0, 0)) → n + 1 ≤ cap → cap ≤ maxLen → cur.size = cap → cur.toList.take (n + 1) = cs.take i ++ x :: cs.drop i →
      ∃ v hd' own', Ending.returned (.slice (some ⟨W.heap.size, 0, none⟩) (n + 1) cap) = .returned v ∧ Wd w M0 hd' M own' W1 ∧ NSh v (n + 1) ∧ own' = [.nrow v 3 1 (n + 1) (cs.take i ++ x :: cs.drop i)] := fun W1 cap cur h1 h2 h3 h4 h5 h6 =>
    hdone _ W1 none h1 (fun b hb => by cases hb) ⟨hnew, .inr ⟨W.heap.size, cap, cur, rfl, hW.below.size, h2, h3, h4, by omega, by rw [Nat.mul_one]; exact h6⟩⟩ (fun b hb => .inr (by
      obtain rfl : W.heap.size = b := by simpa [foot] using hb
      exact Nat.le_refl _))
  rcases hR0' with ⟨hnil, hn0⟩ | ⟨b, cap, cur, hv, hb1, hb2, hnc, hcm, hcs, htake⟩
  · rw [hu] at hnil
    subst hnil hn0
    obtain rfl : cs = [] := List.length_eq_zero_iff.1 hcl
    obtain rfl : i = 0 := by omega
    have hc := Any2.slices_Insert_int_end_grow layI none 0 0 vb 0 1 vc [] [x] W (by omega) (by omega) (by omega) (by omega) rfl rfl (fun _ => rfl) (fun a ha => by cases ha) hvs hone
    refine Calls.mono hc fun e W' ⟨he, hw⟩ => ?_
    subst he hw
    have hge := grownCap_ge W 1 0 (ρi.t 3)
    have hcm : grownCap W 1 0 (ρi.t 3) ≤ maxLen := grownCap_le_maxLen W 1 0 (ρi.t 3) (by omega)
    refine hfresh _ _ _ ⟨rfl, rfl, rfl, by simp, fun q hq _ => Below.heap_alloc W.drew _ q hq⟩ (heap_alloc_new W.drew _) hge hcm ?_ ?_
    · simp only [Array.size_append, size_zeroCells]
      show 1 + (grownCap W 1 0 _ - 1) * 1 = grownCap W 1 0 _
      omega
    · simp
  · rw [hu] at hv
    subst hv
    rw [Nat.mul_one] at htake hcs
    have hfoot : foot (hd 0) = some b := by rw [hu]; rfl
    have hcc : ∀ j v, cs[j]? = some v → W.cell? ⟨b, 0 + j, none⟩ = some v := fun j v hj => by
      rw [cell_of_row W b (0 + j) _ _ _ hb2]
      rw [← htake, List.getElem?_take] at hj
      split at hj
      · rw [Nat.zero_add]; simpa using hj
      · cases hj
    have hcell : ∀ j, j < cap → (W.cell? ⟨b, 0 + j, none⟩).isSome = true := fun j hj => by
      rw [cell_of_row W b (0 + j) _ _ _ hb2]
      simp; omega
    have hfz : ∀ j, W.frozen? ⟨b, j, none⟩ = false := fun j => by simp [World.frozen?, hb2]
    rcases Nat.lt_or_ge n cap with hroom | hroom
    · have hC : (cur.toList.take (n + 1)).length = n + 1 := by rw [List.length_take, Array.length_toList]; omega
      have hCt : (cur.toList.take (n + 1)).take n = cs := by rw [List.take_take, Nat.min_eq_left (by omega), htake]
      rcases Nat.lt_or_ge i n with hin | hin
      · have hvb : vb ≠ b := fun e => by
          have := hW.dis 0 1 _ _ b rfl rfl (by simp) (by simp) hfoot (by rw [hl, ← e]; rfl)
          omega
        have hc := Any2.slices_Insert_int_shift layI b 0 n cap i vb 0 1 vc cs [x] W hin (by omega) (by omega) (by unfold maxLen at hcm; omega) hvb hcl rfl hcc (fun j hj => hcell j (by omega)) (fun j _ => hfz _) hvs hcs1 hone
          3 3 vcur.size cur.size (by simp [World.shape?, hvb2]) (by simp [World.shape?, hb2]) (by omega) (by simp [World.frozen?, hvb2]) (by simp [World.frozen?, hvb2])
        refine Calls.mono hc fun e W' ⟨he, hw⟩ => ?_
        subst he hw
        have hd0 : W.drew.heap[b]? = some (.cells cur 3 (0, 0)) := hb2
        refine hdone _ _ (some b) (grown_same (grown_same (b := W.drew) ⟨rfl, rfl, rfl, Nat.le_refl _, fun _ _ _ => rfl⟩ (grown_setCells _ _ _)) (grown_setCells _ _ _)) (fun q hq => by rw [← Option.some.inj hq]; exact hfoot)
          ⟨hnew, .inr ⟨b, cap, _, rfl, hb1, heap_setCells_row _ _ _ _ (heap_setCells_row _ _ _ _ hd0), hroom, hcm, by rw [putA_size, putA_size, Nat.mul_one]; exact hcs, ?_⟩⟩ (fun q hq => .inl (by
            obtain rfl : b = q := by simpa [foot] using hq
            exact hfoot))
        rw [Nat.mul_one, putA_take, putA_take]
        rw [show 0 + (i + 1) = i + 1 by omega, show 0 + i = i by omega]
        exact ins_take x hC hCt hi
      · obtain rfl : i = n := by omega
        have hc := Any2.slices_Insert_int_end_room layI b 0 i cap vb 0 1 vc [x] W (by omega) (by omega) (by unfold maxLen at hcm; omega) rfl (fun j hj => by
          have := hcell (i + j) (by omega)
          rwa [show 0 + (i + j) = 0 + i + j by omega] at this) (fun j _ => hfz _) hvs hone
        refine Calls.mono hc fun e W' ⟨he, hw⟩ => ?_
        subst he hw
        refine hdone _ _ (some b) (grown_setCells _ _ _) (fun q hq => by rw [← Option.some.inj hq]; exact hfoot)
          ⟨hnew, .inr ⟨b, cap, _, rfl, hb1, heap_setCells_row _ _ _ _ hb2, hroom, hcm, by rw [putA_size, Nat.mul_one]; exact hcs, ?_⟩⟩ (fun q hq => .inl (by
            obtain rfl : b = q := by simpa [foot] using hq
            exact hfoot))
        rw [Nat.mul_one, putA_take, show 0 + i = i by omega]
        have := ins_take x hC hCt hi
        rw [List.drop_eq_nil_of_le (by omega : cs.length ≤ i)] at this ⊢
        exact this
    · have hge := grownCap_ge W (n + 1) cap (ρi.t 3)
      have hcm' := hcm
      unfold maxLen at hcm'
      have hcm2 : grownCap W (n + 1) cap (ρi.t 3) ≤ maxLen := grownCap_le_maxLen W (n + 1) cap (ρi.t 3) (by unfold maxLen; omega)
      rcases Nat.lt_or_ge i n with hin | hin
      · have hc := Any2.slices_Insert_int_grow layI b 0 n cap i vb 0 1 vc cs [x] W hin (by omega) hnc (by omega) (by omega) hcl rfl hcc hvs hcs1 hone
        refine Calls.mono hc fun e W' ⟨he, hw⟩ => ?_
        subst he hw
        have hbase := heap_alloc_new W (.cells ((cs.take i).toArray ++ Builtin.zeroCells (Value.int .i64 0).cells (n + 1 - i) ++ Builtin.zeroCells (Value.int .i64 0).cells (grownCap W (n + 1) cap (ρi.t 3) - (n + 1))) (ρi.t 3))
        refine hfresh _ _ _ (grown_trans (grown_trans (b := (W.alloc _).drew) ⟨rfl, rfl, rfl, by simp, fun q hq _ => Below.heap_alloc W _ q hq⟩ (grown_setCells _ _ _) (fun q hq => by rw [← Option.some.inj hq]; exact Nat.le_refl _)) (grown_same (b := World.drew _) ⟨rfl, rfl, rfl, Nat.le_refl _, fun _ _ _ => rfl⟩ (grown_setCells _ _ _)) (fun q hq => by rw [← Option.some.inj hq]; exact Nat.le_refl _)) (heap_setCells_row _ _ _ _ (show (World.drew _).heap[W.heap.size]? = _ from heap_setCells_row _ _ _ _ (show (World.drew _).heap[W.heap.size]? = _ from hbase))) hge hcm2 ?_ ?_
        · rw [putA_size, putA_size]
          simp only [Array.size_append, size_zeroCells, List.size_toArray, List.length_take]
          show min i cs.length + (n + 1 - i) * 1 + (grownCap W (n + 1) cap _ - (n + 1)) * 1 = grownCap W (n + 1) cap _
          omega
        · rw [putA_take, putA_take]
          simp only [Array.toList_append]
          have hz : (Builtin.zeroCells (Value.int .i64 0).cells (n + 1 - i)).toList.length = n + 1 - i := by rw [Array.length_toList, size_zeroCells]; show (n + 1 - i) * 1 = _; omega
          rw [List.take_append_of_le_length (by rw [List.length_append, hz, List.length_take]; omega), List.take_of_length_le (by rw [List.length_append, hz, List.length_take]; omega)]
          have hli : (cs.take i).length = i := by rw [List.length_take]; omega
          exact ins_take2 x hli (by rw [hz, List.length_drop]; omega)
      · obtain rfl : i = n := by omega
        have hc := Any2.slices_Insert_int_end_grow layI (some ⟨b, 0, none⟩) i cap vb 0 1 vc cs [x] W (by omega) hnc (by omega) (by omega) hcl rfl (fun h => by cases h) (fun a ha j v hj => by
          obtain rfl := Option.some.inj ha
          have := hcc j v hj
          rwa [Addr.add_lit]) hvs hone
        refine Calls.mono hc fun e W' ⟨he, hw⟩ => ?_
        subst he hw
        refine hfresh _ _ _ ⟨rfl, rfl, rfl, by simp, fun q hq _ => Below.heap_alloc W.drew _ q hq⟩ (heap_alloc_new W.drew _) hge hcm2 ?_ ?_
        · simp only [Array.size_append, size_zeroCells, List.size_toArray, List.length_append]
          show cs.length + 1 + (grownCap W (i + 1) cap _ - (i + 1)) * 1 = grownCap W (i + 1) cap _
          omega
        · rw [Array.toList_append, List.take_append_of_le_length (by simp; omega), List.take_of_length_le (by simp; omega), List.take_of_length_le (by omega), List.drop_eq_nil_of_le (by omega)]
end Go.Proofs.Ytdgcdfngpimmmaa
