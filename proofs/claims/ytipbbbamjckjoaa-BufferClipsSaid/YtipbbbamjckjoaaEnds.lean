/- The walks of the span layer's reference: Short, and the ends of spans (Some, Ends). -/
import Derived.Test.YtipbbbamjckjoaaEql
import Derived.Deep.RegionHeld3
import Derived.Deep.AppendLies
namespace Go.Proofs.Ytipbbbamjckjoaa
open Go.RowKit Go.Sort
set_option linter.unusedVariables false
set_option maxRecDepth 20000
set_option linter.unusedSimpArgs false
theorem infoStr : (Try.prog.info? 9).map (fun i => (i.zero, i.size, i.bytes)) = some (some (.string ⟨#[]⟩), 1, 16) := by kernel_rfl
/-- What a function that makes a slice leaves. -/
def RetSl {α : Type} (k : Nat) (cells : α → List Value) (l : List α) (w : World) (e : Ending) (w' : World) : Prop := ∃ v, e = .returned v ∧ Sl w' k cells v l ∧ Below w.heap.size w w'

/-- The ends of spans, each with the text right behind it. -/
def someL (l : List ByteArray) : List ByteArray := em :: l.flatMap (fun x => [x, nx x])
theorem someL_step (l : List ByteArray) (k : Nat) (h : k < l.length) : someL (l.take (k + 1)) = someL (l.take k) ++ [l[k], nx l[k]] := by
  unfold someL
  rw [List.take_succ_eq_append_getElem h, List.flatMap_append]
  simp
theorem pairs_len : ∀ l : List ByteArray, (l.flatMap (fun x => [x, nx x])).length = 2 * l.length
  | [] => rfl
  | x :: l => by rw [List.flatMap_cons, List.length_append, pairs_len l]; simp; omega
theorem someL_len (l : List ByteArray) : (someL l).length = 1 + 2 * l.length := by
  unfold someL
  rw [List.length_cons, pairs_len]; omega
theorem flat_str : ∀ l : List ByteArray, l.flatMap strCells = l.map Value.string
  | [] => rfl
  | x :: l => by rw [List.flatMap_cons, flat_str l]; rfl
theorem ends_someL (s t : Span) (k : ByteArray) : someL [s.lo, s.hi, t.lo, t.hi, k] = ends s t k := rfl

set_option maxHeartbeats 1000000 in
theorem ref_Some (v : Value) (l : List ByteArray) (w : World) (hl : SlS w v l) (hs : ∀ s ∈ l, s.size ≤ 1000000) (hn : l.length ≤ 1000) :
    Calls Try.prog 29 #[v] w (RetSl 1 strCells (someL l) w) := by
  obtain ⟨A, c, rfl, hc1, hc2, _⟩ := id hl
  obtain ⟨i0, hi0, hz0, hz1, hz2⟩ := info_parts infoStr
  unfold maxLen at hc2
  go_enter Try.func29, Try.ntmps29
  go_wp2
  go_loopw [3, 4] (fun o i w' => ∃ k : Nat, k ≤ l.length ∧ i = .int .i64 k ∧ w'.ownsRow w.heap.size 9 1 o (1 + 2 * k) ((someL (l.take k)).map Value.string) ∧ Below w.heap.size w w') (fun o i w' => l.length - (intOf i).toNat)
  case atStart =>
    refine ⟨0, Nat.zero_le _, by go_num, ?_, (Below.refl _ _).alloc (Nat.le_refl _) _⟩
    exact ⟨rfl, .inr ⟨w.heap.size, 1, _, rfl, Nat.le_refl _, heap_alloc_new w _, by omega, by unfold maxLen; omega, rfl, rfl⟩⟩
  case round =>
    obtain ⟨k, hk, rfl, hown, hbw⟩ := hrel
    by_cases hlt : k < l.length
    · obtain ⟨b, off, rfl, hb, hcell⟩ := hl.at_ hlt
      have hcell' : wr.cell? ⟨b, off + k, none⟩ = some (.string l[k]) := (hbw.cell (p := ⟨b, _, none⟩) hb).trans hcell
      have hz := hs l[k] (List.getElem_mem hlt)
      have hi0' : (0 : Int) ≤ (k : Int) := Int.natCast_nonneg _
      have hi1 : (k : Int) < (l.length : Int) := by omega
      have hX := congrArg (List.map Value.string) (someL_step l k hlt)
      rw [List.map_append] at hX
      generalize (someL (l.take k)).map Value.string = X at hown hX
      have HX := Lib.hid hX
      clear hX
      have hbs := hbw.size
      have hne : Value.ownBlock u3 ≠ some b := fun e => by have := (hown.lt b e).1; omega
      have hsum : ¬ 9223372036854775807 < l[k].size + 1 := by omega
      go_wp2
      go_region_held3 (fun w' => w'.cell? ⟨b, off + k, none⟩ = some (.string l[k]))
        (first
          | go_keep
          | (rw [hgrow.cell_far _ (by simp; omega) (Ne.symm hne)]; assumption))
        ((refine step_append_lies _ (by rfl) _ _ _ (by rfl) w.heap.size 9 i0 _ 1 16 Try.underlying43 hi0 hz0 hz1 hz2 rfl (by omega) _ (1 + 2 * k) X (by rfl) ((hown.alloc _).drew)
            ⟨wr.heap.size, 0, none⟩ 2 2 [.string l[k], .string (l[k] ++ ⟨#[0]⟩)] (by rfl) (by rfl) (World.news_of_block (cs := #[.string l[k], .string (l[k] ++ ⟨#[0]⟩)]) (t := 9) (fr := (0, 0)) (heap_alloc_new wr _)) (by simp [Value.oneCell'])
            (by omega) (by unfold maxLen; omega) (by omega) (by simp; omega) (wr.heap.size + 1) (by simp) ?_; intro gg cap w1 hown1 hgrow hat hltg))
      go_wp2
      go_roundw
      case rel =>
        refine ⟨k + 1, by omega, by go_num, ?_, ?_⟩
        · rw [HX.out]; exact hown1
        · exact Below.grown ((hbw.alloc hbs _).drew) hgrow (by simp; omega) (fun g hg => (hown.lt g hg).1)
      case measure => simp [intOf]; omega
    · obtain rfl : k = l.length := by omega
      rw [List.take_length] at hown
      have hlen := someL_len l
      generalize hXe : someL l = X at *
      go_wp2
      go_ret
      refine ⟨_, rfl, ?_, hbw⟩
      rw [← hlen] at hown
      exact Sl.of_own (fun _ _ => rfl) (by rw [flat_str]; exact hown)

/-- Have two spans, and a text, few bytes? -/
def shortB (a b : Span) (k : ByteArray) (most : Int) : Bool := decide ((a.lo.size : Int) + a.hi.size ≤ most) && decide ((b.lo.size : Int) + b.hi.size ≤ most) && decide ((k.size : Int) ≤ most)
set_option maxHeartbeats 400000 in
theorem ref_Short (a b : Span) (k : ByteArray) (most : Int) (w : World) (h1 : Sz a.lo) (h2 : Sz a.hi) (h3 : Sz b.lo) (h4 : Sz b.hi) (h5 : Sz k) :
    Calls Try.prog 15 #[.agg #[.string a.lo, .string a.hi, .bool a.opn], .agg #[.string b.lo, .string b.hi, .bool b.opn], .string k, .int .i64 most] w fun e w' => e = .returned (.bool (shortB a b k most)) ∧ Below w.heap.size w w' := by
  have z1 := h1.le
  have z2 := h2.le
  have z3 := h3.le
  have z4 := h4.le
  have z5 := h5.le
  clear h1 h2 h3 h4 h5
  cases d1 : decide ((a.lo.size : Int) + a.hi.size ≤ most)
  · go_enter Try.func15, Try.ntmps15
    go_wp2
    go_ret
    exact ⟨retv (boolv (by simp [shortB, d1])), by go_grown⟩
  · cases d2 : decide ((b.lo.size : Int) + b.hi.size ≤ most)
    · go_enter Try.func15, Try.ntmps15
      go_wp2
      go_ret
      exact ⟨retv (boolv (by simp [shortB, d1, d2])), by go_grown⟩
    · go_enter Try.func15, Try.ntmps15
      go_wp2
      go_ret
      exact ⟨retv (boolv (by simp [shortB, d1, d2])), by go_grown⟩
end Go.Proofs.Ytipbbbamjckjoaa
