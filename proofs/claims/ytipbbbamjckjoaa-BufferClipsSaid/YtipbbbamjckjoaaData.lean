/- How the arguments of this seat's laws read as plain Lean data: numbers, texts, structs of one-cell fields, slices; and what a slice of rows is in memory. -/
import Derived.Test.YtipbbbamjckjoaaLaw
namespace Go.Proofs.Ytipbbbamjckjoaa
open Go.ChangeShapes Go.WideShapes Go.ChangeAt Go.RowKit Go.Deep
set_option linter.unusedVariables false
set_option maxRecDepth 20000
set_option linter.unusedSimpArgs false

/-- A number fits its kind. (A name, so that no walk sees the long numerals.) -/
def I64 (n : Int) : Prop := -9223372036854775808 ≤ n ∧ n ≤ 9223372036854775807
/-- A text within the reach. -/
def Sz (s : ByteArray) : Prop := s.size ≤ 140737488351232
theorem Sz.le {s : ByteArray} (h : Sz s) : s.size ≤ 140737488351232 := h
theorem Sz.max {s : ByteArray} (h : Sz s) : s.size ≤ maxLen := by unfold Sz at h; unfold maxLen; omega
theorem I64.lo {n : Int} (h : I64 n) : -9223372036854775808 ≤ n := h.1
theorem I64.hi {n : Int} (h : I64 n) : n ≤ 9223372036854775807 := h.2

/-- 'l' lies in memory behind the slice value v: each element takes k cells, 'cells' says which. -/
def Sl {α : Type} (w : World) (k : Nat) (cells : α → List Value) (v : Value) (l : List α) : Prop :=
  ∃ A c, v = .slice A l.length c ∧ l.length ≤ c ∧ c ≤ maxLen ∧
    (l = [] ∨ ∃ b off, A = some ⟨b, off, none⟩ ∧ b < w.heap.size ∧ ∀ i u (h : i < l.length), cells l[i] = u → ∀ j x, u[j]? = some x → w.cell? ⟨b, off + i * k + j, none⟩ = some x)

theorem Sl.keep {α : Type} {w w' : World} {k : Nat} {cells : α → List Value} {v : Value} {l : List α} (h : Sl w k cells v l) (hb : Below w.heap.size w w') : Sl w' k cells v l := by
  obtain ⟨A, c, rfl, h1, h2, h3⟩ := h
  refine ⟨A, c, rfl, h1, h2, ?_⟩
  rcases h3 with h3 | ⟨b, off, rfl, hlt, hc⟩
  · exact .inl h3
  · exact .inr ⟨b, off, rfl, Nat.lt_of_lt_of_le hlt hb.size, fun i u hi hu j x hx => (hb.cell (p := ⟨b, _, none⟩) hlt).trans (hc i u hi hu j x hx)⟩
theorem Sl.keep' {α : Type} {w w' : World} {B k : Nat} {cells : α → List Value} {v : Value} {l : List α} (h : Sl w k cells v l) (hB : w.heap.size ≤ B) (hb : Below B w w') : Sl w' k cells v l := h.keep (hb.mono hB)

/-- An empty slice, nil or not. -/
theorem Sl.nil {α : Type} (w : World) (k : Nat) (cells : α → List Value) : Sl w k cells (.slice none 0 0) ([] : List α) := ⟨none, 0, rfl, by simp, by simp, .inl rfl⟩

/-- What the call owns as a row reads as a slice. -/
theorem Sl.of_own {α : Type} {w : World} {base : Nat} {e : TypeId} {k : Nat} {cells : α → List Value} {v : Value} {l : List α} (hk : ∀ a ∈ l, (cells a).length = k)
    (h : w.ownsRow base e k v l.length (l.flatMap cells)) : Sl w k cells v l := by
  obtain ⟨hl, h⟩ := h
  rcases h with ⟨rfl, h0⟩ | ⟨g, cap, cur, rfl, hb, hg, hn, hm, hs, ht⟩
  · have : l = [] := List.eq_nil_of_length_eq_zero h0
    subst this
    exact ⟨none, 0, rfl, by simp, by simp, .inl rfl⟩
  · refine ⟨_, cap, rfl, hn, hm, .inr ⟨g, 0, rfl, (Array.getElem?_eq_some_iff.1 hg).1, ?_⟩⟩
    intro i u hi hu j x hx
    have hjk : j < k := by
      have := hk l[i] (List.getElem_mem hi)
      rw [hu] at this
      have h2 := (List.getElem?_eq_some_iff.1 hx).1
      omega
    have key : ∀ (m : List α) (i : Nat) (hi : i < m.length), (∀ a ∈ m, (cells a).length = k) → (m.flatMap cells)[i * k + j]? = (cells m[i])[j]? := by
      intro m
      induction m with
      | nil => intro i hi; simp at hi
      | cons a m ih =>
        intro i hi hk
        have ha := hk a (by simp)
        rw [List.flatMap_cons]
        cases i with
        | zero => rw [Nat.zero_mul, Nat.zero_add, List.getElem?_append_left (by omega)]; rfl
        | succ i =>
          rw [List.getElem?_append_right (by rw [ha, Nat.add_mul]; omega), ha, show (i + 1) * k + j - k = i * k + j by rw [Nat.add_mul]; omega]
          exact ih i (by simpa using hi) (fun a ha => hk a (by simp [ha]))
    have h3 := key l i hi hk
    rw [hu, hx] at h3
    have hlt : i * k + j < l.length * k := by
      have : i * k + k ≤ l.length * k := by rw [← Nat.succ_mul]; exact Nat.mul_le_mul_right _ hi
      omega
    rw [Nat.zero_add, cell_of_row w g (i * k + j) cur e (0, 0) hg]
    rw [← ht, List.getElem?_take, if_pos hlt] at h3
    simpa using h3

/-- One whole element of a slice, by its address: what a load of it wants. -/
theorem Sl.get {α : Type} {w : World} {k : Nat} {cells : α → List Value} {A : Option Addr} {c : Nat} {l : List α} (h : Sl w k cells (.slice A l.length c) l) {i : Nat} (hi : i < l.length) :
    ∃ b off, A = some ⟨b, off, none⟩ ∧ b < w.heap.size ∧ ∀ j x, (cells l[i])[j]? = some x → w.cell? ⟨b, off + i * k + j, none⟩ = some x := by
  obtain ⟨A', c', he, _, _, h3⟩ := h
  injection he with hA _ hc
  subst hA
  rcases h3 with h3 | ⟨b, off, rfl, hb, hc⟩
  · subst h3; simp at hi
  · exact ⟨b, off, rfl, hb, hc i _ hi rfl⟩

section
variable {H : Type} {enc : TypeId × Value → H} {P : Program} {w : World}
/-- All that is met in reading is within the reach. -/
def Wt (P : Program) (t : TypeId) (d : DataW H) : Prop := ∀ n ∈ d.weights P t, n ≤ reachBytes

theorem Wt.of_each {ts : List TypeId} {ds : List (DataW H)} (h : (DataW.weightsEach P ts ds).all (· ≤ reachBytes) = true) {j : Nat} {t : TypeId} {d : DataW H} (ht : ts[j]? = some t) (hd : ds[j]? = some d) : Wt P t d := fun n hn => by
  have := List.all_eq_true.1 h n (DataW.weights_mem_each ht hd n hn)
  simpa using this

theorem weights_mem_all {e : TypeId} : ∀ {ds : List (DataW H)} {d : DataW H}, d ∈ ds → ∀ n ∈ d.weights P e, n ∈ DataW.weightsAll P e ds
  | d' :: ds, d, hd, n, hn => by
    rw [DataW.weightsAll, List.mem_append]
    rcases List.mem_cons.1 hd with rfl | hd
    · exact .inl hn
    · exact .inr (weights_mem_all hd n hn)

theorem rd_int {t : TypeId} {fuel : Nat} {cs : List Value} {x : DataW H × List MemPlace} (ht : P.underlying t = some (.int .i64)) (h : DataW.trod enc P w 0 (fun _ => true) true fuel t cs = some x) : ∃ n : Int, cs = [.int .i64 n] ∧ I64 n := by
  obtain ⟨n, rfl, rfl, hw⟩ := DataW.trod_int ht h
  refine ⟨n, rfl, ?_⟩
  have : -9223372036854775808 ≤ n ∧ n ≤ 9223372036854775807 := by simpa [Lit.wf, IntKind.min, IntKind.max, IntKind.signed, IntKind.bits] using hw
  exact this
theorem rd_bool {t : TypeId} {fuel : Nat} {cs : List Value} {x : DataW H × List MemPlace} (ht : P.underlying t = some .bool) (h : DataW.trod enc P w 0 (fun _ => true) true fuel t cs = some x) : ∃ b : Bool, cs = [.bool b] := by
  obtain ⟨b, rfl, _⟩ := DataW.trod_bool ht h
  exact ⟨b, rfl⟩
theorem rd_str {t : TypeId} {fuel : Nat} {cs : List Value} {x : DataW H × List MemPlace} (ht : P.underlying t = some .string) (h : DataW.trod enc P w 0 (fun _ => true) true fuel t cs = some x) (hw : Wt P t x.1) : ∃ s : ByteArray, cs = [.string s] ∧ Sz s := by
  obtain ⟨s, rfl, rfl, _⟩ := DataW.trod_string ht h
  refine ⟨s, rfl, ?_⟩
  have := hw s.data.toList.length (by simp [DataW.weights])
  unfold Sz
  rw [bl_size]
  exact this

theorem rd_struct {t : TypeId} {fs : Array Field} {fuel : Nat} {cs : List Value} {x : DataW H × List MemPlace} (ht : P.underlying t = some (.struct fs)) (hone : oneCellFields P fs = true) (hC : P.cellsOf t = fs.size)
    (h : DataW.trod enc P w 0 (fun _ => true) true fuel t cs = some x) (hw : Wt P t x.1) :
    cs.length = fs.size ∧ ∀ (j : Nat) (f : Field), fs[j]? = some f → ∃ (v : Value) (y : DataW H × List MemPlace) (n : Nat), cs[j]? = some v ∧ DataW.trod enc P w 0 (fun _ => true) true n f.type [v] = some y ∧ Wt P f.type y.1 := by
  obtain ⟨xs, n, rfl, rfl, hl, hxl, hf⟩ := DataW.trod_struct ht h
  rw [hC] at hl
  refine ⟨hl, fun j f hj => ?_⟩
  obtain ⟨ho, hk⟩ := hone_of hone j f hj
  have hjl : j < fs.size := (Array.getElem?_eq_some_iff.1 hj).1
  have h1 := hf j f hj
  rw [ho, hk, List.drop_eq_getElem_cons (by omega)] at h1
  have hxj : xs[j]? = some (xs[j]'(by omega)) := List.getElem?_eq_getElem (by omega)
  rw [hxj] at h1
  refine ⟨cs[j]'(by omega), _, n, List.getElem?_eq_getElem (by omega), h1, fun m hm => hw m ?_⟩
  simp only [DataW.weights, ht]
  refine DataW.weights_mem_each (j := j) ?_ ?_ m hm
  · rw [List.getElem?_map, Array.getElem?_toList, hj]; rfl
  · rw [List.getElem?_map, hxj]; rfl

theorem addr_cell {w : World} {a : Addr} {v : Value} (h : w.cell? a = some v) : a.spot = none ∧ a.block < w.heap.size := by
  refine ⟨?_, World.block_lt_of_cell? w a h⟩
  unfold World.cell? at h
  split at h
  · split at h
    · cases h
    · rename_i hs; simpa using hs
  · cases h

/-- A slice of whatever elements, each read by R. -/
theorem rd_slice {α : Type} {t e : TypeId} {k by_ : Nat} {fuel : Nat} {cs : List Value} {x : DataW H × List MemPlace} (ht : P.underlying t = some (.slice e)) (hC : P.cellsOf e = k) (hk : 0 < k) (hby : P.bytesOf e = by_)
    (cells : α → List Value) (Ok : α → Prop)
    (hR : ∀ (n : Nat) (cs : List Value) (y : DataW H × List MemPlace), DataW.trod enc P w 0 (fun _ => true) true n e cs = some y → Wt P e y.1 → ∃ a : α, cs = cells a ∧ Ok a)
    (h : DataW.trod enc P w 0 (fun _ => true) true fuel t cs = some x) (hw : Wt P t x.1) :
    ∃ (l : List α) (v : Value), cs = [v] ∧ Sl w k cells v l ∧ (∀ a ∈ l, Ok a) ∧ l.length * by_ ≤ 140737488351232 := by
  rcases open_slice ht h with ⟨rfl, rfl⟩ | ⟨a, len, cap, m, n, D, Pl, rfl, hb, hl, hm, hmm, rfl, hx⟩
  · exact ⟨[], _, rfl, ⟨none, 0, rfl, by simp, by simp, .inl rfl⟩, by simp, by simp⟩
  · simp only [if_true] at hmm
    subst hmm
    have hwE : ∀ i, i < len → Wt P e (D i) := fun i hi n hn => by
      refine hw n ?_
      simp only [DataW.weights, ht, List.mem_cons, List.mem_append]
      exact .inr (.inl (weights_mem_all (List.mem_map.2 ⟨i, by simpa using hi, rfl⟩) n hn))
    have hwS : len * by_ ≤ 140737488351232 := by
      have h1 := hw ((len + (m - len)) * P.bytesOf e) (by simp only [DataW.weights, ht, List.mem_cons, List.length_map, List.length_range]; exact .inl trivial)
      rw [hby] at h1
      have h2 : len * by_ ≤ (len + (m - len)) * by_ := Nat.mul_le_mul_right _ (by omega)
      have h3 : reachBytes = 140737488351232 := rfl
      omega
    have hx' : ∀ i, i < len → ∃ a' : α, Ok a' ∧ ∃ cs', cs' = cells a' ∧ w.cells? 0 (a.add (i * P.cellsOf e)) (P.cellsOf e) = some cs' := fun i hi => by
      obtain ⟨cs', h1, h2⟩ := hx i (by omega)
      obtain ⟨a', rfl, ha⟩ := hR n cs' _ h2 (hwE i hi)
      exact ⟨a', ha, _, rfl, h1⟩
    by_cases hlen : len = 0
    · subst hlen
      exact ⟨[], _, rfl, ⟨_, m, rfl, by simp, hm, .inl rfl⟩, by simp, by simp⟩
    obtain ⟨a0, _⟩ := hx' 0 (by omega)
    have : Inhabited α := ⟨a0⟩
    obtain ⟨F, hF⟩ := choose_lt hx'
    have hcell : ∀ i j u, i < len → (cells (F i))[j]? = some u → w.cell? (a.add (i * k + j)) = some u := fun i j u hi hj => by
      obtain ⟨_, cs', rfl, hc⟩ := hF i hi
      obtain ⟨_, hcl, hat⟩ := World.cells?_some hc
      have hjk : j < P.cellsOf e := by rw [← hcl]; exact (List.getElem?_eq_some_iff.1 hj).1
      have h1 := hat j hjk
      rw [hj, hC, add_add] at h1
      exact h1
    have hcl : (cells (F 0)).length = k := by
      obtain ⟨_, cs', rfl, hc⟩ := hF 0 (by omega)
      obtain ⟨_, hcl, _⟩ := World.cells?_some hc
      rw [hcl, hC]
    have h00 := hcell 0 0 _ (by omega) (List.getElem?_eq_getElem (by omega : 0 < (cells (F 0)).length))
    simp only [Nat.zero_mul, Nat.zero_add] at h00
    have ha0 : a.add 0 = a := by simp [Addr.add]
    rw [ha0] at h00
    obtain ⟨hs, hbl⟩ := addr_cell h00
    refine ⟨(List.range len).map F, _, rfl, ⟨some a, m, by simp, by simpa using hl, hm, .inr ⟨a.block, a.off, ?_, hbl, ?_⟩⟩, ?_, by simpa using hwS⟩
    · obtain ⟨b, o, s⟩ := a; simp only at hs; subst hs; rfl
    · intro i u hi hu j x hj
      have hi' : i < len := by simpa using hi
      rw [← hu] at hj
      simp only [List.getElem_map, List.getElem_range] at hj
      have h1 := hcell i j x hi' hj
      have : a.add (i * k + j) = ⟨a.block, a.off + i * k + j, none⟩ := by
        obtain ⟨b, o, s⟩ := a
        simp only at hs
        subst hs
        unfold Addr.add
        split
        · rename_i h0
          simp only [Addr.mk.injEq, true_and, and_true]
          omega
        · simp only [Addr.mk.injEq, true_and, and_true]; omega
      rw [this] at h1
      exact h1
    · intro a' ha'
      obtain ⟨i, hi, rfl⟩ := List.mem_map.1 ha'
      exact (hF i (by simpa using hi)).1
end

/-! ### An argument's value by its type -/
section
variable {H : Type} {enc : TypeId × Value → H} {W : World} {base : Nat}
theorem arg_string {v : Value} {d : DataW H} {p : List MemPlace} (hv : Value.okWide Try.prog W .any base 9 v) (h : DataW.Trod enc Try.prog W 0 (fun _ => true) true 9 v d p) (hw : Wt Try.prog 9 d) : ∃ s, v = .string s ∧ Sz s := by
  obtain ⟨s, rfl, rfl, rfl, hs⟩ := Go.ChangeMaps.open_string Try.underlying9 hv h
  refine ⟨s, rfl, ?_⟩
  have := hw s.data.toList.length (by simp [DataW.weights])
  unfold Sz; rw [bl_size]; exact this
theorem arg_int {v : Value} {d : DataW H} {p : List MemPlace} (hv : Value.okWide Try.prog W .any base 3 v) (h : DataW.Trod enc Try.prog W 0 (fun _ => true) true 3 v d p) : ∃ n, v = .int .i64 n ∧ I64 n := by
  obtain ⟨n, rfl, rfl, rfl, hw⟩ := open_int Try.underlying3 hv h
  have : -9223372036854775808 ≤ n ∧ n ≤ 9223372036854775807 := by simpa [Lit.wf, IntKind.min, IntKind.max, IntKind.signed, IntKind.bits] using hw
  exact ⟨n, rfl, this⟩
theorem arg_bool {v : Value} {d : DataW H} {p : List MemPlace} (hv : Value.okWide Try.prog W .any base 4 v) (h : DataW.Trod enc Try.prog W 0 (fun _ => true) true 4 v d p) : ∃ b, v = .bool b := by
  obtain ⟨b, rfl, rfl, rfl⟩ := open_bool Try.underlying4 hv h
  exact ⟨b, rfl⟩
/-- A slice argument. -/
theorem arg_slice {α : Type} {t e : TypeId} {k by_ : Nat} (ht : Try.prog.underlying t = some (.slice e)) (hC : Try.prog.cellsOf e = k) (hk : 0 < k) (hby : Try.prog.bytesOf e = by_) (cells : α → List Value) (Ok : α → Prop)
    (hR : ∀ (n : Nat) (cs : List Value) (y : DataW H × List MemPlace), DataW.trod enc Try.prog W 0 (fun _ => true) true n e cs = some y → Wt Try.prog e y.1 → ∃ a : α, cs = cells a ∧ Ok a)
    {v : Value} {d : DataW H} {p : List MemPlace} (hv : Value.okWide Try.prog W .any base t v) (h : DataW.Trod enc Try.prog W 0 (fun _ => true) true t v d p) (hw : Wt Try.prog t d) :
    ∃ l : List α, Sl W k cells v l ∧ (∀ a ∈ l, Ok a) ∧ l.length * by_ ≤ 140737488351232 := by
  obtain ⟨a0, len, cap, rfl⟩ := okWide_slice ht hv
  obtain ⟨fuel, hf⟩ := h
  obtain ⟨l, v', hv', h1, h2, h3⟩ := rd_slice ht hC hk hby cells Ok hR hf hw
  simp only [Value.cells, List.cons.injEq, and_true] at hv'
  subst hv'
  exact ⟨l, h1, h2, h3⟩
end

/-! ### Texts -/
abbrev strCells (s : ByteArray) : List Value := [.string s]
abbrev SlS (w : World) (v : Value) (l : List ByteArray) : Prop := Sl w 1 strCells v l
theorem rd_strs {H : Type} {enc : TypeId × Value → H} {W : World} (n : Nat) (cs : List Value) (y : DataW H × List MemPlace) (h : DataW.trod enc Try.prog W 0 (fun _ => true) true n 9 cs = some y) (hw : Wt Try.prog 9 y.1) :
    ∃ a : ByteArray, cs = strCells a ∧ Sz a := rd_str Try.underlying9 h hw
theorem SlS.at_ {w : World} {A : Option Addr} {c : Nat} {l : List ByteArray} (h : SlS w (.slice A l.length c) l) {i : Nat} (hi : i < l.length) :
    ∃ b off, A = some ⟨b, off, none⟩ ∧ b < w.heap.size ∧ w.cell? ⟨b, off + i, none⟩ = some (.string l[i]) := by
  obtain ⟨b, off, hA, hb, hc⟩ := h.get hi
  exact ⟨b, off, hA, hb, by simpa using hc 0 _ rfl⟩

theorem below_drewN {B : Nat} {a w : World} (h : Below B a w) (n : Nat) : Below B a (w.drewN n) := ⟨h.os, h.tape, h.output, h.size, h.block⟩
theorem below_next {w W w1 : World} (h : Below w.heap.size w W) (hb : Below W.heap.size W w1) : Below w.heap.size w w1 := h.trans (hb.mono h.size)
end Go.Proofs.Ytipbbbamjckjoaa
