/- Plain facts about texts (bytes in order) that all proofs of this seat use: no program in sight. The walks of the value layer: Right, Tail, Add of package value, and Tail of the reference. The last step of every law of this seat: a call that returns true and changes nothing that was there answers as the statement says. And how arguments are read: a text, a number, a truth value, a struct, a slice, as plain Lean data. How the arguments of this seat's laws read as plain Lean data: numbers, texts, structs of one-cell fields, slices; and what a slice of rows is in memory. The walk of the reference's count of bytes (Long), and what it says of the texts. The order of texts, spans of texts, and what the statements of the span layer say of them: plain Lean, no program in sight. The walk of the reference's Less: byte by byte it is the order of texts. A region that draws its order, whose operations read and whose callees leave all that was there as it was: one walk in the order of the text; behind it a world of which 'Below' is known. The structs of package api that the layers share, as plain Lean data. Two structs are equal just where all their fields are: as a walk's '==' and '!=' meet it. Structs of one-cell fields among the arguments, and slices of them, as plain Lean data. A region that draws its order: operations that read or make a call (each leaves a world grown from the one it met), then blocks that are laid for new variables, then stores in one order. One walk serves every order. No program in sight. -/
import Derived.WalkKit
import Derived.WalkSpells
import Derived.WalkLawsBesides
import Derived.Lib.Strings
import Derived.Lib.Hide
import Derived.Test.YtclbmfepdlffnaaRows
import Derived.ProofKit
import Derived.OpenShut
import Derived.ShutString
import Derived.Handy
import Derived.SizedLaws
import Derived.Deep.Slices
import Derived.Deep.Fields
import Derived.BigQuiet
import Derived.Lib.QuietBelow
import Derived.StillTail
namespace Go.Proofs.Ytclbmfepdlffnaa
open Go.RowKit
set_option linter.unusedVariables false
set_option maxRecDepth 20000
set_option linter.unusedSimpArgs false

theorem retv {v u : Value} (h : v = u) : Ending.returned v = .returned u := by rw [h]
theorem boolv {a b : Bool} (h : a = b) : Value.bool a = .bool b := by rw [h]
/-- A text's bytes. -/
abbrev bl (s : ByteArray) : List UInt8 := s.data.toList
theorem bl_inj {a b : ByteArray} (h : bl a = bl b) : a = b := by
  rw [← Lib.mk_data a, ← Lib.mk_data b]; exact congrArg (fun l : List UInt8 => (⟨l.toArray⟩ : ByteArray)) h
theorem bl_size (s : ByteArray) : s.size = (bl s).length := Lib.size_eq s
theorem bl_extract (s : ByteArray) (a b : Nat) : bl (s.extract a b) = ((bl s).drop a).take (b - a) := Lib.extract_data s a b
theorem bl_append (a b : ByteArray) : bl (a ++ b) = bl a ++ bl b := by simp [bl]
theorem beq_bl (a b : ByteArray) : (a.toList == b.toList) = decide (a = b) := by
  rw [Lib.toList_data, Lib.toList_data]
  by_cases h : a = b
  · simp [h]
  · simp only [h, decide_false, beq_eq_false_iff_ne]; exact fun e => h (bl_inj e)
/-- The empty text. -/
abbrev em : ByteArray := ⟨#[]⟩
theorem size_em : em.size = 0 := rfl
/-- A text's end, of at most 16 bytes. -/
def tl (s : ByteArray) : ByteArray := s.extract (s.size - 16) s.size
theorem size_app (a b : ByteArray) : (a ++ b).size = a.size + b.size := by simp

end Go.Proofs.Ytclbmfepdlffnaa
namespace Go.Proofs.Ytclbmfepdlffnaa
open Go.RowKit
set_option linter.unusedVariables false
set_option maxRecDepth 20000
set_option linter.unusedSimpArgs false


set_option maxHeartbeats 400000 in
theorem value_Right (s : ByteArray) (w : World) (hs : s.size ≤ maxLen) :
    Calls Try.prog 105 #[.string s] w fun e w' => e = .returned (.bool (decide ((s.size : Int) ≤ 16))) ∧ w = w' := by
  unfold maxLen at hs
  go_enter Try.func105, Try.ntmps105
  go_wp2
  go_ret
  exact ⟨rfl, rfl⟩

end Go.Proofs.Ytclbmfepdlffnaa
namespace Go.Proofs.Ytclbmfepdlffnaa
open Go.ChangeShapes Go.WideShapes Go.ChangeAt Go.RowKit
open Go.ChangeMaps (open_string shut_string)
set_option linter.unusedVariables false
set_option maxRecDepth 20000
set_option linter.unusedSimpArgs false

section
variable {H : Type} {enc : TypeId × Value → H} {P : Program}
theorem trodAll_below (hl : laidOutB P = true) {W W' : World} (hb : Below W.heap.size W W') (sp : Nat → Bool) :
    ∀ (ts : List TypeId) (vs : List Value) (ds : List (DataW H)) (ps : List MemPlace), (∀ t ∈ ts, P.readableRec t = true ∧ t < P.types.size) →
      DataW.TrodAll enc P W 0 (fun _ => true) true ts vs ds ps → (∀ x ∈ ps, x.block < W.heap.size) → (∀ x ∈ ps, sp x.block = true) → DataW.TrodAll enc P W' 0 sp true ts vs ds ps
  | [], [], [], ps, _, h, _, _ => h
  | t :: ts, v :: vs, d :: ds, ps, hr, h, hlt, hsp => by
    obtain ⟨p, q, hp, hq, rfl⟩ := h
    refine ⟨p, q, WideElems.Trod_stays hl (hr t (by simp)).1 (hr t (by simp)).2 hp (fun x hx => hb.same (hlt x (by simp [hx]))) (fun x hx => hsp x (by simp [hx])), ?_, rfl⟩
    exact trodAll_below hl hb sp ts vs ds q (fun t ht => hr t (by simp [ht])) hq (fun x hx => hlt x (by simp [hx])) (fun x hx => hsp x (by simp [hx]))
  | [], [], _ :: _, _, _, h, _, _ => h.elim
  | [], _ :: _, _, _, _, h, _, _ => h.elim
  | _ :: _, [], _, _, _, h, _, _ => h.elim
  | _ :: _, _ :: _, [], _, _, h, _, _ => h.elim

theorem post_of_below {f : Func} {s : ChangeSpec} {apart fresh handsOn again : Bool} {W W' : World} {args : Array Value} {v : Value} {ds gs : List (DataW H)} {before pa pv : List MemPlace}
    (hW : DataW.Whole enc P f.params.toList s.vars apart W args.toList ds gs before)
    (hres : ∀ (b : Nat) (sp : Nat → Bool) (hd : Bool), DataW.TrodAll enc P W' b sp hd f.resultTypes.toList (v.resultList f.resultTypes.size) (s.fn H (ds ++ gs)).results [])
    (hargs : ∀ sp : Nat → Bool, (∀ p ∈ before, sp p.block = true) → DataW.TrodAll enc P W' 0 sp true f.params.toList args.toList (s.fn H (ds ++ gs)).args pa)
    (hvars : ∀ sp : Nat → Bool, (∀ p ∈ before, sp p.block = true) → DataW.TrodVars enc P W' sp s.vars (s.fn H (ds ++ gs)).vars pv)
    (hps : before = pa ++ pv) (hb : Below W.heap.size W W')
    (hok : ∀ (j : Nat) (t : TypeId) (r : Value), f.resultTypes[j]? = some t → (v.resultList f.resultTypes.size)[j]? = some r → Value.okWide P W' .any 0 t r) :
    s.post enc P f apart fresh handsOn again W args v W' := by
  have hlt : ∀ p ∈ before, p.block < W.heap.size := fun p hp => hW.lt p hp
  have hold : ∀ p ∈ before, (fun b => decide (b < W.heap.size)) p.block = true := fun p hp => by simpa using hlt p hp
  refine ⟨ds, gs, before, [], pa, pv, hW, hres _ _ _, hargs _ hold, hvars _ hold, World.keptBut_mono (fun p hp => ⟨hp, ?_⟩) (hb.frame (· ∈ before)), fun _ => ?_⟩
  · rw [hps, List.mem_append] at hp
    exact Or.inr hp
  · obtain ⟨_, _, _, _, _, hz, hn⟩ := hW
    refine ⟨hok, _, _, ([] ++ pa) ++ pv, ⟨[] ++ pa, pv, trodAll_append (hargs _ (fun _ _ => rfl)) (hres _ _ _), hvars _ (fun _ _ => rfl), rfl, ?_, ?_⟩, ?_⟩
    · intro b off hp
      have hin : MemPlace.cell b off ∈ before := by rw [hps]; simpa using hp
      rw [hb.frozen (hlt _ hin)]
      exact hz b off hin
    · intro ha
      have := hn ha
      rw [hps] at this
      simpa using this
    · intro p hp _
      rw [hps]
      simpa using hp

theorem law_post {f : Func} {s : ChangeSpec} {W W' : World} {args : Array Value} {ds : List (DataW H)} {before : List MemPlace} {tb : TypeId}
    (hl : laidOutB P = true) (hts' : (f.params.toList.all fun t => P.readableRec t && decide (t < P.types.size)) = true) (hres : f.resultTypes = #[tb]) (htb : P.underlying tb = some .bool)
    (hvars : s.vars = []) (hfn : s.fn H (ds ++ []) = { results := [.lit (.bool true)], args := ds })
    (hW : DataW.Whole enc P f.params.toList s.vars false W args.toList ds [] before) (hb : Below W.heap.size W W') :
    s.post enc P f false true false false W args (.bool true) W' := by
  have hlt : ∀ p ∈ before, p.block < W.heap.size := fun p hp => hW.lt p hp
  have hts : ∀ t ∈ f.params.toList, P.readableRec t = true ∧ t < P.types.size := fun t ht => by
    have := List.all_eq_true.1 hts' t ht
    simpa using this
  obtain ⟨p, q, hA, hV, hpq, hfz, hnd⟩ := id hW
  rw [hvars] at hV
  have hq : q = [] := hV
  subst hq
  rw [List.append_nil] at hpq
  subst hpq
  refine post_of_below (pa := before) (pv := []) hW ?_ ?_ ?_ (by simp) hb ?_
  · intro b sp hd
    rw [hfn, hres]
    exact trodAll_cons_mk (shut_bool htb true) trodAll_mk0
  · intro sp hsp
    rw [hfn]
    exact trodAll_below hl hb sp _ _ _ _ hts hA hlt hsp
  · intro sp hsp
    rw [hfn, hvars]
    rfl
  · exact ok_one hres rfl (okWide_bool_mk htb true)
end

theorem args2 {H : Type} {enc : TypeId × Value → H} {P : Program} {W : World} {t0 t1 : TypeId} {args : Array Value} {ds : List (DataW H)} {p : List MemPlace} (h : DataW.TrodAll enc P W 0 (fun _ => true) true [t0, t1] args.toList ds p) :
    ∃ v0 v1 d0 d1 p0 p1, args = #[v0, v1] ∧ ds = [d0, d1] ∧ DataW.Trod enc P W 0 (fun _ => true) true t0 v0 d0 p0 ∧ DataW.Trod enc P W 0 (fun _ => true) true t1 v1 d1 p1 := by
  obtain ⟨v0, vs0, d0, ds0, p0, q0, hargs, rfl, rfl, h0, r0⟩ := trodAll_cons h
  obtain ⟨v1, vs1, d1, ds1, p1, q1, rfl, rfl, rfl, h1, r1⟩ := trodAll_cons r0
  obtain ⟨rfl, rfl, rfl⟩ := trodAll_nil r1
  exact ⟨v0, v1, d0, d1, p0, p1, by cases args; simp_all, rfl, h0, h1⟩
theorem own : ownKnob Try.prog.godebug = none := by kernel_rfl
theorem laid : laidOutB Try.prog = true := by kernel_rfl
end Go.Proofs.Ytclbmfepdlffnaa
namespace Go.Proofs.Ytclbmfepdlffnaa
open Go.ChangeShapes Go.WideShapes Go.ChangeAt Go.RowKit Go.Deep
set_option linter.unusedVariables false
set_option maxRecDepth 20000
set_option linter.unusedSimpArgs false

/-- A number fits its kind. (A name, so that no walk sees the long numerals.) -/
def I64 (n : Int) : Prop := -9223372036854775808 ≤ n ∧ n ≤ 9223372036854775807
/-- A text within the reach. -/
def Sz (s : ByteArray) : Prop := s.size ≤ 140737488351232
theorem Sz.le {s : ByteArray} (h : Sz s) : s.size ≤ 140737488351232 := h
theorem Sz.max {s : ByteArray} (h : Sz s) : s.size ≤ maxLen := by unfold Sz at h; unfold maxLen; omega
theorem I64.lo {n : Int} (h : I64 n) : -9223372036854775808 ≤ n := h.1
theorem I64.hi {n : Int} (h : I64 n) : n ≤ 9223372036854775807 := h.2

/-- 'l' lies in memory behind the slice value v: each element takes k cells, 'cells' says which. -/
def Sl {α : Type} (w : World) (k : Nat) (cells : α → List Value) (v : Value) (l : List α) : Prop :=
  ∃ A c, v = .slice A l.length c ∧ l.length ≤ c ∧ c ≤ maxLen ∧
    (l = [] ∨ ∃ b off, A = some ⟨b, off, none⟩ ∧ b < w.heap.size ∧ ∀ i u (h : i < l.length), cells l[i] = u → ∀ j x, u[j]? = some x → w.cell? ⟨b, off + i * k + j, none⟩ = some x)

/-- An empty slice, nil or not. -/
theorem Sl.nil {α : Type} (w : World) (k : Nat) (cells : α → List Value) : Sl w k cells (.slice none 0 0) ([] : List α) := ⟨none, 0, rfl, by simp, by simp, .inl rfl⟩

/-- What the call owns as a row reads as a slice. -/
theorem Sl.of_own {α : Type} {w : World} {base : Nat} {e : TypeId} {k : Nat} {cells : α → List Value} {v : Value} {l : List α} (hk : ∀ a ∈ l, (cells a).length = k)
    (h : w.ownsRow base e k v l.length (l.flatMap cells)) : Sl w k cells v l := by
  obtain ⟨hl, h⟩ := h
  rcases h with ⟨rfl, h0⟩ | ⟨g, cap, cur, rfl, hb, hg, hn, hm, hs, ht⟩
  · have : l = [] := List.eq_nil_of_length_eq_zero h0
    subst this
    exact ⟨none, 0, rfl, by simp, by simp, .inl rfl⟩
  · refine ⟨_, cap, rfl, hn, hm, .inr ⟨g, 0, rfl, (Array.getElem?_eq_some_iff.1 hg).1, ?_⟩⟩
    intro i u hi hu j x hx
    have hjk : j < k := by
      have := hk l[i] (List.getElem_mem hi)
      rw [hu] at this
      have h2 := (List.getElem?_eq_some_iff.1 hx).1
      omega
    have key : ∀ (m : List α) (i : Nat) (hi : i < m.length), (∀ a ∈ m, (cells a).length = k) → (m.flatMap cells)[i * k + j]? = (cells m[i])[j]? := by
      intro m
      induction m with
      | nil => intro i hi; simp at hi
      | cons a m ih =>
        intro i hi hk
        have ha := hk a (by simp)
        rw [List.flatMap_cons]
        cases i with
        | zero => rw [Nat.zero_mul, Nat.zero_add, List.getElem?_append_left (by omega)]; rfl
        | succ i =>
          rw [List.getElem?_append_right (by rw [ha, Nat.add_mul]; omega), ha, show (i + 1) * k + j - k = i * k + j by rw [Nat.add_mul]; omega]
          exact ih i (by simpa using hi) (fun a ha => hk a (by simp [ha]))
    have h3 := key l i hi hk
    rw [hu, hx] at h3
    have hlt : i * k + j < l.length * k := by
      have : i * k + k ≤ l.length * k := by rw [← Nat.succ_mul]; exact Nat.mul_le_mul_right _ hi
      omega
    rw [Nat.zero_add, cell_of_row w g (i * k + j) cur e (0, 0) hg]
    rw [← ht, List.getElem?_take, if_pos hlt] at h3
    simpa using h3

/-- One whole element of a slice, by its address: what a load of it wants. -/
theorem Sl.get {α : Type} {w : World} {k : Nat} {cells : α → List Value} {A : Option Addr} {c : Nat} {l : List α} (h : Sl w k cells (.slice A l.length c) l) {i : Nat} (hi : i < l.length) :
    ∃ b off, A = some ⟨b, off, none⟩ ∧ b < w.heap.size ∧ ∀ j x, (cells l[i])[j]? = some x → w.cell? ⟨b, off + i * k + j, none⟩ = some x := by
  obtain ⟨A', c', he, _, _, h3⟩ := h
  injection he with hA _ hc
  subst hA
  rcases h3 with h3 | ⟨b, off, rfl, hb, hc⟩
  · subst h3; simp at hi
  · exact ⟨b, off, rfl, hb, hc i _ hi rfl⟩

section
variable {H : Type} {enc : TypeId × Value → H} {P : Program} {w : World}
/-- All that is met in reading is within the reach. -/
def Wt (P : Program) (t : TypeId) (d : DataW H) : Prop := ∀ n ∈ d.weights P t, n ≤ reachBytes

theorem Wt.of_each {ts : List TypeId} {ds : List (DataW H)} (h : (DataW.weightsEach P ts ds).all (· ≤ reachBytes) = true) {j : Nat} {t : TypeId} {d : DataW H} (ht : ts[j]? = some t) (hd : ds[j]? = some d) : Wt P t d := fun n hn => by
  have := List.all_eq_true.1 h n (DataW.weights_mem_each ht hd n hn)
  simpa using this

theorem weights_mem_all {e : TypeId} : ∀ {ds : List (DataW H)} {d : DataW H}, d ∈ ds → ∀ n ∈ d.weights P e, n ∈ DataW.weightsAll P e ds
  | d' :: ds, d, hd, n, hn => by
    rw [DataW.weightsAll, List.mem_append]
    rcases List.mem_cons.1 hd with rfl | hd
    · exact .inl hn
    · exact .inr (weights_mem_all hd n hn)

theorem rd_int {t : TypeId} {fuel : Nat} {cs : List Value} {x : DataW H × List MemPlace} (ht : P.underlying t = some (.int .i64)) (h : DataW.trod enc P w 0 (fun _ => true) true fuel t cs = some x) : ∃ n : Int, cs = [.int .i64 n] ∧ I64 n := by
  obtain ⟨n, rfl, rfl, hw⟩ := DataW.trod_int ht h
  refine ⟨n, rfl, ?_⟩
  have : -9223372036854775808 ≤ n ∧ n ≤ 9223372036854775807 := by simpa [Lit.wf, IntKind.min, IntKind.max, IntKind.signed, IntKind.bits] using hw
  exact this
theorem rd_str {t : TypeId} {fuel : Nat} {cs : List Value} {x : DataW H × List MemPlace} (ht : P.underlying t = some .string) (h : DataW.trod enc P w 0 (fun _ => true) true fuel t cs = some x) (hw : Wt P t x.1) : ∃ s : ByteArray, cs = [.string s] ∧ Sz s := by
  obtain ⟨s, rfl, rfl, _⟩ := DataW.trod_string ht h
  refine ⟨s, rfl, ?_⟩
  have := hw s.data.toList.length (by simp [DataW.weights])
  unfold Sz
  rw [bl_size]
  exact this

theorem rd_struct {t : TypeId} {fs : Array Field} {fuel : Nat} {cs : List Value} {x : DataW H × List MemPlace} (ht : P.underlying t = some (.struct fs)) (hone : oneCellFields P fs = true) (hC : P.cellsOf t = fs.size)
    (h : DataW.trod enc P w 0 (fun _ => true) true fuel t cs = some x) (hw : Wt P t x.1) :
    cs.length = fs.size ∧ ∀ (j : Nat) (f : Field), fs[j]? = some f → ∃ (v : Value) (y : DataW H × List MemPlace) (n : Nat), cs[j]? = some v ∧ DataW.trod enc P w 0 (fun _ => true) true n f.type [v] = some y ∧ Wt P f.type y.1 := by
  obtain ⟨xs, n, rfl, rfl, hl, hxl, hf⟩ := DataW.trod_struct ht h
  rw [hC] at hl
  refine ⟨hl, fun j f hj => ?_⟩
  obtain ⟨ho, hk⟩ := hone_of hone j f hj
  have hjl : j < fs.size := (Array.getElem?_eq_some_iff.1 hj).1
  have h1 := hf j f hj
  rw [ho, hk, List.drop_eq_getElem_cons (by omega)] at h1
  have hxj : xs[j]? = some (xs[j]'(by omega)) := List.getElem?_eq_getElem (by omega)
  rw [hxj] at h1
  refine ⟨cs[j]'(by omega), _, n, List.getElem?_eq_getElem (by omega), h1, fun m hm => hw m ?_⟩
  simp only [DataW.weights, ht]
  refine DataW.weights_mem_each (j := j) ?_ ?_ m hm
  · rw [List.getElem?_map, Array.getElem?_toList, hj]; rfl
  · rw [List.getElem?_map, hxj]; rfl

theorem addr_cell {w : World} {a : Addr} {v : Value} (h : w.cell? a = some v) : a.spot = none ∧ a.block < w.heap.size := by
  refine ⟨?_, World.block_lt_of_cell? w a h⟩
  unfold World.cell? at h
  split at h
  · split at h
    · cases h
    · rename_i hs; simpa using hs
  · cases h

/-- A slice of whatever elements, each read by R. -/
theorem rd_slice {α : Type} {t e : TypeId} {k by_ : Nat} {fuel : Nat} {cs : List Value} {x : DataW H × List MemPlace} (ht : P.underlying t = some (.slice e)) (hC : P.cellsOf e = k) (hk : 0 < k) (hby : P.bytesOf e = by_)
    (cells : α → List Value) (Ok : α → Prop)
    (hR : ∀ (n : Nat) (cs : List Value) (y : DataW H × List MemPlace), DataW.trod enc P w 0 (fun _ => true) true n e cs = some y → Wt P e y.1 → ∃ a : α, cs = cells a ∧ Ok a)
    (h : DataW.trod enc P w 0 (fun _ => true) true fuel t cs = some x) (hw : Wt P t x.1) :
    ∃ (l : List α) (v : Value), cs = [v] ∧ Sl w k cells v l ∧ (∀ a ∈ l, Ok a) ∧ l.length * by_ ≤ 140737488351232 := by
  rcases open_slice ht h with ⟨rfl, rfl⟩ | ⟨a, len, cap, m, n, D, Pl, rfl, hb, hl, hm, hmm, rfl, hx⟩
  · exact ⟨[], _, rfl, ⟨none, 0, rfl, by simp, by simp, .inl rfl⟩, by simp, by simp⟩
  · simp only [if_true] at hmm
    subst hmm
    have hwE : ∀ i, i < len → Wt P e (D i) := fun i hi n hn => by
      refine hw n ?_
      simp only [DataW.weights, ht, List.mem_cons, List.mem_append]
      exact .inr (.inl (weights_mem_all (List.mem_map.2 ⟨i, by simpa using hi, rfl⟩) n hn))
    have hwS : len * by_ ≤ 140737488351232 := by
      have h1 := hw ((len + (m - len)) * P.bytesOf e) (by simp only [DataW.weights, ht, List.mem_cons, List.length_map, List.length_range]; exact .inl trivial)
      rw [hby] at h1
      have h2 : len * by_ ≤ (len + (m - len)) * by_ := Nat.mul_le_mul_right _ (by omega)
      have h3 : reachBytes = 140737488351232 := rfl
      omega
    have hx' : ∀ i, i < len → ∃ a' : α, Ok a' ∧ ∃ cs', cs' = cells a' ∧ w.cells? 0 (a.add (i * P.cellsOf e)) (P.cellsOf e) = some cs' := fun i hi => by
      obtain ⟨cs', h1, h2⟩ := hx i (by omega)
      obtain ⟨a', rfl, ha⟩ := hR n cs' _ h2 (hwE i hi)
      exact ⟨a', ha, _, rfl, h1⟩
    by_cases hlen : len = 0
    · subst hlen
      exact ⟨[], _, rfl, ⟨_, m, rfl, by simp, hm, .inl rfl⟩, by simp, by simp⟩
    obtain ⟨a0, _⟩ := hx' 0 (by omega)
    have : Inhabited α := ⟨a0⟩
    obtain ⟨F, hF⟩ := choose_lt hx'
    have hcell : ∀ i j u, i < len → (cells (F i))[j]? = some u → w.cell? (a.add (i * k + j)) = some u := fun i j u hi hj => by
      obtain ⟨_, cs', rfl, hc⟩ := hF i hi
      obtain ⟨_, hcl, hat⟩ := World.cells?_some hc
      have hjk : j < P.cellsOf e := by rw [← hcl]; exact (List.getElem?_eq_some_iff.1 hj).1
      have h1 := hat j hjk
      rw [hj, hC, add_add] at h1
      exact h1
    have hcl : (cells (F 0)).length = k := by
      obtain ⟨_, cs', rfl, hc⟩ := hF 0 (by omega)
      obtain ⟨_, hcl, _⟩ := World.cells?_some hc
      rw [hcl, hC]
    have h00 := hcell 0 0 _ (by omega) (List.getElem?_eq_getElem (by omega : 0 < (cells (F 0)).length))
    simp only [Nat.zero_mul, Nat.zero_add] at h00
    have ha0 : a.add 0 = a := by simp [Addr.add]
    rw [ha0] at h00
    obtain ⟨hs, hbl⟩ := addr_cell h00
    refine ⟨(List.range len).map F, _, rfl, ⟨some a, m, by simp, by simpa using hl, hm, .inr ⟨a.block, a.off, ?_, hbl, ?_⟩⟩, ?_, by simpa using hwS⟩
    · obtain ⟨b, o, s⟩ := a; simp only at hs; subst hs; rfl
    · intro i u hi hu j x hj
      have hi' : i < len := by simpa using hi
      rw [← hu] at hj
      simp only [List.getElem_map, List.getElem_range] at hj
      have h1 := hcell i j x hi' hj
      have : a.add (i * k + j) = ⟨a.block, a.off + i * k + j, none⟩ := by
        obtain ⟨b, o, s⟩ := a
        simp only at hs
        subst hs
        unfold Addr.add
        split
        · rename_i h0
          simp only [Addr.mk.injEq, true_and, and_true]
          omega
        · simp only [Addr.mk.injEq, true_and, and_true]; omega
      rw [this] at h1
      exact h1
    · intro a' ha'
      obtain ⟨i, hi, rfl⟩ := List.mem_map.1 ha'
      exact (hF i (by simpa using hi)).1
end

/-! ### An argument's value by its type -/
section
variable {H : Type} {enc : TypeId × Value → H} {W : World} {base : Nat}
/-- A slice argument. -/
theorem arg_slice {α : Type} {t e : TypeId} {k by_ : Nat} (ht : Try.prog.underlying t = some (.slice e)) (hC : Try.prog.cellsOf e = k) (hk : 0 < k) (hby : Try.prog.bytesOf e = by_) (cells : α → List Value) (Ok : α → Prop)
    (hR : ∀ (n : Nat) (cs : List Value) (y : DataW H × List MemPlace), DataW.trod enc Try.prog W 0 (fun _ => true) true n e cs = some y → Wt Try.prog e y.1 → ∃ a : α, cs = cells a ∧ Ok a)
    {v : Value} {d : DataW H} {p : List MemPlace} (hv : Value.okWide Try.prog W .any base t v) (h : DataW.Trod enc Try.prog W 0 (fun _ => true) true t v d p) (hw : Wt Try.prog t d) :
    ∃ l : List α, Sl W k cells v l ∧ (∀ a ∈ l, Ok a) ∧ l.length * by_ ≤ 140737488351232 := by
  obtain ⟨a0, len, cap, rfl⟩ := okWide_slice ht hv
  obtain ⟨fuel, hf⟩ := h
  obtain ⟨l, v', hv', h1, h2, h3⟩ := rd_slice ht hC hk hby cells Ok hR hf hw
  simp only [Value.cells, List.cons.injEq, and_true] at hv'
  subst hv'
  exact ⟨l, h1, h2, h3⟩
end

/-! ### Texts -/
abbrev strCells (s : ByteArray) : List Value := [.string s]
abbrev SlS (w : World) (v : Value) (l : List ByteArray) : Prop := Sl w 1 strCells v l
theorem SlS.at_ {w : World} {A : Option Addr} {c : Nat} {l : List ByteArray} (h : SlS w (.slice A l.length c) l) {i : Nat} (hi : i < l.length) :
    ∃ b off, A = some ⟨b, off, none⟩ ∧ b < w.heap.size ∧ w.cell? ⟨b, off + i, none⟩ = some (.string l[i]) := by
  obtain ⟨b, off, hA, hb, hc⟩ := h.get hi
  exact ⟨b, off, hA, hb, by simpa using hc 0 _ rfl⟩

theorem below_drewN {B : Nat} {a w : World} (h : Below B a w) (n : Nat) : Below B a (w.drewN n) := ⟨h.os, h.tape, h.output, h.size, h.block⟩
theorem below_next {w W w1 : World} (h : Below w.heap.size w W) (hb : Below W.heap.size W w1) : Below w.heap.size w w1 := h.trans (hb.mono h.size)
end Go.Proofs.Ytclbmfepdlffnaa
namespace Go.Proofs.Ytclbmfepdlffnaa
open Go.RowKit
set_option linter.unusedVariables false
set_option maxRecDepth 20000
set_option linter.unusedSimpArgs false

end Go.Proofs.Ytclbmfepdlffnaa
namespace Go.Proofs.Ytclbmfepdlffnaa
open Go.RowKit
set_option linter.unusedVariables false
set_option maxRecDepth 20000
set_option linter.unusedSimpArgs false

theorem bls_cons (a b : UInt8) (x y : List UInt8) : Op.bytesLess (a :: x) (b :: y) = (decide (a.toNat < b.toNat) || (decide (a.toNat = b.toNat) && Op.bytesLess x y)) := by
  rw [Op.bytesLess]
  have h1 : decide (a < b) = decide (a.toNat < b.toNat) := by rw [Bool.eq_iff_iff, decide_eq_true_eq, decide_eq_true_eq]; exact UInt8.lt_iff_toNat_lt
  have h2 : (a == b) = decide (a.toNat = b.toNat) := by
    rw [Bool.eq_iff_iff, beq_iff_eq, decide_eq_true_eq]; exact UInt8.toNat_inj.symm
  rw [h1, h2]
theorem bls_nil (x : List UInt8) : Op.bytesLess x [] = false := by cases x <;> rfl
theorem bls_cons_nil (b : UInt8) (y : List UInt8) : Op.bytesLess [] (b :: y) = true := rfl
theorem bls_irr : ∀ x : List UInt8, Op.bytesLess x x = false
  | [] => rfl
  | a :: x => by rw [bls_cons, bls_irr x]; simp
theorem bls_tr : ∀ x y z : List UInt8, Op.bytesLess x y = true → Op.bytesLess y z = true → Op.bytesLess x z = true
  | _, [], _, h, _ => by rw [bls_nil] at h; cases h
  | _, _ :: _, [], _, h => by rw [bls_nil] at h; cases h
  | [], _ :: _, _ :: _, _, _ => rfl
  | a :: x, b :: y, c :: z, h1, h2 => by
    rw [bls_cons] at h1 h2 ⊢
    simp only [Bool.or_eq_true, Bool.and_eq_true, decide_eq_true_eq] at h1 h2 ⊢
    rcases h1 with h1 | ⟨h1, h1'⟩ <;> rcases h2 with h2 | ⟨h2, h2'⟩
    · exact .inl (by omega)
    · exact .inl (by omega)
    · exact .inl (by omega)
    · exact .inr ⟨by omega, bls_tr x y z h1' h2'⟩
theorem bls_tot : ∀ x y : List UInt8, Op.bytesLess x y = false → Op.bytesLess y x = false → x = y
  | [], [], _, _ => rfl
  | [], _ :: _, h, _ => by rw [bls_cons_nil] at h; cases h
  | _ :: _, [], _, h => by rw [bls_cons_nil] at h; cases h
  | a :: x, b :: y, h1, h2 => by
    rw [bls_cons] at h1 h2
    simp only [Bool.or_eq_false_iff, Bool.and_eq_false_iff, decide_eq_false_iff_not] at h1 h2
    obtain ⟨h1, h1'⟩ := h1
    obtain ⟨h2, h2'⟩ := h2
    have e : a.toNat = b.toNat := by omega
    have e' : a = b := UInt8.toNat_inj.1 e
    rw [bls_tot x y (h1'.resolve_left (by simp [e])) (h2'.resolve_left (by simp [e])), e']
theorem bls_snoc : ∀ x k : List UInt8, Op.bytesLess x (k ++ [0]) = !Op.bytesLess k x
  | [], [] => rfl
  | [], b :: k => rfl
  | a :: x, [] => by
    rw [List.nil_append, bls_cons, bls_nil, bls_cons_nil]
    simp
  | a :: x, b :: k => by
    rw [List.cons_append, bls_cons, bls_cons, bls_snoc x k]
    by_cases h1 : a.toNat < b.toNat
    · have h2 : ¬ b.toNat < a.toNat := by omega
      have h3 : ¬ b.toNat = a.toNat := by omega
      simp [h1, h2, h3]
    · by_cases h2 : a.toNat = b.toNat
      · have h3 : ¬ b.toNat < a.toNat := by omega
        simp [h2]
      · have h3 : b.toNat < a.toNat := by omega
        simp [h1, h2, h3]

/-- One text is less than another. -/
abbrev lt (a b : ByteArray) : Bool := Op.bytesLess a.toList b.toList
theorem lt_bl (a b : ByteArray) : lt a b = Op.bytesLess (bl a) (bl b) := by unfold lt; rw [Lib.toList_data, Lib.toList_data]
theorem lt_irr (a : ByteArray) : lt a a = false := bls_irr _
theorem lt_tr {a b c : ByteArray} (h : lt a b = true) (h' : lt b c = true) : lt a c = true := bls_tr _ _ _ h h'
theorem lt_tot {a b : ByteArray} (h : lt a b = false) (h' : lt b a = false) : a = b := by
  rw [lt_bl] at h h'; exact bl_inj (bls_tot _ _ h h')
theorem lt_asy {a b : ByteArray} (h : lt a b = true) : lt b a = false := by
  cases h' : lt b a with
  | false => rfl
  | true => have := lt_tr h h'; rw [lt_irr] at this; cases this
theorem lt_le {a b c : ByteArray} (h : lt a b = true) (h' : lt c b = false) : lt a c = true := by
  cases h2 : lt a c with
  | true => rfl
  | false =>
    cases h3 : lt c a with
    | true => rw [lt_tr h3 h] at h'; cases h'
    | false => rw [lt_tot h3 h2] at h'; rw [h] at h'; cases h'
theorem le_lt {a b c : ByteArray} (h : lt b a = false) (h' : lt b c = true) : lt a c = true := by
  cases h2 : lt a b with
  | true => exact lt_tr h2 h'
  | false => rw [lt_tot h2 h]; exact h'
theorem le_le {a b c : ByteArray} (h : lt b a = false) (h' : lt c b = false) : lt c a = false := by
  cases h2 : lt c a with
  | false => rfl
  | true => rw [lt_le h2 h] at h'; cases h'
theorem lt_em (a : ByteArray) : lt a em = false := by rw [lt_bl]; exact bls_nil _
/-- The text right behind another one. -/
def nx (k : ByteArray) : ByteArray := k ++ ⟨#[0]⟩
theorem bl_nx (k : ByteArray) : bl (nx k) = bl k ++ [0] := by unfold nx; rw [bl_append]
theorem lt_nx (x k : ByteArray) : lt x (nx k) = !lt k x := by rw [lt_bl, lt_bl, bl_nx]; exact bls_snoc _ _
theorem size_nx (k : ByteArray) : (nx k).size = k.size + 1 := by rw [bl_size, bl_nx, bl_size]; simp

/-! ### Spans -/
structure Span where
  lo : ByteArray
  hi : ByteArray
  opn : Bool
theorem Span.ext_ {a b : Span} (h1 : a.lo = b.lo) (h2 : a.hi = b.hi) (h3 : a.opn = b.opn) : a = b := by
  cases a; cases b; simp only at h1 h2 h3; subst h1 h2 h3; rfl
instance : DecidableEq Span := fun a b =>
  if h : a.lo = b.lo ∧ a.hi = b.hi ∧ a.opn = b.opn then isTrue (Span.ext_ h.1 h.2.1 h.2.2) else isFalse (fun e => h (by rw [e]; exact ⟨rfl, rfl, rfl⟩))

def Span.Ok (n : Nat) (s : Span) : Prop := s.lo.size ≤ n ∧ s.hi.size ≤ n
def has (s : Span) (k : ByteArray) : Bool := !lt k s.lo && (s.opn || lt k s.hi)
def empty (s : Span) : Bool := !s.opn && !lt s.lo s.hi
def spE : Span := ⟨em, em, false⟩
def norm (s : Span) : Span := if empty s = true then spE else if s.opn = true then ⟨s.lo, em, true⟩ else s
def all : Span := ⟨em, em, true⟩
def point (k : ByteArray) : Span := ⟨k, nx k, false⟩
/-- The greater, the lesser of two texts. -/
def mx (a b : ByteArray) : ByteArray := if lt a b = true then b else a
def mn (a b : ByteArray) : ByteArray := if lt b a = true then b else a
def meetLo (a b : Span) : ByteArray := mx a.lo b.lo
def meetHi (a b : Span) : ByteArray := if a.opn = true then b.hi else if b.opn = true then a.hi else mn a.hi b.hi
def rawMeet (a b : Span) : Span := ⟨meetLo a b, meetHi a b, a.opn && b.opn⟩
def meet (a b : Span) : Span := norm (rawMeet a b)
def below (s : Span) (k : ByteArray) : Span := meet s ⟨em, k, false⟩
def same (a b : Span) : Bool := decide (norm a = norm b)
def within (a b : Span) : Bool := same (meet a b) a
def touch (a b : Span) : Bool := !empty (meet a b)

theorem empty_iff (s : Span) : empty s = !has s s.lo := by
  unfold empty has; rw [lt_irr]; cases s.opn <;> simp
theorem has_empty {s : Span} (h : empty s = true) (x : ByteArray) : has s x = false := by
  unfold empty at h
  simp only [Bool.and_eq_true, Bool.not_eq_true'] at h
  obtain ⟨ho, hl⟩ := h
  unfold has
  rw [ho]
  cases hx : lt x s.lo with
  | true => rfl
  | false =>
    simp only [Bool.not_false, Bool.true_and, Bool.false_or]
    cases h2 : lt x s.hi with
    | false => rfl
    | true => rw [le_lt hx h2] at hl; cases hl
theorem has_norm (s : Span) (x : ByteArray) : has (norm s) x = has s x := by
  unfold norm
  split
  · rename_i h
    rw [has_empty h]
    unfold has spE
    rw [lt_em]; simp
  · split
    · rename_i h
      unfold has
      rw [h]; simp
    · rfl
theorem empty_norm (s : Span) : empty (norm s) = empty s := by
  unfold norm
  split
  · rename_i h; rw [h]; unfold empty spE; simp only [lt_irr]; rfl
  · split
    · rename_i h2; unfold empty; simp [h2]
    · rfl
theorem norm_norm (s : Span) : norm (norm s) = norm s := by
  have h0 := empty_norm s
  by_cases h : empty s = true
  · have e : norm s = spE := by unfold norm; rw [if_pos h]
    rw [e] at h0 ⊢
    rw [h] at h0
    unfold norm; rw [if_pos h0]
  · by_cases h2 : s.opn = true
    · have e : norm s = ⟨s.lo, em, true⟩ := by unfold norm; rw [if_neg h, if_pos h2]
      rw [e] at h0 ⊢
      have h3 : ¬ empty ⟨s.lo, em, true⟩ = true := by rw [h0]; exact h
      conv => lhs; unfold norm
      rw [if_neg h3]
      rfl
    · have e : norm s = s := by unfold norm; rw [if_neg h, if_neg h2]
      rw [e, e]
theorem has_point (k x : ByteArray) : has (point k) x = decide (x = k) := by
  unfold has point
  simp only [Bool.false_or, lt_nx]
  by_cases h : x = k
  · subst h; simp [lt_irr]
  · rw [decide_eq_false h]
    cases h1 : lt x k with
    | true => rfl
    | false =>
      cases h2 : lt k x with
      | true => rfl
      | false => exact absurd (lt_tot h1 h2) h
theorem has_all (x : ByteArray) : has all x = true := by unfold has all; rw [lt_em]; rfl
theorem has_rawMeet (a b : Span) (x : ByteArray) : has (rawMeet a b) x = (has a x && has b x) := by
  unfold has rawMeet meetLo meetHi mx mn
  simp only
  have h1 : lt x (if lt a.lo b.lo = true then b.lo else a.lo) = (lt x a.lo || lt x b.lo) := by
    split
    · rename_i h
      cases h2 : lt x a.lo with
      | false => simp
      | true => rw [lt_tr h2 h]; rfl
    · rename_i h
      have h' : lt a.lo b.lo = false := by simpa using h
      cases h2 : lt x b.lo with
      | false => simp
      | true => rw [lt_le h2 h']; rfl
  rw [h1]
  have h2 : (a.opn && b.opn || lt x (if a.opn = true then b.hi else if b.opn = true then a.hi else if lt b.hi a.hi = true then b.hi else a.hi)) = ((a.opn || lt x a.hi) && (b.opn || lt x b.hi)) := by
    cases ha : a.opn <;> cases hb : b.opn <;> simp
    split
    · rename_i h
      cases h3 : lt x b.hi with
      | false => simp
      | true => rw [lt_tr h3 h]; rfl
    · rename_i h
      have h' : lt b.hi a.hi = false := by simpa using h
      cases h3 : lt x a.hi with
      | false => simp
      | true => rw [lt_le h3 h']; rfl
  rw [h2]
  cases lt x a.lo <;> cases lt x b.lo <;> cases a.opn <;> cases lt x a.hi <;> cases b.opn <;> cases lt x b.hi <;> rfl
theorem has_meet (a b : Span) (x : ByteArray) : has (meet a b) x = (has a x && has b x) := by unfold meet; rw [has_norm, has_rawMeet]
/-- All ends of two spans, and a text, with the texts right behind them. -/
def ends (s t : Span) (k : ByteArray) : List ByteArray := [em, s.lo, nx s.lo, s.hi, nx s.hi, t.lo, nx t.lo, t.hi, nx t.hi, k, nx k]

theorem norm_ne {s : Span} (h : empty s = false) : norm s = ⟨s.lo, if s.opn = true then em else s.hi, s.opn⟩ := by
  unfold norm
  rw [if_neg (by simp [h])]
  split
  · rename_i h2; rw [h2]
  · rename_i h2
    apply Span.ext_ <;> rfl
/-- Two spans that agree at the four ends have one form. -/
theorem norm_eq_of {s t : Span} (h : ∀ x, x = s.lo ∨ x = s.hi ∨ x = t.lo ∨ x = t.hi → has s x = has t x) : norm s = norm t := by
  have e1 := empty_iff s
  have e2 := empty_iff t
  have h1 := h s.lo (by simp)
  have h2 := h t.lo (by simp)
  have h3 := h s.hi (by simp)
  have h4 := h t.hi (by simp)
  cases he : empty s with
  | true =>
    rw [has_empty he] at h2
    rw [← h2] at e2
    unfold norm
    rw [if_pos he, if_pos (by simpa using e2)]
  | false =>
    cases he' : empty t with
    | true =>
      rw [has_empty he'] at h1
      rw [h1, he] at e1; cases e1
    | false =>
      rw [he] at e1
      rw [he'] at e2
      have hs : has s s.lo = true := by simpa using e1.symm
      have ht : has t t.lo = true := by simpa using e2.symm
      rw [hs] at h1
      rw [ht] at h2
      have a1 : lt s.lo t.lo = false := by
        have := h1.symm; unfold has at this; simp only [Bool.and_eq_true, Bool.not_eq_true'] at this; exact this.1
      have a2 : lt t.lo s.lo = false := by
        have := h2; unfold has at this; simp only [Bool.and_eq_true, Bool.not_eq_true'] at this; exact this.1
      have hlo : s.lo = t.lo := lt_tot a1 a2
      have n1 := norm_ne he
      have n2 := norm_ne he'
      have b1 : s.opn = false → lt s.lo s.hi = true := fun ho => by unfold empty at he; simpa [ho] using he
      have b2 : t.opn = false → lt t.lo t.hi = true := fun ho => by unfold empty at he'; simpa [ho] using he'
      cases ho : s.opn with
      | true =>
        cases ho' : t.opn with
        | true => rw [n1, n2, ho, ho', hlo]; rfl
        | false =>
          exfalso
          unfold has at h4
          rw [ho, ho', lt_irr] at h4
          have := lt_asy (b2 ho')
          rw [← hlo] at this
          simp [this] at h4
      | false =>
        cases ho' : t.opn with
        | true =>
          exfalso
          unfold has at h3
          rw [ho, ho', lt_irr] at h3
          have := lt_asy (b1 ho)
          rw [hlo] at this
          simp [this] at h3
        | false =>
          have hhi : s.hi = t.hi := by
            refine lt_tot ?_ ?_
            · cases hc : lt s.hi t.hi with
              | false => rfl
              | true =>
                exfalso
                unfold has at h3
                have := lt_asy (b1 ho)
                rw [ho, ho', lt_irr, hc, ← hlo, this] at h3
                simp at h3
            · cases hc : lt t.hi s.hi with
              | false => rfl
              | true =>
                exfalso
                unfold has at h4
                have := lt_asy (b2 ho')
                rw [ho, ho', lt_irr, hc, hlo, this] at h4
                simp at h4
          rw [n1, n2, ho, ho', hlo, hhi]
theorem has_of_norm {s t : Span} (h : norm s = norm t) (x : ByteArray) : has s x = has t x := by rw [← has_norm s, ← has_norm t, h]
theorem within_ends (s t : Span) (k : ByteArray) : (ends s t k).all (fun x => !has s x || has t x) = within s t := by
  unfold within same
  rw [Bool.eq_iff_iff, decide_eq_true_eq, List.all_eq_true]
  constructor
  · intro h
    have hx : ∀ x, x = s.lo ∨ x = t.hi → has s x = true → has t x = true := fun x hx hs => by
      have : x ∈ ends s t k := by rcases hx with rfl | rfl <;> simp [ends]
      simpa [hs] using h x this
    have key : ∀ x, has s x = true → has t x = true := fun x hs => by
      have hlo : has s s.lo = true := by
        have := empty_iff s
        cases he : empty s with
        | true => rw [has_empty he] at hs; cases hs
        | false => rw [he] at this; simpa using this.symm
      have h1 := hx s.lo (.inl rfl) hlo
      have h2 := hx t.hi (.inr rfl)
      unfold has at h1 h2 hs ⊢
      simp only [Bool.and_eq_true, Bool.not_eq_true', Bool.or_eq_true] at h1 h2 hs ⊢
      refine ⟨le_le h1.1 hs.1, ?_⟩
      by_cases ho : t.opn = true
      · exact .inl ho
      · right
        have ho' : t.opn = false := by simpa using ho
        have h3 : lt s.lo t.hi = true := h1.2.resolve_left ho
        have h4 : ¬ (s.opn = true ∨ lt t.hi s.hi = true) := fun hc => by
          have := (h2 ⟨lt_asy h3, hc⟩).2
          rw [lt_irr] at this
          rcases this with h5 | h5
          · exact ho h5
          · cases h5
        have h5 : s.opn = false := by cases h6 : s.opn with | false => rfl | true => exact absurd (.inl h6) h4
        have h6 : lt t.hi s.hi = false := by cases h7 : lt t.hi s.hi with | false => rfl | true => exact absurd (.inr h7) h4
        have h7 : lt x s.hi = true := hs.2.resolve_left (by simp [h5])
        exact lt_le h7 h6
    refine norm_eq_of fun x _ => ?_
    rw [has_meet]
    cases hs : has s x with
    | false => rfl
    | true => rw [key x hs]; rfl
  · intro h x _
    have := has_of_norm h x
    rw [has_meet] at this
    cases hs : has s x with
    | false => rfl
    | true => rw [hs] at this; simpa using this
/-- The reference's meet, which looks at the ends in another order. -/
def refMeet (a b : Span) : Span :=
  norm ⟨if lt a.lo b.lo = true then b.lo else a.lo, if (!b.opn && (a.opn || lt b.hi a.hi)) = true then b.hi else a.hi, if (!b.opn && (a.opn || lt b.hi a.hi)) = true then false else a.opn⟩
theorem refMeet_eq (a b : Span) : refMeet a b = meet a b := by
  unfold refMeet meet
  refine norm_eq_of fun x _ => ?_
  rw [has_rawMeet]
  have := has_rawMeet a b x
  rw [← this]
  unfold has rawMeet meetLo meetHi mx mn
  simp only
  congr 1
  cases ha : a.opn <;> cases hb : b.opn <;> cases hc : lt b.hi a.hi <;> simp
end Go.Proofs.Ytclbmfepdlffnaa
namespace Go.Proofs.Ytclbmfepdlffnaa
open Go.RowKit
set_option linter.unusedVariables false
set_option maxRecDepth 20000
set_option linter.unusedSimpArgs false

theorem bl_drop {s : ByteArray} {k : Nat} (h : k < s.size) : (bl s).drop k = s[k] :: (bl s).drop (k + 1) := by
  rw [List.drop_eq_getElem_cons (by rw [← bl_size]; exact h)]; rfl
theorem less_ne {a b : ByteArray} {k : Nat} (ha : k < a.size) (hb : k < b.size) (h : ((a[k].toNat : Int) != (b[k].toNat : Int)) = true) :
    Op.bytesLess ((bl a).drop k) ((bl b).drop k) = decide (a[k].toNat < b[k].toNat) := by
  rw [bl_drop ha, bl_drop hb, bls_cons]
  have h' : ¬ a[k].toNat = b[k].toNat := by
    have := h; simp only [bne_iff_ne, ne_eq] at this; omega
  rw [decide_eq_false h']; simp
theorem less_eq {a b : ByteArray} {k : Nat} (ha : k < a.size) (hb : k < b.size) (h : ((a[k].toNat : Int) != (b[k].toNat : Int)) = false) :
    Op.bytesLess ((bl a).drop k) ((bl b).drop k) = Op.bytesLess ((bl a).drop (k + 1)) ((bl b).drop (k + 1)) := by
  rw [bl_drop ha, bl_drop hb, bls_cons]
  have h' : a[k].toNat = b[k].toNat := by
    have := h; simp only [bne_eq_false_iff_eq] at this; omega
  simp [h']
theorem less_end {a b : ByteArray} {k : Nat} (ha : k ≤ a.size) (hb : k ≤ b.size) (h : ¬ k < a.size ∨ ¬ k < b.size) : Op.bytesLess ((bl a).drop k) ((bl b).drop k) = decide (a.size < b.size) := by
  by_cases hb' : k < b.size
  · have ha' : (bl a).drop k = [] := List.drop_eq_nil_of_le (by rw [← bl_size]; omega)
    rw [ha', bl_drop hb', bls_cons_nil, decide_eq_true (by omega)]
  · have hb'' : (bl b).drop k = [] := List.drop_eq_nil_of_le (by rw [← bl_size]; omega)
    rw [hb'', bls_nil, decide_eq_false (by omega)]

set_option maxHeartbeats 400000 in
theorem ref_Less (a b : ByteArray) (ha : a.size ≤ maxLen) (hb : b.size ≤ maxLen) (w : World) :
    Calls Try.prog 90 #[.string a, .string b] w fun e w' => e = .returned (.bool (Op.bytesLess a.toList b.toList)) ∧ Below w.heap.size w w' := by
  unfold maxLen at ha hb
  go_enter Try.func90, Try.ntmps90
  go_wp2
  go_loopw [5] (fun i w' => ∃ k : Nat, k ≤ a.size ∧ k ≤ b.size ∧ i = .int .i64 k ∧ Below w.heap.size w w' ∧ Hid (Op.bytesLess ((bl a).drop k) ((bl b).drop k) = Op.bytesLess a.toList b.toList)) (fun i w' => a.size - (intOf i).toNat)
  case atStart => exact ⟨0, Nat.zero_le _, Nat.zero_le _, by go_num, Below.refl _ _, Lib.hid (by rw [Lib.toList_data, Lib.toList_data]; rfl)⟩
  case round =>
    obtain ⟨k, hk, hk2, rfl, hbw, hrest⟩ := hrel
    by_cases hlt : k < a.size
    · by_cases hlt2 : k < b.size
      · have L1 := Lib.hid (less_ne hlt hlt2)
        have L2 := Lib.hid (less_eq hlt hlt2)
        go_wp2
        go_quiet (fail)
        go_wp2
        · go_quiet (fail)
          go_wp2
          go_ret
          refine ⟨retv (boolv ?_), below_drewN (below_drewN hbw _) _⟩
          rw [← hrest.out, L1.out (by assumption)]
        · go_roundw
          case rel => exact ⟨k + 1, by omega, by omega, by go_num, below_drewN hbw _, Lib.hid ((L2.out (by assumption)).symm.trans hrest.out)⟩
          case measure => simp [intOf]; omega
      · have L := Lib.hid ((less_end hk hk2 (.inr hlt2)).symm.trans hrest.out)
        go_wp2
        go_ret
        exact ⟨retv (boolv (by rw [← L.out])), hbw⟩
    · have L := Lib.hid ((less_end hk hk2 (.inl hlt)).symm.trans hrest.out)
      go_wp2
      go_ret
      exact ⟨retv (boolv (by rw [← L.out])), hbw⟩
end Go.Proofs.Ytclbmfepdlffnaa
namespace Go.Proofs.Ytclbmfepdlffnaa
open Go.RowKit Go.Sort
set_option linter.unusedVariables false
set_option maxRecDepth 20000
set_option linter.unusedSimpArgs false

theorem bcell {W w1 : World} (hb : Below W.heap.size W w1) : (∀ b o, b < W.heap.size → w1.cell? ⟨b, o, none⟩ = W.cell? ⟨b, o, none⟩) ∧ (∀ b o, b < W.heap.size → w1.frozen? ⟨b, o, none⟩ = W.frozen? ⟨b, o, none⟩) :=
  ⟨fun b o h => hb.cell (p := ⟨b, o, none⟩) h, fun b o h => hb.frozen (p := ⟨b, o, none⟩) h⟩
theorem size_le {W w1 : World} (hb : Below W.heap.size W w1) : W.heap.size ≤ w1.heap.size := hb.size
theorem qs {P : Program} {f : FuncId} {args : Array Value} {w : World} {d : Nat} {os : Array Obj} {v : Value}
    (h : Calls P f args (grow (redrawn w d) os) fun e w' => e = .returned v ∧ grow (redrawn w d) os = w') : Calls P f args (grow (redrawn w d) os) fun e w'' => e = .returned v ∧ ∃ p : Regrown, w'' = grow (redrawn w p.d) p.os :=
  h.mono fun _ _ ⟨he, hw⟩ => ⟨he, ⟨d, os⟩, hw.symm⟩
end Go.Proofs.Ytclbmfepdlffnaa
namespace Go.Proofs.Ytclbmfepdlffnaa
open Go.RowKit
set_option linter.unusedVariables false
set_option maxRecDepth 20000
/-- Are two one? (A name, so that no walk takes it apart.) -/
def eqv {α : Type} [DecidableEq α] (a b : α) : Bool := decide (a = b)
structure Eff where
  kind : Int
  val : ByteArray
structure Msg where
  stamp : Int
  kind : Int
  key : ByteArray
  hi : ByteArray
  opn : Bool
  val : ByteArray
structure Pair where
  key : ByteArray
  val : ByteArray
structure Op where
  kind : Int
  key : ByteArray
  hi : ByteArray
  opn : Bool
  val : ByteArray
  limit : Int
structure Cfg where
  fanout : Int
  leaf : Int
  budget : Int
  slots : Int
  restarts : Int
theorem Eff.ext_ {a b : Eff} (h1 : a.kind = b.kind) (h2 : a.val = b.val) : a = b := by
  cases a; cases b; simp only at h1 h2; subst h1 h2; rfl
instance : DecidableEq Eff := fun a b =>
  if h : a.kind = b.kind ∧ a.val = b.val then isTrue (Eff.ext_ h.1 h.2) else isFalse (fun e => h (by rw [e]; exact ⟨rfl, rfl⟩))
theorem Pair.ext_ {a b : Pair} (h1 : a.key = b.key) (h2 : a.val = b.val) : a = b := by
  cases a; cases b; simp only at h1 h2; subst h1 h2; rfl
instance : DecidableEq Pair := fun a b =>
  if h : a.key = b.key ∧ a.val = b.val then isTrue (Pair.ext_ h.1 h.2) else isFalse (fun e => h (by rw [e]; exact ⟨rfl, rfl⟩))
theorem Msg.ext_ {a b : Msg} (h1 : a.stamp = b.stamp) (h2 : a.kind = b.kind) (h3 : a.key = b.key) (h4 : a.hi = b.hi) (h5 : a.opn = b.opn) (h6 : a.val = b.val) : a = b := by
  cases a; cases b; simp only at h1 h2 h3 h4 h5 h6; subst h1 h2 h3 h4 h5 h6; rfl
instance : DecidableEq Msg := fun a b =>
  if h : a.stamp = b.stamp ∧ a.kind = b.kind ∧ a.key = b.key ∧ a.hi = b.hi ∧ a.opn = b.opn ∧ a.val = b.val then isTrue (Msg.ext_ h.1 h.2.1 h.2.2.1 h.2.2.2.1 h.2.2.2.2.1 h.2.2.2.2.2)
  else isFalse (fun e => h (by rw [e]; exact ⟨rfl, rfl, rfl, rfl, rfl, rfl⟩))
theorem Op.ext_ {a b : Op} (h1 : a.kind = b.kind) (h2 : a.key = b.key) (h3 : a.hi = b.hi) (h4 : a.opn = b.opn) (h5 : a.val = b.val) (h6 : a.limit = b.limit) : a = b := by
  cases a; cases b; simp only at h1 h2 h3 h4 h5 h6; subst h1 h2 h3 h4 h5 h6; rfl
instance : DecidableEq Op := fun a b =>
  if h : a.kind = b.kind ∧ a.key = b.key ∧ a.hi = b.hi ∧ a.opn = b.opn ∧ a.val = b.val ∧ a.limit = b.limit then isTrue (Op.ext_ h.1 h.2.1 h.2.2.1 h.2.2.2.1 h.2.2.2.2.1 h.2.2.2.2.2)
  else isFalse (fun e => h (by rw [e]; exact ⟨rfl, rfl, rfl, rfl, rfl, rfl⟩))
theorem Cfg.ext_ {a b : Cfg} (h1 : a.fanout = b.fanout) (h2 : a.leaf = b.leaf) (h3 : a.budget = b.budget) (h4 : a.slots = b.slots) (h5 : a.restarts = b.restarts) : a = b := by
  cases a; cases b; simp only at h1 h2 h3 h4 h5; subst h1 h2 h3 h4 h5; rfl
instance : DecidableEq Cfg := fun a b =>
  if h : a.fanout = b.fanout ∧ a.leaf = b.leaf ∧ a.budget = b.budget ∧ a.slots = b.slots ∧ a.restarts = b.restarts then isTrue (Cfg.ext_ h.1 h.2.1 h.2.2.1 h.2.2.2.1 h.2.2.2.2)
  else isFalse (fun e => h (by rw [e]; exact ⟨rfl, rfl, rfl, rfl, rfl⟩))
end Go.Proofs.Ytclbmfepdlffnaa
namespace Go.Proofs.Ytclbmfepdlffnaa
open Go.RowKit Go.Sort
set_option linter.unusedVariables false
set_option maxRecDepth 20000
set_option linter.unusedSimpArgs false
theorem toList_iff (a b : ByteArray) : (a.toList = b.toList) ↔ a = b := by rw [Lib.toList_data, Lib.toList_data]; exact ⟨bl_inj, fun e => by rw [e]⟩
theorem Msg_iff (x0 y0 : Int) (x1 y1 : Int) (x2 y2 : ByteArray) (x3 y3 : ByteArray) (x4 y4 : Bool) (x5 y5 : ByteArray) : ((⟨x0, x1, x2, x3, x4, x5⟩ : Msg) = ⟨y0, y1, y2, y3, y4, y5⟩) ↔ (x0 = y0 ∧ x1 = y1 ∧ x2 = y2 ∧ x3 = y3 ∧ x4 = y4 ∧ x5 = y5) := ⟨fun e => by injection e with e0 e1 e2 e3 e4 e5; exact ⟨e0, e1, e2, e3, e4, e5⟩, fun ⟨e0, e1, e2, e3, e4, e5⟩ => by rw [e0, e1, e2, e3, e4, e5]⟩
theorem run_eql_Msg (x0 y0 : Int) (x1 y1 : Int) (x2 y2 : ByteArray) (x3 y3 : ByteArray) (x4 y4 : Bool) (x5 y5 : ByteArray) (w : World) :
    (binOp .eql 155 (.agg #[.int .i64 x0, .int .i64 x1, .string x2, .string x3, .bool x4, .string x5]) (.agg #[.int .i64 y0, .int .i64 y1, .string y2, .string y3, .bool y4, .string y5])).run Try.prog w = .ok (.bool (eqv (⟨x0, x1, x2, x3, x4, x5⟩ : Msg) ⟨y0, y1, y2, y3, y4, y5⟩)) w := by
  have e := Msg_iff x0 y0 x1 y1 x2 y2 x3 y3 x4 y4 x5 y5
  by_cases h0 : x0 = y0
  rotate_left
  · simp [go_sem, eqv, e, h0, toList_iff]
  by_cases h1 : x1 = y1
  rotate_left
  · simp [go_sem, eqv, e, h0, h1, toList_iff]
  by_cases h2 : x2 = y2
  rotate_left
  · simp [go_sem, eqv, e, h0, h1, h2, toList_iff]
  by_cases h3 : x3 = y3
  rotate_left
  · simp [go_sem, eqv, e, h0, h1, h2, h3, toList_iff]
  by_cases h4 : x4 = y4
  rotate_left
  · simp [go_sem, eqv, e, h0, h1, h2, h3, h4, toList_iff]
  by_cases h5 : x5 = y5
  rotate_left
  · simp [go_sem, eqv, e, h0, h1, h2, h3, h4, h5, toList_iff]
  simp [go_sem, eqv, e, h0, h1, h2, h3, h4, h5, toList_iff]
theorem run_neq_Msg (x0 y0 : Int) (x1 y1 : Int) (x2 y2 : ByteArray) (x3 y3 : ByteArray) (x4 y4 : Bool) (x5 y5 : ByteArray) (w : World) :
    (binOp .neq 155 (.agg #[.int .i64 x0, .int .i64 x1, .string x2, .string x3, .bool x4, .string x5]) (.agg #[.int .i64 y0, .int .i64 y1, .string y2, .string y3, .bool y4, .string y5])).run Try.prog w = .ok (.bool (!eqv (⟨x0, x1, x2, x3, x4, x5⟩ : Msg) ⟨y0, y1, y2, y3, y4, y5⟩)) w := by
  have e := Msg_iff x0 y0 x1 y1 x2 y2 x3 y3 x4 y4 x5 y5
  by_cases h0 : x0 = y0
  rotate_left
  · simp [go_sem, eqv, e, h0, toList_iff]
  by_cases h1 : x1 = y1
  rotate_left
  · simp [go_sem, eqv, e, h0, h1, toList_iff]
  by_cases h2 : x2 = y2
  rotate_left
  · simp [go_sem, eqv, e, h0, h1, h2, toList_iff]
  by_cases h3 : x3 = y3
  rotate_left
  · simp [go_sem, eqv, e, h0, h1, h2, h3, toList_iff]
  by_cases h4 : x4 = y4
  rotate_left
  · simp [go_sem, eqv, e, h0, h1, h2, h3, h4, toList_iff]
  by_cases h5 : x5 = y5
  rotate_left
  · simp [go_sem, eqv, e, h0, h1, h2, h3, h4, h5, toList_iff]
  simp [go_sem, eqv, e, h0, h1, h2, h3, h4, h5, toList_iff]
theorem Pair_iff (x0 y0 : ByteArray) (x1 y1 : ByteArray) : ((⟨x0, x1⟩ : Pair) = ⟨y0, y1⟩) ↔ (x0 = y0 ∧ x1 = y1) := ⟨fun e => by injection e with e0 e1; exact ⟨e0, e1⟩, fun ⟨e0, e1⟩ => by rw [e0, e1]⟩
theorem run_eql_Pair (x0 y0 : ByteArray) (x1 y1 : ByteArray) (w : World) :
    (binOp .eql 101 (.agg #[.string x0, .string x1]) (.agg #[.string y0, .string y1])).run Try.prog w = .ok (.bool (eqv (⟨x0, x1⟩ : Pair) ⟨y0, y1⟩)) w := by
  have e := Pair_iff x0 y0 x1 y1
  by_cases h0 : x0 = y0
  rotate_left
  · simp [go_sem, eqv, e, h0, toList_iff]
  by_cases h1 : x1 = y1
  rotate_left
  · simp [go_sem, eqv, e, h0, h1, toList_iff]
  simp [go_sem, eqv, e, h0, h1, toList_iff]
theorem run_neq_Pair (x0 y0 : ByteArray) (x1 y1 : ByteArray) (w : World) :
    (binOp .neq 101 (.agg #[.string x0, .string x1]) (.agg #[.string y0, .string y1])).run Try.prog w = .ok (.bool (!eqv (⟨x0, x1⟩ : Pair) ⟨y0, y1⟩)) w := by
  have e := Pair_iff x0 y0 x1 y1
  by_cases h0 : x0 = y0
  rotate_left
  · simp [go_sem, eqv, e, h0, toList_iff]
  by_cases h1 : x1 = y1
  rotate_left
  · simp [go_sem, eqv, e, h0, h1, toList_iff]
  simp [go_sem, eqv, e, h0, h1, toList_iff]
theorem Op_iff (x0 y0 : Int) (x1 y1 : ByteArray) (x2 y2 : ByteArray) (x3 y3 : Bool) (x4 y4 : ByteArray) (x5 y5 : Int) : ((⟨x0, x1, x2, x3, x4, x5⟩ : Op) = ⟨y0, y1, y2, y3, y4, y5⟩) ↔ (x0 = y0 ∧ x1 = y1 ∧ x2 = y2 ∧ x3 = y3 ∧ x4 = y4 ∧ x5 = y5) := ⟨fun e => by injection e with e0 e1 e2 e3 e4 e5; exact ⟨e0, e1, e2, e3, e4, e5⟩, fun ⟨e0, e1, e2, e3, e4, e5⟩ => by rw [e0, e1, e2, e3, e4, e5]⟩
theorem run_eql_Op (x0 y0 : Int) (x1 y1 : ByteArray) (x2 y2 : ByteArray) (x3 y3 : Bool) (x4 y4 : ByteArray) (x5 y5 : Int) (w : World) :
    (binOp .eql 30 (.agg #[.int .i64 x0, .string x1, .string x2, .bool x3, .string x4, .int .i64 x5]) (.agg #[.int .i64 y0, .string y1, .string y2, .bool y3, .string y4, .int .i64 y5])).run Try.prog w = .ok (.bool (eqv (⟨x0, x1, x2, x3, x4, x5⟩ : Op) ⟨y0, y1, y2, y3, y4, y5⟩)) w := by
  have e := Op_iff x0 y0 x1 y1 x2 y2 x3 y3 x4 y4 x5 y5
  by_cases h0 : x0 = y0
  rotate_left
  · simp [go_sem, eqv, e, h0, toList_iff]
  by_cases h1 : x1 = y1
  rotate_left
  · simp [go_sem, eqv, e, h0, h1, toList_iff]
  by_cases h2 : x2 = y2
  rotate_left
  · simp [go_sem, eqv, e, h0, h1, h2, toList_iff]
  by_cases h3 : x3 = y3
  rotate_left
  · simp [go_sem, eqv, e, h0, h1, h2, h3, toList_iff]
  by_cases h4 : x4 = y4
  rotate_left
  · simp [go_sem, eqv, e, h0, h1, h2, h3, h4, toList_iff]
  by_cases h5 : x5 = y5
  rotate_left
  · simp [go_sem, eqv, e, h0, h1, h2, h3, h4, h5, toList_iff]
  simp [go_sem, eqv, e, h0, h1, h2, h3, h4, h5, toList_iff]
theorem run_neq_Op (x0 y0 : Int) (x1 y1 : ByteArray) (x2 y2 : ByteArray) (x3 y3 : Bool) (x4 y4 : ByteArray) (x5 y5 : Int) (w : World) :
    (binOp .neq 30 (.agg #[.int .i64 x0, .string x1, .string x2, .bool x3, .string x4, .int .i64 x5]) (.agg #[.int .i64 y0, .string y1, .string y2, .bool y3, .string y4, .int .i64 y5])).run Try.prog w = .ok (.bool (!eqv (⟨x0, x1, x2, x3, x4, x5⟩ : Op) ⟨y0, y1, y2, y3, y4, y5⟩)) w := by
  have e := Op_iff x0 y0 x1 y1 x2 y2 x3 y3 x4 y4 x5 y5
  by_cases h0 : x0 = y0
  rotate_left
  · simp [go_sem, eqv, e, h0, toList_iff]
  by_cases h1 : x1 = y1
  rotate_left
  · simp [go_sem, eqv, e, h0, h1, toList_iff]
  by_cases h2 : x2 = y2
  rotate_left
  · simp [go_sem, eqv, e, h0, h1, h2, toList_iff]
  by_cases h3 : x3 = y3
  rotate_left
  · simp [go_sem, eqv, e, h0, h1, h2, h3, toList_iff]
  by_cases h4 : x4 = y4
  rotate_left
  · simp [go_sem, eqv, e, h0, h1, h2, h3, h4, toList_iff]
  by_cases h5 : x5 = y5
  rotate_left
  · simp [go_sem, eqv, e, h0, h1, h2, h3, h4, h5, toList_iff]
  simp [go_sem, eqv, e, h0, h1, h2, h3, h4, h5, toList_iff]
theorem Cfg_iff (x0 y0 : Int) (x1 y1 : Int) (x2 y2 : Int) (x3 y3 : Int) (x4 y4 : Int) : ((⟨x0, x1, x2, x3, x4⟩ : Cfg) = ⟨y0, y1, y2, y3, y4⟩) ↔ (x0 = y0 ∧ x1 = y1 ∧ x2 = y2 ∧ x3 = y3 ∧ x4 = y4) := ⟨fun e => by injection e with e0 e1 e2 e3 e4; exact ⟨e0, e1, e2, e3, e4⟩, fun ⟨e0, e1, e2, e3, e4⟩ => by rw [e0, e1, e2, e3, e4]⟩
theorem run_eql_Cfg (x0 y0 : Int) (x1 y1 : Int) (x2 y2 : Int) (x3 y3 : Int) (x4 y4 : Int) (w : World) :
    (binOp .eql 74 (.agg #[.int .i64 x0, .int .i64 x1, .int .i64 x2, .int .i64 x3, .int .i64 x4]) (.agg #[.int .i64 y0, .int .i64 y1, .int .i64 y2, .int .i64 y3, .int .i64 y4])).run Try.prog w = .ok (.bool (eqv (⟨x0, x1, x2, x3, x4⟩ : Cfg) ⟨y0, y1, y2, y3, y4⟩)) w := by
  have e := Cfg_iff x0 y0 x1 y1 x2 y2 x3 y3 x4 y4
  by_cases h0 : x0 = y0
  rotate_left
  · simp [go_sem, eqv, e, h0, toList_iff]
  by_cases h1 : x1 = y1
  rotate_left
  · simp [go_sem, eqv, e, h0, h1, toList_iff]
  by_cases h2 : x2 = y2
  rotate_left
  · simp [go_sem, eqv, e, h0, h1, h2, toList_iff]
  by_cases h3 : x3 = y3
  rotate_left
  · simp [go_sem, eqv, e, h0, h1, h2, h3, toList_iff]
  by_cases h4 : x4 = y4
  rotate_left
  · simp [go_sem, eqv, e, h0, h1, h2, h3, h4, toList_iff]
  simp [go_sem, eqv, e, h0, h1, h2, h3, h4, toList_iff]
theorem run_neq_Cfg (x0 y0 : Int) (x1 y1 : Int) (x2 y2 : Int) (x3 y3 : Int) (x4 y4 : Int) (w : World) :
    (binOp .neq 74 (.agg #[.int .i64 x0, .int .i64 x1, .int .i64 x2, .int .i64 x3, .int .i64 x4]) (.agg #[.int .i64 y0, .int .i64 y1, .int .i64 y2, .int .i64 y3, .int .i64 y4])).run Try.prog w = .ok (.bool (!eqv (⟨x0, x1, x2, x3, x4⟩ : Cfg) ⟨y0, y1, y2, y3, y4⟩)) w := by
  have e := Cfg_iff x0 y0 x1 y1 x2 y2 x3 y3 x4 y4
  by_cases h0 : x0 = y0
  rotate_left
  · simp [go_sem, eqv, e, h0, toList_iff]
  by_cases h1 : x1 = y1
  rotate_left
  · simp [go_sem, eqv, e, h0, h1, toList_iff]
  by_cases h2 : x2 = y2
  rotate_left
  · simp [go_sem, eqv, e, h0, h1, h2, toList_iff]
  by_cases h3 : x3 = y3
  rotate_left
  · simp [go_sem, eqv, e, h0, h1, h2, h3, toList_iff]
  by_cases h4 : x4 = y4
  rotate_left
  · simp [go_sem, eqv, e, h0, h1, h2, h3, h4, toList_iff]
  simp [go_sem, eqv, e, h0, h1, h2, h3, h4, toList_iff]
end Go.Proofs.Ytclbmfepdlffnaa
namespace Go.Proofs.Ytclbmfepdlffnaa
open Go.ChangeShapes Go.WideShapes Go.ChangeAt Go.RowKit Go.Deep
set_option linter.unusedVariables false
set_option maxRecDepth 20000
set_option linter.unusedSimpArgs false
/-- All texts and numbers of such a struct are in range. -/
def Msg.In (a : Msg) : Prop := I64 a.stamp ∧ I64 a.kind ∧ Sz a.key ∧ Sz a.hi ∧ Sz a.val
abbrev msgCells (a : Msg) : List Value := [.int .i64 a.stamp, .int .i64 a.kind, .string a.key, .string a.hi, .bool a.opn, .string a.val]
abbrev SlMsg (w : World) (v : Value) (l : List Msg) : Prop := Sl w 6 msgCells v l
/-- All texts and numbers of such a struct are in range. -/
def Pair.In (a : Pair) : Prop := Sz a.key ∧ Sz a.val
abbrev pairCells (a : Pair) : List Value := [.string a.key, .string a.val]
theorem rd_pair {H : Type} {enc : TypeId × Value → H} {W : World} (n : Nat) (cs : List Value) (y : DataW H × List MemPlace) (h : DataW.trod enc Try.prog W 0 (fun _ => true) true n 101 cs = some y) (hw : Wt Try.prog 101 y.1) :
    ∃ a : Pair, cs = pairCells a ∧ a.In := by
  obtain ⟨hl, hf⟩ := rd_struct Try.underlying101 (by kernel_rfl) (by kernel_rfl) h hw
  obtain ⟨v0, y0, m0, hv0, ht0, hw0⟩ := hf 0 _ rfl
  obtain ⟨v1, y1, m1, hv1, ht1, hw1⟩ := hf 1 _ rfl
  obtain ⟨x0, e0, g0⟩ := rd_str Try.underlying9 ht0 hw0
  obtain ⟨x1, e1, g1⟩ := rd_str Try.underlying9 ht1 hw1
  match cs, hl with
  | [c0, c1], _ =>
    simp at hv0 e0
    simp at hv1 e1
    subst hv0 e0 hv1 e1
    exact ⟨⟨x0, x1⟩, rfl, g0, g1⟩
abbrev SlPair (w : World) (v : Value) (l : List Pair) : Prop := Sl w 2 pairCells v l
theorem arg_pairs {H : Type} {enc : TypeId × Value → H} {W : World} {base : Nat} {v : Value} {d : DataW H} {p : List MemPlace} (hv : Value.okWide Try.prog W .any base 78 v) (h : DataW.Trod enc Try.prog W 0 (fun _ => true) true 78 v d p) (hw : Wt Try.prog 78 d) :
    ∃ l : List Pair, SlPair W v l ∧ (∀ a ∈ l, a.In) ∧ l.length * 32 ≤ 140737488351232 :=
  arg_slice Try.underlying78 (by kernel_rfl : Try.prog.cellsOf 101 = 2) (by omega) (by kernel_rfl : Try.prog.bytesOf 101 = 32) pairCells Pair.In rd_pair hv h hw
/-- All texts and numbers of such a struct are in range. -/
def Op.In (a : Op) : Prop := I64 a.kind ∧ Sz a.key ∧ Sz a.hi ∧ Sz a.val ∧ I64 a.limit
/-- All texts and numbers of such a struct are in range. -/
def Cfg.In (a : Cfg) : Prop := I64 a.fanout ∧ I64 a.leaf ∧ I64 a.budget ∧ I64 a.slots ∧ I64 a.restarts
abbrev cfgCells (a : Cfg) : List Value := [.int .i64 a.fanout, .int .i64 a.leaf, .int .i64 a.budget, .int .i64 a.slots, .int .i64 a.restarts]
theorem rd_cfg {H : Type} {enc : TypeId × Value → H} {W : World} (n : Nat) (cs : List Value) (y : DataW H × List MemPlace) (h : DataW.trod enc Try.prog W 0 (fun _ => true) true n 74 cs = some y) (hw : Wt Try.prog 74 y.1) :
    ∃ a : Cfg, cs = cfgCells a ∧ a.In := by
  obtain ⟨hl, hf⟩ := rd_struct Try.underlying74 (by kernel_rfl) (by kernel_rfl) h hw
  obtain ⟨v0, y0, m0, hv0, ht0, hw0⟩ := hf 0 _ rfl
  obtain ⟨v1, y1, m1, hv1, ht1, hw1⟩ := hf 1 _ rfl
  obtain ⟨v2, y2, m2, hv2, ht2, hw2⟩ := hf 2 _ rfl
  obtain ⟨v3, y3, m3, hv3, ht3, hw3⟩ := hf 3 _ rfl
  obtain ⟨v4, y4, m4, hv4, ht4, hw4⟩ := hf 4 _ rfl
  obtain ⟨x0, e0, g0⟩ := rd_int Try.underlying3 ht0
  obtain ⟨x1, e1, g1⟩ := rd_int Try.underlying3 ht1
  obtain ⟨x2, e2, g2⟩ := rd_int Try.underlying3 ht2
  obtain ⟨x3, e3, g3⟩ := rd_int Try.underlying3 ht3
  obtain ⟨x4, e4, g4⟩ := rd_int Try.underlying3 ht4
  match cs, hl with
  | [c0, c1, c2, c3, c4], _ =>
    simp at hv0 e0
    simp at hv1 e1
    simp at hv2 e2
    simp at hv3 e3
    simp at hv4 e4
    subst hv0 e0 hv1 e1 hv2 e2 hv3 e3 hv4 e4
    exact ⟨⟨x0, x1, x2, x3, x4⟩, rfl, g0, g1, g2, g3, g4⟩
theorem arg_cfg {H : Type} {enc : TypeId × Value → H} {W : World} {base : Nat} {v : Value} {d : DataW H} {p : List MemPlace} (hv : Value.okWide Try.prog W .any base 74 v) (h : DataW.Trod enc Try.prog W 0 (fun _ => true) true 74 v d p) (hw : Wt Try.prog 74 d) :
    ∃ a : Cfg, v = .agg #[.int .i64 a.fanout, .int .i64 a.leaf, .int .i64 a.budget, .int .i64 a.slots, .int .i64 a.restarts] ∧ a.In := by
  obtain ⟨cs, rfl, hsz⟩ := okWide_struct Try.underlying74 hv
  obtain ⟨fuel, hf⟩ := h
  obtain ⟨a, ha, hin⟩ := rd_cfg fuel cs.toList _ hf hw
  refine ⟨a, ?_, hin⟩
  obtain ⟨l⟩ := cs
  simp only at ha
  rw [ha]
end Go.Proofs.Ytclbmfepdlffnaa
namespace Go.Proofs.Ytclbmfepdlffnaa
open Go Go.RowKit Go.Sort
set_option linter.unusedVariables false
set_option maxRecDepth 20000
set_option linter.unusedSimpArgs false
section
variable {P : Program} {ops : Array Oper} {md : Region.Mode} {w0 : World}

/-- In every world grown from w0 the operation yields v and leaves a world grown from the one it met. -/
def GYields (P : Program) (ops : Array Oper) (w0 : World) (o : Oper) (v : Value) (a : Act) : Prop :=
  (Region.wanted o (yielded ops a.tmps) = true ∧ ∀ W, Below w0.heap.size w0 W → o.quietAt P a (fun W' => Below W.heap.size W W') W v) ∨
  (Region.wanted o (yielded ops a.tmps) = false ∧ v = undef)
theorem GYields.put {oi oj : Oper} {v u : Value} {a : Act} (hi : ∀ cs b, oi.op ≠ .select cs b) (h : GYields P ops w0 oi v a) (hd : ∀ d, oj.dst = some d → d ∉ oi.looksAt ops) : GYields P ops w0 oi v (a.put oj.dst u) := by
  unfold GYields Oper.quietAt at *
  rw [wanted_put oi a oj.dst u hd, execOp_put oi hi a oj.dst u hd]
  exact h
theorem GYields.unput {oi oj : Oper} {v u : Value} {a : Act} (hi : ∀ cs b, oi.op ≠ .select cs b) (hd : ∀ d, oj.dst = some d → d ∉ oi.looksAt ops) (h : GYields P ops w0 oi v (a.put oj.dst u)) : GYields P ops w0 oi v a := by
  unfold GYields Oper.quietAt at *
  rw [wanted_put oi a oj.dst u hd, execOp_put oi hi a oj.dst u hd] at h
  exact h

/-- Whatever order, the blocks that are laid passed over. -/
def wpAbs (P : Program) (md : Region.Mode) (ops : Array Oper) (w0 : World) (n1 n : Nat) (L : Array Bool → Act → Prop) : Nat → Array Bool → Act → Prop
  | 0, listed, a => L listed a
  | f + 1, listed, a => Region.ready md ops listed ≠ [] ∧ ∀ i ∈ Region.ready md ops listed, i < n ∧
      (n1 ≤ i → wpAbs P md ops w0 n1 n L f (listed.setIfInBounds i true) a) ∧
      (i < n1 → ∃ o v, ops[i]? = some o ∧ GYields P ops w0 o v a ∧ wpAbs P md ops w0 n1 n L f (listed.setIfInBounds i true) (a.put o.dst v))

theorem wpAbs_first {n1 n i : Nat} {oi : Oper} {v : Value} {L : Array Bool → Act → Prop} (hi : ops[i]? = some oi) (hsel : ∀ (j : Nat) (o : Oper) cs b, ops[j]? = some o → o.op ≠ .select cs b)
    (hs : Region.sinkB md ops n = true) (hc : Region.chainB md ops n = true) (hn : n < ops.size) (hin : i < n1) (h1n : n1 ≤ n)
    (hdone : ∀ listed a, L listed a → ∀ j ∈ Region.ready md ops listed, n ≤ j) :
    ∀ (f : Nat) (listed : Array Bool) (a : Act), HeadInv md ops n listed →
      (∀ j oj, ops[j]? = some oj → j ≠ i → listed.getD j true = false → (∀ e ∈ oj.after, Region.binds md e = true → e.on ≠ i) → oi.apart ops oj = true) →
      i ∈ Region.ready md ops listed → GYields P ops w0 oi v a →
      wpAbs P md ops w0 n1 n L f (listed.setIfInBounds i true) (a.put oi.dst v) → wpAbs P md ops w0 n1 n L (f + 1) listed a := by
  intro f
  induction f with
  | zero =>
    intro listed a inv _ hr hy H
    have hun := (mem_ready.1 hr).1
    refine ⟨fun h => (by rw [h] at hr; cases hr), fun j hj => ?_⟩
    by_cases hji : j = i
    · subst hji
      exact ⟨by omega, fun h => absurd h (by omega), fun _ => ⟨oi, v, hi, hy, H⟩⟩
    · have h1 := hdone _ _ H j (ready_mono hj hji)
      exact absurd hj (tail_waits hs hc hn inv _ i rfl (by omega) hun j h1)
  | succ f ih =>
    intro listed a inv hfree hr hy H
    have hun := (mem_ready.1 hr).1
    refine ⟨fun h => (by rw [h] at hr; cases hr), fun j hj => ?_⟩
    have hjn : j < n := by
      rcases Nat.lt_or_ge j n with h | h
      · exact h
      · exact absurd hj (tail_waits hs hc hn inv _ i rfl (by omega) hun j h)
    refine ⟨hjn, ?_⟩
    by_cases hji : j = i
    · subst hji
      exact ⟨fun h => absurd h (by omega), fun _ => ⟨oi, v, hi, hy, H⟩⟩
    have hx := (H.2 j (ready_mono hj hji)).2
    obtain ⟨hjun, oj, hoj, hall⟩ := mem_ready.1 hj
    have hnot : ∀ e ∈ oj.after, Region.binds md e = true → e.on ≠ i := fun e he hb heq => by
      have h1 := hall e he hb
      rw [heq, getD_both hun] at h1
      cases h1
    obtain ⟨a1, a2, a3⟩ := Oper.apart_spec (hfree j oj hoj hji hjun hnot)
    have hfree' : ∀ k ok, ops[k]? = some ok → k ≠ i → (listed.setIfInBounds j true).getD k true = false →
        (∀ e ∈ ok.after, Region.binds md e = true → e.on ≠ i) → oi.apart ops ok = true := fun k ok hk hki hun' hno => by
      refine hfree k ok hk hki ?_ hno
      by_cases hjk : j = k
      · subst hjk; exact hjun
      · rw [getD_set_ne true hjk] at hun'; exact hun'
    refine ⟨fun hge => ?_, fun hlt => ?_⟩
    · have h3 := hx.1 hge
      rw [Array.setIfInBounds_comm _ _ (Ne.symm hji)] at h3
      exact ih _ a (inv.set hj hjn) hfree' (ready_mono hr (Ne.symm hji)) hy h3
    · obtain ⟨o', u, ho', hyu, h3⟩ := hx.2 hlt
      obtain rfl : oj = o' := Option.some.inj (hoj.symm.trans ho')
      refine ⟨oj, u, hoj, hyu.unput (fun cs b => hsel j oj cs b hoj) a1, ?_⟩
      rw [Array.setIfInBounds_comm _ _ (Ne.symm hji), Act.put_comm a v u a2] at h3
      exact ih _ _ (inv.set hj hjn) hfree' (ready_mono hr (Ne.symm hji)) (hy.put (fun cs b => hsel i oi cs b hi) a3) h3

theorem wpAbs_firstAlloc {n1 n i : Nat} {L : Array Bool → Act → Prop}
    (hs : Region.sinkB md ops n = true) (hc : Region.chainB md ops n = true) (hn : n < ops.size) (hin : i < n) (h1n : n1 ≤ i)
    (hdone : ∀ listed a, L listed a → ∀ j ∈ Region.ready md ops listed, n ≤ j) :
    ∀ (f : Nat) (listed : Array Bool) (a : Act), HeadInv md ops n listed → i ∈ Region.ready md ops listed →
      wpAbs P md ops w0 n1 n L f (listed.setIfInBounds i true) a → wpAbs P md ops w0 n1 n L (f + 1) listed a := by
  intro f
  induction f with
  | zero =>
    intro listed a inv hr H
    have hun := (mem_ready.1 hr).1
    refine ⟨fun h => (by rw [h] at hr; cases hr), fun j hj => ?_⟩
    by_cases hji : j = i
    · subst hji
      exact ⟨hin, fun _ => H, fun h => absurd h (by omega)⟩
    · have h1 := hdone _ _ H j (ready_mono hj hji)
      exact absurd hj (tail_waits hs hc hn inv _ i rfl (by omega) hun j h1)
  | succ f ih =>
    intro listed a inv hr H
    have hun := (mem_ready.1 hr).1
    refine ⟨fun h => (by rw [h] at hr; cases hr), fun j hj => ?_⟩
    have hjn : j < n := by
      rcases Nat.lt_or_ge j n with h | h
      · exact h
      · exact absurd hj (tail_waits hs hc hn inv _ i rfl (by omega) hun j h)
    refine ⟨hjn, ?_⟩
    by_cases hji : j = i
    · subst hji
      exact ⟨fun _ => H, fun h => absurd h (by omega)⟩
    have hx := (H.2 j (ready_mono hj hji)).2
    refine ⟨fun hge => ?_, fun hlt => ?_⟩
    · have h3 := hx.1 hge
      rw [Array.setIfInBounds_comm _ _ (Ne.symm hji)] at h3
      exact ih _ a (inv.set hj hjn) (ready_mono hr (Ne.symm hji)) h3
    · obtain ⟨o', u, ho', hyu, h3⟩ := hx.2 hlt
      rw [Array.setIfInBounds_comm _ _ (Ne.symm hji)] at h3
      exact ⟨o', u, ho', hyu, ih _ _ (inv.set hj hjn) (ready_mono hr (Ne.symm hji)) h3⟩

/-- The walk in the text's order: the operations that read or call. -/
def wpGrow (P : Program) (ops : Array Oper) (w0 : World) (Q : Act → Prop) : List Oper → Act → Prop
  | [], a => Q a
  | o :: l, a => ∃ v, GYields P ops w0 o v a ∧ wpGrow P ops w0 Q l (a.put o.dst v)

theorem wpAbs_lex {n1 n g : Nat} {Lq : Act → Prop} (hsel : Region.noSelect ops = true) (hs : Region.sinkB md ops n = true) (hc : Region.chainB md ops n = true) (hn : n < ops.size) (h1n : n1 ≤ n) :
    ∀ (d k : Nat) (l : List Oper) (listed : Array Bool) (a : Act), k + d = n → (∀ j, j < l.length → l[j]? = ops[k + j]?) → (k ≤ n1 → k + l.length = n1) → (n1 ≤ k → l = []) → HeadInv md ops n listed →
    Region.lexHead md ops g d k listed = true → wpGrow P ops w0 Lq l a →
    wpAbs P md ops w0 n1 n (fun listed' a' => Region.seqB md ops g n listed' = true ∧ Lq a') d listed a
  | 0, k, l, listed, a, hk, _, hl1, hl2, _, hB, h => by
    obtain rfl : k = n := by omega
    obtain rfl := hl2 h1n
    exact ⟨by simpa [Region.lexHead] using hB, h⟩
  | d + 1, k, l, listed, a, hk, hl, hl1, hl2, inv, hB, h => by
    simp only [Region.lexHead, Bool.and_eq_true] at hB
    obtain ⟨⟨hr, hf⟩, hB'⟩ := hB
    have hkn : k < n := by omega
    have hr' : k ∈ Region.ready md ops listed := by simpa using hr
    by_cases hlt : k < n1
    · cases l with
      | nil => have := hl1 (by omega); simp at this; omega
      | cons o l =>
        have h0 : ops[k]? = some o := by simpa using (hl 0 (by simp)).symm
        obtain ⟨v, hy, hK⟩ := h
        have hlen := hl1 (by omega)
        simp only [List.length_cons] at hlen
        exact wpAbs_first h0 (Region.noSelect_spec hsel) hs hc hn hlt h1n (fun listed' a' hL => seqB_ready hL.1) d listed a inv (Region.free_spec h0 hf) hr' hy
          (wpAbs_lex hsel hs hc hn h1n d (k + 1) l _ _ (by omega) (fun j hj => by have := hl (j + 1) (by simp; omega); simpa [Nat.add_assoc, Nat.add_comm 1 j] using this) (fun _ => by omega) (fun h => by
            have : l.length = 0 := by omega
            exact List.length_eq_zero_iff.1 this) (inv.set hr' hkn) hB' hK)
    · obtain rfl := hl2 (by omega)
      exact wpAbs_firstAlloc hs hc hn hkn (by omega) (fun listed' a' hL => seqB_ready hL.1) d listed a inv hr'
        (wpAbs_lex hsel hs hc hn h1n d (k + 1) [] _ _ (by omega) (fun j hj => by simp at hj) (fun h => absurd h (by omega)) (fun _ => rfl) (inv.set hr' hkn) hB' h)

/-- The frame with the pointers to the blocks laid so far in their slots. -/
def ovl : List (Tmp × Obj) → Nat → (Nat → Option Nat) → Act → Act
  | [], _, _, a => a
  | x :: l, k, σ, a => ovl l (k + 1) σ (match σ k with | some g => a.put (some x.1) (.pointer (some ⟨g, 0, none⟩)) | none => a)
def upd (σ : Nat → Option Nat) (j g : Nat) : Nat → Option Nat := fun k => if k = j then some g else σ k

theorem ovl_put : ∀ (l : List (Tmp × Obj)) (k : Nat) (σ : Nat → Option Nat) (a : Act) (dst : Option Tmp) (v : Value), (∀ x ∈ l, dst ≠ some x.1) → (ovl l k σ a).put dst v = ovl l k σ (a.put dst v)
  | [], _, _, _, _, _, _ => rfl
  | x :: l, k, σ, a, dst, v, h => by
    unfold ovl
    rw [ovl_put l (k + 1) σ _ dst v (fun y hy => h y (by simp [hy]))]
    congr 1
    cases σ k with
    | none => rfl
    | some g => exact Act.put_comm a _ v (fun d hd => by have := h x (by simp); rw [← hd]; exact this)
theorem ovl_upd_lt : ∀ (l : List (Tmp × Obj)) (k : Nat) (σ : Nat → Option Nat) (a : Act) (j g : Nat), j < k → ovl l k (upd σ j g) a = ovl l k σ a
  | [], _, _, _, _, _, _ => rfl
  | x :: l, k, σ, a, j, g, h => by
    unfold ovl
    rw [ovl_upd_lt l (k + 1) σ _ j g (by omega)]
    have : upd σ j g k = σ k := by unfold upd; rw [if_neg (by omega)]
    rw [this]
theorem ovl_upd : ∀ (l : List (Tmp × Obj)) (k : Nat) (σ : Nat → Option Nat) (a : Act) (i g : Nat) (x : Tmp × Obj), (l.map (·.1)).Nodup → l[i]? = some x → σ (k + i) = none →
    (ovl l k σ a).put (some x.1) (.pointer (some ⟨g, 0, none⟩)) = ovl l k (upd σ (k + i) g) a
  | [], _, _, _, _, _, _, _, h, _ => by simp at h
  | y :: l, k, σ, a, 0, g, x, hd, h, hn => by
    obtain rfl : y = x := by simpa using h
    simp only [List.map_cons, List.nodup_cons] at hd
    unfold ovl
    have e1 : σ k = none := hn
    have e2 : upd σ (k + 0) g k = some g := by unfold upd; simp
    rw [e1, e2]
    simp only
    rw [ovl_upd_lt l (k + 1) σ _ (k + 0) g (by omega)]
    exact ovl_put l (k + 1) σ a _ _ (fun z hz e => hd.1 (by injection e with e; rw [e]; exact List.mem_map_of_mem hz))
  | y :: l, k, σ, a, i + 1, g, x, hd, h, hn => by
    simp only [List.map_cons, List.nodup_cons] at hd
    unfold ovl
    have e2 : upd σ (k + (i + 1)) g k = σ k := by unfold upd; rw [if_neg (by omega)]
    rw [e2]
    have := ovl_upd l (k + 1) σ (match σ k with | some g => a.put (some y.1) (.pointer (some ⟨g, 0, none⟩)) | none => a) i g x hd.2 (by simpa using h) (by rw [← hn]; congr 1; omega)
    rw [this]
    congr 2
    omega
theorem ovl_congr : ∀ (l : List (Tmp × Obj)) (k : Nat) (σ τ : Nat → Option Nat) (a : Act), (∀ i, i < l.length → σ (k + i) = τ (k + i)) → ovl l k σ a = ovl l k τ a
  | [], _, _, _, _, _ => rfl
  | x :: l, k, σ, τ, a, h => by
    unfold ovl
    have h0 : σ k = τ k := h 0 (by simp)
    rw [h0]
    exact ovl_congr l (k + 1) σ τ _ (fun i hi => by have := h (i + 1) (by simpa using hi); rw [show k + 1 + i = k + (i + 1) by omega]; exact this)
theorem ovl_exec {o : Oper} (hs : ∀ cs b, o.op ≠ .select cs b) : ∀ (l : List (Tmp × Obj)) (k : Nat) (σ : Nat → Option Nat) (a : Act), (∀ x ∈ l, x.1 ∉ o.looksAt ops) →
    execOp (ovl l k σ a).eval o = execOp a.eval o ∧ Region.wanted o (yielded ops (ovl l k σ a).tmps) = Region.wanted o (yielded ops a.tmps)
  | [], _, _, _, _ => ⟨rfl, rfl⟩
  | x :: l, k, σ, a, h => by
    unfold ovl
    obtain ⟨h1, h2⟩ := ovl_exec hs l (k + 1) σ (match σ k with | some g => a.put (some x.1) (.pointer (some ⟨g, 0, none⟩)) | none => a) (fun y hy => h y (by simp [hy]))
    rw [h1, h2]
    have hx := h x (by simp)
    cases σ k with
    | none => exact ⟨rfl, rfl⟩
    | some g => exact ⟨execOp_put o hs a _ _ (fun d hd => by injection hd with hd; rw [← hd]; exact hx), wanted_put o a _ _ (fun d hd => by injection hd with hd; rw [← hd]; exact hx)⟩

/-- What is held of the blocks laid so far. -/
structure Laid (w0 : World) (als : List (Tmp × Obj)) (σ : Nat → Option Nat) (W : World) : Prop where
  below : Below w0.heap.size w0 W
  at_ : ∀ k g x, als[k]? = some x → σ k = some g → w0.heap.size ≤ g ∧ g < W.heap.size ∧ W.heap[g]? = some x.2
  out : ∀ k, als.length ≤ k → σ k = none
  inj : ∀ j k g, σ j = some g → σ k = some g → j = k
theorem Laid.grow {als : List (Tmp × Obj)} {σ : Nat → Option Nat} {W W' : World} (h : Laid w0 als σ W) (hb : Below W.heap.size W W') : Laid w0 als σ W' :=
  ⟨h.below.trans (hb.mono h.below.size), fun k g x hx hg => by
    obtain ⟨h1, h2, h3⟩ := h.at_ k g x hx hg
    exact ⟨h1, Nat.lt_of_lt_of_le h2 hb.size, by rw [hb.block g h2]; exact h3⟩, h.out, h.inj⟩
theorem Laid.new {als : List (Tmp × Obj)} {σ : Nat → Option Nat} {W : World} {i : Nat} {x : Tmp × Obj} (h : Laid w0 als σ W) (hx : als[i]? = some x) (hb : Below W.heap.size W (W.alloc x.2)) (hn : (W.alloc x.2).heap[W.heap.size]? = some x.2) (hz : W.heap.size < (W.alloc x.2).heap.size) :
    Laid w0 als (upd σ i W.heap.size) (W.alloc x.2) := by
  have hg := h.grow hb
  have lt : ∀ k g, σ k = some g → g < W.heap.size := fun k g hk => by
    have hkl : k < als.length := by
      rcases Nat.lt_or_ge k als.length with h' | h'
      · exact h'
      · rw [h.out k h'] at hk; cases hk
    exact (h.at_ k g als[k] (by simp [hkl]) hk).2.1
  refine ⟨hg.below, fun k g y hy hk => ?_, fun k hk => ?_, fun j k g hj hk => ?_⟩
  · unfold upd at hk
    split at hk
    · rename_i e
      subst e
      injection hk with hk
      subst hk
      obtain rfl : x = y := Option.some.inj (hx.symm.trans hy)
      exact ⟨h.below.size, hz, hn⟩
    · exact hg.at_ k g y hy hk
  · have hil : i < als.length := (List.getElem?_eq_some_iff.1 hx).1
    unfold upd
    rw [if_neg (by omega)]
    exact h.out k hk
  · unfold upd at hj hk
    split at hj <;> split at hk
    · omega
    · injection hj with hj
      have := lt k g hk
      omega
    · injection hk with hk
      have := lt j g hj
      omega
    · exact h.inj j k g hj hk

theorem wpAny_of_abs {n1 n g : Nat} {als : List (Tmp × Obj)} {L : Array Bool → Act → Prop} {Q' : Exit → Act → World → Prop} (hsel : ∀ (j : Nat) (o : Oper) cs b, ops[j]? = some o → o.op ≠ .select cs b)
    (hn : n = n1 + als.length) (hno : n ≤ ops.size) (hdist : (als.map (·.1)).Nodup)
    (hap : ∀ i o, i < n1 → ops[i]? = some o → ∀ x ∈ als, x.1 ∉ o.looksAt ops ∧ o.dst ≠ some x.1)
    (hal : ∀ k x, als[k]? = some x → ∃ o, ops[n1 + k]? = some o ∧ o.dst = some x.1 ∧ (∀ a : Act, Region.wanted o (yielded ops a.tmps) = true) ∧
      ∀ (a : Act) (W : World), (execOp a.eval o).run P W = .ok (.value (.pointer (some ⟨W.heap.size, 0, none⟩))) (W.alloc x.2))
    (hL : ∀ listed a σ W, HeadInv md ops n listed → L listed a → Laid w0 als σ W → (∀ k, k < als.length → (σ k).isSome = listed.getD (n1 + k) false) → wpAny P md ops Q' g listed (ovl als 0 σ a) W) :
    ∀ (f : Nat) (listed : Array Bool) (a : Act) (σ : Nat → Option Nat) (W : World), HeadInv md ops n listed → wpAbs P md ops w0 n1 n L f listed a → Laid w0 als σ W →
      (∀ k, k < als.length → (σ k).isSome = listed.getD (n1 + k) false) → wpAny P md ops Q' (f + g) listed (ovl als 0 σ a) W
  | 0, listed, a, σ, W, inv, h, hl, hs => by rw [Nat.zero_add]; exact hL _ _ _ _ inv h hl hs
  | f + 1, listed, a, σ, W, inv, h, hl, hs => by
    obtain ⟨hne, hall⟩ := h
    rw [show f + 1 + g = (f + g) + 1 by omega]
    refine ⟨fun h0 => absurd h0 hne, fun i hi => ?_⟩
    obtain ⟨hin, hA, hB⟩ := hall i hi
    by_cases hlt : i < n1
    · obtain ⟨o, v, ho, hy, h3⟩ := hB hlt
      obtain ⟨e1, e2⟩ := ovl_exec (fun cs b => hsel i o cs b ho) als 0 σ a (fun x hx => (hap i o hlt ho x hx).1)
      have key : ∀ W', Below W.heap.size W W' → wpAny P md ops Q' (f + g) (listed.setIfInBounds i true) ((ovl als 0 σ a).put o.dst v) W' := fun W' hb => by
        rw [ovl_put als 0 σ a o.dst v (fun x hx => (hap i o hlt ho x hx).2)]
        exact wpAny_of_abs hsel hn hno hdist hap hal hL f _ _ σ W' (inv.set hi hin) h3 (hl.grow hb) (fun k hk => by rw [getD_set_ne false (by omega)]; exact hs k hk)
      unfold wpOp
      simp only [ho]
      rcases hy with ⟨hw, hq⟩ | ⟨hw, rfl⟩
      · rw [if_pos (by rw [e2]; exact hw)]
        refine .inl ?_
        have h4 := hq W hl.below
        unfold Oper.quietAt at h4
        unfold Oper.wp
        rw [e1]
        generalize (execOp a.eval o).run P W = r at *
        cases r with
        | ok nx w' =>
          cases nx <;> simp only [Oper.quietUpon] at h4 <;> simp only [Oper.upon]
          case value u =>
            obtain ⟨e3, e4⟩ := h4
            rw [e3, e4]
            exact key _ (Below.refl _ _)
          case skip =>
            obtain ⟨e3, e4⟩ := h4
            rw [e3, ← e4]
            exact key _ (Below.refl _ _)
          case enter fn args =>
            obtain ⟨e3, hc⟩ := h4
            rw [e3]
            exact hc.mono fun e w'' ⟨he, hw''⟩ => by subst he; exact key _ hw''
        | halt x w' => simp only [Oper.quietUpon] at h4
      · rw [if_neg (by rw [e2, hw]; simp)]
        exact key _ (Below.refl _ _)
    · obtain ⟨k, rfl⟩ : ∃ k, i = n1 + k := ⟨i - n1, by omega⟩
      have hk : k < als.length := by omega
      obtain ⟨o, ho, hd, hw, hr⟩ := hal k als[k] (by simp [hk])
      have hun := getD_both (mem_ready.1 hi).1
      have hnone : σ (0 + k) = none := by
        have := hs k hk
        rw [hun] at this
        rw [Nat.zero_add]
        cases hσ : σ k with
        | none => rfl
        | some g => rw [hσ] at this; cases this
      unfold wpOp
      simp only [ho]
      rw [if_pos (hw _)]
      refine .inl ?_
      unfold Oper.wp
      rw [hr]
      simp only [Oper.upon]
      rw [hd, ovl_upd als 0 σ a k W.heap.size als[k] hdist (by simp [hk]) hnone, Nat.zero_add]
      refine wpAny_of_abs hsel hn hno hdist hap hal hL f _ _ (upd σ k W.heap.size) _ (inv.set hi hin) (hA (by omega)) (hl.new (by simp [hk]) ((Below.refl _ W).alloc (Nat.le_refl _) _) (heap_alloc_new W _) (by simp)) (fun j hj => ?_)
      by_cases hjk : j = k
      · subst hjk
        have : (upd σ j W.heap.size j) = some W.heap.size := by unfold upd; simp
        rw [this]
        simp [inv.size]
        omega
      · have : (upd σ k W.heap.size j) = σ j := by unfold upd; rw [if_neg hjk]
        rw [this, getD_set_ne false (by omega)]
        exact hs j hj

/-- **One walk serves every order**: operations that read or call (n1 of them), the blocks of new variables ('als': each one's slot, and what it is laid with), then the stores in one order. -/
theorem wp_region_grow_tail {id : Nat} {Q : Exit → Act → World → Prop} {a : Act} {w : World} {l : List Oper} (n1 n : Nat) (als : List (Tmp × Obj)) (hm : P.follows .mixedOrders = true) (hB : Region.lexTailB .any l.toArray n = true)
    (hn : n = n1 + als.length) (hdist : (als.map (·.1)).Nodup)
    (hap : (l.take n1).all (fun o => als.all fun x => !(o.looksAt l.toArray).contains x.1 && o.dst != some x.1) = true)
    (hal : ∀ k x, als[k]? = some x → ∃ o, l.toArray[n1 + k]? = some o ∧ o.dst = some x.1 ∧ (∀ a : Act, Region.wanted o (yielded l.toArray a.tmps) = true) ∧
      ∀ (a : Act) (W : World), (execOp a.eval o).run P W = .ok (.value (.pointer (some ⟨W.heap.size, 0, none⟩))) (W.alloc x.2))
    (h : wpGrow P l.toArray w (fun a' => ∀ (gs : Nat → Nat) (W : World), Below w.heap.size w W → (∀ k x, als[k]? = some x → w.heap.size ≤ gs k ∧ gs k < W.heap.size ∧ W.heap[gs k]? = some x.2) →
      (∀ j k, j < als.length → k < als.length → gs j = gs k → j = k) → wpList P l.toArray Q (l.drop n) (ovl als 0 (fun k => some (gs k)) a') W) (l.take n1) a) : (Code.region id l.toArray true).wp P Q a w := by
  simp only [Region.lexTailB, Bool.and_eq_true, decide_eq_true_eq] at hB
  obtain ⟨⟨⟨⟨hsel, hno⟩, hs⟩, hc⟩, hlex⟩ := hB
  have hn' : n < l.length := by simpa using hno
  have hdl : (l.drop n).length = l.toArray.size - n := by simp
  have htl : (l.take n1).length = n1 := by simp; omega
  have inv0 : HeadInv .any l.toArray n (Array.replicate l.toArray.size false) :=
    ⟨by simp, fun j oj _ hl => (by rw [getD_replicate_false] at hl; cases hl), fun t _ ht => getD_in (by simpa using ht) (getD_replicate_false _ _)⟩
  have H := wpAbs_lex (md := .any) (w0 := w) (n1 := n1) (g := l.toArray.size - n) hsel hs hc hno (by omega) n 0 (l.take n1) _ a (by omega) (fun j hj => by
    have hj' : j < n1 := by rw [htl] at hj; exact hj
    simp [hj']) (fun _ => by rw [htl]; omega) (fun h0 => by
      have : n1 = 0 := by omega
      subst this; rfl) inv0 hlex h
  refine wp_region_any hm ?_
  have hb0 : Below w.heap.size w { w with drawn := w.drawn + 1 } := by
    have := below_regrown w (w.drawn + 1) #[]
    rw [grow_empty] at this
    exact this
  have := wpAny_of_abs (Q' := Q) (g := l.toArray.size - n) (als := als) (w0 := w) (Region.noSelect_spec hsel) hn (by omega) hdist (fun i o hi ho x hx => by
      have hm' : o ∈ l.take n1 := by
        have ho' : l[i]? = some o := by simpa using ho
        exact List.mem_of_getElem? (i := i) (by rw [List.getElem?_take, if_pos hi]; exact ho')
      have h1 := List.all_eq_true.1 (List.all_eq_true.1 hap o hm') x hx
      simp only [Bool.and_eq_true, Bool.not_eq_true', bne_iff_ne, ne_eq] at h1
      exact ⟨fun hmem => by have h2 := h1.1; simp [List.contains_iff_mem, hmem] at h2, h1.2⟩) hal
    (fun listed a' σ W inv hL hl hσ => by
      have hsome : ∀ k, k < als.length → ∃ g, σ k = some g := fun k hk => by
        have hr : n ∈ Region.ready .any l.toArray listed := by
          have h1 := hL.1
          have hpos : l.toArray.size - n ≠ 0 := by omega
          obtain ⟨m, hm'⟩ := Nat.exists_eq_succ_of_ne_zero hpos
          rw [hm'] at h1
          simp only [Region.seqB, Bool.and_eq_true, decide_eq_true_eq] at h1
          rw [h1.1]; simp
        cases hu : listed.getD (n1 + k) true with
        | false => exact absurd hr (tail_waits hs hc hno inv _ (n1 + k) rfl (by omega) hu n (Nat.le_refl _))
        | true =>
          have h2 := hσ k hk
          have h3 : listed.getD (n1 + k) false = true := by
            have hlt : n1 + k < listed.size := by rw [inv.size]; omega
            simp [hlt] at hu ⊢
            exact hu
          rw [h3] at h2
          cases hg : σ k with
          | none => rw [hg] at h2; cases h2
          | some g => exact ⟨g, rfl⟩
      have hgs : ∀ k, k < als.length → σ k = some ((σ k).getD 0) := fun k hk => by obtain ⟨g, hg⟩ := hsome k hk; rw [hg]; rfl
      have hfin := hL.2 (fun k => (σ k).getD 0) W hl.below (fun k x hx => hl.at_ k _ x hx (hgs k (List.getElem?_eq_some_iff.1 hx).1)) (fun j k hj hk e => hl.inj j k ((σ k).getD 0) (by rw [← e]; exact hgs j hj) (hgs k hk))
      rw [ovl_congr als 0 σ (fun k => some ((σ k).getD 0)) a' (fun i hi => by rw [Nat.zero_add]; exact hgs i hi)]
      have := wpAny_of_seq (md := .any) (Q' := Q) (l.drop n) n listed _ W (fun j => by simp [List.getElem?_drop]) (by rw [hdl]; exact hL.1) hfin
      rwa [hdl] at this) n _ a (fun _ => none) { w with drawn := w.drawn + 1 } inv0 H ⟨hb0, fun k g x _ h => (by cases h), fun _ _ => rfl, fun j k g h => (by cases h)⟩ (fun k hk => by rw [getD_replicate_false]; rfl)
  have e0 : ovl als 0 (fun _ => none) a = a := by
    have : ∀ (l : List (Tmp × Obj)) (k : Nat), ovl l k (fun _ => none) a = a := by
      intro l
      induction l with
      | nil => intro k; rfl
      | cons x l ih => intro k; exact ih (k + 1)
    exact this als 0
  rw [e0, show n + (l.toArray.size - n) = l.toArray.size by omega] at this
  exact this
end
end Go.Proofs.Ytclbmfepdlffnaa
