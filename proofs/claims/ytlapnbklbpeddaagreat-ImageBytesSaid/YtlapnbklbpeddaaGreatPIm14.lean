import Derived.Test.YtlapnbklbpeddaaGreatPIm13
import Derived.Test.YtlapnbklbpeddaaGreatPCf
/- The image of nodes as the document says it, and what sound nodes allow (plain). -/
namespace Go.Proofs.YtlapnbklbpeddaaGreat
open Go Go.RowKit
set_option linter.unusedVariables false
set_option maxRecDepth 20000
set_option linter.unusedSimpArgs false
theorem ba_assoc (a b c : ByteArray) : a ++ b ++ c = a ++ (b ++ c) := bl_inj (by simp only [bl_app, List.append_assoc])
theorem ba_nil (a : ByteArray) : a ++ em = a := bl_inj (by simp only [bl_app, bl_em, List.append_nil])
theorem nil_ba (a : ByteArray) : em ++ a = a := bl_inj (by simp only [bl_app, bl_em, List.nil_append])
/-- One behind the other. -/
def catB {α : Type} (f : α → ByteArray) : List α → ByteArray
  | [] => em
  | a :: l => f a ++ catB f l
theorem catB_app {α : Type} (f : α → ByteArray) : ∀ l m : List α, catB f (l ++ m) = catB f l ++ catB f m
  | [], m => (nil_ba _).symm
  | a :: l, m => by
    show f a ++ catB f (l ++ m) = f a ++ catB f l ++ catB f m
    rw [catB_app f l m, ba_assoc]
theorem catB_one {α : Type} (f : α → ByteArray) (a : α) : catB f [a] = f a := ba_nil _
theorem catB_step {α : Type} (f : α → ByteArray) {l : List α} {k : Nat} (h : k < l.length) : catB f (l.take (k + 1)) = catB f (l.take k) ++ f l[k] := by
  rw [List.take_succ_eq_append_getElem h, catB_app, catB_one]
theorem catB_le {α : Type} (f : α → ByteArray) {n : Nat} : ∀ l : List α, (∀ a ∈ l, (f a).size ≤ n) → (catB f l).size ≤ l.length * n
  | [], _ => by show 0 ≤ _; omega
  | a :: l, h => by
    have h1 := catB_le f l (fun x hx => h x (by simp [hx]))
    have h2 := h a (by simp)
    show (f a ++ catB f l).size ≤ (l.length + 1) * n
    rw [size_app, Nat.succ_mul]; omega
theorem catB_take_le {α : Type} (f : α → ByteArray) (l : List α) (k : Nat) : (catB f (l.take k)).size ≤ (catB f l).size := by
  have h := catB_app f (l.take k) (l.drop k)
  rw [List.take_append_drop] at h
  rw [h, size_app]; omega
def msgB (m : Msg) : ByteArray := numB m.stamp ++ numB m.kind ++ textR m.key ++ flgB m.opn ++ textR m.hi ++ textR m.val
def pairB (p : Pair) : ByteArray := textR p.key ++ textR p.val
def headB (n : Nd) : ByteArray := numB n.level ++ numB n.seen ++ numB (n.right + 1) ++ flgB n.top ++ textR n.high ++ numB n.ps.length
def nodeB (n : Nd) : ByteArray := headB n ++ catB textR n.ps ++ numB n.ks.length ++ catB numB n.ks ++ numB n.ms.length ++ catB msgB n.ms ++ numB n.rs.length ++ catB pairB n.rs
def markB : ByteArray := ⟨#[80, 67, 76, 49]⟩
def cfgB (c : Cfg) (k : Int) : ByteArray := numB c.fanout ++ numB c.leaf ++ numB c.budget ++ numB c.slots ++ numB c.restarts ++ numB k
def imgB (c : Cfg) (l : List Nd) : ByteArray := markB ++ cfgB c l.length ++ catB nodeB l
/-! What a sound tree's nodes allow. -/
abbrev I0 (n : Int) : Prop := 0 ≤ n ∧ n ≤ 9223372036854775807
structure MsgFit (m : Msg) : Prop where
  stamp : I0 m.stamp
  kind : I0 m.kind
  key : m.key.size ≤ 16
  hi : m.hi.size ≤ 16
  val : m.val.size ≤ 16
structure PairFit (p : Pair) : Prop where
  key : p.key.size ≤ 16
  val : p.val.size ≤ 16
structure NdFit (n : Nd) : Prop where
  level : I0 n.level
  seen : I0 n.seen
  right : -1 ≤ n.right ∧ n.right ≤ 4096
  high : n.high.size ≤ 16
  ps : ∀ s ∈ n.ps, s.size ≤ 16
  psn : n.ps.length ≤ 64
  ks : ∀ k ∈ n.ks, I0 k
  ksn : n.ks.length ≤ 64
  ms : ∀ m ∈ n.ms, MsgFit m
  msn : n.ms.length ≤ 1024
  rs : ∀ p ∈ n.rs, PairFit p
  rsn : n.rs.length ≤ 64
theorem msgB_le {m : Msg} (h : MsgFit m) : (msgB m).size ≤ 68 := by
  have h1 := h.key
  have h2 := h.hi
  have h3 := h.val
  unfold msgB
  simp only [size_app, numB_size, flgB_size, size_textR]
  omega
theorem pairB_le {p : Pair} (h : PairFit p) : (pairB p).size ≤ 34 := by
  have h1 := h.key
  have h3 := h.val
  unfold pairB
  simp only [size_app, size_textR]
  omega
theorem nodeB_le {n : Nd} (h : NdFit n) : (nodeB n).size ≤ 80000 := by
  have h1 := h.high
  have a1 := catB_le textR (n := 17) n.ps (fun s hs => by have := h.ps s hs; rw [size_textR]; omega)
  have a2 := catB_le numB (n := 8) n.ks (fun s hs => by rw [numB_size]; omega)
  have a3 := catB_le msgB (n := 68) n.ms (fun m hm => msgB_le (h.ms m hm))
  have a4 := catB_le pairB (n := 34) n.rs (fun m hm => pairB_le (h.rs m hm))
  have h2 := h.psn
  have h3 := h.ksn
  have h4 := h.msn
  have h5 := h.rsn
  unfold nodeB headB
  simp only [size_app, numB_size, flgB_size, size_textR]
  omega
theorem imgB_le {c : Cfg} {l : List Nd} (hn : l.length ≤ 4096) (h : ∀ a ∈ l, NdFit a) : (imgB c l).size ≤ 400000000 := by
  have a1 := catB_le nodeB (n := 80000) l (fun a ha => nodeB_le (h a ha))
  unfold imgB cfgB
  simp only [size_app, numB_size]
  have : markB.size = 4 := rfl
  omega
theorem rightM_fit {m : Msg} (hi : m.In) (h : rightM m = true) : MsgFit m := by
  have e := size_em
  have hs := hi.1
  unfold I64 at hs
  unfold rightM at h
  simp only [Bool.and_eq_true, decide_eq_true_eq] at h
  obtain ⟨⟨h1, h2⟩, h3⟩ := h
  by_cases hk : m.kind = 4
  · rw [if_pos hk] at h3
    simp only [Bool.and_eq_true, decide_eq_true_eq] at h3
    obtain ⟨⟨⟨h4, h5⟩, _⟩, _⟩ := h3
    exact ⟨⟨by omega, by omega⟩, ⟨by omega, by omega⟩, h2, h5, by rw [h4]; omega⟩
  · rw [if_neg hk] at h3
    simp only [Bool.and_eq_true, decide_eq_true_eq] at h3
    obtain ⟨⟨⟨h4, h5⟩, h6⟩, h7⟩ := h3
    unfold rightE at h7
    dsimp only at h7
    by_cases k1 : m.kind = 1 ∨ m.kind = 2
    · rw [if_pos k1] at h7
      exact ⟨⟨by omega, by omega⟩, ⟨by omega, by omega⟩, h2, by rw [h5]; omega, of_decide_eq_true h7⟩
    · rw [if_neg k1] at h7
      by_cases k2 : m.kind = 0 ∨ m.kind = 3
      · rw [if_pos k2] at h7
        exact ⟨⟨by omega, by omega⟩, ⟨by omega, by omega⟩, h2, by rw [h5]; omega, by rw [of_decide_eq_true h7]; omega⟩
      · rw [if_neg k2] at h7
        cases h7
theorem okC_bounds {c : Cfg} (h : okC c = true) : (4 ≤ c.fanout ∧ c.fanout ≤ 64) ∧ (2 ≤ c.leaf ∧ c.leaf ≤ 64) ∧ (36 ≤ c.budget ∧ c.budget ≤ 4096) ∧ (1 ≤ c.slots ∧ c.slots ≤ 4096) ∧ (0 ≤ c.restarts ∧ c.restarts ≤ 100) := by
  unfold okC amongB at h
  simp only [Bool.and_eq_true, decide_eq_true_eq] at h
  exact h
theorem rightP_all {l : List Pair} (h : rightP l = true) : ∀ p ∈ l, PairFit p := fun p hp => by
  obtain ⟨i, hi, rfl⟩ := List.getElem_of_mem hp
  unfold rightP at h
  have h1 := allTo_iff.1 h i hi
  unfold rowP at h1
  rw [List.getElem?_eq_getElem hi] at h1
  simp only [Bool.and_eq_true, decide_eq_true_eq] at h1
  exact ⟨by omega, by omega⟩
theorem rightN_fit {c : Cfg} {n : Nd} (hc : okC c = true) (hi : n.In) (h : rightN c n = true) (hr : -1 ≤ n.right ∧ n.right ≤ 4096) : NdFit n := by
  have hb := okC_bounds hc
  have e := size_em
  unfold rightN headOk at h
  simp only [Bool.and_eq_true, Bool.not_eq_true', decide_eq_false_iff_not] at h
  obtain ⟨⟨⟨⟨h1, h2⟩, h3⟩, h4⟩, h5⟩ := h
  have i2 := hi.level
  have i3 := hi.seen
  unfold I64 at i2 i3
  have hh : n.high.size ≤ 16 := by
    unfold endN at h4
    split at h4
    · simp only [Bool.and_eq_true, decide_eq_true_eq] at h4
      rw [h4.1]; omega
    · simp only [Bool.and_eq_true, decide_eq_true_eq] at h4
      omega
  by_cases hl : (n.level == 0) = true
  · rw [if_pos hl] at h5
    unfold leafN at h5
    simp only [Bool.and_eq_true, decide_eq_true_eq, beq_iff_eq] at h5
    obtain ⟨⟨⟨h6, h7⟩, h8⟩, h9⟩ := h5
    have p0 : n.ps = [] := List.length_eq_zero_iff.1 (by omega)
    have k0 : n.ks = [] := List.length_eq_zero_iff.1 (by omega)
    have m0 : n.ms = [] := List.length_eq_zero_iff.1 (by omega)
    exact ⟨⟨by omega, by omega⟩, ⟨by omega, by omega⟩, hr, hh, by rw [p0]; simp, by rw [p0]; simp, by rw [k0]; simp, by rw [k0]; simp, by rw [m0]; simp, by rw [m0]; simp, rightP_all h8, by omega⟩
  · rw [if_neg hl] at h5
    unfold inrN at h5
    simp only [Bool.and_eq_true, decide_eq_true_eq, beq_iff_eq] at h5
    obtain ⟨⟨⟨⟨h6, h7⟩, h8⟩, h9⟩, h10⟩ := h5
    have r0 : n.rs = [] := List.length_eq_zero_iff.1 (by omega)
    have hk := (rightK_ris h9).2
    unfold innN at h10
    simp only [Bool.and_eq_true] at h10
    obtain ⟨⟨⟨h11, h12⟩, h13⟩, h14⟩ := h10
    unfold rightL at h14
    simp only [Bool.and_eq_true, decide_eq_true_eq] at h14
    obtain ⟨h15, h16, h17⟩ := h14
    have hms : ∀ m ∈ n.ms, MsgFit m := fun m hm => rightM_fit (hi.ms m hm) (List.all_eq_true.1 h15 m hm)
    have hsz : ∀ l : List Msg, (l.length : Int) * 4 ≤ sizeL l := fun l => by
      induction l with
      | nil => simp [sizeL, sumBy]
      | cons m l ih =>
        have h2 : 4 ≤ sizeM m := by unfold sizeM; split <;> omega
        unfold sizeL at *
        simp only [sumBy, List.length_cons]
        omega
    have hm4 := hsz n.ms
    refine ⟨⟨by omega, by omega⟩, ⟨by omega, by omega⟩, hr, hh, fun s hs => ?_, by omega, fun k hk => ?_, by omega, hms, by omega, by rw [r0]; simp, by rw [r0]; simp⟩
    · have := List.all_eq_true.1 h12 s hs
      unfold inP at this
      simp only [Bool.and_eq_true, decide_eq_true_eq] at this
      omega
    · have h1 := List.all_eq_true.1 h11 k hk
      simp only [Bool.not_eq_true', decide_eq_false_iff_not] at h1
      have h2 := hi.ks k hk
      unfold I64 at h2
      exact ⟨by omega, by omega⟩
theorem linkedF_right : ∀ {ss : List Sq}, linkedF ss = true → ∀ x ∈ ss, x.n.right = -1 ∨ ∃ y ∈ ss, x.n.right = y.n.slot
  | [], _, x, hx => by cases hx
  | z :: r, h, x, hx => by
    unfold linkedF at h
    rw [Bool.and_eq_true, beq_iff_eq] at h
    rcases List.mem_cons.1 hx with rfl | hx
    · have h1 := h.1
      unfold wantR at h1
      cases r with
      | nil => exact .inl h1
      | cons y r =>
        dsimp only at h1
        split at h1
        · exact .inr ⟨y, by simp, h1⟩
        · exact .inl h1
    · rcases linkedF_right h.2 x hx with h2 | ⟨y, hy, h2⟩
      · exact .inl h2
      · exact .inr ⟨y, by simp [hy], h2⟩
theorem cnt_one {l : List Nd} {s : Int} (h : cntN s l = 1) {a b : Nd} (ha : a ∈ l) (hb : b ∈ l) (h1 : a.slot = s) (h2 : b.slot = s) : a = b := by
  unfold cntN at h
  obtain ⟨x, hx⟩ := List.length_eq_one_iff.1 h
  have ma : a ∈ slotN s l := List.mem_filter.2 ⟨ha, by simp [h1]⟩
  have mb : b ∈ slotN s l := List.mem_filter.2 ⟨hb, by simp [h2]⟩
  rw [hx] at ma mb
  rw [List.mem_singleton.1 ma, List.mem_singleton.1 mb]
/-- What the document's soundness says of each node. -/
theorem sound_parts {c : Cfg} {l : List Nd} (h : soundR c l = true) : (l.length : Int) ≤ c.slots ∧ ∀ n ∈ l, rightN c n = true ∧ n.slot < c.slots ∧ (n.right = -1 ∨ ∃ m ∈ l, n.right = m.slot) := by
  unfold soundR at h
  rw [seats_rows] at h
  cases hr : rowsL l with
  | none => rw [hr] at h; cases h
  | some rows =>
    rw [hr] at h
    dsimp only [Option.map] at h
    simp only [Bool.and_eq_true, Bool.not_eq_true', decide_eq_false_iff_not] at h
    obtain ⟨⟨⟨h1, h2⟩, h3⟩, h4⟩ := h
    have hf : ∀ x ∈ rows.flatten, Fnd l x := fun x hx => by
      obtain ⟨r, hr1, hr2⟩ := List.mem_flatten.1 hx
      exact rows_Fnd hr r hr1 x hr2
    refine ⟨by omega, fun n hn => ?_⟩
    unfold onceR at h1
    rw [Bool.and_eq_true] at h1
    have h5 := List.all_eq_true.1 h1.2 n hn
    rw [beq_iff_eq] at h5
    have h6 : n.slot ∈ slotQ rows.flatten := by
      unfold cntQ at h5
      exact List.count_pos_iff.1 (by omega)
    obtain ⟨x, hx, hxs⟩ := List.mem_map.1 h6
    obtain ⟨hxl, hxc⟩ := hf x hx
    have hxn : x.n = n := cnt_one hxc hxl hn rfl hxs.symm
    have h7 := List.all_eq_true.1 h4 x hx
    simp only [Bool.and_eq_true] at h7
    have h8 := h7.1
    unfold seatB at h8
    simp only [Bool.and_eq_true, Bool.not_eq_true', decide_eq_false_iff_not] at h8
    subst hxn
    refine ⟨h8.1.1, by omega, ?_⟩
    rcases linkedF_right h2 x hx with h9 | ⟨y, hy, h9⟩
    · exact .inl h9
    · exact .inr ⟨y.n, (hf y hy).1, h9⟩
theorem sound_fit {c : Cfg} {l : List Nd} (hc : okC c = true) (hi : ∀ a ∈ l, a.In) (h : soundR c l = true) : l.length ≤ 4096 ∧ ∀ n ∈ l, NdFit n := by
  obtain ⟨h1, h2⟩ := sound_parts h
  have hb := okC_bounds hc
  refine ⟨by omega, fun n hn => ?_⟩
  obtain ⟨h3, h4, h5⟩ := h2 n hn
  refine rightN_fit hc (hi n hn) h3 ?_
  rcases h5 with h5 | ⟨m, hm, h5⟩
  · omega
  · obtain ⟨h6, h7, _⟩ := h2 m hm
    unfold rightN headOk at h6
    simp only [Bool.and_eq_true, Bool.not_eq_true', decide_eq_false_iff_not] at h6
    omega
end Go.Proofs.YtlapnbklbpeddaaGreat
