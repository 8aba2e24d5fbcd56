/- A region that draws its order: operations that read or make a call (each leaves a world grown from the one it met), then blocks that are laid for new variables, then stores in one order. One walk serves every order. No program in sight. -/
import Derived.StillTail
import Derived.Lib.QuietBelow
namespace Go.Proofs.Ytipbbbamjckjoaa
open Go Go.RowKit Go.Sort
set_option linter.unusedVariables false
set_option maxRecDepth 20000
set_option linter.unusedSimpArgs false
section
variable {P : Program} {ops : Array Oper} {md : Region.Mode} {w0 : World}

/-- In every world grown from w0 the operation yields v and leaves a world grown from the one it met. -/
def GYields (P : Program) (ops : Array Oper) (w0 : World) (o : Oper) (v : Value) (a : Act) : Prop :=
  (Region.wanted o (yielded ops a.tmps) = true ∧ ∀ W, Below w0.heap.size w0 W → o.quietAt P a (fun W' => Below W.heap.size W W') W v) ∨
  (Region.wanted o (yielded ops a.tmps) = false ∧ v = undef)
theorem GYields.put {oi oj : Oper} {v u : Value} {a : Act} (hi : ∀ cs b, oi.op ≠ .select cs b) (h : GYields P ops w0 oi v a) (hd : ∀ d, oj.dst = some d → d ∉ oi.looksAt ops) : GYields P ops w0 oi v (a.put oj.dst u) := by
  unfold GYields Oper.quietAt at *
  rw [wanted_put oi a oj.dst u hd, execOp_put oi hi a oj.dst u hd]
  exact h
theorem GYields.unput {oi oj : Oper} {v u : Value} {a : Act} (hi : ∀ cs b, oi.op ≠ .select cs b) (hd : ∀ d, oj.dst = some d → d ∉ oi.looksAt ops) (h : GYields P ops w0 oi v (a.put oj.dst u)) : GYields P ops w0 oi v a := by
  unfold GYields Oper.quietAt at *
  rw [wanted_put oi a oj.dst u hd, execOp_put oi hi a oj.dst u hd] at h
  exact h

/-- Whatever order, the blocks that are laid passed over. -/
def wpAbs (P : Program) (md : Region.Mode) (ops : Array Oper) (w0 : World) (n1 n : Nat) (L : Array Bool → Act → Prop) : Nat → Array Bool → Act → Prop
  | 0, listed, a => L listed a
  | f + 1, listed, a => Region.ready md ops listed ≠ [] ∧ ∀ i ∈ Region.ready md ops listed, i < n ∧
      (n1 ≤ i → wpAbs P md ops w0 n1 n L f (listed.setIfInBounds i true) a) ∧
      (i < n1 → ∃ o v, ops[i]? = some o ∧ GYields P ops w0 o v a ∧ wpAbs P md ops w0 n1 n L f (listed.setIfInBounds i true) (a.put o.dst v))

theorem wpAbs_first {n1 n i : Nat} {oi : Oper} {v : Value} {L : Array Bool → Act → Prop} (hi : ops[i]? = some oi) (hsel : ∀ (j : Nat) (o : Oper) cs b, ops[j]? = some o → o.op ≠ .select cs b)
    (hs : Region.sinkB md ops n = true) (hc : Region.chainB md ops n = true) (hn : n < ops.size) (hin : i < n1) (h1n : n1 ≤ n)
    (hdone : ∀ listed a, L listed a → ∀ j ∈ Region.ready md ops listed, n ≤ j) :
    ∀ (f : Nat) (listed : Array Bool) (a : Act), HeadInv md ops n listed →
      (∀ j oj, ops[j]? = some oj → j ≠ i → listed.getD j true = false → (∀ e ∈ oj.after, Region.binds md e = true → e.on ≠ i) → oi.apart ops oj = true) →
      i ∈ Region.ready md ops listed → GYields P ops w0 oi v a →
      wpAbs P md ops w0 n1 n L f (listed.setIfInBounds i true) (a.put oi.dst v) → wpAbs P md ops w0 n1 n L (f + 1) listed a := by
  intro f
  induction f with
  | zero =>
    intro listed a inv _ hr hy H
    have hun := (mem_ready.1 hr).1
    refine ⟨fun h => (by rw [h] at hr; cases hr), fun j hj => ?_⟩
    by_cases hji : j = i
    · subst hji
      exact ⟨by omega, fun h => absurd h (by omega), fun _ => ⟨oi, v, hi, hy, H⟩⟩
    · have h1 := hdone _ _ H j (ready_mono hj hji)
      exact absurd hj (tail_waits hs hc hn inv _ i rfl (by omega) hun j h1)
  | succ f ih =>
    intro listed a inv hfree hr hy H
    have hun := (mem_ready.1 hr).1
    refine ⟨fun h => (by rw [h] at hr; cases hr), fun j hj => ?_⟩
    have hjn : j < n := by
      rcases Nat.lt_or_ge j n with h | h
      · exact h
      · exact absurd hj (tail_waits hs hc hn inv _ i rfl (by omega) hun j h)
    refine ⟨hjn, ?_⟩
    by_cases hji : j = i
    · subst hji
      exact ⟨fun h => absurd h (by omega), fun _ => ⟨oi, v, hi, hy, H⟩⟩
    have hx := (H.2 j (ready_mono hj hji)).2
    obtain ⟨hjun, oj, hoj, hall⟩ := mem_ready.1 hj
    have hnot : ∀ e ∈ oj.after, Region.binds md e = true → e.on ≠ i := fun e he hb heq => by
      have h1 := hall e he hb
      rw [heq, getD_both hun] at h1
      cases h1
    obtain ⟨a1, a2, a3⟩ := Oper.apart_spec (hfree j oj hoj hji hjun hnot)
    have hfree' : ∀ k ok, ops[k]? = some ok → k ≠ i → (listed.setIfInBounds j true).getD k true = false →
        (∀ e ∈ ok.after, Region.binds md e = true → e.on ≠ i) → oi.apart ops ok = true := fun k ok hk hki hun' hno => by
      refine hfree k ok hk hki ?_ hno
      by_cases hjk : j = k
      · subst hjk; exact hjun
      · rw [getD_set_ne true hjk] at hun'; exact hun'
    refine ⟨fun hge => ?_, fun hlt => ?_⟩
    · have h3 := hx.1 hge
      rw [Array.setIfInBounds_comm _ _ (Ne.symm hji)] at h3
      exact ih _ a (inv.set hj hjn) hfree' (ready_mono hr (Ne.symm hji)) hy h3
    · obtain ⟨o', u, ho', hyu, h3⟩ := hx.2 hlt
      obtain rfl : oj = o' := Option.some.inj (hoj.symm.trans ho')
      refine ⟨oj, u, hoj, hyu.unput (fun cs b => hsel j oj cs b hoj) a1, ?_⟩
      rw [Array.setIfInBounds_comm _ _ (Ne.symm hji), Act.put_comm a v u a2] at h3
      exact ih _ _ (inv.set hj hjn) hfree' (ready_mono hr (Ne.symm hji)) (hy.put (fun cs b => hsel i oi cs b hi) a3) h3

theorem wpAbs_firstAlloc {n1 n i : Nat} {L : Array Bool → Act → Prop}
    (hs : Region.sinkB md ops n = true) (hc : Region.chainB md ops n = true) (hn : n < ops.size) (hin : i < n) (h1n : n1 ≤ i)
    (hdone : ∀ listed a, L listed a → ∀ j ∈ Region.ready md ops listed, n ≤ j) :
    ∀ (f : Nat) (listed : Array Bool) (a : Act), HeadInv md ops n listed → i ∈ Region.ready md ops listed →
      wpAbs P md ops w0 n1 n L f (listed.setIfInBounds i true) a → wpAbs P md ops w0 n1 n L (f + 1) listed a := by
  intro f
  induction f with
  | zero =>
    intro listed a inv hr H
    have hun := (mem_ready.1 hr).1
    refine ⟨fun h => (by rw [h] at hr; cases hr), fun j hj => ?_⟩
    by_cases hji : j = i
    · subst hji
      exact ⟨hin, fun _ => H, fun h => absurd h (by omega)⟩
    · have h1 := hdone _ _ H j (ready_mono hj hji)
      exact absurd hj (tail_waits hs hc hn inv _ i rfl (by omega) hun j h1)
  | succ f ih =>
    intro listed a inv hr H
    have hun := (mem_ready.1 hr).1
    refine ⟨fun h => (by rw [h] at hr; cases hr), fun j hj => ?_⟩
    have hjn : j < n := by
      rcases Nat.lt_or_ge j n with h | h
      · exact h
      · exact absurd hj (tail_waits hs hc hn inv _ i rfl (by omega) hun j h)
    refine ⟨hjn, ?_⟩
    by_cases hji : j = i
    · subst hji
      exact ⟨fun _ => H, fun h => absurd h (by omega)⟩
    have hx := (H.2 j (ready_mono hj hji)).2
    refine ⟨fun hge => ?_, fun hlt => ?_⟩
    · have h3 := hx.1 hge
      rw [Array.setIfInBounds_comm _ _ (Ne.symm hji)] at h3
      exact ih _ a (inv.set hj hjn) (ready_mono hr (Ne.symm hji)) h3
    · obtain ⟨o', u, ho', hyu, h3⟩ := hx.2 hlt
      rw [Array.setIfInBounds_comm _ _ (Ne.symm hji)] at h3
      exact ⟨o', u, ho', hyu, ih _ _ (inv.set hj hjn) (ready_mono hr (Ne.symm hji)) h3⟩

/-- The walk in the text's order: the operations that read or call. -/
def wpGrow (P : Program) (ops : Array Oper) (w0 : World) (Q : Act → Prop) : List Oper → Act → Prop
  | [], a => Q a
  | o :: l, a => ∃ v, GYields P ops w0 o v a ∧ wpGrow P ops w0 Q l (a.put o.dst v)

theorem wpAbs_lex {n1 n g : Nat} {Lq : Act → Prop} (hsel : Region.noSelect ops = true) (hs : Region.sinkB md ops n = true) (hc : Region.chainB md ops n = true) (hn : n < ops.size) (h1n : n1 ≤ n) :
    ∀ (d k : Nat) (l : List Oper) (listed : Array Bool) (a : Act), k + d = n → (∀ j, j < l.length → l[j]? = ops[k + j]?) → (k ≤ n1 → k + l.length = n1) → (n1 ≤ k → l = []) → HeadInv md ops n listed →
    Region.lexHead md ops g d k listed = true → wpGrow P ops w0 Lq l a →
    wpAbs P md ops w0 n1 n (fun listed' a' => Region.seqB md ops g n listed' = true ∧ Lq a') d listed a
  | 0, k, l, listed, a, hk, _, hl1, hl2, _, hB, h => by
    obtain rfl : k = n := by omega
    obtain rfl := hl2 h1n
    exact ⟨by simpa [Region.lexHead] using hB, h⟩
  | d + 1, k, l, listed, a, hk, hl, hl1, hl2, inv, hB, h => by
    simp only [Region.lexHead, Bool.and_eq_true] at hB
    obtain ⟨⟨hr, hf⟩, hB'⟩ := hB
    have hkn : k < n := by omega
    have hr' : k ∈ Region.ready md ops listed := by simpa using hr
    by_cases hlt : k < n1
    · cases l with
      | nil => have := hl1 (by omega); simp at this; omega
      | cons o l =>
        have h0 : ops[k]? = some o := by simpa using (hl 0 (by simp)).symm
        obtain ⟨v, hy, hK⟩ := h
        have hlen := hl1 (by omega)
        simp only [List.length_cons] at hlen
        exact wpAbs_first h0 (Region.noSelect_spec hsel) hs hc hn hlt h1n (fun listed' a' hL => seqB_ready hL.1) d listed a inv (Region.free_spec h0 hf) hr' hy
          (wpAbs_lex hsel hs hc hn h1n d (k + 1) l _ _ (by omega) (fun j hj => by have := hl (j + 1) (by simp; omega); simpa [Nat.add_assoc, Nat.add_comm 1 j] using this) (fun _ => by omega) (fun h => by
            have : l.length = 0 := by omega
            exact List.length_eq_zero_iff.1 this) (inv.set hr' hkn) hB' hK)
    · obtain rfl := hl2 (by omega)
      exact wpAbs_firstAlloc hs hc hn hkn (by omega) (fun listed' a' hL => seqB_ready hL.1) d listed a inv hr'
        (wpAbs_lex hsel hs hc hn h1n d (k + 1) [] _ _ (by omega) (fun j hj => by simp at hj) (fun h => absurd h (by omega)) (fun _ => rfl) (inv.set hr' hkn) hB' h)

/-- The frame with the pointers to the blocks laid so far in their slots. -/
def ovl : List (Tmp × Obj) → Nat → (Nat → Option Nat) → Act → Act
  | [], _, _, a => a
  | x :: l, k, σ, a => ovl l (k + 1) σ (match σ k with | some g => a.put (some x.1) (.pointer (some ⟨g, 0, none⟩)) | none => a)
def upd (σ : Nat → Option Nat) (j g : Nat) : Nat → Option Nat := fun k => if k = j then some g else σ k

theorem ovl_put : ∀ (l : List (Tmp × Obj)) (k : Nat) (σ : Nat → Option Nat) (a : Act) (dst : Option Tmp) (v : Value), (∀ x ∈ l, dst ≠ some x.1) → (ovl l k σ a).put dst v = ovl l k σ (a.put dst v)
  | [], _, _, _, _, _, _ => rfl
  | x :: l, k, σ, a, dst, v, h => by
    unfold ovl
    rw [ovl_put l (k + 1) σ _ dst v (fun y hy => h y (by simp [hy]))]
    congr 1
    cases σ k with
    | none => rfl
    | some g => exact Act.put_comm a _ v (fun d hd => by have := h x (by simp); rw [← hd]; exact this)
theorem ovl_upd_lt : ∀ (l : List (Tmp × Obj)) (k : Nat) (σ : Nat → Option Nat) (a : Act) (j g : Nat), j < k → ovl l k (upd σ j g) a = ovl l k σ a
  | [], _, _, _, _, _, _ => rfl
  | x :: l, k, σ, a, j, g, h => by
    unfold ovl
    rw [ovl_upd_lt l (k + 1) σ _ j g (by omega)]
    have : upd σ j g k = σ k := by unfold upd; rw [if_neg (by omega)]
    rw [this]
theorem ovl_upd : ∀ (l : List (Tmp × Obj)) (k : Nat) (σ : Nat → Option Nat) (a : Act) (i g : Nat) (x : Tmp × Obj), (l.map (·.1)).Nodup → l[i]? = some x → σ (k + i) = none →
    (ovl l k σ a).put (some x.1) (.pointer (some ⟨g, 0, none⟩)) = ovl l k (upd σ (k + i) g) a
  | [], _, _, _, _, _, _, _, h, _ => by simp at h
  | y :: l, k, σ, a, 0, g, x, hd, h, hn => by
    obtain rfl : y = x := by simpa using h
    simp only [List.map_cons, List.nodup_cons] at hd
    unfold ovl
    have e1 : σ k = none := hn
    have e2 : upd σ (k + 0) g k = some g := by unfold upd; simp
    rw [e1, e2]
    simp only
    rw [ovl_upd_lt l (k + 1) σ _ (k + 0) g (by omega)]
    exact ovl_put l (k + 1) σ a _ _ (fun z hz e => hd.1 (by injection e with e; rw [e]; exact List.mem_map_of_mem hz))
  | y :: l, k, σ, a, i + 1, g, x, hd, h, hn => by
    simp only [List.map_cons, List.nodup_cons] at hd
    unfold ovl
    have e2 : upd σ (k + (i + 1)) g k = σ k := by unfold upd; rw [if_neg (by omega)]
    rw [e2]
    have := ovl_upd l (k + 1) σ (match σ k with | some g => a.put (some y.1) (.pointer (some ⟨g, 0, none⟩)) | none => a) i g x hd.2 (by simpa using h) (by rw [← hn]; congr 1; omega)
    rw [this]
    congr 2
    omega
theorem ovl_congr : ∀ (l : List (Tmp × Obj)) (k : Nat) (σ τ : Nat → Option Nat) (a : Act), (∀ i, i < l.length → σ (k + i) = τ (k + i)) → ovl l k σ a = ovl l k τ a
  | [], _, _, _, _, _ => rfl
  | x :: l, k, σ, τ, a, h => by
    unfold ovl
    have h0 : σ k = τ k := h 0 (by simp)
    rw [h0]
    exact ovl_congr l (k + 1) σ τ _ (fun i hi => by have := h (i + 1) (by simpa using hi); rw [show k + 1 + i = k + (i + 1) by omega]; exact this)
theorem ovl_exec {o : Oper} (hs : ∀ cs b, o.op ≠ .select cs b) : ∀ (l : List (Tmp × Obj)) (k : Nat) (σ : Nat → Option Nat) (a : Act), (∀ x ∈ l, x.1 ∉ o.looksAt ops) →
    execOp (ovl l k σ a).eval o = execOp a.eval o ∧ Region.wanted o (yielded ops (ovl l k σ a).tmps) = Region.wanted o (yielded ops a.tmps)
  | [], _, _, _, _ => ⟨rfl, rfl⟩
  | x :: l, k, σ, a, h => by
    unfold ovl
    obtain ⟨h1, h2⟩ := ovl_exec hs l (k + 1) σ (match σ k with | some g => a.put (some x.1) (.pointer (some ⟨g, 0, none⟩)) | none => a) (fun y hy => h y (by simp [hy]))
    rw [h1, h2]
    have hx := h x (by simp)
    cases σ k with
    | none => exact ⟨rfl, rfl⟩
    | some g => exact ⟨execOp_put o hs a _ _ (fun d hd => by injection hd with hd; rw [← hd]; exact hx), wanted_put o a _ _ (fun d hd => by injection hd with hd; rw [← hd]; exact hx)⟩

/-- What is held of the blocks laid so far. -/
structure Laid (w0 : World) (als : List (Tmp × Obj)) (σ : Nat → Option Nat) (W : World) : Prop where
  below : Below w0.heap.size w0 W
  at_ : ∀ k g x, als[k]? = some x → σ k = some g → w0.heap.size ≤ g ∧ g < W.heap.size ∧ W.heap[g]? = some x.2
  out : ∀ k, als.length ≤ k → σ k = none
  inj : ∀ j k g, σ j = some g → σ k = some g → j = k
theorem Laid.grow {als : List (Tmp × Obj)} {σ : Nat → Option Nat} {W W' : World} (h : Laid w0 als σ W) (hb : Below W.heap.size W W') : Laid w0 als σ W' :=
  ⟨h.below.trans (hb.mono h.below.size), fun k g x hx hg => by
    obtain ⟨h1, h2, h3⟩ := h.at_ k g x hx hg
    exact ⟨h1, Nat.lt_of_lt_of_le h2 hb.size, by rw [hb.block g h2]; exact h3⟩, h.out, h.inj⟩
theorem Laid.new {als : List (Tmp × Obj)} {σ : Nat → Option Nat} {W : World} {i : Nat} {x : Tmp × Obj} (h : Laid w0 als σ W) (hx : als[i]? = some x) (hb : Below W.heap.size W (W.alloc x.2)) (hn : (W.alloc x.2).heap[W.heap.size]? = some x.2) (hz : W.heap.size < (W.alloc x.2).heap.size) :
    Laid w0 als (upd σ i W.heap.size) (W.alloc x.2) := by
  have hg := h.grow hb
  have lt : ∀ k g, σ k = some g → g < W.heap.size := fun k g hk => by
    have hkl : k < als.length := by
      rcases Nat.lt_or_ge k als.length with h' | h'
      · exact h'
      · rw [h.out k h'] at hk; cases hk
    exact (h.at_ k g als[k] (by simp [hkl]) hk).2.1
  refine ⟨hg.below, fun k g y hy hk => ?_, fun k hk => ?_, fun j k g hj hk => ?_⟩
  · unfold upd at hk
    split at hk
    · rename_i e
      subst e
      injection hk with hk
      subst hk
      obtain rfl : x = y := Option.some.inj (hx.symm.trans hy)
      exact ⟨h.below.size, hz, hn⟩
    · exact hg.at_ k g y hy hk
  · have hil : i < als.length := (List.getElem?_eq_some_iff.1 hx).1
    unfold upd
    rw [if_neg (by omega)]
    exact h.out k hk
  · unfold upd at hj hk
    split at hj <;> split at hk
    · omega
    · injection hj with hj
      have := lt k g hk
      omega
    · injection hk with hk
      have := lt j g hj
      omega
    · exact h.inj j k g hj hk

theorem wpAny_of_abs {n1 n g : Nat} {als : List (Tmp × Obj)} {L : Array Bool → Act → Prop} {Q' : Exit → Act → World → Prop} (hsel : ∀ (j : Nat) (o : Oper) cs b, ops[j]? = some o → o.op ≠ .select cs b)
    (hn : n = n1 + als.length) (hno : n ≤ ops.size) (hdist : (als.map (·.1)).Nodup)
    (hap : ∀ i o, i < n1 → ops[i]? = some o → ∀ x ∈ als, x.1 ∉ o.looksAt ops ∧ o.dst ≠ some x.1)
    (hal : ∀ k x, als[k]? = some x → ∃ o, ops[n1 + k]? = some o ∧ o.dst = some x.1 ∧ (∀ a : Act, Region.wanted o (yielded ops a.tmps) = true) ∧
      ∀ (a : Act) (W : World), (execOp a.eval o).run P W = .ok (.value (.pointer (some ⟨W.heap.size, 0, none⟩))) (W.alloc x.2))
    (hL : ∀ listed a σ W, HeadInv md ops n listed → L listed a → Laid w0 als σ W → (∀ k, k < als.length → (σ k).isSome = listed.getD (n1 + k) false) → wpAny P md ops Q' g listed (ovl als 0 σ a) W) :
    ∀ (f : Nat) (listed : Array Bool) (a : Act) (σ : Nat → Option Nat) (W : World), HeadInv md ops n listed → wpAbs P md ops w0 n1 n L f listed a → Laid w0 als σ W →
      (∀ k, k < als.length → (σ k).isSome = listed.getD (n1 + k) false) → wpAny P md ops Q' (f + g) listed (ovl als 0 σ a) W
  | 0, listed, a, σ, W, inv, h, hl, hs => by rw [Nat.zero_add]; exact hL _ _ _ _ inv h hl hs
  | f + 1, listed, a, σ, W, inv, h, hl, hs => by
    obtain ⟨hne, hall⟩ := h
    rw [show f + 1 + g = (f + g) + 1 by omega]
    refine ⟨fun h0 => absurd h0 hne, fun i hi => ?_⟩
    obtain ⟨hin, hA, hB⟩ := hall i hi
    by_cases hlt : i < n1
    · obtain ⟨o, v, ho, hy, h3⟩ := hB hlt
      obtain ⟨e1, e2⟩ := ovl_exec (fun cs b => hsel i o cs b ho) als 0 σ a (fun x hx => (hap i o hlt ho x hx).1)
      have key : ∀ W', Below W.heap.size W W' → wpAny P md ops Q' (f + g) (listed.setIfInBounds i true) ((ovl als 0 σ a).put o.dst v) W' := fun W' hb => by
        rw [ovl_put als 0 σ a o.dst v (fun x hx => (hap i o hlt ho x hx).2)]
        exact wpAny_of_abs hsel hn hno hdist hap hal hL f _ _ σ W' (inv.set hi hin) h3 (hl.grow hb) (fun k hk => by rw [getD_set_ne false (by omega)]; exact hs k hk)
      unfold wpOp
      simp only [ho]
      rcases hy with ⟨hw, hq⟩ | ⟨hw, rfl⟩
      · rw [if_pos (by rw [e2]; exact hw)]
        refine .inl ?_
        have h4 := hq W hl.below
        unfold Oper.quietAt at h4
        unfold Oper.wp
        rw [e1]
        generalize (execOp a.eval o).run P W = r at *
        cases r with
        | ok nx w' =>
          cases nx <;> simp only [Oper.quietUpon] at h4 <;> simp only [Oper.upon]
          case value u =>
            obtain ⟨e3, e4⟩ := h4
            rw [e3, e4]
            exact key _ (Below.refl _ _)
          case skip =>
            obtain ⟨e3, e4⟩ := h4
            rw [e3, ← e4]
            exact key _ (Below.refl _ _)
          case enter fn args =>
            obtain ⟨e3, hc⟩ := h4
            rw [e3]
            exact hc.mono fun e w'' ⟨he, hw''⟩ => by subst he; exact key _ hw''
        | halt x w' => simp only [Oper.quietUpon] at h4
      · rw [if_neg (by rw [e2, hw]; simp)]
        exact key _ (Below.refl _ _)
    · obtain ⟨k, rfl⟩ : ∃ k, i = n1 + k := ⟨i - n1, by omega⟩
      have hk : k < als.length := by omega
      obtain ⟨o, ho, hd, hw, hr⟩ := hal k als[k] (by simp [hk])
      have hun := getD_both (mem_ready.1 hi).1
      have hnone : σ (0 + k) = none := by
        have := hs k hk
        rw [hun] at this
        rw [Nat.zero_add]
        cases hσ : σ k with
        | none => rfl
        | some g => rw [hσ] at this; cases this
      unfold wpOp
      simp only [ho]
      rw [if_pos (hw _)]
      refine .inl ?_
      unfold Oper.wp
      rw [hr]
      simp only [Oper.upon]
      rw [hd, ovl_upd als 0 σ a k W.heap.size als[k] hdist (by simp [hk]) hnone, Nat.zero_add]
      refine wpAny_of_abs hsel hn hno hdist hap hal hL f _ _ (upd σ k W.heap.size) _ (inv.set hi hin) (hA (by omega)) (hl.new (by simp [hk]) ((Below.refl _ W).alloc (Nat.le_refl _) _) (heap_alloc_new W _) (by simp)) (fun j hj => ?_)
      by_cases hjk : j = k
      · subst hjk
        have : (upd σ j W.heap.size j) = some W.heap.size := by unfold upd; simp
        rw [this]
        simp [inv.size]
        omega
      · have : (upd σ k W.heap.size j) = σ j := by unfold upd; rw [if_neg hjk]
        rw [this, getD_set_ne false (by omega)]
        exact hs j hj

/-- **One walk serves every order**: operations that read or call (n1 of them), the blocks of new variables ('als': each one's slot, and what it is laid with), then the stores in one order. -/
theorem wp_region_grow_tail {id : Nat} {Q : Exit → Act → World → Prop} {a : Act} {w : World} {l : List Oper} (n1 n : Nat) (als : List (Tmp × Obj)) (hm : P.follows .mixedOrders = true) (hB : Region.lexTailB .any l.toArray n = true)
    (hn : n = n1 + als.length) (hdist : (als.map (·.1)).Nodup)
    (hap : (l.take n1).all (fun o => als.all fun x => !(o.looksAt l.toArray).contains x.1 && o.dst != some x.1) = true)
    (hal : ∀ k x, als[k]? = some x → ∃ o, l.toArray[n1 + k]? = some o ∧ o.dst = some x.1 ∧ (∀ a : Act, Region.wanted o (yielded l.toArray a.tmps) = true) ∧
      ∀ (a : Act) (W : World), (execOp a.eval o).run P W = .ok (.value (.pointer (some ⟨W.heap.size, 0, none⟩))) (W.alloc x.2))
    (h : wpGrow P l.toArray w (fun a' => ∀ (gs : Nat → Nat) (W : World), Below w.heap.size w W → (∀ k x, als[k]? = some x → w.heap.size ≤ gs k ∧ gs k < W.heap.size ∧ W.heap[gs k]? = some x.2) →
      (∀ j k, j < als.length → k < als.length → gs j = gs k → j = k) → wpList P l.toArray Q (l.drop n) (ovl als 0 (fun k => some (gs k)) a') W) (l.take n1) a) : (Code.region id l.toArray true).wp P Q a w := by
  simp only [Region.lexTailB, Bool.and_eq_true, decide_eq_true_eq] at hB
  obtain ⟨⟨⟨⟨hsel, hno⟩, hs⟩, hc⟩, hlex⟩ := hB
  have hn' : n < l.length := by simpa using hno
  have hdl : (l.drop n).length = l.toArray.size - n := by simp
  have htl : (l.take n1).length = n1 := by simp; omega
  have inv0 : HeadInv .any l.toArray n (Array.replicate l.toArray.size false) :=
    ⟨by simp, fun j oj _ hl => (by rw [getD_replicate_false] at hl; cases hl), fun t _ ht => getD_in (by simpa using ht) (getD_replicate_false _ _)⟩
  have H := wpAbs_lex (md := .any) (w0 := w) (n1 := n1) (g := l.toArray.size - n) hsel hs hc hno (by omega) n 0 (l.take n1) _ a (by omega) (fun j hj => by
    have hj' : j < n1 := by rw [htl] at hj; exact hj
    simp [hj']) (fun _ => by rw [htl]; omega) (fun h0 => by
      have : n1 = 0 := by omega
      subst this; rfl) inv0 hlex h
  refine wp_region_any hm ?_
  have hb0 : Below w.heap.size w { w with drawn := w.drawn + 1 } := by
    have := below_regrown w (w.drawn + 1) #[]
    rw [grow_empty] at this
    exact this
  have := wpAny_of_abs (Q' := Q) (g := l.toArray.size - n) (als := als) (w0 := w) (Region.noSelect_spec hsel) hn (by omega) hdist (fun i o hi ho x hx => by
      have hm' : o ∈ l.take n1 := by
        have ho' : l[i]? = some o := by simpa using ho
        exact List.mem_of_getElem? (i := i) (by rw [List.getElem?_take, if_pos hi]; exact ho')
      have h1 := List.all_eq_true.1 (List.all_eq_true.1 hap o hm') x hx
      simp only [Bool.and_eq_true, Bool.not_eq_true', bne_iff_ne, ne_eq] at h1
      exact ⟨fun hmem => by have h2 := h1.1; simp [List.contains_iff_mem, hmem] at h2, h1.2⟩) hal
    (fun listed a' σ W inv hL hl hσ => by
      have hsome : ∀ k, k < als.length → ∃ g, σ k = some g := fun k hk => by
        have hr : n ∈ Region.ready .any l.toArray listed := by
          have h1 := hL.1
          have hpos : l.toArray.size - n ≠ 0 := by omega
          obtain ⟨m, hm'⟩ := Nat.exists_eq_succ_of_ne_zero hpos
          rw [hm'] at h1
          simp only [Region.seqB, Bool.and_eq_true, decide_eq_true_eq] at h1
          rw [h1.1]; simp
        cases hu : listed.getD (n1 + k) true with
        | false => exact absurd hr (tail_waits hs hc hno inv _ (n1 + k) rfl (by omega) hu n (Nat.le_refl _))
        | true =>
          have h2 := hσ k hk
          have h3 : listed.getD (n1 + k) false = true := by
            have hlt : n1 + k < listed.size := by rw [inv.size]; omega
            simp [hlt] at hu ⊢
            exact hu
          rw [h3] at h2
          cases hg : σ k with
          | none => rw [hg] at h2; cases h2
          | some g => exact ⟨g, rfl⟩
      have hgs : ∀ k, k < als.length → σ k = some ((σ k).getD 0) := fun k hk => by obtain ⟨g, hg⟩ := hsome k hk; rw [hg]; rfl
      have hfin := hL.2 (fun k => (σ k).getD 0) W hl.below (fun k x hx => hl.at_ k _ x hx (hgs k (List.getElem?_eq_some_iff.1 hx).1)) (fun j k hj hk e => hl.inj j k ((σ k).getD 0) (by rw [← e]; exact hgs j hj) (hgs k hk))
      rw [ovl_congr als 0 σ (fun k => some ((σ k).getD 0)) a' (fun i hi => by rw [Nat.zero_add]; exact hgs i hi)]
      have := wpAny_of_seq (md := .any) (Q' := Q) (l.drop n) n listed _ W (fun j => by simp [List.getElem?_drop]) (by rw [hdl]; exact hL.1) hfin
      rwa [hdl] at this) n _ a (fun _ => none) { w with drawn := w.drawn + 1 } inv0 H ⟨hb0, fun k g x _ h => (by cases h), fun _ _ => rfl, fun j k g h => (by cases h)⟩ (fun k hk => by rw [getD_replicate_false]; rfl)
  have e0 : ovl als 0 (fun _ => none) a = a := by
    have : ∀ (l : List (Tmp × Obj)) (k : Nat), ovl l k (fun _ => none) a = a := by
      intro l
      induction l with
      | nil => intro k; rfl
      | cons x l ih => intro k; exact ih (k + 1)
    exact this als 0
  rw [e0, show n + (l.toArray.size - n) = l.toArray.size by omega] at this
  exact this
end
/-- A cell of an old block, in a world grown from w. -/
theorem gcell {w W : World} (h : Below w.heap.size w W) (b o : Nat) (hb : b < w.heap.size) : W.cell? ⟨b, o, none⟩ = w.cell? ⟨b, o, none⟩ := h.cell hb
theorem block_cell {W : World} {g j : Nat} {cs : Array Value} {t : TypeId} {v : Value} (h : W.heap[g]? = some (Obj.cells cs t)) (hv : cs[j]? = some v) : W.cell? ⟨g, j, none⟩ = some v := by
  simp [World.cell?, h, hv]
theorem block_frozen {W : World} {g j : Nat} {cs : Array Value} {t : TypeId} (h : W.heap[g]? = some (Obj.cells cs t)) : W.frozen? ⟨g, j, none⟩ = false := by
  simp [World.frozen?, h]
end Go.Proofs.Ytipbbbamjckjoaa
