/- The logic's rule for a statement that draws its order and stores into own blocks: quiet operations that do not look at what is stored, and stores in one order. No program in sight. -/
import Derived.Test.YtipbbbamjckjoaaVM
namespace Go.Proofs.Ytipbbbamjckjoaa
open Go Go.RowKit
set_option linter.unusedVariables false
set_option maxRecDepth 20000
set_option linter.unusedSimpArgs false
section
variable {P : Program} {w : World} {M0 : Mem} {N : Nat}
def isSt : Go.Op → Bool
  | .store .. => true
  | _ => false
def noSel : Go.Op → Bool
  | .select .. => false
  | _ => true
def depB (o : Oper) (j : Nat) : Bool := o.after.toList.any fun e => Region.binds .any e && Nat.beq e.on j
def stB (l : List Oper) : Bool :=
  (List.range l.length).all fun i => match l[i]? with
    | none => true
    | some o => o.guard.isNone && noSel o.op && o.after.toList.all (fun e => !Region.binds .any e || Nat.blt e.on i) &&
      (!isSt o.op || (o.dst.isNone && (List.range i).all fun j => match l[j]? with | some p => !isSt p.op || depB o j | none => true)) &&
      (o.looksAt l.toArray).all (fun t => (List.range l.length).all fun j => match l[j]? with | some p => !(p.dst == some t) || (Nat.blt j i && depB o j) | none => true) &&
      (List.range i).all fun j => match l[j]? with | some p => p.dst.isNone || !(p.dst == o.dst) | none => true
structure StOk (l : List Oper) : Prop where
  guard : ∀ (i : Nat) (o : Oper), l[i]? = some o → o.guard = none
  sel : ∀ (i : Nat) (o : Oper), l[i]? = some o → ∀ cs b, o.op ≠ .select cs b
  low : ∀ (i : Nat) (o : Oper), l[i]? = some o → ∀ e ∈ o.after, Region.binds .any e = true → e.on < i
  st : ∀ (i : Nat) (o : Oper), l[i]? = some o → isSt o.op = true → o.dst = none ∧ ∀ (j : Nat) (p : Oper), j < i → l[j]? = some p → isSt p.op = true → ∃ e ∈ o.after, Region.binds .any e = true ∧ e.on = j
  use : ∀ (i : Nat) (o : Oper), l[i]? = some o → ∀ t ∈ o.looksAt l.toArray, ∀ (j : Nat) (p : Oper), l[j]? = some p → p.dst = some t → j < i ∧ ∃ e ∈ o.after, Region.binds .any e = true ∧ e.on = j
  dis : ∀ (i : Nat) (o : Oper) (j : Nat) (p : Oper) (t : Tmp), l[i]? = some o → l[j]? = some p → o.dst = some t → p.dst = some t → i = j
theorem depB_ex {o : Oper} {j : Nat} (h : depB o j = true) : ∃ e ∈ o.after, Region.binds .any e = true ∧ e.on = j := by
  unfold depB at h
  obtain ⟨e, he, h2⟩ := List.any_eq_true.1 h
  simp only [Bool.and_eq_true] at h2
  exact ⟨e, by simpa using he, h2.1, Nat.eq_of_beq_eq_true h2.2⟩
theorem StOk.of {l : List Oper} (h : stB l = true) : StOk l := by
  unfold stB at h
  have hi : ∀ (i : Nat) (o : Oper), l[i]? = some o → (o.guard.isNone && noSel o.op && o.after.toList.all (fun e => !Region.binds .any e || Nat.blt e.on i) &&
      (!isSt o.op || (o.dst.isNone && (List.range i).all fun j => match l[j]? with | some p => !isSt p.op || depB o j | none => true)) &&
      (o.looksAt l.toArray).all (fun t => (List.range l.length).all fun j => match l[j]? with | some p => !(p.dst == some t) || (Nat.blt j i && depB o j) | none => true) &&
      (List.range i).all fun j => match l[j]? with | some p => p.dst.isNone || !(p.dst == o.dst) | none => true) = true := fun i o ho => by
    have h1 := List.all_eq_true.1 h i (by simpa using (List.getElem?_eq_some_iff.1 ho).1)
    rw [ho] at h1
    exact h1
  have lt : ∀ {i : Nat} {o : Oper}, l[i]? = some o → i < l.length := fun ho => (List.getElem?_eq_some_iff.1 ho).1
  have D : ∀ (i : Nat) (o : Oper) (j : Nat) (p : Oper) (t : Tmp), j < i → l[i]? = some o → l[j]? = some p → o.dst = some t → p.dst = some t → False := fun i o j p t hj ho hp h1 h2 => by
    have h3 := hi i o ho
    simp only [Bool.and_eq_true] at h3
    have h4 := List.all_eq_true.1 h3.2 j (by simpa using hj)
    rw [hp] at h4
    simp [h1, h2] at h4
  refine ⟨fun i o ho => ?_, fun i o ho cs b e => ?_, fun i o ho e he hbe => ?_, fun i o ho hs => ?_, fun i o ho t ht j p hp hd => ?_, fun i o j p t ho hp h1 h2 => ?_⟩
  · have h3 := hi i o ho
    simp only [Bool.and_eq_true] at h3
    simpa using h3.1.1.1.1.1
  · have h3 := hi i o ho
    simp only [Bool.and_eq_true] at h3
    have := h3.1.1.1.1.2
    rw [e] at this; cases this
  · have h3 := hi i o ho
    simp only [Bool.and_eq_true] at h3
    have := List.all_eq_true.1 h3.1.1.1.2 e (by simpa using he)
    rw [hbe] at this
    simpa [Nat.blt_eq] using this
  · have h3 := hi i o ho
    simp only [Bool.and_eq_true] at h3
    have h4 := h3.1.1.2
    simp only [hs, Bool.not_true, Bool.false_or, Bool.and_eq_true] at h4
    refine ⟨by simpa using h4.1, fun j p hj hp hps => ?_⟩
    have h5 := List.all_eq_true.1 h4.2 j (by simpa using hj)
    rw [hp] at h5
    simp only [hps, Bool.not_true, Bool.false_or] at h5
    exact depB_ex h5
  · have h3 := hi i o ho
    simp only [Bool.and_eq_true] at h3
    have h5 := List.all_eq_true.1 (List.all_eq_true.1 h3.1.2 t ht) j (by simpa using lt hp)
    rw [hp] at h5
    simp only [hd, beq_self_eq_true, Bool.not_true, Bool.false_or, Bool.and_eq_true] at h5
    exact ⟨by simpa [Nat.blt_eq] using h5.1, depB_ex h5.2⟩
  · rcases Nat.lt_trichotomy i j with h | h | h
    · exact (D j p i o t h hp ho h2 h1).elim
    · exact h
    · exact (D i o j p t h ho hp h1 h2).elim

/-! ### The quiet operations, in the text's order -/
def envUp : Env → List Oper → List SV → Env
  | env, o :: l, v :: vs => envUp (match isSt o.op with | true => env | false => env.put o.dst v) l vs
  | env, _, _ => env
def frUp (hd : Nat → Value) : Act → List Oper → List SV → Act
  | a, o :: l, v :: vs => frUp hd (match isSt o.op with | true => a | false => a.put o.dst (v.den hd)) l vs
  | a, _, _ => a
structure VS (P : Program) (w : World) (M0 : Mem) (N : Nat) (l : List Oper) (s : St) (K : Env → Prop) : Prop where
  go : ∃ vs : List SV, vs.length = l.length ∧ (∀ i o sv, l[i]? = some o → vs[i]? = some sv → isSt o.op = false → QS P w M0 N o ⟨s.M, s.own, envUp s.env (l.take i) (vs.take i)⟩ sv ∧ dstOk N o.dst = true) ∧ K (envUp s.env l vs)
theorem VS_nil {s : St} {K : Env → Prop} (h : K s.env) : VS P w M0 N [] s K := ⟨[], rfl, fun i o sv hi => by simp at hi, h⟩
theorem VS_q {o : Oper} {l : List Oper} {M : Mem} {own : List Ob} {env : Env} {K : Env → Prop} (sv : SV) (hq : QS P w M0 N o ⟨M, own, env⟩ sv) (hs : isSt o.op = false) (hk : dstOk N o.dst = true) (h : VS P w M0 N l ⟨M, own, env.put o.dst sv⟩ K) : VS P w M0 N (o :: l) ⟨M, own, env⟩ K := by
  obtain ⟨vs, h1, h2, h3⟩ := h
  refine ⟨sv :: vs, by simp [h1], fun i p u hi hu hps => ?_, by unfold envUp; rw [hs]; exact h3⟩
  cases i with
  | zero => simp at hi hu; subst hi hu; exact ⟨hq, hk⟩
  | succ i =>
    have := h2 i p u (by simpa using hi) (by simpa using hu) hps
    rw [List.take_succ_cons, List.take_succ_cons]
    unfold envUp
    rw [hs]; exact this
theorem VS_st {o : Oper} {l : List Oper} {s : St} {K : Env → Prop} (hs : isSt o.op = true) (h : VS P w M0 N l s K) : VS P w M0 N (o :: l) s K := by
  obtain ⟨vs, h1, h2, h3⟩ := h
  refine ⟨.v undef :: vs, by simp [h1], fun i p u hi hu hps => ?_, by unfold envUp; rw [hs]; exact h3⟩
  cases i with
  | zero => simp at hi; subst hi; rw [hs] at hps; cases hps
  | succ i =>
    have := h2 i p u (by simpa using hi) (by simpa using hu) hps
    rw [List.take_succ_cons, List.take_succ_cons]
    unfold envUp
    rw [hs]; exact this
theorem frUp_fr {hd : Nat → Value} : ∀ (l : List Oper) (vs : List SV) (env : Env) (a : Act), (∀ o ∈ l, isSt o.op = false → dstOk N o.dst = true) → Fr N hd env a → Fr N hd (envUp env l vs) (frUp hd a l vs)
  | [], _, _, _, _, h => by unfold envUp frUp; exact h
  | o :: l, [], _, _, _, h => by unfold envUp frUp; exact h
  | o :: l, v :: vs, env, a, hk, h => by
    unfold envUp frUp
    refine frUp_fr l vs _ _ (fun p hp => hk p (by simp [hp])) ?_
    cases hs : isSt o.op with
    | true => exact h
    | false => exact h.put (hk o (by simp) hs) v
theorem put_ne {a : Act} {d : Option Tmp} {v : Value} {t : Tmp} (h : d ≠ some t) : (a.put d v).tmps[t]? = a.tmps[t]? := by
  cases d with
  | none => rfl
  | some d => simp only [Act.put]; exact Array.getElem?_setIfInBounds_ne (fun e => h (by rw [e]))
theorem put_eq {a : Act} {d : Tmp} {v : Value} (h : d < a.tmps.size) : (a.put (some d) v).tmps[d]? = some v := by simp [Act.put, h]
theorem frUp_other {hd : Nat → Value} {t : Tmp} : ∀ (l : List Oper) (vs : List SV) (a : Act), (∀ o ∈ l, isSt o.op = false → o.dst ≠ some t) → (frUp hd a l vs).tmps[t]? = a.tmps[t]?
  | [], _, _, _ => by unfold frUp; rfl
  | o :: l, [], _, _ => by unfold frUp; rfl
  | o :: l, v :: vs, a, h => by
    unfold frUp
    rw [frUp_other l vs _ (fun p hp => h p (by simp [hp]))]
    cases hs : isSt o.op with
    | true => rfl
    | false => exact put_ne (h o (by simp) hs)
theorem frUp_at {hd : Nat → Value} {t : Tmp} : ∀ (l : List Oper) (vs : List SV) (a : Act) (i : Nat) (o : Oper) (sv : SV), l[i]? = some o → vs[i]? = some sv → isSt o.op = false → o.dst = some t → t < a.tmps.size →
    (∀ j p, i < j → l[j]? = some p → p.dst ≠ some t) → (frUp hd a l vs).tmps[t]? = some (sv.den hd)
  | [], _, _, _, _, _, h, _, _, _, _, _ => by simp at h
  | p :: l, [], _, _, _, _, _, h, _, _, _, _ => by simp at h
  | p :: l, v :: vs, a, 0, o, sv, h1, h2, h3, h4, h5, h6 => by
    simp at h1 h2
    subst h1 h2
    unfold frUp
    rw [frUp_other l vs _ (fun q hq _ => by
      obtain ⟨j, hj⟩ := List.getElem?_of_mem hq
      exact h6 (j + 1) q (by omega) (by simpa using hj)), h3]
    simp only [h4]
    exact put_eq h5
  | p :: l, v :: vs, a, i + 1, o, sv, h1, h2, h3, h4, h5, h6 => by
    unfold frUp
    refine frUp_at l vs _ i o sv (by simpa using h1) (by simpa using h2) h3 h4 ?_ (fun j q hj hq => h6 (j + 1) q (by omega) (by simpa using hq))
    cases isSt p.op with
    | true => exact h5
    | false => cases p.dst <;> simpa [Act.put] using h5

/-! ### The stores -/
def ES (P : Program) (w : World) (M0 : Mem) (N : Nat) (o : Oper) (s : St) (own' : List Ob) : Prop := ∀ hd a W, Rel w M0 N hd s a W → ∃ W', (execOp a.eval o).run P W = .ok .skip W' ∧ Wd w M0 hd s.M own' W'
def goneAt : List Nat → List Ob → List Ob
  | [], own => own
  | i :: gs, own => goneAt gs (own.set i .gone)
theorem Wd.gones {hd : Nat → Value} {M : Mem} {W : World} : ∀ (gs : List Nat) (own : List Ob), Wd w M0 hd M own W → Wd w M0 hd M (goneAt gs own) W
  | [], _, h => h
  | i :: gs, own, h => Wd.gones gs _ (h.drop i)
structure VE (P : Program) (w : World) (M0 : Mem) (N : Nat) (gs : List Nat) (l : List Oper) (s : St) (Q : St → Prop) : Prop where
  go : ∃ os : List (List Ob), os.length = l.length + 1 ∧ os[0]? = some s.own ∧ (∀ i o x y, l[i]? = some o → os[i]? = some x → os[i + 1]? = some y → match isSt o.op with | true => ES P w M0 N o ⟨s.M, x, s.env⟩ y ∧ goneAt gs y = goneAt gs x | false => y = x) ∧ ∀ x, os[l.length]? = some x → Q ⟨s.M, x, s.env⟩
theorem VE_nil {gs : List Nat} {s : St} {Q : St → Prop} (h : Q s) : VE P w M0 N gs [] s Q := ⟨[s.own], rfl, rfl, fun i o x y hi => by simp at hi, fun x hx => by simp at hx; subst hx; exact h⟩
theorem VE_q {gs : List Nat} {o : Oper} {l : List Oper} {s : St} {Q : St → Prop} (hs : isSt o.op = false) (h : VE P w M0 N gs l s Q) : VE P w M0 N gs (o :: l) s Q := by
  obtain ⟨os, h1, h2, h3, h4⟩ := h
  refine ⟨s.own :: os, by simp [h1], rfl, fun i p x y hi hx hy => ?_, fun x hx => h4 x (by simpa using hx)⟩
  cases i with
  | zero =>
    simp at hi hx hy
    subst hi
    rw [hs]
    have : os[0]? = some y := hy
    rw [h2] at this
    rw [← hx, ← Option.some.inj this]
  | succ i => exact h3 i p x y (by simpa using hi) (by simpa using hx) (by simpa using hy)
theorem VE_st {gs : List Nat} {o : Oper} {l : List Oper} {M : Mem} {own : List Ob} {env : Env} {Q : St → Prop} (own' : List Ob) (hs : isSt o.op = true) (he : ES P w M0 N o ⟨M, own, env⟩ own') (hg : goneAt gs own' = goneAt gs own) (h : VE P w M0 N gs l ⟨M, own', env⟩ Q) : VE P w M0 N gs (o :: l) ⟨M, own, env⟩ Q := by
  obtain ⟨os, h1, h2, h3, h4⟩ := h
  refine ⟨own :: os, by simp [h1], rfl, fun i p x y hi hx hy => ?_, fun x hx => h4 x (by simpa using hx)⟩
  cases i with
  | zero =>
    simp at hi hx hy
    subst hi
    rw [hs]
    have : os[0]? = some y := hy
    rw [h2] at this
    have := Option.some.inj this
    subst hx
    rw [← this]; exact ⟨he, hg⟩
  | succ i => exact h3 i p x y (by simpa using hi) (by simpa using hx) (by simpa using hy)

theorem VC_drawS {id : Nat} {l : List Oper} {M : Mem} {own : List Ob} {env : Env} {Q : Post} (gs : List Nat) [hm : Mix P] (hB : stB l = true) (hV : VS P w M0 N l ⟨M, goneAt gs own, env⟩ (fun envF => VE P w M0 N gs l ⟨M, own, envF⟩ (fun s => Q .normal s))) :
    VC P w M0 N (.region id l.toArray true) ⟨M, own, env⟩ Q := .mk fun hd a0 W0 hR0 => by
  have hS := StOk.of hB
  obtain ⟨vs, hvl, hq, hE⟩ := hV
  obtain ⟨os, hol, ho0, hos, hoQ⟩ := hE
  have hdk : ∀ o ∈ l, isSt o.op = false → dstOk N o.dst = true := fun o ho hs => by
    obtain ⟨i, hi⟩ := List.getElem?_of_mem ho
    have hil := (List.getElem?_eq_some_iff.1 hi).1
    exact (hq i o vs[i] hi (by simp [hvl, hil]) hs).2
  have hosz : ∀ i, i ≤ l.length → ∃ x, os[i]? = some x := fun i hi => ⟨os[i]'(by omega), List.getElem?_eq_getElem (by omega)⟩
  have hgone : ∀ i x, i ≤ l.length → os[i]? = some x → goneAt gs x = goneAt gs own := by
    intro i
    induction i with
    | zero => intro x _ hx; rw [ho0] at hx; rw [← Option.some.inj hx]
    | succ i ih =>
      intro x hi hx
      obtain ⟨y, hy⟩ := hosz i (by omega)
      have hil : i < l.length := by omega
      have := hos i l[i] y x (by simp [hil]) hy hx
      split at this
      · rw [this.2]; exact ih y (by omega) hy
      · rw [this]; exact ih y (by omega) hy
  -- the walk in whatever order
  have main : ∀ (fuel : Nat) (listed : Array Bool) (a : Act) (W : World), listed.size = l.length → (listed.toList.filter (!·)).length = fuel →
      (∀ i o sv d, l[i]? = some o → vs[i]? = some sv → isSt o.op = false → listed.getD i false = true → o.dst = some d → a.tmps[d]? = some (sv.den hd)) →
      (∀ t, (∀ i o, l[i]? = some o → listed.getD i false = true → o.dst ≠ some t) → a.tmps[t]? = a0.tmps[t]?) → a.tmps.size = N → a.defers = [] →
      (∃ k x, k ≤ l.length ∧ os[k]? = some x ∧ Wd w M0 hd M x W ∧ ∀ i o, l[i]? = some o → isSt o.op = true → (listed.getD i false = true ↔ i < k)) →
      wpAny P .any l.toArray (post w M0 N Q) fuel listed a W := by
    intro fuel
    induction fuel with
    | zero =>
      intro listed a W hls hfu hT hC hN hD hK
      have hall : ∀ i, i < l.length → listed.getD i false = true := fun i hi => by
        have hnil : listed.toList.filter (!·) = [] := List.eq_nil_of_length_eq_zero hfu
        cases hb : listed.getD i false with
        | true => rfl
        | false =>
          have hil : i < listed.toList.length := by simp [hls, hi]
          have : listed.toList[i] = false := by
            have : i < listed.size := by omega
            simp [this] at hb
            simpa using hb
          have hm' : listed.toList[i] ∈ listed.toList.filter (!·) := List.mem_filter.2 ⟨List.getElem_mem hil, by rw [this]; rfl⟩
          rw [hnil] at hm'; cases hm'
      refine ⟨?_, ?_⟩
      · refine List.eq_nil_iff_forall_not_mem.2 fun i hi => ?_
        obtain ⟨h1, o, ho, _⟩ := mem_ready.1 hi
        have ho' : l[i]? = some o := by simpa using ho
        have := hall i (List.getElem?_eq_some_iff.1 ho').1
        rw [getD_both h1] at this; cases this
      · obtain ⟨k, x, hk, hx, hWd, hst⟩ := hK
        -- all stores are done: go on to the end of os
        have hx' : os[l.length]? = some x := by
          have : ∀ d k x, k + d = l.length → os[k]? = some x → (∀ i o, k ≤ i → l[i]? = some o → isSt o.op = false) → os[l.length]? = some x := by
            intro d
            induction d with
            | zero => intro k x hk hx _; rw [← hk]; exact hx
            | succ d ih =>
              intro k x hk hx hno
              obtain ⟨y, hy⟩ := hosz (k + 1) (by omega)
              have hkl : k < l.length := by omega
              have h3 := hos k l[k] x y (by simp [hkl]) hx hy
              rw [hno k l[k] (Nat.le_refl _) (by simp [hkl])] at h3
              have h3' : y = x := h3
              subst h3'
              exact ih (k + 1) y (by omega) hy (fun i o hi => hno i o (by omega))
          refine this (l.length - k) k x (by omega) hx (fun i o hi ho => ?_)
          cases hs : isSt o.op with
          | false => rfl
          | true =>
            have := (hst i o ho hs).1 (hall i (List.getElem?_eq_some_iff.1 ho).1)
            omega
        have hF := frUp_fr (hd := hd) l vs env a0 hdk hR0.2
        refine ⟨hd, ⟨M, x, envUp env l vs⟩, ⟨hWd, fun t sv ht => ?_, hN, hD⟩, hoQ x hx'⟩
        rw [← hF.env t sv ht]
        by_cases hex : ∃ (i : Nat) (o : Oper), l[i]? = some o ∧ o.dst = some t
        · obtain ⟨i, o, ho, hd'⟩ := hex
          have hil := (List.getElem?_eq_some_iff.1 ho).1
          have hs : isSt o.op = false := by
            cases hs : isSt o.op with
            | false => rfl
            | true => have := (hS.st i o ho hs).1; rw [this] at hd'; cases hd'
          have hvi : vs[i]? = some (vs[i]'(by omega)) := List.getElem?_eq_getElem (by omega)
          have htN : t < a0.tmps.size := by
            have := hdk o (List.mem_of_getElem? ho) hs
            rw [hd'] at this
            rw [hR0.2.size]
            simpa [dstOk, Nat.blt_eq] using this
          rw [hT i o _ t ho hvi hs (hall i hil) hd', frUp_at l vs a0 i o _ ho hvi hs hd' htN (fun j p hj hp e => by have := hS.dis i o j p t ho hp hd' e; omega)]
        · rw [hC t (fun i o ho _ e => hex ⟨i, o, ho, e⟩), frUp_other l vs a0 (fun o ho _ e => by
            obtain ⟨i, hi⟩ := List.getElem?_of_mem ho
            exact hex ⟨i, o, hi, e⟩)]
    | succ fuel ih =>
      intro listed a W hls hfu hT hC hN hD hK
      refine ⟨fun hr => ?_, fun i hi => ?_⟩
      · -- something is ready: the first that is not listed
        exfalso
        have hex : ∃ i, i < l.length ∧ listed.getD i false = false := by
          have hne : (listed.toList.filter (!·)) ≠ [] := fun e => by rw [e] at hfu; simp at hfu
          obtain ⟨b, hb⟩ := List.exists_mem_of_ne_nil _ hne
          obtain ⟨hb1, hb2⟩ := List.mem_filter.1 hb
          have : b = false := by simpa using hb2
          subst this
          obtain ⟨i, hi, he⟩ := List.mem_iff_getElem.1 hb1
          have hil : i < listed.size := by simpa using hi
          exact ⟨i, by omega, by simp [hil]; simpa using he⟩
        have hmin : ∃ i, (i < l.length ∧ listed.getD i false = false) ∧ ∀ j, j < i → listed.getD j false = true := by
          obtain ⟨i, hi⟩ := hex
          induction i using Nat.strongRecOn with
          | _ i ihh =>
            by_cases hj : ∃ j, j < i ∧ listed.getD j false = false
            · obtain ⟨j, hj1, hj2⟩ := hj
              exact ihh j hj1 ⟨by omega, hj2⟩
            · exact ⟨i, hi, fun j hj' => by
                cases hb : listed.getD j false with
                | true => rfl
                | false => exact (hj ⟨j, hj', hb⟩).elim⟩
        obtain ⟨i, ⟨hil, hiu⟩, hlow⟩ := hmin
        have : i ∈ Region.ready .any l.toArray listed := mem_ready.2 ⟨getD_in (by omega) hiu, l[i], by simp [hil], fun e he hbe => hlow e.on (hS.low i l[i] (by simp [hil]) e he hbe)⟩
        rw [hr] at this; cases this
      · obtain ⟨hun, o, ho, hdep⟩ := mem_ready.1 hi
        have ho' : l[i]? = some o := by simpa using ho
        have hil := (List.getElem?_eq_some_iff.1 ho').1
        have hun' := getD_both hun
        have hls' : (listed.setIfInBounds i true).size = l.length := by simp [hls]
        have hfu' : ((listed.setIfInBounds i true).toList.filter (!·)).length = fuel := by
          have key : ∀ (bs : List Bool) (i : Nat), bs[i]? = some false → ((bs.set i true).filter (!·)).length + 1 = (bs.filter (!·)).length := by
            intro bs
            induction bs with
            | nil => intro i h; simp at h
            | cons b bs ihb =>
              intro i h
              cases i with
              | zero => simp at h; subst h; simp
              | succ i =>
                have := ihb i (by simpa using h)
                cases b <;> simp [List.filter_cons] at this ⊢ <;> omega
          have h1 : listed.toList[i]? = some false := by
            have hl2 : i < listed.size := by omega
            simp [hl2] at hun' ⊢
            exact hun'
          have := key listed.toList i h1
          rw [Array.toList_setIfInBounds]
          omega
        have lset : ∀ j, (listed.setIfInBounds i true).getD j false = true → j = i ∨ listed.getD j false = true := fun j hj => by
          by_cases hji : j = i
          · exact .inl hji
          · rw [getD_set_ne false (fun e => hji e.symm)] at hj; exact .inr hj
        have lself : (listed.setIfInBounds i true).getD i false = true := by
          have : i < listed.size := by omega
          simp [this]
        -- what the operation looks at is as in the text's order
        have agree : ∀ (b : Act) (j : Nat), i ≤ j → b = frUp hd a0 (l.take j) (vs.take j) → execOp a.eval o = execOp b.eval o := fun b j hj hb => by
          refine execOp_congr o (hS.sel i o ho') fun x hx => ?_
          cases x with
          | tmp t =>
            have ht : t ∈ o.looksAt l.toArray := List.mem_append_left _ (List.mem_filterMap.2 ⟨.tmp t, by simpa using hx, rfl⟩)
            have : a.tmps[t]? = b.tmps[t]? := by
              by_cases hex : ∃ (q : Nat) (p : Oper), l[q]? = some p ∧ p.dst = some t
              · obtain ⟨q, p, hp, hpd⟩ := hex
                obtain ⟨hqi, e, he, hbd, heq⟩ := hS.use i o ho' t ht q p hp hpd
                have hql := hdep e he hbd
                rw [heq] at hql
                have hs : isSt p.op = false := by
                  cases hs : isSt p.op with
                  | false => rfl
                  | true => have := (hS.st q p hp hs).1; rw [this] at hpd; cases hpd
                have hqv : vs[q]? = some (vs[q]'(by omega)) := List.getElem?_eq_getElem (by omega)
                have htN : t < a0.tmps.size := by
                  have := hdk p (List.mem_of_getElem? hp) hs
                  rw [hpd] at this
                  rw [hR0.2.size]
                  simpa [dstOk, Nat.blt_eq] using this
                rw [hT q p _ t hp hqv hs hql hpd, hb]
                refine (frUp_at (l.take j) (vs.take j) a0 q p _ (by rw [List.getElem?_take, if_pos (by omega)]; exact hp) (by rw [List.getElem?_take, if_pos (by omega)]; exact hqv) hs hpd htN (fun q' p' hq' hp' e' => ?_)).symm
                rw [List.getElem?_take] at hp'
                split at hp'
                · have := hS.dis q p q' p' t hp hp' hpd e'; omega
                · cases hp'
              · rw [hC t (fun q p hp _ e => hex ⟨q, p, hp, e⟩), hb, frUp_other _ _ _ (fun p hp _ e => by
                  obtain ⟨q, hq'⟩ := List.getElem?_of_mem (List.mem_of_mem_take hp)
                  exact hex ⟨q, p, hq', e⟩)]
            simp [Act.eval, this]
          | const v => rfl
          | global g => rfl
          | func f => rfl
        unfold wpOp
        simp only [ho]
        rw [if_pos (by simp [Region.wanted, hS.guard i o ho'])]
        refine .inl ?_
        obtain ⟨k, x, hk, hx, hWd, hst⟩ := hK
        unfold Oper.wp
        cases hs : isSt o.op with
        | false =>
          have hvi : vs[i]? = some (vs[i]'(by omega)) := List.getElem?_eq_getElem (by omega)
          obtain ⟨hQS, hdo⟩ := hq i o _ ho' hvi hs
          have hWG : Wd w M0 hd M (goneAt gs own) W := by
            have := hWd.gones gs
            rwa [hgone k x hk hx] at this
          have hFi := frUp_fr (hd := hd) (l.take i) (vs.take i) env a0 (fun p hp => hdk p (List.mem_of_mem_take hp)) hR0.2
          have h1 := hQS.go hd _ W ⟨hWG, hFi⟩
          rw [agree _ i (Nat.le_refl _) rfl]
          unfold Oper.quietAt at h1
          have key : ∀ W', Below W.heap.size W W' → wpAny P .any l.toArray (post w M0 N Q) fuel (listed.setIfInBounds i true) (a.put o.dst ((vs[i]'(by omega)).den hd)) W' := fun W' hb => by
            refine ih _ _ W' hls' hfu' (fun q p sv d hp hv hps hql hpd => ?_) (fun t ht => ?_) (by cases o.dst <;> simp [Act.put, hN]) (by cases o.dst <;> exact hD) ⟨k, x, hk, hx, hWd.idle hb, fun q p hp hps => ?_⟩
            · by_cases hqi : q = i
              · subst hqi
                rw [ho'] at hp; rw [hvi] at hv
                cases hp; cases hv
                rw [hpd]
                refine put_eq ?_
                rw [hpd] at hdo
                rw [hN]; simpa [dstOk, Nat.blt_eq] using hdo
              · have hne : o.dst ≠ some d := fun e => hqi (hS.dis q p i o d hp ho' hpd e)
                rw [put_ne hne]
                exact hT q p sv d hp hv hps ((lset q hql).resolve_left hqi) hpd
            · have hne : o.dst ≠ some t := ht i o ho' lself
              rw [put_ne hne]
              exact hC t (fun q p hp hql => ht q p hp (getD_set_true hql))
            · rw [← hst q p hp hps]
              constructor
              · intro h2
                refine (lset q h2).resolve_left (fun e => ?_)
                subst e
                rw [ho'] at hp; cases hp
                rw [hs] at hps; cases hps
              · exact fun h2 => getD_set_true h2
          generalize (execOp (frUp hd a0 (l.take i) (vs.take i)).eval o).run P W = r at *
          cases r with
          | ok nx W' =>
            cases nx <;> simp only [Oper.quietUpon] at h1 <;> simp only [Oper.upon]
            case value u =>
              obtain ⟨e1, e2⟩ := h1
              rw [e1, e2]; exact key _ (Below.refl _ _)
            case skip =>
              obtain ⟨e1, e2⟩ := h1
              rw [e1, ← e2]; exact key _ (Below.refl _ _)
            case enter f args =>
              obtain ⟨e1, hc⟩ := h1
              rw [e1]
              exact hc.mono fun e W'' ⟨he, hb⟩ => by subst he; exact key _ hb
          | halt x w' => simp only [Oper.quietUpon] at h1
        | true =>
          obtain ⟨hdn, hch⟩ := hS.st i o ho' hs
          have hki : k ≤ i := by
            rcases Nat.lt_or_ge i k with h | h
            · have := (hst i o ho' hs).2 h
              rw [this] at hun'; cases hun'
            · exact h
          have hno : ∀ j p, k ≤ j → j < i → l[j]? = some p → isSt p.op = false := fun j p hj hji hp => by
            cases hps : isSt p.op with
            | false => rfl
            | true =>
              obtain ⟨e, he, hbd, heq⟩ := hch j p hji hp hps
              have := hdep e he hbd
              rw [heq] at this
              have := (hst j p hp hps).1 this
              omega
          have hxi : os[i]? = some x := by
            have : ∀ d k x, k + d = i → os[k]? = some x → (∀ j p, k ≤ j → j < i → l[j]? = some p → isSt p.op = false) → os[i]? = some x := by
              intro d
              induction d with
              | zero => intro k x hk hx _; rw [← hk]; exact hx
              | succ d ihd =>
                intro k x hk hx hno
                obtain ⟨y, hy⟩ := hosz (k + 1) (by omega)
                have hkl : k < l.length := by omega
                have h3 := hos k l[k] x y (by simp [hkl]) hx hy
                rw [hno k l[k] (Nat.le_refl _) (by omega) (by simp [hkl])] at h3
                have h3' : y = x := h3
                subst h3'
                exact ihd (k + 1) y (by omega) hy (fun j p hj => hno j p (by omega))
            exact this (i - k) k x (by omega) hx hno
          obtain ⟨y, hy⟩ := hosz (i + 1) (by omega)
          have h3 := hos i o x y ho' hxi hy
          rw [hs] at h3
          have hF := frUp_fr (hd := hd) l vs env a0 hdk hR0.2
          obtain ⟨W', hrun, hWd'⟩ := h3.1 hd _ W ⟨hWd, hF⟩
          have hag := agree (frUp hd a0 l vs) l.length (by omega) (by rw [List.take_of_length_le (Nat.le_refl _), List.take_of_length_le (by omega)])
          rw [hag, hrun]
          simp only [Oper.upon, hdn]
          refine ih _ _ W' hls' hfu' (fun q p sv d hp hv hps hql hpd => ?_) (fun t ht => ?_) hN hD ⟨i + 1, y, by omega, hy, hWd', fun q p hp hps => ?_⟩
          · refine hT q p sv d hp hv hps ((lset q hql).resolve_left (fun e => ?_)) hpd
            subst e
            rw [ho'] at hp; cases hp
            rw [hs] at hps; cases hps
          · exact hC t (fun q p hp hql => ht q p hp (getD_set_true hql))
          · constructor
            · intro h2
              rcases lset q h2 with h4 | h4
              · omega
              · have := (hst q p hp hps).1 h4; omega
            · intro h2
              by_cases hqi : q = i
              · rw [hqi]; exact lself
              · refine getD_set_true ((hst q p hp hps).2 ?_)
                rcases Nat.lt_or_ge q k with h | h
                · exact h
                · have := hno q p h (by omega) hp
                  rw [this] at hps; cases hps
  refine wp_region_any hm.h ?_
  have hb0 : Below W0.heap.size W0 { W0 with drawn := W0.drawn + 1 } := by
    have := below_regrown W0 (W0.drawn + 1) #[]
    rw [Go.Sort.grow_empty] at this
    exact this
  have hsz : l.toArray.size = l.length := by simp
  rw [hsz]
  refine main l.length _ a0 _ (by simp) ?_ (fun i o sv d _ _ _ h => (by rw [getD_replicate_false] at h; cases h)) (fun t _ => rfl) hR0.2.size hR0.2.defers ⟨0, own, Nat.zero_le _, ho0, hR0.1.idle hb0, fun i o _ _ => ⟨fun h => (by rw [getD_replicate_false] at h; cases h), fun h => absurd h (by omega)⟩⟩
  rw [Array.toList_replicate]
  induction l.length with
  | zero => rfl
  | succ n ihn => rw [List.replicate_succ]; simp
theorem VC_drawQ {id : Nat} {l : List Oper} {s : St} {Q : Post} [hm : Mix P] (hn : Nat.beq (idxEff l) l.length = true) (hB : Region.lexB .any l.toArray = true) (h : VG P w M0 N l.toArray l s (fun s' => Q .normal s')) : VC P w M0 N (.region id l.toArray true) s Q := VC_drawq hm.h hB h
theorem ES_store1 {dst : Option Tmp} {ty : TypeId} {pos : String} {aft : Array Edge} {g : Option (Nat × Bool)} {t t' : TypeId} {x y : Operand} {M : Mem} {own : List Ob} {env : Env} {i off : Nat} {cs : List Value} {u : Value} (hx : env.op x = some (.p i off)) (hy : env.op y = some (.v u)) (hi : own[i]? = some (.blk t' cs))
    (hoff : Nat.blt off cs.length = true) (hu : u.oneCell' = true) [ht : SizT P t 1] : ES P w M0 N ⟨dst, .store t x y, ty, pos, aft, g⟩ ⟨M, own, env⟩ (own.set i (.blk t' (cs.set off u))) := fun hd a W hR => by
  have h1 := hR.2.eval hx
  have h2 := hR.2.eval hy
  simp only [SV.den] at h1 h2
  obtain ⟨b, hb, hb1, hb2⟩ := hR.1.own i _ hi
  have hoff' : off < cs.length := by simpa [Nat.blt_eq] using hoff
  rw [hb] at h1
  have hc : W.cell? ⟨b, off, none⟩ = some (cs[off]) := by rw [cell_of_row W b off _ t' _ hb2]; simp [hoff']
  have hz : W.frozen? ⟨b, off, none⟩ = false := frozen_of_row W b off _ t' hb2
  have hv : u.cells = #[u] := by cases u <;> first | rfl | cases hu
  refine ⟨W.setCell ⟨b, off, none⟩ u, ?_, ?_⟩
  · simp [execOp, h1, h2, foot, Instr.storeAt, Instr.sureAddr, storeVar, run_sizeOf_of ht.h, hv, storeCells, run_store P W _ u _ hu, hc, hz, Addr.add_zero']
  · exact hR.1.store hi hb ⟨rfl, rfl, rfl, by simp, fun k hk hne => heap_setCell_other W ⟨b, off, none⟩ k u (fun e => hne (by rw [e]))⟩ (by rw [heap_setCell_same W b off _ t' u hb2]; simp)
theorem ES_storeN {dst : Option Tmp} {ty : TypeId} {pos : String} {aft : Array Edge} {g : Option (Nat × Bool)} {t t' : TypeId} {x y : Operand} {M : Mem} {own : List Ob} {env : Env} {i : Nat} {cs : List Value} {us : Array Value} (hx : env.op x = some (.p i 0)) (hy : env.op y = some (.v (.agg us))) (hi : own[i]? = some (.blk t' cs))
    (hn : cs.length = us.toList.length) (hu : us.toList.all (·.oneCell') = true) (n : Nat) [ht : SizT P t n] (hsz : us.toList.length = n) : ES P w M0 N ⟨dst, .store t x y, ty, pos, aft, g⟩ ⟨M, own, env⟩ (own.set i (.blk t' us.toList)) := fun hd a W hR => by
  have h1 := hR.2.eval hx
  have h2 := hR.2.eval hy
  simp only [SV.den] at h1 h2
  obtain ⟨b, hb, hb1, hb2⟩ := hR.1.own i _ hi
  rw [hb] at h1
  have hi' : (P.info? t).map (·.size) = some us.size := by have := ht.h; rw [← hsz] at this; unfold sizeB at this; simpa using this
  have hu' : us.all (·.oneCell') = true := by simpa using hu
  refine ⟨W.setRow b us, ?_, ?_⟩
  · have h3 := run_storeVar_row (P := P) W b t' t cs.toArray us hb2 hi' (by simpa using hn) hu'
    have h1' : a.eval x = .pointer (some ⟨b, 0, none⟩) := h1
    simp only [execOp, h1', h2, Instr.storeAt, Instr.sureAddr, Sem.run_bind, Sem.run_pure, Result.andThen_ok, h3]
  · exact hR.1.store hi hb ⟨rfl, rfl, rfl, by simp, fun k hk hne => setRow_other W b k us (fun e => hne (by rw [e]))⟩ (by rw [setRow_heap W b _ us t' _ hb2])
end
end Go.Proofs.Ytipbbbamjckjoaa
