/- The logic's rule for a statement that draws its order and holds, beside quiet operations, effects in one order: stores, new variables, literals, appends, calls that hand over a row. No program in sight. -/
import Derived.Test.YtipbbbamjckjoaaVR
namespace Go.Proofs.Ytipbbbamjckjoaa
open Go Go.RowKit
set_option linter.unusedVariables false
set_option maxRecDepth 20000
set_option linter.unusedSimpArgs false
section
variable {P : Program} {w : World} {M0 : Mem} {N : Nat}
abbrev FOp := Bool × Oper
def isEff2 (cf : List FuncId) : Go.Op → Bool
  | .store .. | .alloc _ | .box .. | .buildSlice .. | .makeSlice .. => true
  | .call ⟨.builtin .append, _, _⟩ => true
  | .call ⟨.value (.func f), _, _⟩ => cf.contains f
  | _ => false
def flags (cf : List FuncId) : List Tmp → List Oper → List FOp
  | _, [] => []
  | ds, o :: l => match isEff2 cf o.op || o.op.operands.toList.any (fun x => match x with | .tmp t => ds.contains t | _ => false) with
    | true => (true, o) :: flags cf (match o.dst with | some d => d :: ds | none => ds) l
    | false => (false, o) :: flags cf ds l
theorem flags_map (cf : List FuncId) : ∀ (ds : List Tmp) (l : List Oper), (flags cf ds l).map (·.2) = l
  | _, [] => rfl
  | ds, o :: l => by
    unfold flags
    split
    · simp [flags_map cf _ l]
    · simp [flags_map cf _ l]
def prevE (L : List FOp) (i : Nat) : Option Nat := ((List.range i).filter fun j => match L[j]? with | some p => p.1 | none => false).getLast?
def efB (l : List Oper) (L : List FOp) : Bool :=
  (List.range l.length).all fun i => match L[i]? with
    | none => true
    | some (f, o) => o.guard.isNone && noSel o.op && o.after.toList.all (fun e => !Region.binds .any e || Nat.blt e.on i) &&
      (!f || match prevE L i with | some j => depB o j | none => true) &&
      (o.looksAt l.toArray).all (fun t => (List.range l.length).all fun j => match L[j]? with
        | some (g, p) => !(p.dst == some t) || (Nat.blt j i && depB o j && (f || !g)) || (Nat.blt i j && depB p i && (g || !f))
        | none => true) &&
      (List.range i).all fun j => match L[j]? with | some (_, p) => p.dst.isNone || !(p.dst == o.dst) | none => true
structure EfOk (l : List Oper) (L : List FOp) : Prop where
  guard : ∀ (i : Nat) (f : Bool) (o : Oper), L[i]? = some (f, o) → o.guard = none
  sel : ∀ (i : Nat) (f : Bool) (o : Oper), L[i]? = some (f, o) → ∀ cs b, o.op ≠ .select cs b
  low : ∀ (i : Nat) (f : Bool) (o : Oper), L[i]? = some (f, o) → ∀ e ∈ o.after, Region.binds .any e = true → e.on < i
  ch : ∀ (i : Nat) (o : Oper), L[i]? = some (true, o) → ∀ (j : Nat) (p : Oper), j < i → L[j]? = some (true, p) → ∃ (q : Nat) (r : Oper), j ≤ q ∧ q < i ∧ L[q]? = some (true, r) ∧ (∀ (q' : Nat) (r' : Oper), q' < i → L[q']? = some (true, r') → q' ≤ q) ∧ ∃ e ∈ o.after, Region.binds .any e = true ∧ e.on = q
  use : ∀ (i : Nat) (f : Bool) (o : Oper), L[i]? = some (f, o) → ∀ t ∈ o.looksAt l.toArray, ∀ (j : Nat) (g : Bool) (p : Oper), L[j]? = some (g, p) → p.dst = some t →
    (j < i ∧ (f = true ∨ g = false) ∧ ∃ e ∈ o.after, Region.binds .any e = true ∧ e.on = j) ∨ (i < j ∧ (g = true ∨ f = false) ∧ ∃ e ∈ p.after, Region.binds .any e = true ∧ e.on = i)
  dis : ∀ (i : Nat) (f : Bool) (o : Oper) (j : Nat) (g : Bool) (p : Oper) (t : Tmp), L[i]? = some (f, o) → L[j]? = some (g, p) → o.dst = some t → p.dst = some t → i = j
theorem prevE_spec {L : List FOp} {i j : Nat} {p : Oper} (hj : j < i) (hp : L[j]? = some (true, p)) : ∃ (q : Nat) (r : Oper), prevE L i = some q ∧ j ≤ q ∧ q < i ∧ L[q]? = some (true, r) ∧ ∀ (q' : Nat) (r' : Oper), q' < i → L[q']? = some (true, r') → q' ≤ q := by
  unfold prevE
  induction i with
  | zero => omega
  | succ i ih =>
    rw [List.range_succ, List.filter_append]
    cases hi : L[i]? with
    | none =>
      have h0 : ([i].filter fun j => match L[j]? with | some p => p.1 | none => false) = [] := by simp [hi]
      rw [h0, List.append_nil]
      have hji : j ≠ i := fun e => by rw [e, hi] at hp; cases hp
      obtain ⟨q, r, h1, h2, h3, h4, h5⟩ := ih (by omega)
      exact ⟨q, r, h1, h2, by omega, h4, fun q' r' hq' hr' => h5 q' r' (Nat.lt_of_le_of_ne (by omega) (fun e => by rw [e, hi] at hr'; cases hr')) hr'⟩
    | some fo =>
      obtain ⟨f, o⟩ := fo
      cases f with
      | false =>
        have h0 : ([i].filter fun j => match L[j]? with | some p => p.1 | none => false) = [] := by simp [hi]
        rw [h0, List.append_nil]
        have hji : j ≠ i := fun e => by rw [e, hi] at hp; cases hp
        obtain ⟨q, r, h1, h2, h3, h4, h5⟩ := ih (by omega)
        exact ⟨q, r, h1, h2, by omega, h4, fun q' r' hq' hr' => h5 q' r' (Nat.lt_of_le_of_ne (by omega) (fun e => by rw [e, hi] at hr'; cases hr')) hr'⟩
      | true =>
        have h0 : ([i].filter fun j => match L[j]? with | some p => p.1 | none => false) = [i] := by simp [hi]
        rw [h0]
        exact ⟨i, o, by simp, by omega, by omega, hi, fun q' r' hq' _ => by omega⟩
theorem EfOk.of {l : List Oper} {L : List FOp} (hL : L.length = l.length) (h : efB l L = true) : EfOk l L := by
  unfold efB at h
  have lt : ∀ {i : Nat} {o : FOp}, L[i]? = some o → i < l.length := fun ho => by rw [← hL]; exact (List.getElem?_eq_some_iff.1 ho).1
  have hi : ∀ (i : Nat) (f : Bool) (o : Oper), L[i]? = some (f, o) → (o.guard.isNone && noSel o.op && o.after.toList.all (fun e => !Region.binds .any e || Nat.blt e.on i) &&
      (!f || match prevE L i with | some j => depB o j | none => true) &&
      (o.looksAt l.toArray).all (fun t => (List.range l.length).all fun j => match L[j]? with
        | some (g, p) => !(p.dst == some t) || (Nat.blt j i && depB o j && (f || !g)) || (Nat.blt i j && depB p i && (g || !f))
        | none => true) &&
      (List.range i).all fun j => match L[j]? with | some (_, p) => p.dst.isNone || !(p.dst == o.dst) | none => true) = true := fun i f o ho => by
    have h1 := List.all_eq_true.1 h i (by simpa using lt ho)
    rw [ho] at h1
    exact h1
  have D : ∀ (i : Nat) (f : Bool) (o : Oper) (j : Nat) (g : Bool) (p : Oper) (t : Tmp), j < i → L[i]? = some (f, o) → L[j]? = some (g, p) → o.dst = some t → p.dst = some t → False := fun i f o j g p t hj ho hp h1 h2 => by
    have h3 := hi i f o ho
    simp only [Bool.and_eq_true] at h3
    have h4 := List.all_eq_true.1 h3.2 j (by simpa using hj)
    rw [hp] at h4
    simp [h1, h2] at h4
  refine ⟨fun i f o ho => ?_, fun i f o ho cs b e => ?_, fun i f o ho e he hbe => ?_, fun i o ho j p hj hp => ?_, fun i f o ho t ht j g p hp hd => ?_, fun i f o j g p t ho hp h1 h2 => ?_⟩
  · have h3 := hi i f o ho
    simp only [Bool.and_eq_true] at h3
    simpa using h3.1.1.1.1.1
  · have h3 := hi i f o ho
    simp only [Bool.and_eq_true] at h3
    have := h3.1.1.1.1.2
    rw [e] at this; cases this
  · have h3 := hi i f o ho
    simp only [Bool.and_eq_true] at h3
    have := List.all_eq_true.1 h3.1.1.1.2 e (by simpa using he)
    rw [hbe] at this
    simpa [Nat.blt_eq] using this
  · have h3 := hi i true o ho
    simp only [Bool.and_eq_true] at h3
    obtain ⟨q, r, h5, h6, h7, h8, h9⟩ := prevE_spec hj hp
    have h4 := h3.1.1.2
    rw [h5] at h4
    simp only [Bool.not_true, Bool.false_or] at h4
    exact ⟨q, r, h6, h7, h8, h9, depB_ex h4⟩
  · have h3 := hi i f o ho
    simp only [Bool.and_eq_true] at h3
    have h5 := List.all_eq_true.1 (List.all_eq_true.1 h3.1.2 t ht) j (by simpa using lt hp)
    rw [hp] at h5
    simp only [hd, beq_self_eq_true, Bool.not_true, Bool.false_or, Bool.or_eq_true, Bool.and_eq_true, Bool.not_eq_true'] at h5
    rcases h5 with ⟨⟨h6, h7⟩, h8⟩ | ⟨⟨h6, h7⟩, h8⟩
    · exact .inl ⟨by simpa [Nat.blt_eq] using h6, h8, depB_ex h7⟩
    · exact .inr ⟨by simpa [Nat.blt_eq] using h6, h8, depB_ex h7⟩
  · rcases Nat.lt_trichotomy i j with h | h | h
    · exact (D j g p i f o t h hp ho h2 h1).elim
    · exact h
    · exact (D i f o j g p t h ho hp h1 h2).elim

/-! ### Slots that the flagged, or the other, operations fill -/
def envK (k : Bool) : Env → List FOp → List SV → Env
  | env, fo :: l, v :: vs => envK k (match fo.1 == k with | true => env.put fo.2.dst v | false => env) l vs
  | env, _, _ => env
def frK (k : Bool) (hd : Nat → Value) : Act → List FOp → List SV → Act
  | a, fo :: l, v :: vs => frK k hd (match fo.1 == k with | true => a.put fo.2.dst (v.den hd) | false => a) l vs
  | a, _, _ => a
theorem frK_fr {k : Bool} {hd : Nat → Value} : ∀ (l : List FOp) (vs : List SV) (env : Env) (a : Act), (∀ fo ∈ l, fo.1 = k → dstOk N fo.2.dst = true) → Fr N hd env a → Fr N hd (envK k env l vs) (frK k hd a l vs)
  | [], _, _, _, _, h => by unfold envK frK; exact h
  | o :: l, [], _, _, _, h => by unfold envK frK; exact h
  | o :: l, v :: vs, env, a, hk, h => by
    unfold envK frK
    refine frK_fr l vs _ _ (fun p hp => hk p (by simp [hp])) ?_
    cases hs : (o.1 == k) with
    | false => exact h
    | true => exact h.put (hk o (by simp) (by simpa using hs)) v
theorem frK_other {k : Bool} {hd : Nat → Value} {t : Tmp} : ∀ (l : List FOp) (vs : List SV) (a : Act), (∀ fo ∈ l, fo.1 = k → fo.2.dst ≠ some t) → (frK k hd a l vs).tmps[t]? = a.tmps[t]?
  | [], _, _, _ => by unfold frK; rfl
  | o :: l, [], _, _ => by unfold frK; rfl
  | o :: l, v :: vs, a, h => by
    unfold frK
    rw [frK_other l vs _ (fun p hp => h p (by simp [hp]))]
    cases hs : (o.1 == k) with
    | false => rfl
    | true => exact put_ne (h o (by simp) (by simpa using hs))
theorem frK_size {k : Bool} {hd : Nat → Value} : ∀ (l : List FOp) (vs : List SV) (a : Act), (frK k hd a l vs).tmps.size = a.tmps.size
  | [], _, _ => by unfold frK; rfl
  | o :: l, [], _ => by unfold frK; rfl
  | o :: l, v :: vs, a => by
    unfold frK
    rw [frK_size l vs]
    cases (o.1 == k) with
    | false => rfl
    | true => cases o.2.dst <;> simp [Act.put]
theorem frK_at {k : Bool} {hd : Nat → Value} {t : Tmp} : ∀ (l : List FOp) (vs : List SV) (a : Act) (i : Nat) (o : Oper) (sv : SV), l[i]? = some (k, o) → vs[i]? = some sv → o.dst = some t → t < a.tmps.size →
    (∀ (j : Nat) (g : Bool) (p : Oper), i < j → l[j]? = some (g, p) → p.dst ≠ some t) → (frK k hd a l vs).tmps[t]? = some (sv.den hd)
  | [], _, _, _, _, _, h, _, _, _, _ => by simp at h
  | p :: l, [], _, _, _, _, _, h, _, _, _ => by simp at h
  | p :: l, v :: vs, a, 0, o, sv, h1, h2, h4, h5, h6 => by
    simp at h1 h2
    subst h1 h2
    unfold frK
    rw [frK_other l vs _ (fun q hq _ => by
      obtain ⟨j, hj⟩ := List.getElem?_of_mem hq
      obtain ⟨g, q'⟩ := q
      exact h6 (j + 1) g q' (by omega) (by simpa using hj))]
    simp only [beq_self_eq_true, h4]
    exact put_eq h5
  | p :: l, v :: vs, a, i + 1, o, sv, h1, h2, h4, h5, h6 => by
    unfold frK
    refine frK_at l vs _ i o sv (by simpa using h1) (by simpa using h2) h4 ?_ (fun j g q hj hq => h6 (j + 1) g q (by omega) (by simpa using hq))
    cases (p.1 == k) with
    | false => exact h5
    | true => cases p.2.dst <;> simpa [Act.put] using h5
theorem den_agree {n : Nat} {hd hd' : Nat → Value} (h : ∀ i, i < n → hd' i = hd i) {sv : SV} (hs : sv.okB n = true) : sv.den hd' = sv.den hd := by
  cases sv with
  | v x => rfl
  | p i off => simp only [SV.okB, Nat.blt_eq] at hs; simp only [SV.den, h i hs]
  | r i => simp only [SV.okB, Nat.blt_eq] at hs; simp only [SV.den, h i hs]
theorem okB_mono {n m : Nat} (h : n ≤ m) {sv : SV} (hs : sv.okB n = true) : sv.okB m = true := by
  cases sv with
  | v x => rfl
  | p i off => simp only [SV.okB, Nat.blt_eq] at hs ⊢; omega
  | r i => simp only [SV.okB, Nat.blt_eq] at hs ⊢; omega
theorem Wd.take {hd : Nat → Value} {M : Mem} {own : List Ob} {W : World} (h : Wd w M0 hd M own W) (n : Nat) : Wd w M0 hd M (own.take n) W := by
  have up : ∀ {i : Nat} {o : Ob}, (own.take n)[i]? = some o → own[i]? = some o := fun hi => by
    rw [List.getElem?_take] at hi
    split at hi
    · exact hi
    · cases hi
  exact ⟨h.below, h.mem, h.old, h.grew, fun i o hi => h.own i o (up hi), fun i o b hi => h.sep i o b (up hi), fun i j oi oj b hi hj => h.dis i j oi oj b (up hi) (up hj)⟩
theorem Wd.hd_agree {hd hd' : Nat → Value} {M : Mem} {own : List Ob} {W : World} (h : Wd w M0 hd M own W) (he : ∀ i, i < own.length → hd' i = hd i) : Wd w M0 hd' M own W := by
  have lt : ∀ {i : Nat} {o : Ob}, own[i]? = some o → i < own.length := fun hi => (List.getElem?_eq_some_iff.1 hi).1
  exact ⟨h.below, h.mem, h.old, h.grew, fun i o hi => by rw [he i (lt hi)]; exact h.own i o hi, fun i o b hi hn hb => by rw [he i (lt hi)] at hb; exact h.sep i o b hi hn hb,
    fun i j oi oj b hi hj hin hjn hbi hbj => by rw [he i (lt hi)] at hbi; rw [he j (lt hj)] at hbj; exact h.dis i j oi oj b hi hj hin hjn hbi hbj⟩

/-! ### The two walks -/
/-- The quiet operations. -/
structure VQ (P : Program) (w : World) (M0 : Mem) (N : Nat) (l : List FOp) (s : St) (K : Env → Prop) : Prop where
  go : ∃ vs : List SV, vs.length = l.length ∧ (∀ (i : Nat) (o : Oper) (sv : SV), l[i]? = some (false, o) → vs[i]? = some sv → QS P w M0 N o ⟨s.M, s.own, envK false s.env (l.take i) (vs.take i)⟩ sv ∧ dstOk N o.dst = true ∧ sv.okB s.own.length = true) ∧ K (envK false s.env l vs)
theorem VQ_nil {s : St} {K : Env → Prop} (h : K s.env) : VQ P w M0 N [] s K := ⟨[], rfl, fun i o sv hi => by simp at hi, h⟩
theorem VQ_q {o : Oper} {l : List FOp} {M : Mem} {own : List Ob} {env : Env} {K : Env → Prop} (sv : SV) (hq : QS P w M0 N o ⟨M, own, env⟩ sv) (hk : dstOk N o.dst = true) (ho : sv.okB own.length = true) (h : VQ P w M0 N l ⟨M, own, env.put o.dst sv⟩ K) : VQ P w M0 N ((false, o) :: l) ⟨M, own, env⟩ K := by
  obtain ⟨vs, h1, h2, h3⟩ := h
  refine ⟨sv :: vs, by simp [h1], fun i p u hi hu => ?_, by unfold envK; exact h3⟩
  cases i with
  | zero => simp at hi hu; subst hi hu; exact ⟨hq, hk, ho⟩
  | succ i =>
    have := h2 i p u (by simpa using hi) (by simpa using hu)
    rw [List.take_succ_cons, List.take_succ_cons]
    unfold envK
    exact this
theorem VQ_e {o : Oper} {l : List FOp} {s : St} {K : Env → Prop} (h : VQ P w M0 N l s K) : VQ P w M0 N ((true, o) :: l) s K := by
  obtain ⟨vs, h1, h2, h3⟩ := h
  refine ⟨.v undef :: vs, by simp [h1], fun i p u hi hu => ?_, by unfold envK; exact h3⟩
  cases i with
  | zero => simp at hi
  | succ i =>
    have := h2 i p u (by simpa using hi) (by simpa using hu)
    rw [List.take_succ_cons, List.take_succ_cons]
    unfold envK
    exact this
def EffRun (P : Program) (C : Value → World → Prop) : Result Next → Prop
  | .ok (.value u) W' => C u W'
  | .ok .skip W' => C undef W'
  | .ok (.enter f args) W' => Calls P f args W' fun e W'' => ∃ u, e = .returned u ∧ C u W''
  | _ => False
/-- An effect: what becomes of our own, and what it yields. -/
structure EF (P : Program) (w : World) (M0 : Mem) (N : Nat) (o : Oper) (s : St) (own' : List Ob) (sv : SV) : Prop where
  go : ∀ hd a W, Rel w M0 N hd s a W → EffRun P (fun u W' => ∃ hd', (∀ i, i < s.own.length → hd' i = hd i) ∧ Wd w M0 hd' s.M own' W' ∧ u = sv.den hd') ((execOp a.eval o).run P W)
  len : s.own.length ≤ own'.length
  ok : sv.okB own'.length = true
structure VF (P : Program) (w : World) (M0 : Mem) (N : Nat) (gs : List Nat) (n0 : Nat) (l : List FOp) (s : St) (Q : St → Prop) : Prop where
  go : ∃ (os : List (List Ob)) (us : List SV), os.length = l.length + 1 ∧ us.length = l.length ∧ os[0]? = some s.own ∧
    (∀ (i : Nat) (f : Bool) (o : Oper) (x y : List Ob) (u : SV), l[i]? = some (f, o) → os[i]? = some x → os[i + 1]? = some y → us[i]? = some u →
      match f with | true => EF P w M0 N o ⟨s.M, x, envK true s.env (l.take i) (us.take i)⟩ y u ∧ (goneAt gs y).take n0 = (goneAt gs x).take n0 ∧ dstOk N o.dst = true | false => y = x) ∧ ∀ x, os[l.length]? = some x → Q ⟨s.M, x, envK true s.env l us⟩
theorem VF_nil {gs : List Nat} {n0 : Nat} {s : St} {Q : St → Prop} (h : Q s) : VF P w M0 N gs n0 [] s Q := ⟨[s.own], [], rfl, rfl, rfl, fun i f o x y u hi => by simp at hi, fun x hx => by simp at hx; subst hx; exact h⟩
theorem VF_q {gs : List Nat} {n0 : Nat} {o : Oper} {l : List FOp} {s : St} {Q : St → Prop} (h : VF P w M0 N gs n0 l s Q) : VF P w M0 N gs n0 ((false, o) :: l) s Q := by
  obtain ⟨os, us, h1, h1', h2, h3, h4⟩ := h
  refine ⟨s.own :: os, .v undef :: us, by simp [h1], by simp [h1'], rfl, fun i f p x y u hi hx hy hu => ?_, fun x hx => by unfold envK; exact h4 x (by simpa using hx)⟩
  cases i with
  | zero =>
    simp at hi hx hy
    obtain ⟨hf, hi⟩ := hi
    subst hf
    have : os[0]? = some y := hy
    rw [h2] at this
    show y = x
    rw [← hx, ← Option.some.inj this]
  | succ i =>
    have := h3 i f p x y u (by simpa using hi) (by simpa using hx) (by simpa using hy) (by simpa using hu)
    rw [List.take_succ_cons, List.take_succ_cons]
    unfold envK
    exact this
theorem VF_e {gs : List Nat} {n0 : Nat} {o : Oper} {l : List FOp} {M : Mem} {own : List Ob} {env : Env} {Q : St → Prop} (own' : List Ob) (sv : SV) (he : EF P w M0 N o ⟨M, own, env⟩ own' sv) (hg : (goneAt gs own').take n0 = (goneAt gs own).take n0) (hk : dstOk N o.dst = true)
    (h : VF P w M0 N gs n0 l ⟨M, own', env.put o.dst sv⟩ Q) : VF P w M0 N gs n0 ((true, o) :: l) ⟨M, own, env⟩ Q := by
  obtain ⟨os, us, h1, h1', h2, h3, h4⟩ := h
  refine ⟨own :: os, sv :: us, by simp [h1], by simp [h1'], rfl, fun i f p x y u hi hx hy hu => ?_, fun x hx => by unfold envK; exact h4 x (by simpa using hx)⟩
  cases i with
  | zero =>
    simp at hi hx hy hu
    obtain ⟨hf, hi⟩ := hi
    subst hf hi hu
    have : os[0]? = some y := hy
    rw [h2] at this
    have := Option.some.inj this
    subst hx
    rw [← this]; exact ⟨he, hg, hk⟩
  | succ i =>
    have := h3 i f p x y u (by simpa using hi) (by simpa using hx) (by simpa using hy) (by simpa using hu)
    rw [List.take_succ_cons, List.take_succ_cons]
    unfold envK
    exact this
theorem len_goneAt : ∀ (gs : List Nat) (own : List Ob), (goneAt gs own).length = own.length
  | [], _ => rfl
  | i :: gs, own => by unfold goneAt; rw [len_goneAt gs]; simp

theorem VC_drawE {id : Nat} {l : List Oper} {M : Mem} {own : List Ob} {env : Env} {Q : Post} (cf : List FuncId) (gs : List Nat) [hm : Mix P] (hB : efB l (flags cf [] l) = true) (hold : envB env own.length = true)
    (hV : VQ P w M0 N (flags cf [] l) ⟨M, goneAt gs own, env⟩ (fun envF => VF P w M0 N gs own.length (flags cf [] l) ⟨M, own, envF⟩ (fun s => Q .normal s))) :
    VC P w M0 N (.region id l.toArray true) ⟨M, own, env⟩ Q := .mk fun hd0 a0 W0 hR0 => by
  have hLm := flags_map cf [] l
  generalize flags cf [] l = L at *
  have hLl : L.length = l.length := by rw [← hLm]; simp
  have hS := EfOk.of hLl hB
  have hLo : ∀ (i : Nat) (o : Oper), l[i]? = some o → ∃ f, L[i]? = some (f, o) := fun i o ho => by
    rw [← hLm, List.getElem?_map] at ho
    cases hL : L[i]? with
    | none => rw [hL] at ho; cases ho
    | some fo =>
      rw [hL] at ho
      cases ho
      exact ⟨fo.1, rfl⟩
  obtain ⟨vs, hvl, hq, hE⟩ := hV
  obtain ⟨os, us, hol, hul, ho0, hos, hoQ⟩ := hE
  have hdkq : ∀ fo ∈ L, fo.1 = false → dstOk N fo.2.dst = true := fun fo hfo hf => by
    obtain ⟨i, hi⟩ := List.getElem?_of_mem hfo
    obtain ⟨f, o⟩ := fo
    have hf' : f = false := hf
    subst hf'
    have hil := (List.getElem?_eq_some_iff.1 hi).1
    exact (hq i o vs[i] hi (by simp [hvl, hil])).2.1
  have hosz : ∀ i, i ≤ L.length → ∃ x, os[i]? = some x := fun i hi => ⟨os[i]'(by omega), List.getElem?_eq_getElem (by omega)⟩
  have husz : ∀ i, i < L.length → ∃ u, us[i]? = some u := fun i hi => ⟨us[i]'(by omega), List.getElem?_eq_getElem (by omega)⟩
  have hvsz : ∀ i, i < L.length → ∃ u, vs[i]? = some u := fun i hi => ⟨vs[i]'(by omega), List.getElem?_eq_getElem (by omega)⟩
  have hdke : ∀ fo ∈ L, fo.1 = true → dstOk N fo.2.dst = true := fun fo hfo hf => by
    obtain ⟨i, hi⟩ := List.getElem?_of_mem hfo
    obtain ⟨f, o⟩ := fo
    have hf' : f = true := hf
    subst hf'
    have hil := (List.getElem?_eq_some_iff.1 hi).1
    obtain ⟨x, hx⟩ := hosz i (by omega)
    obtain ⟨y, hy⟩ := hosz (i + 1) (by omega)
    obtain ⟨u, hu⟩ := husz i hil
    exact (hos i true o x y u hi hx hy hu).2.2
  have hdk : ∀ (i : Nat) (f : Bool) (o : Oper) (t : Tmp), L[i]? = some (f, o) → o.dst = some t → t < N := fun i f o t hi ht => by
    have : dstOk N o.dst = true := by
      cases f with
      | false => exact hdkq (false, o) (List.mem_of_getElem? hi) rfl
      | true => exact hdke (true, o) (List.mem_of_getElem? hi) rfl
    rw [ht] at this
    simpa [dstOk, Nat.blt_eq] using this
  -- what the chain of effects keeps
  have hgone : ∀ i x, i ≤ L.length → os[i]? = some x → (goneAt gs x).take own.length = (goneAt gs own).take own.length ∧ own.length ≤ x.length := by
    intro i
    induction i with
    | zero => intro x _ hx; rw [ho0] at hx; rw [← Option.some.inj hx]; exact ⟨rfl, Nat.le_refl _⟩
    | succ i ih =>
      intro x hi hx
      obtain ⟨y, hy⟩ := hosz i (by omega)
      have hil : i < L.length := by omega
      obtain ⟨u, hu⟩ := husz i hil
      have := hos i L[i].1 L[i].2 y x u (by simp [hil]) hy hx hu
      have ihy := ih y (by omega) hy
      split at this
      · exact ⟨this.2.1.trans ihy.1, Nat.le_trans ihy.2 this.1.len⟩
      · rw [this]; exact ihy
  have hmono : ∀ i j x y, i ≤ j → j ≤ L.length → os[i]? = some x → os[j]? = some y → x.length ≤ y.length := by
    intro i j
    induction j with
    | zero =>
      intro x y hij _ hx hy
      have hi0 : i = 0 := by omega
      rw [hi0, hy] at hx; rw [Option.some.inj hx]; exact Nat.le_refl _
    | succ j ih =>
      intro x y hij hjl hx hy
      by_cases he : i = j + 1
      · rw [he, hy] at hx; rw [Option.some.inj hx]; exact Nat.le_refl _
      · obtain ⟨z, hz⟩ := hosz j (by omega)
        have hil : j < L.length := by omega
        obtain ⟨u, hu⟩ := husz j hil
        have := hos j L[j].1 L[j].2 z y u (by simp [hil]) hz hy hu
        have h2 := ih x z (by omega) (by omega) hx hz
        split at this
        · exact Nat.le_trans h2 this.1.len
        · rw [this]; exact h2
  have hskip : ∀ i k x, k ≤ i → i ≤ L.length → os[k]? = some x → (∀ (j : Nat) (p : Oper), k ≤ j → j < i → L[j]? ≠ some (true, p)) → os[i]? = some x := by
    intro i
    induction i with
    | zero => intro k x hk _ hx _; have : k = 0 := by omega
              rw [← this]; exact hx
    | succ i ih =>
      intro k x hk hil hx hno
      by_cases he : k = i + 1
      · rw [← he]; exact hx
      · have h1 := ih k x (by omega) (by omega) hx (fun j p hj hji => hno j p hj (by omega))
        obtain ⟨y, hy⟩ := hosz (i + 1) hil
        have hl : i < L.length := by omega
        obtain ⟨u, hu⟩ := husz i hl
        have h2 := hos i L[i].1 L[i].2 x y u (by simp [hl]) h1 hy hu
        have hf : L[i].1 = false := by
          cases hb : L[i].1 with
          | false => rfl
          | true => exact (hno i L[i].2 (by omega) (by omega) (by simp [hl, ← hb])).elim
        rw [hf] at h2
        have h3 : y = x := h2
        rw [← h3]; exact hy
  let aQ : Act := frK false hd0 a0 L vs
  have haQs : aQ.tmps.size = N := (frK_size L vs a0).trans hR0.2.size
  have hFq : Fr N hd0 (envK false env L vs) aQ := frK_fr L vs env a0 hdkq hR0.2
  have hokq : ∀ t sv, (envK false env L vs).get t = some sv → sv.okB own.length = true := by
    have key : ∀ (L' : List FOp) (vs' : List SV) (e : Env), (∀ t sv, e.get t = some sv → sv.okB own.length = true) → (∀ (i : Nat) (o : Oper) (sv : SV), L'[i]? = some (false, o) → vs'[i]? = some sv → sv.okB own.length = true) → ∀ t sv, (envK false e L' vs').get t = some sv → sv.okB own.length = true := by
      intro L'
      induction L' with
      | nil => intro vs' e h1 _; unfold envK; exact h1
      | cons fo L' ihL =>
        intro vs' e h1 h2
        cases vs' with
        | nil => unfold envK; exact h1
        | cons v vs' =>
          unfold envK
          refine ihL vs' _ ?_ (fun i o sv hi hv => h2 (i + 1) o sv (by simpa using hi) (by simpa using hv))
          obtain ⟨f, o⟩ := fo
          cases f with
          | true => exact h1
          | false =>
            intro t sv ht
            simp only [beq_self_eq_true] at ht
            cases hd' : o.dst with
            | none => rw [hd'] at ht; exact h1 t sv ht
            | some d =>
              rw [hd'] at ht
              simp only [Env.put, Env.get] at ht
              split at ht
              · cases ht; exact h2 0 o v rfl rfl
              · exact h1 t sv ht
    refine key L vs env (fun t sv ht => envB_get hold t sv ht) (fun i o sv hi hv => ?_)
    have := (hq i o sv hi hv).2.2
    rwa [len_goneAt] at this
  -- the walk in whatever order
  have main : ∀ (fuel : Nat) (listed : Array Bool) (a : Act) (W : World) (hd : Nat → Value), listed.size = L.length → (listed.toList.filter (!·)).length = fuel → (∀ i, i < own.length → hd i = hd0 i) →
      (∀ (i : Nat) (o : Oper) (sv : SV) (d : Tmp), L[i]? = some (false, o) → vs[i]? = some sv → listed.getD i false = true → o.dst = some d → a.tmps[d]? = some (sv.den hd0)) →
      (∀ (i : Nat) (o : Oper) (u : SV) (d : Tmp), L[i]? = some (true, o) → us[i]? = some u → listed.getD i false = true → o.dst = some d → a.tmps[d]? = some (u.den hd)) →
      (∀ t, (∀ (i : Nat) (f : Bool) (o : Oper), L[i]? = some (f, o) → listed.getD i false = true → o.dst ≠ some t) → a.tmps[t]? = a0.tmps[t]?) → a.tmps.size = N → a.defers = [] →
      (∀ (j : Nat) (g : Bool) (p : Oper), L[j]? = some (g, p) → listed.getD j false = true → ∀ e ∈ p.after, Region.binds .any e = true → listed.getD e.on false = true) →
      (∃ k x, k ≤ L.length ∧ os[k]? = some x ∧ Wd w M0 hd M x W ∧ ∀ (i : Nat) (o : Oper), L[i]? = some (true, o) → (listed.getD i false = true ↔ i < k)) →
      wpAny P .any l.toArray (post w M0 N Q) fuel listed a W := by
    intro fuel
    induction fuel with
    | zero =>
      intro listed a W hd hls hfu hag hT hU hC hN hD hdn hK
      have hall : ∀ i, i < L.length → listed.getD i false = true := fun i hi => by
        have hnil : listed.toList.filter (!·) = [] := List.eq_nil_of_length_eq_zero hfu
        cases hb : listed.getD i false with
        | true => rfl
        | false =>
          have hil : i < listed.toList.length := by simp [hls, hi]
          have : listed.toList[i] = false := by
            have : i < listed.size := by omega
            simp [this] at hb
            simpa using hb
          have hm' : listed.toList[i] ∈ listed.toList.filter (!·) := List.mem_filter.2 ⟨List.getElem_mem hil, by rw [this]; rfl⟩
          rw [hnil] at hm'; cases hm'
      refine ⟨?_, ?_⟩
      · refine List.eq_nil_iff_forall_not_mem.2 fun i hi => ?_
        obtain ⟨h1, o, ho, _⟩ := mem_ready.1 hi
        have ho' : l[i]? = some o := by simpa using ho
        have := hall i (by rw [hLl]; exact (List.getElem?_eq_some_iff.1 ho').1)
        rw [getD_both h1] at this; cases this
      · obtain ⟨k, x, hk, hx, hWd, hst⟩ := hK
        have hx' : os[L.length]? = some x := hskip L.length k x hk (Nat.le_refl _) hx (fun j p hj hjl hp => by
          have := (hst j p hp).1 (hall j hjl); omega)
        refine ⟨hd, ⟨M, x, envK true (envK false env L vs) L us⟩, ⟨hWd, ?_⟩, hoQ x hx'⟩
        have hFq' : Fr N hd (envK false env L vs) aQ := hFq.upd fun t sv ht => den_agree hag (hokq t sv ht)
        have hF := frK_fr (k := true) (hd := hd) L us _ aQ hdke hFq'
        refine ⟨fun t sv ht => ?_, hN, hD⟩
        rw [← hF.env t sv ht]
        by_cases hex : ∃ (i : Nat) (f : Bool) (o : Oper), L[i]? = some (f, o) ∧ o.dst = some t
        · obtain ⟨i, f, o, ho, hd'⟩ := hex
          have hil := (List.getElem?_eq_some_iff.1 ho).1
          have htN := hdk i f o t ho hd'
          cases f with
          | true =>
            obtain ⟨u, hu⟩ := husz i hil
            rw [hU i o u t ho hu (hall i hil) hd', frK_at L us aQ i o u ho hu hd' (by rw [haQs]; exact htN) (fun j g p hj hp e => by have := hS.dis i _ o j g p t ho hp hd' e; omega)]
          | false =>
            obtain ⟨u, hu⟩ := hvsz i hil
            rw [hT i o u t ho hu (hall i hil) hd', frK_other L us aQ (fun fo hfo hf e => by
              obtain ⟨j, hj⟩ := List.getElem?_of_mem hfo
              obtain ⟨g, p⟩ := fo
              have := hS.dis i _ o j g p t ho hj hd' e
              subst this
              rw [ho] at hj
              cases hj
              cases hf), frK_at L vs a0 i o u ho hu hd' (by rw [hR0.2.size]; exact htN) (fun j g p hj hp e => by have := hS.dis i _ o j g p t ho hp hd' e; omega)]
        · rw [hC t (fun i f o ho _ e => hex ⟨i, f, o, ho, e⟩), frK_other L us aQ (fun fo hfo _ e => by
            obtain ⟨i, hi⟩ := List.getElem?_of_mem hfo
            exact hex ⟨i, fo.1, fo.2, hi, e⟩), frK_other L vs a0 (fun fo hfo _ e => by
            obtain ⟨i, hi⟩ := List.getElem?_of_mem hfo
            exact hex ⟨i, fo.1, fo.2, hi, e⟩)]
    | succ fuel ih =>
      intro listed a W hd hls hfu hag hT hU hC hN hD hdn hK
      refine ⟨fun hr => ?_, fun i hi => ?_⟩
      · exfalso
        have hex : ∃ i, i < L.length ∧ listed.getD i false = false := by
          have hne : (listed.toList.filter (!·)) ≠ [] := fun e => by rw [e] at hfu; simp at hfu
          obtain ⟨b, hb⟩ := List.exists_mem_of_ne_nil _ hne
          obtain ⟨hb1, hb2⟩ := List.mem_filter.1 hb
          have : b = false := by simpa using hb2
          subst this
          obtain ⟨i, hi, he⟩ := List.mem_iff_getElem.1 hb1
          have hil : i < listed.size := by simpa using hi
          exact ⟨i, by omega, by simp [hil]; simpa using he⟩
        have hmin : ∃ i, (i < L.length ∧ listed.getD i false = false) ∧ ∀ j, j < i → listed.getD j false = true := by
          obtain ⟨i, hi⟩ := hex
          induction i using Nat.strongRecOn with
          | _ i ihh =>
            by_cases hj : ∃ j, j < i ∧ listed.getD j false = false
            · obtain ⟨j, hj1, hj2⟩ := hj
              exact ihh j hj1 ⟨by omega, hj2⟩
            · exact ⟨i, hi, fun j hj' => by
                cases hb : listed.getD j false with
                | true => rfl
                | false => exact (hj ⟨j, hj', hb⟩).elim⟩
        obtain ⟨i, ⟨hil, hiu⟩, hlow⟩ := hmin
        have hli : i < l.length := by omega
        obtain ⟨f, hf⟩ := hLo i l[i] (by simp [hli])
        have : i ∈ Region.ready .any l.toArray listed := mem_ready.2 ⟨getD_in (by omega) hiu, l[i], by simp [hli], fun e he hbe => hlow e.on (hS.low i f l[i] hf e he hbe)⟩
        rw [hr] at this; cases this
      · obtain ⟨hun, o, ho, hdep⟩ := mem_ready.1 hi
        have ho' : l[i]? = some o := by simpa using ho
        obtain ⟨f, hLi⟩ := hLo i o ho'
        have hil := (List.getElem?_eq_some_iff.1 hLi).1
        have hun' := getD_both hun
        have hls' : (listed.setIfInBounds i true).size = L.length := by simp [hls]
        have hfu' : ((listed.setIfInBounds i true).toList.filter (!·)).length = fuel := by
          have key : ∀ (bs : List Bool) (i : Nat), bs[i]? = some false → ((bs.set i true).filter (!·)).length + 1 = (bs.filter (!·)).length := by
            intro bs
            induction bs with
            | nil => intro i h; simp at h
            | cons b bs ihb =>
              intro i h
              cases i with
              | zero => simp at h; subst h; simp
              | succ i =>
                have := ihb i (by simpa using h)
                cases b <;> simp [List.filter_cons] at this ⊢ <;> omega
          have h1 : listed.toList[i]? = some false := by
            have hl2 : i < listed.size := by omega
            simp [hl2] at hun' ⊢
            exact hun'
          have := key listed.toList i h1
          rw [Array.toList_setIfInBounds]
          omega
        have lset : ∀ j, (listed.setIfInBounds i true).getD j false = true → j = i ∨ listed.getD j false = true := fun j hj => by
          by_cases hji : j = i
          · exact .inl hji
          · rw [getD_set_ne false (fun e => hji e.symm)] at hj; exact .inr hj
        have lself : (listed.setIfInBounds i true).getD i false = true := by
          have : i < listed.size := by omega
          simp [this]
        obtain ⟨k, x, hk, hx, hWd, hst⟩ := hK
        have unl : ∀ (j : Nat) (g : Bool) (p : Oper), L[j]? = some (g, p) → (∃ e ∈ p.after, Region.binds .any e = true ∧ e.on = i) → listed.getD j false = false := fun j g p hp ⟨e, he, hbd, heq⟩ => by
          cases hb : listed.getD j false with
          | false => rfl
          | true =>
            have := hdn j g p hp hb e he hbd
            rw [heq, hun'] at this; cases this
        have hdn' : ∀ (j : Nat) (g : Bool) (p : Oper), L[j]? = some (g, p) → (listed.setIfInBounds i true).getD j false = true → ∀ e ∈ p.after, Region.binds .any e = true → (listed.setIfInBounds i true).getD e.on false = true := fun j g p hp hj e he hbd => by
          refine getD_set_true ?_
          by_cases hji : j = i
          · subst hji
            rw [hLi] at hp
            cases hp
            exact hdep e he hbd
          · exact hdn j g p hp ((lset j hj).resolve_left hji) e he hbd
        have lookq : ∀ (b : Act), (∀ t ∈ o.looksAt l.toArray, a.tmps[t]? = b.tmps[t]?) → execOp a.eval o = execOp b.eval o := fun b hb => by
          refine execOp_congr o (hS.sel i f o hLi) fun x hx => ?_
          cases x with
          | tmp t =>
            have ht : t ∈ o.looksAt l.toArray := List.mem_append_left _ (List.mem_filterMap.2 ⟨.tmp t, by simpa using hx, rfl⟩)
            simp [Act.eval, hb t ht]
          | const v => rfl
          | global g => rfl
          | func f => rfl
        have free : ∀ t, (∀ (j : Nat) (g : Bool) (p : Oper), L[j]? = some (g, p) → p.dst = some t → listed.getD j false = false) → a.tmps[t]? = a0.tmps[t]? := fun t ht => hC t (fun j g p hp hj e => by
          have := ht j g p hp e
          rw [hj] at this; cases this)
        unfold wpOp
        simp only [ho]
        rw [if_pos (by simp [Region.wanted, hS.guard i f o hLi])]
        refine .inl ?_
        unfold Oper.wp
        cases f with
        | false =>
          obtain ⟨v, hv⟩ := hvsz i hil
          obtain ⟨hQS, hdo, _⟩ := hq i o v hLi hv
          have hWG : Wd w M0 hd0 M (goneAt gs own) W := by
            have h1 := (hWd.gones gs).take own.length
            rw [(hgone k x hk hx).1, List.take_of_length_le (by rw [len_goneAt]; exact Nat.le_refl _)] at h1
            exact h1.hd_agree (fun q hq' => (hag q (by rwa [len_goneAt] at hq')).symm)
          have hFi := frK_fr (k := false) (hd := hd0) (L.take i) (vs.take i) env a0 (fun fo hfo => hdkq fo (List.mem_of_mem_take hfo)) hR0.2
          have h1 := hQS.go hd0 _ W ⟨hWG, hFi⟩
          rw [lookq (frK false hd0 a0 (L.take i) (vs.take i)) (fun t ht => by
            by_cases hex : ∃ (j : Nat) (g : Bool) (p : Oper), L[j]? = some (g, p) ∧ p.dst = some t
            · obtain ⟨j, g, p, hp, hpd⟩ := hex
              have hjl := (List.getElem?_eq_some_iff.1 hp).1
              rcases hS.use i false o hLi t ht j g p hp hpd with ⟨hji, hfg, e, he, hbd, heq⟩ | ⟨hij, hfg, hdj⟩
              · have hg : g = false := hfg.resolve_left (by simp)
                subst hg
                have hlj := hdep e he hbd
                rw [heq] at hlj
                obtain ⟨u, hu⟩ := hvsz j hjl
                rw [hT j p u t hp hu hlj hpd]
                refine (frK_at (L.take i) (vs.take i) a0 j p u (by rw [List.getElem?_take, if_pos hji]; exact hp) (by rw [List.getElem?_take, if_pos hji]; exact hu) hpd (by rw [hR0.2.size]; exact hdk j _ p t hp hpd) (fun q g' p' hq' hp' e' => ?_)).symm
                rw [List.getElem?_take] at hp'
                split at hp'
                · have := hS.dis j _ p q g' p' t hp hp' hpd e'; omega
                · cases hp'
              · rw [free t (fun q g' p' hp' hpd' => by
                  have := hS.dis j g p q g' p' t hp hp' hpd hpd'
                  subst this
                  exact unl j g' p' hp' (by rw [hp] at hp'; cases hp'; exact hdj))]
                refine (frK_other _ _ _ (fun fo hfo _ e => ?_)).symm
                obtain ⟨q, hq'⟩ := List.getElem?_of_mem hfo
                rw [List.getElem?_take] at hq'
                split at hq'
                · obtain ⟨g', p'⟩ := fo
                  have := hS.dis j g p q g' p' t hp hq' hpd e; omega
                · cases hq'
            · rw [free t (fun q g' p' hp' hpd' => (hex ⟨q, g', p', hp', hpd'⟩).elim)]
              refine (frK_other _ _ _ (fun fo hfo _ e => ?_)).symm
              obtain ⟨q, hq'⟩ := List.getElem?_of_mem (List.mem_of_mem_take hfo)
              exact hex ⟨q, fo.1, fo.2, hq', e⟩)]
          unfold Oper.quietAt at h1
          have key : ∀ W', Below W.heap.size W W' → wpAny P .any l.toArray (post w M0 N Q) fuel (listed.setIfInBounds i true) (a.put o.dst (v.den hd0)) W' := fun W' hb => by
            refine ih _ _ W' hd hls' hfu' hag (fun q p sv d hp hv' hql hpd => ?_) (fun q p u d hp hu hql hpd => ?_) (fun t ht => ?_) (by cases o.dst <;> simp [Act.put, hN]) (by cases o.dst <;> exact hD) hdn' ⟨k, x, hk, hx, hWd.idle hb, fun q p hp => ?_⟩
            · by_cases hqi : q = i
              · subst hqi
                rw [hLi] at hp; rw [hv] at hv'
                cases hp; cases hv'
                rw [hpd]
                refine put_eq ?_
                rw [hN]; exact hdk q _ _ d hLi hpd
              · have hne : o.dst ≠ some d := fun e => hqi (hS.dis q _ p i _ o d hp hLi hpd e)
                rw [put_ne hne]
                exact hT q p sv d hp hv' ((lset q hql).resolve_left hqi) hpd
            · have hqi : q ≠ i := fun e => by subst e; rw [hLi] at hp; cases hp
              have hne : o.dst ≠ some d := fun e => hqi (hS.dis q _ p i _ o d hp hLi hpd e)
              rw [put_ne hne]
              exact hU q p u d hp hu ((lset q hql).resolve_left hqi) hpd
            · have hne : o.dst ≠ some t := ht i _ o hLi lself
              rw [put_ne hne]
              exact hC t (fun q g p hp hql => ht q g p hp (getD_set_true hql))
            · rw [← hst q p hp]
              constructor
              · intro h2
                refine (lset q h2).resolve_left (fun e => ?_)
                subst e
                rw [hLi] at hp; cases hp
              · exact fun h2 => getD_set_true h2
          generalize (execOp (frK false hd0 a0 (L.take i) (vs.take i)).eval o).run P W = r at *
          cases r with
          | ok nx W' =>
            cases nx <;> simp only [Oper.quietUpon] at h1 <;> simp only [Oper.upon]
            case value u =>
              obtain ⟨e1, e2⟩ := h1
              rw [e1, e2]; exact key _ (Below.refl _ _)
            case skip =>
              obtain ⟨e1, e2⟩ := h1
              rw [e1, ← e2]; exact key _ (Below.refl _ _)
            case enter f args =>
              obtain ⟨e1, hc⟩ := h1
              rw [e1]
              exact hc.mono fun e W'' ⟨he, hb⟩ => by subst he; exact key _ hb
          | halt x w' => simp only [Oper.quietUpon] at h1
        | true =>
          have hki : k ≤ i := by
            rcases Nat.lt_or_ge i k with h | h
            · have := (hst i o hLi).2 h
              rw [this] at hun'; cases hun'
            · exact h
          have hxi : os[i]? = some x := hskip i k x hki (by omega) hx (fun j p hkj hji hp => by
            obtain ⟨q, r, hjq, hqi, hLq, _, e, he, hbd, heq⟩ := hS.ch i o hLi j p hji hp
            have := hdep e he hbd
            rw [heq] at this
            have := (hst q r hLq).1 this
            omega)
          obtain ⟨y, hy⟩ := hosz (i + 1) (by omega)
          obtain ⟨u, hu⟩ := husz i hil
          have hE := (hos i true o x y u hLi hxi hy hu).1
          have hlx := (hgone i x (by omega) hxi).2
          have hFq' : Fr N hd (envK false env L vs) aQ := hFq.upd fun t sv ht => den_agree hag (hokq t sv ht)
          have hF := frK_fr (k := true) (hd := hd) (L.take i) (us.take i) _ aQ (fun fo hfo => hdke fo (List.mem_of_mem_take hfo)) hFq'
          have h1 := hE.go hd _ W ⟨hWd, hF⟩
          rw [lookq (frK true hd aQ (L.take i) (us.take i)) (fun t ht => by
            by_cases hex : ∃ (j : Nat) (g : Bool) (p : Oper), L[j]? = some (g, p) ∧ p.dst = some t
            · obtain ⟨j, g, p, hp, hpd⟩ := hex
              have hjl := (List.getElem?_eq_some_iff.1 hp).1
              have htN := hdk j g p t hp hpd
              rcases hS.use i true o hLi t ht j g p hp hpd with ⟨hji, _, e, he, hbd, heq⟩ | ⟨hij, hfg, hdj⟩
              · have hlj := hdep e he hbd
                rw [heq] at hlj
                cases g with
                | false =>
                  obtain ⟨v, hv⟩ := hvsz j hjl
                  rw [hT j p v t hp hv hlj hpd, frK_other _ _ _ (fun fo hfo hf e' => by
                    obtain ⟨q, hq'⟩ := List.getElem?_of_mem (List.mem_of_mem_take hfo)
                    obtain ⟨g', p'⟩ := fo
                    have := hS.dis j _ p q g' p' t hp hq' hpd e'
                    subst this
                    rw [hp] at hq'
                    cases hq'
                    cases hf)]
                  exact (frK_at L vs a0 j p v hp hv hpd (by rw [hR0.2.size]; exact htN) (fun q g' p' hq' hp' e' => by have := hS.dis j _ p q g' p' t hp hp' hpd e'; omega)).symm
                | true =>
                  obtain ⟨v, hv⟩ := husz j hjl
                  rw [hU j p v t hp hv hlj hpd]
                  refine (frK_at (L.take i) (us.take i) aQ j p v (by rw [List.getElem?_take, if_pos hji]; exact hp) (by rw [List.getElem?_take, if_pos hji]; exact hv) hpd (by rw [haQs]; exact htN) (fun q g' p' hq' hp' e' => ?_)).symm
                  rw [List.getElem?_take] at hp'
                  split at hp'
                  · have := hS.dis j _ p q g' p' t hp hp' hpd e'; omega
                  · cases hp'
              · have hg : g = true := hfg.resolve_right (by simp)
                subst hg
                rw [free t (fun q g' p' hp' hpd' => by
                  have := hS.dis j true p q g' p' t hp hp' hpd hpd'
                  subst this
                  exact unl j g' p' hp' (by rw [hp] at hp'; cases hp'; exact hdj)), frK_other _ _ _ (fun fo hfo _ e' => by
                  obtain ⟨q, hq'⟩ := List.getElem?_of_mem hfo
                  rw [List.getElem?_take] at hq'
                  split at hq'
                  · obtain ⟨g', p'⟩ := fo
                    have := hS.dis j _ p q g' p' t hp hq' hpd e'; omega
                  · cases hq')]
                refine (frK_other _ _ _ (fun fo hfo hf e' => ?_)).symm
                obtain ⟨q, hq'⟩ := List.getElem?_of_mem hfo
                obtain ⟨g', p'⟩ := fo
                have := hS.dis j _ p q g' p' t hp hq' hpd e'
                subst this
                rw [hp] at hq'
                cases hq'
                cases hf
            · rw [free t (fun q g' p' hp' hpd' => (hex ⟨q, g', p', hp', hpd'⟩).elim), frK_other _ _ _ (fun fo hfo _ e => by
                obtain ⟨q, hq'⟩ := List.getElem?_of_mem (List.mem_of_mem_take hfo)
                exact hex ⟨q, fo.1, fo.2, hq', e⟩)]
              refine (frK_other _ _ _ (fun fo hfo _ e => ?_)).symm
              obtain ⟨q, hq'⟩ := List.getElem?_of_mem hfo
              exact hex ⟨q, fo.1, fo.2, hq', e⟩)]
          have key : ∀ z W', (∃ hd', (∀ i, i < x.length → hd' i = hd i) ∧ Wd w M0 hd' M y W' ∧ z = u.den hd') → wpAny P .any l.toArray (post w M0 N Q) fuel (listed.setIfInBounds i true) (a.put o.dst z) W' := fun z W' ⟨hd', hag', hWd', hz⟩ => by
            subst hz
            refine ih _ _ W' hd' hls' hfu' (fun q hq' => (hag' q (by omega)).trans (hag q hq')) (fun q p sv d hp hv' hql hpd => ?_) (fun q p u' d hp hu' hql hpd => ?_) (fun t ht => ?_) (by cases o.dst <;> simp [Act.put, hN]) (by cases o.dst <;> exact hD) hdn' ⟨i + 1, y, by omega, hy, hWd', fun q p hp => ?_⟩
            · have hqi : q ≠ i := fun e => by subst e; rw [hLi] at hp; cases hp
              have hne : o.dst ≠ some d := fun e => hqi (hS.dis q _ p i _ o d hp hLi hpd e)
              rw [put_ne hne]
              exact hT q p sv d hp hv' ((lset q hql).resolve_left hqi) hpd
            · by_cases hqi : q = i
              · subst hqi
                rw [hLi] at hp; rw [hu] at hu'
                cases hp; cases hu'
                rw [hpd]
                refine put_eq ?_
                rw [hN]; exact hdk q _ _ d hLi hpd
              · have hne : o.dst ≠ some d := fun e => hqi (hS.dis q _ p i _ o d hp hLi hpd e)
                have hlq := (lset q hql).resolve_left hqi
                rw [put_ne hne, hU q p u' d hp hu' hlq hpd]
                have hqk := (hst q p hp).1 hlq
                have hql' := (List.getElem?_eq_some_iff.1 hp).1
                obtain ⟨x1, hx1⟩ := hosz q (by omega)
                obtain ⟨y1, hy1⟩ := hosz (q + 1) (by omega)
                have hok := (hos q true p x1 y1 u' hp hx1 hy1 hu').1.ok
                have hle := hmono (q + 1) i y1 x (by omega) (by omega) hy1 hxi
                rw [den_agree hag' (okB_mono hle hok)]
            · have hne : o.dst ≠ some t := ht i _ o hLi lself
              rw [put_ne hne]
              exact hC t (fun q g p hp hql => ht q g p hp (getD_set_true hql))
            · constructor
              · intro h2
                rcases lset q h2 with h4 | h4
                · omega
                · have := (hst q p hp).1 h4; omega
              · intro h2
                by_cases hqi : q = i
                · rw [hqi]; exact lself
                · refine getD_set_true ((hst q p hp).2 ?_)
                  rcases Nat.lt_or_ge q k with h | h
                  · exact h
                  · obtain ⟨q2, r, hjq, hqi2, hLq, _, e, he, hbd, heq⟩ := hS.ch i o hLi q p (by omega) hp
                    have h5 := hdep e he hbd
                    rw [heq] at h5
                    have := (hst q2 r hLq).1 h5
                    omega
          generalize (execOp (frK true hd aQ (L.take i) (us.take i)).eval o).run P W = r at *
          cases r with
          | ok nx W' =>
            cases nx <;> simp only [EffRun] at h1 <;> simp only [Oper.upon]
            case value z => exact key _ _ h1
            case skip => exact key _ _ h1
            case enter f args => exact h1.mono fun e W'' ⟨z, he, hz⟩ => by subst he; exact key _ _ hz
          | halt x w' => simp only [EffRun] at h1
  refine wp_region_any hm.h ?_
  have hb0 : Below W0.heap.size W0 { W0 with drawn := W0.drawn + 1 } := by
    have := below_regrown W0 (W0.drawn + 1) #[]
    rw [Go.Sort.grow_empty] at this
    exact this
  have hsz : l.toArray.size = L.length := by simp [hLl]
  rw [hsz]
  refine main L.length _ a0 _ hd0 (by simp) ?_ (fun _ _ => rfl) (fun i o sv d _ _ h => (by rw [getD_replicate_false] at h; cases h)) (fun i o sv d _ _ h => (by rw [getD_replicate_false] at h; cases h)) (fun t _ => rfl) hR0.2.size hR0.2.defers (fun j g p _ h => (by rw [getD_replicate_false] at h; cases h)) ⟨0, own, Nat.zero_le _, ho0, hR0.1.idle hb0, fun i o _ => ⟨fun h => (by rw [getD_replicate_false] at h; cases h), fun h => absurd h (by omega)⟩⟩
  rw [Array.toList_replicate]
  induction L.length with
  | zero => rfl
  | succ n ihn => rw [List.replicate_succ]; simp
end
end Go.Proofs.Ytipbbbamjckjoaa
