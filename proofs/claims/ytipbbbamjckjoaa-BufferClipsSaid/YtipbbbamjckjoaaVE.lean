/- The logic's rule for a statement that draws its order and holds, beside quiet operations, effects in one order: stores, new variables, literals, appends, calls that hand over a row. No program in sight. -/
import Derived.Test.YtipbbbamjckjoaaVR
namespace Go.Proofs.Ytipbbbamjckjoaa
open Go Go.RowKit
set_option linter.unusedVariables false
set_option maxRecDepth 20000
set_option linter.unusedSimpArgs false
section
variable {P : Program} {w : World} {M0 : Mem} {N : Nat}
abbrev FOp := Bool × Oper
def isEff2 (cf : List FuncId) : Go.Op → Bool
  | .store .. | .alloc _ | .box .. | .buildSlice .. | .makeSlice .. => true
  | .call ⟨.builtin .append, _, _⟩ => true
  | .call ⟨.value (.func f), _, _⟩ => cf.contains f
  | _ => false
def flagB (cf : List FuncId) (ops : Array Oper) (ds : List Tmp) (o : Oper) : Bool := isEff2 cf o.op || (o.looksAt ops).any (fun t => ds.contains t)
def dsN (ds : List Tmp) (o : Oper) : List Tmp := match o.dst with | some d => d :: ds | none => ds
/-- Which operations are effects, or look at what an effect yields. -/
def flags (cf : List FuncId) (ops : Array Oper) : List Tmp → List Oper → List FOp
  | _, [] => []
  | ds, o :: l => match flagB cf ops ds o with
    | true => (true, o) :: flags cf ops (dsN ds o) l
    | false => (false, o) :: flags cf ops ds l
theorem flags_false {cf : List FuncId} {ops : Array Oper} {ds : List Tmp} {o : Oper} {l : List Oper} (h : flagB cf ops ds o = false) : flags cf ops ds (o :: l) = (false, o) :: flags cf ops ds l := by
  show (match flagB cf ops ds o with | true => _ | false => _) = _
  rw [h]
theorem flags_true {cf : List FuncId} {ops : Array Oper} {ds : List Tmp} {o : Oper} {l : List Oper} (h : flagB cf ops ds o = true) : flags cf ops ds (o :: l) = (true, o) :: flags cf ops (dsN ds o) l := by
  show (match flagB cf ops ds o with | true => _ | false => _) = _
  rw [h]
theorem flags_map (cf : List FuncId) (ops : Array Oper) : ∀ (ds : List Tmp) (l : List Oper), (flags cf ops ds l).map (·.2) = l
  | _, [] => rfl
  | ds, o :: l => by
    cases h : flagB cf ops ds o with
    | false => rw [flags_false h, List.map_cons, flags_map cf ops _ l]
    | true => rw [flags_true h, List.map_cons, flags_map cf ops _ l]
def efB (l : List Oper) (L : List FOp) : Bool :=
  (List.range l.length).all fun i => match L[i]? with
    | none => true
    | some (f, o) => noSel o.op && o.after.toList.all (fun e => !Region.binds .any e || Nat.blt e.on i) &&
      (o.looksAt l.toArray).all (fun t => (List.range l.length).all fun j => match L[j]? with
        | some (g, p) => !(p.dst == some t) || (f && g) || (Nat.blt j i && depB o j && (f || !g)) || (Nat.blt i j && depB p i && (g || !f))
        | none => true) &&
      (List.range i).all fun j => match L[j]? with | some (g, p) => (f && g) || p.dst.isNone || !(p.dst == o.dst) | none => true
structure EfOk (l : List Oper) (L : List FOp) : Prop where
  sel : ∀ (i : Nat) (f : Bool) (o : Oper), L[i]? = some (f, o) → ∀ cs b, o.op ≠ .select cs b
  low : ∀ (i : Nat) (f : Bool) (o : Oper), L[i]? = some (f, o) → ∀ e ∈ o.after, Region.binds .any e = true → e.on < i
  use : ∀ (i : Nat) (f : Bool) (o : Oper), L[i]? = some (f, o) → ∀ t ∈ o.looksAt l.toArray, ∀ (j : Nat) (g : Bool) (p : Oper), L[j]? = some (g, p) → p.dst = some t →
    (f = true ∧ g = true) ∨ (j < i ∧ (f = true ∨ g = false) ∧ ∃ e ∈ o.after, Region.binds .any e = true ∧ e.on = j) ∨ (i < j ∧ (g = true ∨ f = false) ∧ ∃ e ∈ p.after, Region.binds .any e = true ∧ e.on = i)
  dis : ∀ (i : Nat) (f : Bool) (o : Oper) (j : Nat) (g : Bool) (p : Oper) (t : Tmp), L[i]? = some (f, o) → L[j]? = some (g, p) → o.dst = some t → p.dst = some t → (f = true ∧ g = true) ∨ i = j
theorem EfOk.of {l : List Oper} {L : List FOp} (hL : L.length = l.length) (h : efB l L = true) : EfOk l L := by
  unfold efB at h
  have lt : ∀ {i : Nat} {o : FOp}, L[i]? = some o → i < l.length := fun ho => by rw [← hL]; exact (List.getElem?_eq_some_iff.1 ho).1
  have hi : ∀ (i : Nat) (f : Bool) (o : Oper), L[i]? = some (f, o) → (noSel o.op && o.after.toList.all (fun e => !Region.binds .any e || Nat.blt e.on i) &&
      (o.looksAt l.toArray).all (fun t => (List.range l.length).all fun j => match L[j]? with
        | some (g, p) => !(p.dst == some t) || (f && g) || (Nat.blt j i && depB o j && (f || !g)) || (Nat.blt i j && depB p i && (g || !f))
        | none => true) &&
      (List.range i).all fun j => match L[j]? with | some (g, p) => (f && g) || p.dst.isNone || !(p.dst == o.dst) | none => true) = true := fun i f o ho => by
    have h1 := List.all_eq_true.1 h i (by simpa using lt ho)
    rw [ho] at h1
    exact h1
  have D : ∀ (i : Nat) (f : Bool) (o : Oper) (j : Nat) (g : Bool) (p : Oper) (t : Tmp), j < i → L[i]? = some (f, o) → L[j]? = some (g, p) → o.dst = some t → p.dst = some t → f = true ∧ g = true := fun i f o j g p t hj ho hp h1 h2 => by
    have h3 := hi i f o ho
    simp only [Bool.and_eq_true] at h3
    have h4 := List.all_eq_true.1 h3.2 j (by simpa using hj)
    rw [hp] at h4
    simpa [h1, h2] using h4
  refine ⟨fun i f o ho cs b e => ?_, fun i f o ho e he hbe => ?_, fun i f o ho t ht j g p hp hd => ?_, fun i f o j g p t ho hp h1 h2 => ?_⟩
  · have h3 := hi i f o ho
    simp only [Bool.and_eq_true] at h3
    have := h3.1.1.1
    rw [e] at this; cases this
  · have h3 := hi i f o ho
    simp only [Bool.and_eq_true] at h3
    have := List.all_eq_true.1 h3.1.1.2 e (by simpa using he)
    rw [hbe] at this
    simpa [Nat.blt_eq] using this
  · have h3 := hi i f o ho
    simp only [Bool.and_eq_true] at h3
    have h5 := List.all_eq_true.1 (List.all_eq_true.1 h3.1.2 t ht) j (by simpa using lt hp)
    rw [hp] at h5
    simp only [hd, beq_self_eq_true, Bool.not_true, Bool.false_or, Bool.or_eq_true, Bool.and_eq_true, Bool.not_eq_true'] at h5
    rcases h5 with (h5 | ⟨⟨h6, h7⟩, h8⟩) | ⟨⟨h6, h7⟩, h8⟩
    · exact .inl h5
    · exact .inr (.inl ⟨by simpa [Nat.blt_eq] using h6, h8, depB_ex h7⟩)
    · exact .inr (.inr ⟨by simpa [Nat.blt_eq] using h6, h8, depB_ex h7⟩)
  · rcases Nat.lt_trichotomy i j with h | h | h
    · exact .inl ((D j g p i f o t h hp ho h2 h1).symm)
    · exact .inr h
    · exact .inl (D i f o j g p t h ho hp h1 h2)

/-! ### Slots that the flagged, or the other, operations fill -/
def envK (k : Bool) : Env → List FOp → List SV → Env
  | env, fo :: l, v :: vs => envK k (match fo.1 == k with | true => env.put fo.2.dst v | false => env) l vs
  | env, _, _ => env
def frK (k : Bool) (hd : Nat → Value) : Act → List FOp → List SV → Act
  | a, fo :: l, v :: vs => frK k hd (match fo.1 == k with | true => a.put fo.2.dst (v.den hd) | false => a) l vs
  | a, _, _ => a
theorem frK_fr {k : Bool} {hd : Nat → Value} : ∀ (l : List FOp) (vs : List SV) (env : Env) (a : Act), (∀ fo ∈ l, fo.1 = k → dstOk N fo.2.dst = true) → Fr N hd env a → Fr N hd (envK k env l vs) (frK k hd a l vs)
  | [], _, _, _, _, h => by unfold envK frK; exact h
  | o :: l, [], _, _, _, h => by unfold envK frK; exact h
  | o :: l, v :: vs, env, a, hk, h => by
    unfold envK frK
    refine frK_fr l vs _ _ (fun p hp => hk p (by simp [hp])) ?_
    cases hs : (o.1 == k) with
    | false => exact h
    | true => exact h.put (hk o (by simp) (by simpa using hs)) v
theorem frK_other {k : Bool} {hd : Nat → Value} {t : Tmp} : ∀ (l : List FOp) (vs : List SV) (a : Act), (∀ fo ∈ l, fo.1 = k → fo.2.dst ≠ some t) → (frK k hd a l vs).tmps[t]? = a.tmps[t]?
  | [], _, _, _ => by unfold frK; rfl
  | o :: l, [], _, _ => by unfold frK; rfl
  | o :: l, v :: vs, a, h => by
    unfold frK
    rw [frK_other l vs _ (fun p hp => h p (by simp [hp]))]
    cases hs : (o.1 == k) with
    | false => rfl
    | true => exact put_ne (h o (by simp) (by simpa using hs))
theorem frK_size {k : Bool} {hd : Nat → Value} : ∀ (l : List FOp) (vs : List SV) (a : Act), (frK k hd a l vs).tmps.size = a.tmps.size
  | [], _, _ => by unfold frK; rfl
  | o :: l, [], _ => by unfold frK; rfl
  | o :: l, v :: vs, a => by
    unfold frK
    rw [frK_size l vs]
    cases (o.1 == k) with
    | false => rfl
    | true => cases o.2.dst <;> simp [Act.put]
theorem frK_at {k : Bool} {hd : Nat → Value} {t : Tmp} : ∀ (l : List FOp) (vs : List SV) (a : Act) (i : Nat) (o : Oper) (sv : SV), l[i]? = some (k, o) → vs[i]? = some sv → o.dst = some t → t < a.tmps.size →
    (∀ (j : Nat) (g : Bool) (p : Oper), i < j → l[j]? = some (g, p) → p.dst ≠ some t) → (frK k hd a l vs).tmps[t]? = some (sv.den hd)
  | [], _, _, _, _, _, h, _, _, _, _ => by simp at h
  | p :: l, [], _, _, _, _, _, h, _, _, _ => by simp at h
  | p :: l, v :: vs, a, 0, o, sv, h1, h2, h4, h5, h6 => by
    simp at h1 h2
    subst h1 h2
    unfold frK
    rw [frK_other l vs _ (fun q hq _ => by
      obtain ⟨j, hj⟩ := List.getElem?_of_mem hq
      obtain ⟨g, q'⟩ := q
      exact h6 (j + 1) g q' (by omega) (by simpa using hj))]
    simp only [beq_self_eq_true, h4]
    exact put_eq h5
  | p :: l, v :: vs, a, i + 1, o, sv, h1, h2, h4, h5, h6 => by
    unfold frK
    refine frK_at l vs _ i o sv (by simpa using h1) (by simpa using h2) h4 ?_ (fun j g q hj hq => h6 (j + 1) g q (by omega) (by simpa using hq))
    cases (p.1 == k) with
    | false => exact h5
    | true => cases p.2.dst <;> simpa [Act.put] using h5
theorem den_agree {n : Nat} {hd hd' : Nat → Value} (h : ∀ i, i < n → hd' i = hd i) {sv : SV} (hs : sv.okB n = true) : sv.den hd' = sv.den hd := by
  cases sv with
  | v x => rfl
  | p i off => simp only [SV.okB, Nat.blt_eq] at hs; simp only [SV.den, h i hs]
  | r i => simp only [SV.okB, Nat.blt_eq] at hs; simp only [SV.den, h i hs]
theorem okB_mono {n m : Nat} (h : n ≤ m) {sv : SV} (hs : sv.okB n = true) : sv.okB m = true := by
  cases sv with
  | v x => rfl
  | p i off => simp only [SV.okB, Nat.blt_eq] at hs ⊢; omega
  | r i => simp only [SV.okB, Nat.blt_eq] at hs ⊢; omega
theorem Wd.take {hd : Nat → Value} {M : Mem} {own : List Ob} {W : World} (h : Wd w M0 hd M own W) (n : Nat) : Wd w M0 hd M (own.take n) W := by
  have up : ∀ {i : Nat} {o : Ob}, (own.take n)[i]? = some o → own[i]? = some o := fun hi => by
    rw [List.getElem?_take] at hi
    split at hi
    · exact hi
    · cases hi
  exact ⟨h.below, h.mem, h.old, h.grew, fun i o hi => h.own i o (up hi), fun i o b hi => h.sep i o b (up hi), fun i j oi oj b hi hj => h.dis i j oi oj b (up hi) (up hj)⟩
theorem Wd.hd_agree {hd hd' : Nat → Value} {M : Mem} {own : List Ob} {W : World} (h : Wd w M0 hd M own W) (he : ∀ i, i < own.length → hd' i = hd i) : Wd w M0 hd' M own W := by
  have lt : ∀ {i : Nat} {o : Ob}, own[i]? = some o → i < own.length := fun hi => (List.getElem?_eq_some_iff.1 hi).1
  exact ⟨h.below, h.mem, h.old, h.grew, fun i o hi => by rw [he i (lt hi)]; exact h.own i o hi, fun i o b hi hn hb => by rw [he i (lt hi)] at hb; exact h.sep i o b hi hn hb,
    fun i j oi oj b hi hj hin hjn hbi hbj => by rw [he i (lt hi)] at hbi; rw [he j (lt hj)] at hbj; exact h.dis i j oi oj b hi hj hin hjn hbi hbj⟩

/-! ### The two walks -/
/-- What a quiet operation with a guard yields. -/
structure QW (P : Program) (w : World) (M0 : Mem) (N : Nat) (ops : Array Oper) (o : Oper) (s : St) (sv : SV) : Prop where
  go : ∀ hd a W, Rel w M0 N hd s a W → if Region.wanted o (yielded ops a.tmps) = true then o.quietAt P a (fun W' => Below W.heap.size W W') W (sv.den hd) else sv.den hd = undef
section
variable {ops : Array Oper} {s : St} {o : Oper} {sv : SV}
theorem QW_no (hg : o.guard = none) (hq : QS P w M0 N o s sv) : QW P w M0 N ops o s sv := ⟨fun hd a W hR => by
  rw [if_pos (by simp [Region.wanted, hg])]; exact hq.go hd a W hR⟩
theorem QW_yes {j : Nat} {want : Bool} (oj : Oper) (d : Tmp) (b : Bool) (hg : o.guard = some (j, want)) (hj : ops[j]? = some oj) (hd' : oj.dst = some d) (hb : s.env.get d = some (.v (.bool b))) (hw : b = want) (hq : QS P w M0 N o s sv) : QW P w M0 N ops o s sv := ⟨fun hd a W hR => by
  rw [if_pos (by rw [wanted_eq hR hg hj hd' hb, hw]; simp)]; exact hq.go hd a W hR⟩
theorem QW_not {j : Nat} {want : Bool} (oj : Oper) (d : Tmp) (b : Bool) (hg : o.guard = some (j, want)) (hj : ops[j]? = some oj) (hd' : oj.dst = some d) (hb : s.env.get d = some (.v (.bool b))) (hw : b = !want) : QW P w M0 N ops o s (.v undef) := ⟨fun hd a W hR => by
  rw [if_neg (by rw [wanted_eq hR hg hj hd' hb, hw]; cases want <;> simp)]; rfl⟩
theorem QW_U {j : Nat} {want : Bool} (oj : Oper) (d : Tmp) (hg : o.guard = some (j, want)) (hj : ops[j]? = some oj) (hd' : oj.dst = some d) (hb : s.env.get d = some (.v undef)) : QW P w M0 N ops o s (.v undef) := ⟨fun hd a W hR => by
  rw [if_neg (by rw [unwanted hR hg hj hd' hb]; simp)]; rfl⟩
end
/-- The quiet operations. -/
structure VQ (P : Program) (w : World) (M0 : Mem) (N : Nat) (ops : Array Oper) (l : List FOp) (s : St) (K : Env → Prop) : Prop where
  go : ∃ vs : List SV, vs.length = l.length ∧ (∀ (i : Nat) (o : Oper) (sv : SV), l[i]? = some (false, o) → vs[i]? = some sv → QW P w M0 N ops o ⟨s.M, s.own, envK false s.env (l.take i) (vs.take i)⟩ sv ∧ dstOk N o.dst = true ∧ sv.okB s.own.length = true) ∧ K (envK false s.env l vs)
theorem VQ_nil {ops : Array Oper} {s : St} {K : Env → Prop} (h : K s.env) : VQ P w M0 N ops [] s K := ⟨[], rfl, fun i o sv hi => by simp at hi, h⟩
theorem VQ_q {ops : Array Oper} {o : Oper} {l : List FOp} {M : Mem} {own : List Ob} {env : Env} {K : Env → Prop} (sv : SV) (hq : QW P w M0 N ops o ⟨M, own, env⟩ sv) (hk : dstOk N o.dst = true) (ho : sv.okB own.length = true) (h : VQ P w M0 N ops l ⟨M, own, env.put o.dst sv⟩ K) : VQ P w M0 N ops ((false, o) :: l) ⟨M, own, env⟩ K := by
  obtain ⟨vs, h1, h2, h3⟩ := h
  refine ⟨sv :: vs, by simp [h1], fun i p u hi hu => ?_, by unfold envK; exact h3⟩
  cases i with
  | zero => simp at hi hu; subst hi hu; exact ⟨hq, hk, ho⟩
  | succ i =>
    have := h2 i p u (by simpa using hi) (by simpa using hu)
    rw [List.take_succ_cons, List.take_succ_cons]
    unfold envK
    exact this
theorem VQ_e {ops : Array Oper} {o : Oper} {l : List FOp} {s : St} {K : Env → Prop} (h : VQ P w M0 N ops l s K) : VQ P w M0 N ops ((true, o) :: l) s K := by
  obtain ⟨vs, h1, h2, h3⟩ := h
  refine ⟨.v undef :: vs, by simp [h1], fun i p u hi hu => ?_, by unfold envK; exact h3⟩
  cases i with
  | zero => simp at hi
  | succ i =>
    have := h2 i p u (by simpa using hi) (by simpa using hu)
    rw [List.take_succ_cons, List.take_succ_cons]
    unfold envK
    exact this
def EffRun (P : Program) (C : Value → World → Prop) : Result Next → Prop
  | .ok (.value u) W' => C u W'
  | .ok .skip W' => C undef W'
  | .ok (.enter f args) W' => Calls P f args W' fun e W'' => ∃ u, e = .returned u ∧ C u W''
  | _ => False
/-- An effect: what becomes of our own, and what it yields. -/
structure EF (P : Program) (w : World) (M0 : Mem) (N : Nat) (o : Oper) (s : St) (own' : List Ob) (sv : SV) : Prop where
  go : ∀ hd a W, Rel w M0 N hd s a W → EffRun P (fun u W' => ∃ hd', (∀ i, i < s.own.length → hd' i = hd i) ∧ Wd w M0 hd' s.M own' W' ∧ u = sv.den hd') ((execOp a.eval o).run P W)
  len : s.own.length ≤ own'.length
  ok : sv.okB own'.length = true
/-- The same with a guard. -/
structure EW (P : Program) (w : World) (M0 : Mem) (N : Nat) (ops : Array Oper) (o : Oper) (s : St) (own' : List Ob) (sv : SV) : Prop where
  go : ∀ hd a W, Rel w M0 N hd s a W → if Region.wanted o (yielded ops a.tmps) = true then EffRun P (fun u W' => ∃ hd', (∀ i, i < s.own.length → hd' i = hd i) ∧ Wd w M0 hd' s.M own' W' ∧ u = sv.den hd') ((execOp a.eval o).run P W)
    else ∃ hd', (∀ i, i < s.own.length → hd' i = hd i) ∧ Wd w M0 hd' s.M own' W ∧ undef = sv.den hd'
  len : s.own.length ≤ own'.length
  ok : sv.okB own'.length = true
section
variable {ops : Array Oper} {s : St} {o : Oper} {own' : List Ob} {sv : SV}
theorem EW_no (hg : o.guard = none) (hq : EF P w M0 N o s own' sv) : EW P w M0 N ops o s own' sv := ⟨fun hd a W hR => by
  rw [if_pos (by simp [Region.wanted, hg])]; exact hq.go hd a W hR, hq.len, hq.ok⟩
theorem EW_yes {j : Nat} {want : Bool} (oj : Oper) (d : Tmp) (b : Bool) (hg : o.guard = some (j, want)) (hj : ops[j]? = some oj) (hd' : oj.dst = some d) (hb : s.env.get d = some (.v (.bool b))) (hw : b = want) (hq : EF P w M0 N o s own' sv) : EW P w M0 N ops o s own' sv := ⟨fun hd a W hR => by
  rw [if_pos (by rw [wanted_eq hR hg hj hd' hb, hw]; simp)]; exact hq.go hd a W hR, hq.len, hq.ok⟩
theorem EW_not {j : Nat} {want : Bool} (oj : Oper) (d : Tmp) (b : Bool) (hg : o.guard = some (j, want)) (hj : ops[j]? = some oj) (hd' : oj.dst = some d) (hb : s.env.get d = some (.v (.bool b))) (hw : b = !want) : EW P w M0 N ops o s s.own (.v undef) := ⟨fun hd a W hR => by
  rw [if_neg (by rw [wanted_eq hR hg hj hd' hb, hw]; cases want <;> simp)]; exact ⟨hd, fun _ _ => rfl, hR.1, rfl⟩, Nat.le_refl _, rfl⟩
theorem EW_U {j : Nat} {want : Bool} (oj : Oper) (d : Tmp) (hg : o.guard = some (j, want)) (hj : ops[j]? = some oj) (hd' : oj.dst = some d) (hb : s.env.get d = some (.v undef)) : EW P w M0 N ops o s s.own (.v undef) := ⟨fun hd a W hR => by
  rw [if_neg (by rw [unwanted hR hg hj hd' hb]; simp)]; exact ⟨hd, fun _ _ => rfl, hR.1, rfl⟩, Nat.le_refl _, rfl⟩
end
/-- Must operation i wait for j? -/
def anc (l : List Oper) : Nat → Nat → Nat → Bool
  | 0, _, _ => false
  | n + 1, i, j => match l[i]? with
    | none => false
    | some o => o.after.toList.any fun e => Region.binds .any e && (Nat.beq e.on j || anc l n e.on j)
def rdy (l : List Oper) (rem : List Nat) (i : Nat) : Bool := rem.all fun j => !anc l 4 i j
def effI : Nat → List FOp → List Nat
  | _, [] => []
  | k, (true, _) :: L => k :: effI (k + 1) L
  | k, (false, _) :: L => effI (k + 1) L
theorem effI_mem : ∀ (L : List FOp) (k i : Nat), i ∈ effI k L ↔ ∃ o, k ≤ i ∧ L[i - k]? = some (true, o)
  | [], k, i => by simp [effI]
  | (b, p) :: L, k, i => by
    have ih := effI_mem L (k + 1) i
    have sh : ∀ o, (k + 1 ≤ i ∧ L[i - (k + 1)]? = some (true, o)) ↔ (k + 1 ≤ i ∧ ((b, p) :: L)[i - k]? = some (true, o)) := fun o => by
      constructor
      · rintro ⟨h1, h2⟩
        refine ⟨h1, ?_⟩
        rw [show i - k = (i - (k + 1)) + 1 by omega]; simpa using h2
      · rintro ⟨h1, h2⟩
        refine ⟨h1, ?_⟩
        rw [show i - k = (i - (k + 1)) + 1 by omega] at h2; simpa using h2
    cases b with
    | true =>
      simp only [effI, List.mem_cons, ih, sh]
      constructor
      · rintro (rfl | ⟨o, h1, h2⟩)
        · exact ⟨p, Nat.le_refl _, by simp⟩
        · exact ⟨o, by omega, h2⟩
      · rintro ⟨o, h1, h2⟩
        by_cases he : i = k
        · exact .inl he
        · exact .inr ⟨o, by omega, h2⟩
    | false =>
      simp only [effI, ih, sh]
      constructor
      · rintro ⟨o, h1, h2⟩; exact ⟨o, by omega, h2⟩
      · rintro ⟨o, h1, h2⟩
        by_cases he : i = k
        · subst he; simp at h2
        · exact ⟨o, by omega, h2⟩
theorem effI_nodup : ∀ (L : List FOp) (k : Nat), (effI k L).Nodup
  | [], k => by simp [effI]
  | (true, p) :: L, k => by
    simp only [effI, List.nodup_cons]
    refine ⟨fun h => ?_, effI_nodup L (k + 1)⟩
    obtain ⟨o, h1, _⟩ := (effI_mem L (k + 1) k).1 h
    omega
  | (false, p) :: L, k => by simp only [effI]; exact effI_nodup L (k + 1)
theorem effI_len : ∀ (L : List FOp) (k : Nat), (effI k L).length ≤ L.length
  | [], k => by simp [effI]
  | (true, p) :: L, k => by have := effI_len L (k + 1); simp only [effI, List.length_cons]; omega
  | (false, p) :: L, k => by have := effI_len L (k + 1); simp only [effI, List.length_cons]; omega
/-- The effects, in every order in which they may come: rem are those that are still to come. -/
def VT (P : Program) (w : World) (M0 : Mem) (N : Nat) (gs : List Nat) (n0 : Nat) (l : List Oper) : Nat → List Nat → St → (St → Prop) → Prop
  | 0, rem, s, Q => rem = [] → Q s
  | n + 1, rem, s, Q => (rem = [] → Q s) ∧ ∀ i ∈ rem.filter (rdy l rem), ∀ o, l[i]? = some o → ∃ own' sv, EW P w M0 N l.toArray o s own' sv ∧ (goneAt gs own').take n0 = (goneAt gs s.own).take n0 ∧ dstOk N o.dst = true ∧ VT P w M0 N gs n0 l n (rem.erase i) ⟨s.M, own', s.env.put o.dst sv⟩ Q
theorem VT.fin {gs : List Nat} {n0 : Nat} {l : List Oper} {s : St} {Q : St → Prop} : ∀ {n : Nat}, VT P w M0 N gs n0 l n [] s Q → Q s
  | 0, h => h rfl
  | n + 1, h => h.1 rfl
theorem VT_done {gs : List Nat} {n0 : Nat} {l : List Oper} {s : St} {Q : St → Prop} {n : Nat} (h : Q s) : VT P w M0 N gs n0 l n [] s Q := by
  cases n with
  | zero => exact fun _ => h
  | succ n => exact ⟨fun _ => h, fun i hi => by simp at hi⟩
structure VTs (P : Program) (w : World) (M0 : Mem) (N : Nat) (gs : List Nat) (n0 : Nat) (l : List Oper) (n : Nat) (rem ks : List Nat) (s : St) (Q : St → Prop) : Prop where
  go : ∀ i ∈ ks, ∀ o, l[i]? = some o → ∃ own' sv, EW P w M0 N l.toArray o s own' sv ∧ (goneAt gs own').take n0 = (goneAt gs s.own).take n0 ∧ dstOk N o.dst = true ∧ VT P w M0 N gs n0 l n (rem.erase i) ⟨s.M, own', s.env.put o.dst sv⟩ Q
theorem VT_step {gs : List Nat} {n0 : Nat} {l : List Oper} {s : St} {Q : St → Prop} {n k : Nat} {rem : List Nat} (h : VTs P w M0 N gs n0 l n (k :: rem) ((k :: rem).filter (rdy l (k :: rem))) s Q) : VT P w M0 N gs n0 l (n + 1) (k :: rem) s Q := ⟨fun e => (by cases e), h.go⟩
theorem VTs_nil {gs : List Nat} {n0 : Nat} {l : List Oper} {s : St} {Q : St → Prop} {n : Nat} {rem : List Nat} : VTs P w M0 N gs n0 l n rem [] s Q := ⟨fun i hi => by simp at hi⟩
theorem VTs_e {gs : List Nat} {n0 : Nat} {l : List Oper} {M : Mem} {own : List Ob} {env : Env} {Q : St → Prop} {n i : Nat} {rem ks : List Nat} {o : Oper} (ho : l[i]? = some o) (own' : List Ob) (sv : SV) (he : EW P w M0 N l.toArray o ⟨M, own, env⟩ own' sv) (hg : (goneAt gs own').take n0 = (goneAt gs own).take n0) (hk : dstOk N o.dst = true)
    (h : VT P w M0 N gs n0 l n (rem.erase i) ⟨M, own', env.put o.dst sv⟩ Q) (h2 : VTs P w M0 N gs n0 l n rem ks ⟨M, own, env⟩ Q) : VTs P w M0 N gs n0 l n rem (i :: ks) ⟨M, own, env⟩ Q := ⟨fun j hj p hp => by
  rcases List.mem_cons.1 hj with rfl | hj
  · rw [ho] at hp
    obtain rfl := Option.some.inj hp
    exact ⟨own', sv, he, hg, hk, h⟩
  · exact h2.go j hj p hp⟩
theorem len_goneAt : ∀ (gs : List Nat) (own : List Ob), (goneAt gs own).length = own.length
  | [], _ => rfl
  | i :: gs, own => by unfold goneAt; rw [len_goneAt gs]; simp

theorem wanted_congr {ops : Array Oper} {o : Oper} {a b : Act} (h : ∀ t ∈ o.looksAt ops, a.tmps[t]? = b.tmps[t]?) : Region.wanted o (yielded ops a.tmps) = Region.wanted o (yielded ops b.tmps) := by
  unfold Region.wanted
  cases hg : o.guard with
  | none => rfl
  | some jw =>
    obtain ⟨j, want⟩ := jw
    simp only [yielded]
    cases hd : (ops[j]?).bind (·.dst) with
    | none => rfl
    | some d =>
      have : d ∈ o.looksAt ops := by
        refine List.mem_append_right _ ?_
        simp only [hg, hd]
        simp
      simp only [Option.bind_some, h d this]
theorem Fr.congr {hd : Nat → Value} {env : Env} {a b : Act} (h : Fr N hd env a) (ht : ∀ t : Nat, b.tmps[t]? = a.tmps[t]?) (hs : b.tmps.size = N) (hd' : b.defers = []) : Fr N hd env b := ⟨fun t sv hq => by rw [ht t]; exact h.env t sv hq, hs, hd'⟩
theorem frK_defers {k : Bool} {hd : Nat → Value} : ∀ (l : List FOp) (vs : List SV) (a : Act), (frK k hd a l vs).defers = a.defers
  | [], _, _ => by unfold frK; rfl
  | o :: l, [], _ => by unfold frK; rfl
  | o :: l, v :: vs, a => by
    unfold frK
    rw [frK_defers l vs]
    cases (o.1 == k) with
    | false => rfl
    | true => cases o.2.dst <;> rfl
theorem anc_listed {l : List Oper} {listed : Array Bool} (hdn : ∀ (j : Nat) (p : Oper), l[j]? = some p → listed.getD j false = true → ∀ e ∈ p.after, Region.binds .any e = true → listed.getD e.on false = true) : ∀ (n i j : Nat) (o : Oper), l[i]? = some o → (∀ e ∈ o.after, Region.binds .any e = true → listed.getD e.on false = true) → anc l n i j = true → listed.getD j false = true
  | 0, i, j, o, _, _, h => by cases h
  | n + 1, i, j, o, ho, hdep, h => by
    unfold anc at h
    rw [ho] at h
    simp only [List.any_eq_true, Bool.and_eq_true, Bool.or_eq_true] at h
    obtain ⟨e, he, hb, h1 | h1⟩ := h
    · rw [← Nat.eq_of_beq_eq_true h1]
      exact hdep e (by simpa using he) hb
    · have hl := hdep e (by simpa using he) hb
      cases hp : l[e.on]? with
      | none =>
        cases n with
        | zero => cases h1
        | succ n => unfold anc at h1; rw [hp] at h1; cases h1
      | some p => exact anc_listed hdn n e.on j p hp (hdn e.on p hp hl) h1
theorem VC_drawE {id : Nat} {l : List Oper} {M : Mem} {own : List Ob} {env : Env} {Q : Post} (cf : List FuncId) (gs : List Nat) (es : List Nat) [hm : Mix P] (hB : efB l (flags cf l.toArray [] l) = true) (hes : effI 0 (flags cf l.toArray [] l) = es) (hold : envB env own.length = true)
    (hV : VQ P w M0 N l.toArray (flags cf l.toArray [] l) ⟨M, goneAt gs own, env⟩ (fun envF => VT P w M0 N gs own.length l l.length es ⟨M, own, envF⟩ (fun s => Q .normal s))) :
    VC P w M0 N (.region id l.toArray true) ⟨M, own, env⟩ Q := .mk fun hd0 a0 W0 hR0 => by
  have hLm := flags_map cf l.toArray [] l
  generalize flags cf l.toArray [] l = L at *
  have hLl : L.length = l.length := by rw [← hLm]; simp
  have hS := EfOk.of hLl hB
  have hLo : ∀ (i : Nat) (o : Oper), l[i]? = some o → ∃ f, L[i]? = some (f, o) := fun i o ho => by
    rw [← hLm, List.getElem?_map] at ho
    cases hL : L[i]? with
    | none => rw [hL] at ho; cases ho
    | some fo =>
      rw [hL] at ho
      cases ho
      exact ⟨fo.1, rfl⟩
  have hoL : ∀ (i : Nat) (f : Bool) (o : Oper), L[i]? = some (f, o) → l[i]? = some o := fun i f o h => by
    rw [← hLm, List.getElem?_map, h]; rfl
  obtain ⟨vs, hvl, hq, hE⟩ := hV
  have hdkq : ∀ fo ∈ L, fo.1 = false → dstOk N fo.2.dst = true := fun fo hfo hf => by
    obtain ⟨i, hi⟩ := List.getElem?_of_mem hfo
    obtain ⟨f, o⟩ := fo
    have hf' : f = false := hf
    subst hf'
    have hil := (List.getElem?_eq_some_iff.1 hi).1
    exact (hq i o vs[i] hi (by simp [hvl, hil])).2.1
  have hvsz : ∀ i, i < L.length → ∃ u, vs[i]? = some u := fun i hi => ⟨vs[i]'(by omega), List.getElem?_eq_getElem (by omega)⟩
  have hdk : ∀ (i : Nat) (o : Oper) (t : Tmp), L[i]? = some (false, o) → o.dst = some t → t < N := fun i o t hi ht => by
    have : dstOk N o.dst = true := hdkq (false, o) (List.mem_of_getElem? hi) rfl
    rw [ht] at this
    simpa [dstOk, Nat.blt_eq] using this
  have hdis : ∀ (i : Nat) (o : Oper) (j : Nat) (g : Bool) (p : Oper) (t : Tmp), L[i]? = some (false, o) → L[j]? = some (g, p) → o.dst = some t → p.dst = some t → i = j := fun i o j g p t h1 h2 h3 h4 =>
    (hS.dis i false o j g p t h1 h2 h3 h4).resolve_left (fun h => by cases h.1)
  have hFq : Fr N hd0 (envK false env L vs) (frK false hd0 a0 L vs) := frK_fr L vs env a0 hdkq hR0.2
  have hokq : ∀ t sv, (envK false env L vs).get t = some sv → sv.okB own.length = true := by
    have key : ∀ (L' : List FOp) (vs' : List SV) (e : Env), (∀ t sv, e.get t = some sv → sv.okB own.length = true) → (∀ (i : Nat) (o : Oper) (sv : SV), L'[i]? = some (false, o) → vs'[i]? = some sv → sv.okB own.length = true) → ∀ t sv, (envK false e L' vs').get t = some sv → sv.okB own.length = true := by
      intro L'
      induction L' with
      | nil => intro vs' e h1 _; unfold envK; exact h1
      | cons fo L' ihL =>
        intro vs' e h1 h2
        cases vs' with
        | nil => unfold envK; exact h1
        | cons v vs' =>
          unfold envK
          refine ihL vs' _ ?_ (fun i o sv hi hv => h2 (i + 1) o sv (by simpa using hi) (by simpa using hv))
          obtain ⟨f, o⟩ := fo
          cases f with
          | true => exact h1
          | false =>
            intro t sv ht
            simp only [beq_self_eq_true] at ht
            cases hd' : o.dst with
            | none => rw [hd'] at ht; exact h1 t sv ht
            | some d =>
              rw [hd'] at ht
              simp only [Env.put, Env.get] at ht
              split at ht
              · cases ht; exact h2 0 o v rfl rfl
              · exact h1 t sv ht
    refine key L vs env (fun t sv ht => envB_get hold t sv ht) (fun i o sv hi hv => ?_)
    have := (hq i o sv hi hv).2.2
    rwa [len_goneAt] at this
  have ovq : ∀ (b : Act) (i : Nat) (o : Oper) (v : SV) (t : Tmp), b.tmps.size = N → L[i]? = some (false, o) → vs[i]? = some v → o.dst = some t → (frK false hd0 b L vs).tmps[t]? = some (v.den hd0) := fun b i o v t hb hi hv ht =>
    frK_at L vs b i o v hi hv ht (by rw [hb]; exact hdk i o t hi ht) (fun j g p hj hp e => by have := hdis i o j g p t hi hp ht e; omega)
  have ovn : ∀ (b : Act) (t : Tmp), (∀ (i : Nat) (o : Oper), L[i]? = some (false, o) → o.dst ≠ some t) → (frK false hd0 b L vs).tmps[t]? = b.tmps[t]? := fun b t h =>
    frK_other L vs b (fun fo hfo hf e => by
      obtain ⟨j, hj⟩ := List.getElem?_of_mem hfo
      obtain ⟨g, p⟩ := fo
      have hg : g = false := hf
      subst hg
      exact h j p hj e)
  -- the walk in whatever order
  have main : ∀ (fuel : Nat) (listed : Array Bool) (a : Act) (W : World) (hd : Nat → Value) (n : Nat) (rem : List Nat) (x : List Ob) (envE : Env), listed.size = L.length → (listed.toList.filter (!·)).length = fuel → (∀ i, i < own.length → hd i = hd0 i) →
      (∀ (i : Nat) (o : Oper) (sv : SV) (d : Tmp), L[i]? = some (false, o) → vs[i]? = some sv → listed.getD i false = true → o.dst = some d → a.tmps[d]? = some (sv.den hd0)) →
      (∀ t, (∀ (i : Nat) (f : Bool) (o : Oper), L[i]? = some (f, o) → listed.getD i false = true → o.dst ≠ some t) → a.tmps[t]? = a0.tmps[t]?) → a.tmps.size = N → a.defers = [] →
      (∀ (j : Nat) (g : Bool) (p : Oper), L[j]? = some (g, p) → listed.getD j false = true → ∀ e ∈ p.after, Region.binds .any e = true → listed.getD e.on false = true) →
      (∀ i, i ∈ rem ↔ ∃ o, L[i]? = some (true, o) ∧ listed.getD i false = false) → rem.Nodup → rem.length ≤ n → Wd w M0 hd M x W → (goneAt gs x).take own.length = (goneAt gs own).take own.length → own.length ≤ x.length →
      Fr N hd envE (frK false hd0 a L vs) → (∀ t sv, envE.get t = some sv → sv.okB x.length = true) → VT P w M0 N gs own.length l n rem ⟨M, x, envE⟩ (fun s => Q .normal s) →
      wpAny P .any l.toArray (post w M0 N Q) fuel listed a W := by
    intro fuel
    induction fuel with
    | zero =>
      intro listed a W hd n rem x envE hls hfu hag hT hC hN hD hdn hrem hnd hnl hWd hgx hlx hFr hok4 hVT
      have hall : ∀ i, i < L.length → listed.getD i false = true := fun i hi => by
        have hnil : listed.toList.filter (!·) = [] := List.eq_nil_of_length_eq_zero hfu
        cases hb : listed.getD i false with
        | true => rfl
        | false =>
          have hil : i < listed.toList.length := by simp [hls, hi]
          have : listed.toList[i] = false := by
            have : i < listed.size := by omega
            simp [this] at hb
            simpa using hb
          have hm' : listed.toList[i] ∈ listed.toList.filter (!·) := List.mem_filter.2 ⟨List.getElem_mem hil, by rw [this]; rfl⟩
          rw [hnil] at hm'; cases hm'
      refine ⟨?_, ?_⟩
      · refine List.eq_nil_iff_forall_not_mem.2 fun i hi => ?_
        obtain ⟨h1, o, ho, _⟩ := mem_ready.1 hi
        have ho' : l[i]? = some o := by simpa using ho
        have := hall i (by rw [hLl]; exact (List.getElem?_eq_some_iff.1 ho').1)
        rw [getD_both h1] at this; cases this
      · have hr0 : rem = [] := List.eq_nil_iff_forall_not_mem.2 fun i hi => by
          obtain ⟨o, h1, h2⟩ := (hrem i).1 hi
          rw [hall i (List.getElem?_eq_some_iff.1 h1).1] at h2; cases h2
        subst hr0
        refine ⟨hd, ⟨M, x, envE⟩, ⟨hWd, hFr.congr (fun t => ?_) hN hD⟩, hVT.fin⟩
        by_cases hex : ∃ (i : Nat) (o : Oper), L[i]? = some (false, o) ∧ o.dst = some t
        · obtain ⟨i, o, ho, hd'⟩ := hex
          have hil := (List.getElem?_eq_some_iff.1 ho).1
          obtain ⟨u, hu⟩ := hvsz i hil
          rw [hT i o u t ho hu (hall i hil) hd', ovq a i o u t hN ho hu hd']
        · exact (ovn a t (fun i o ho e => hex ⟨i, o, ho, e⟩)).symm
    | succ fuel ih =>
      intro listed a W hd n rem x envE hls hfu hag hT hC hN hD hdn hrem hnd hnl hWd hgx hlx hFr hok4 hVT
      refine ⟨fun hr => ?_, fun i hi => ?_⟩
      · exfalso
        have hex : ∃ i, i < L.length ∧ listed.getD i false = false := by
          have hne : (listed.toList.filter (!·)) ≠ [] := fun e => by rw [e] at hfu; simp at hfu
          obtain ⟨b, hb⟩ := List.exists_mem_of_ne_nil _ hne
          obtain ⟨hb1, hb2⟩ := List.mem_filter.1 hb
          have : b = false := by simpa using hb2
          subst this
          obtain ⟨i, hi, he⟩ := List.mem_iff_getElem.1 hb1
          have hil : i < listed.size := by simpa using hi
          exact ⟨i, by omega, by simp [hil]; simpa using he⟩
        have hmin : ∃ i, (i < L.length ∧ listed.getD i false = false) ∧ ∀ j, j < i → listed.getD j false = true := by
          obtain ⟨i, hi⟩ := hex
          induction i using Nat.strongRecOn with
          | _ i ihh =>
            by_cases hj : ∃ j, j < i ∧ listed.getD j false = false
            · obtain ⟨j, hj1, hj2⟩ := hj
              exact ihh j hj1 ⟨by omega, hj2⟩
            · exact ⟨i, hi, fun j hj' => by
                cases hb : listed.getD j false with
                | true => rfl
                | false => exact (hj ⟨j, hj', hb⟩).elim⟩
        obtain ⟨i, ⟨hil, hiu⟩, hlow⟩ := hmin
        have hli : i < l.length := by omega
        obtain ⟨f, hf⟩ := hLo i l[i] (by simp [hli])
        have : i ∈ Region.ready .any l.toArray listed := mem_ready.2 ⟨getD_in (by omega) hiu, l[i], by simp [hli], fun e he hbe => hlow e.on (hS.low i f l[i] hf e he hbe)⟩
        rw [hr] at this; cases this
      · obtain ⟨hun, o, ho, hdep⟩ := mem_ready.1 hi
        have ho' : l[i]? = some o := by simpa using ho
        obtain ⟨f, hLi⟩ := hLo i o ho'
        have hil := (List.getElem?_eq_some_iff.1 hLi).1
        have hun' := getD_both hun
        have hls' : (listed.setIfInBounds i true).size = L.length := by simp [hls]
        have hfu' : ((listed.setIfInBounds i true).toList.filter (!·)).length = fuel := by
          have key : ∀ (bs : List Bool) (i : Nat), bs[i]? = some false → ((bs.set i true).filter (!·)).length + 1 = (bs.filter (!·)).length := by
            intro bs
            induction bs with
            | nil => intro i h; simp at h
            | cons b bs ihb =>
              intro i h
              cases i with
              | zero => simp at h; subst h; simp
              | succ i =>
                have := ihb i (by simpa using h)
                cases b <;> simp [List.filter_cons] at this ⊢ <;> omega
          have h1 : listed.toList[i]? = some false := by
            have hl2 : i < listed.size := by omega
            simp [hl2] at hun' ⊢
            exact hun'
          have := key listed.toList i h1
          rw [Array.toList_setIfInBounds]
          omega
        have lset : ∀ j, (listed.setIfInBounds i true).getD j false = true → j = i ∨ listed.getD j false = true := fun j hj => by
          by_cases hji : j = i
          · exact .inl hji
          · rw [getD_set_ne false (fun e => hji e.symm)] at hj; exact .inr hj
        have lself : (listed.setIfInBounds i true).getD i false = true := by
          have : i < listed.size := by omega
          simp [this]
        have unl : ∀ (j : Nat) (g : Bool) (p : Oper), L[j]? = some (g, p) → (∃ e ∈ p.after, Region.binds .any e = true ∧ e.on = i) → listed.getD j false = false := fun j g p hp ⟨e, he, hbd, heq⟩ => by
          cases hb : listed.getD j false with
          | false => rfl
          | true =>
            have := hdn j g p hp hb e he hbd
            rw [heq, hun'] at this; cases this
        have hdn' : ∀ (j : Nat) (g : Bool) (p : Oper), L[j]? = some (g, p) → (listed.setIfInBounds i true).getD j false = true → ∀ e ∈ p.after, Region.binds .any e = true → (listed.setIfInBounds i true).getD e.on false = true := fun j g p hp hj e he hbd => by
          refine getD_set_true ?_
          by_cases hji : j = i
          · subst hji
            rw [hLi] at hp
            cases hp
            exact hdep e he hbd
          · exact hdn j g p hp ((lset j hj).resolve_left hji) e he hbd
        have lookq : ∀ (b : Act), (∀ t ∈ o.looksAt l.toArray, a.tmps[t]? = b.tmps[t]?) → execOp a.eval o = execOp b.eval o := fun b hb => by
          refine execOp_congr o (hS.sel i f o hLi) fun x hx => ?_
          cases x with
          | tmp t =>
            have ht : t ∈ o.looksAt l.toArray := List.mem_append_left _ (List.mem_filterMap.2 ⟨.tmp t, by simpa using hx, rfl⟩)
            simp [Act.eval, hb t ht]
          | const v => rfl
          | global g => rfl
          | func f => rfl
        have free : ∀ t, (∀ (j : Nat) (g : Bool) (p : Oper), L[j]? = some (g, p) → p.dst = some t → listed.getD j false = false) → a.tmps[t]? = a0.tmps[t]? := fun t ht => hC t (fun j g p hp hj e => by
          have := ht j g p hp e
          rw [hj] at this; cases this)
        have hrs : ∀ q, q ≠ i → (listed.setIfInBounds i true).getD q false = listed.getD q false := fun q hq => getD_set_ne false (fun e => hq e.symm)
        unfold wpOp
        simp only [ho]
        cases f with
        | false =>
          obtain ⟨v, hv⟩ := hvsz i hil
          obtain ⟨hQS, hdo, _⟩ := hq i o v hLi hv
          have hWG : Wd w M0 hd0 M (goneAt gs own) W := by
            have h1 := (hWd.gones gs).take own.length
            rw [hgx, List.take_of_length_le (by rw [len_goneAt]; exact Nat.le_refl _)] at h1
            exact h1.hd_agree (fun q hq' => (hag q (by rwa [len_goneAt] at hq')).symm)
          have hFi := frK_fr (k := false) (hd := hd0) (L.take i) (vs.take i) env a0 (fun fo hfo => hdkq fo (List.mem_of_mem_take hfo)) hR0.2
          have h1 := hQS.go hd0 _ W ⟨hWG, hFi⟩
          have look : ∀ t ∈ o.looksAt l.toArray, a.tmps[t]? = (frK false hd0 a0 (L.take i) (vs.take i)).tmps[t]? := fun t ht => by
            by_cases hex : ∃ (j : Nat) (g : Bool) (p : Oper), L[j]? = some (g, p) ∧ p.dst = some t
            · obtain ⟨j, g, p, hp, hpd⟩ := hex
              have hjl := (List.getElem?_eq_some_iff.1 hp).1
              rcases (hS.use i false o hLi t ht j g p hp hpd).resolve_left (fun h => by cases h.1) with ⟨hji, hfg, e, he, hbd, heq⟩ | ⟨hij, hfg, hdj⟩
              · have hg : g = false := hfg.resolve_left (by simp)
                subst hg
                have hlj := hdep e he hbd
                rw [heq] at hlj
                obtain ⟨u, hu⟩ := hvsz j hjl
                rw [hT j p u t hp hu hlj hpd]
                refine (frK_at (L.take i) (vs.take i) a0 j p u (by rw [List.getElem?_take, if_pos hji]; exact hp) (by rw [List.getElem?_take, if_pos hji]; exact hu) hpd (by rw [hR0.2.size]; exact hdk j p t hp hpd) (fun q g' p' hq' hp' e' => ?_)).symm
                rw [List.getElem?_take] at hp'
                split at hp'
                · have := hdis j p q g' p' t hp hp' hpd e'; omega
                · cases hp'
              · have un : ∀ (q : Nat) (g' : Bool) (p' : Oper), L[q]? = some (g', p') → p'.dst = some t → listed.getD q false = false := fun q g' p' hp' hpd' => by
                  rcases (hS.use i false o hLi t ht q g' p' hp' hpd').resolve_left (fun h => by cases h.1) with ⟨hqi, hfg', e', he', hbd', heq'⟩ | ⟨hiq, _, hdq⟩
                  · have hg' : g' = false := hfg'.resolve_left (by simp)
                    subst hg'
                    have := hdis q p' j g p t hp' hp hpd' hpd
                    omega
                  · exact unl q g' p' hp' hdq
                rw [free t un]
                refine (frK_other _ _ _ (fun fo hfo hf e => ?_)).symm
                obtain ⟨q, hq'⟩ := List.getElem?_of_mem hfo
                rw [List.getElem?_take] at hq'
                split at hq'
                · obtain ⟨g', p'⟩ := fo
                  have hg' : g' = false := hf
                  subst hg'
                  have := hdis q p' j g p t hq' hp e hpd; omega
                · cases hq'
            · rw [free t (fun q g' p' hp' hpd' => (hex ⟨q, g', p', hp', hpd'⟩).elim)]
              refine (frK_other _ _ _ (fun fo hfo _ e => ?_)).symm
              obtain ⟨q, hq'⟩ := List.getElem?_of_mem (List.mem_of_mem_take hfo)
              exact hex ⟨q, fo.1, fo.2, hq', e⟩
          have key : ∀ W', Below W.heap.size W W' → wpAny P .any l.toArray (post w M0 N Q) fuel (listed.setIfInBounds i true) (a.put o.dst (v.den hd0)) W' := fun W' hb => by
            have hsz' : (a.put o.dst (v.den hd0)).tmps.size = N := by cases o.dst <;> simp [Act.put, hN]
            have hdf' : (a.put o.dst (v.den hd0)).defers = [] := by cases o.dst <;> exact hD
            refine ih _ _ W' hd n rem x envE hls' hfu' hag (fun q p sv d hp hv' hql hpd => ?_) (fun t ht => ?_) hsz' hdf' hdn' (fun q => ?_) hnd hnl (hWd.idle hb) hgx hlx (hFr.congr (fun t => ?_) (by rw [frK_size]; exact hsz') (by rw [frK_defers]; exact hdf')) hok4 hVT
            · by_cases hqi : q = i
              · subst hqi
                rw [hLi] at hp; rw [hv] at hv'
                cases hp; cases hv'
                rw [hpd]
                refine put_eq ?_
                rw [hN]; exact hdk q _ d hLi hpd
              · have hne : o.dst ≠ some d := fun e => hqi (hdis q p i _ o d hp hLi hpd e)
                rw [put_ne hne]
                exact hT q p sv d hp hv' ((lset q hql).resolve_left hqi) hpd
            · have hne : o.dst ≠ some t := ht i _ o hLi lself
              rw [put_ne hne]
              exact hC t (fun q g p hp hql => ht q g p hp (getD_set_true hql))
            · rw [hrem q]
              constructor
              · rintro ⟨p, h2, h3⟩
                refine ⟨p, h2, ?_⟩
                rw [hrs q (fun e => by subst e; rw [hLi] at h2; cases h2)]; exact h3
              · rintro ⟨p, h2, h3⟩
                refine ⟨p, h2, ?_⟩
                rw [hrs q (fun e => by subst e; rw [hLi] at h2; cases h2)] at h3; exact h3
            · by_cases hex : ∃ (j : Nat) (p : Oper), L[j]? = some (false, p) ∧ p.dst = some t
              · obtain ⟨j, p, hp, hpd⟩ := hex
                obtain ⟨u, hu⟩ := hvsz j (List.getElem?_eq_some_iff.1 hp).1
                rw [ovq _ j p u t hsz' hp hu hpd, ovq a j p u t hN hp hu hpd]
              · rw [ovn _ t (fun j p hp e => hex ⟨j, p, hp, e⟩), ovn a t (fun j p hp e => hex ⟨j, p, hp, e⟩), put_ne (fun e => hex ⟨i, o, hLi, e⟩)]
          rw [wanted_congr look]
          cases hw : Region.wanted o (yielded l.toArray (frK false hd0 a0 (L.take i) (vs.take i)).tmps) with
          | false =>
            rw [hw] at h1
            simp only [Bool.false_eq_true, if_false] at h1 ⊢
            rw [← h1]
            exact key W (Below.refl _ _)
          | true =>
            rw [hw] at h1
            simp only [if_true] at h1 ⊢
            refine .inl ?_
            unfold Oper.wp
            rw [lookq _ look]
            unfold Oper.quietAt at h1
            generalize (execOp (frK false hd0 a0 (L.take i) (vs.take i)).eval o).run P W = r at *
            cases r with
            | ok nx W' =>
              cases nx <;> simp only [Oper.quietUpon] at h1 <;> simp only [Oper.upon]
              case value u =>
                obtain ⟨e1, e2⟩ := h1
                rw [e1, e2]; exact key _ (Below.refl _ _)
              case skip =>
                obtain ⟨e1, e2⟩ := h1
                rw [e1, ← e2]; exact key _ (Below.refl _ _)
              case enter f args =>
                obtain ⟨e1, hc⟩ := h1
                rw [e1]
                exact hc.mono fun e W'' ⟨he, hb⟩ => by subst he; exact key _ hb
            | halt x w' => simp only [Oper.quietUpon] at h1
        | true =>
          have hir : i ∈ rem := (hrem i).2 ⟨o, hLi, hun'⟩
          have hrd : i ∈ rem.filter (rdy l rem) := List.mem_filter.2 ⟨hir, by
            unfold rdy
            refine List.all_eq_true.2 fun j hj => ?_
            cases hb : anc l 4 i j with
            | false => rfl
            | true =>
              have := anc_listed (listed := listed) (fun q p hp hq' => by
                obtain ⟨g, hg⟩ := hLo q p hp
                exact hdn q g p hg hq') 4 i j o ho' hdep hb
              obtain ⟨p, _, h3⟩ := (hrem j).1 hj
              rw [h3] at this; cases this⟩
          cases n with
          | zero =>
            have : rem = [] := List.eq_nil_of_length_eq_zero (by omega)
            rw [this] at hir; cases hir
          | succ n =>
          obtain ⟨own', u, hEW, hgo, hkd, hVT'⟩ := hVT.2 i hrd o ho'
          have h1 := hEW.go hd _ W ⟨hWd, hFr⟩
          have look : ∀ t ∈ o.looksAt l.toArray, a.tmps[t]? = (frK false hd0 a L vs).tmps[t]? := fun t ht => by
            by_cases hex : ∃ (j : Nat) (p : Oper), L[j]? = some (false, p) ∧ p.dst = some t
            · obtain ⟨j, p, hp, hpd⟩ := hex
              obtain ⟨v, hv⟩ := hvsz j (List.getElem?_eq_some_iff.1 hp).1
              rcases (hS.use i true o hLi t ht j false p hp hpd).resolve_left (fun h => by cases h.2) with ⟨_, _, e, he, hbd, heq⟩ | ⟨_, hfg, _⟩
              · have hlj := hdep e he hbd
                rw [heq] at hlj
                rw [hT j p v t hp hv hlj hpd, ovq a j p v t hN hp hv hpd]
              · rcases hfg with h | h <;> cases h
            · exact (ovn a t (fun j p hp e => hex ⟨j, p, hp, e⟩)).symm
          have key : ∀ z W', (∃ hd', (∀ i, i < x.length → hd' i = hd i) ∧ Wd w M0 hd' M own' W' ∧ z = u.den hd') → wpAny P .any l.toArray (post w M0 N Q) fuel (listed.setIfInBounds i true) (a.put o.dst z) W' := fun z W' ⟨hd', hag', hWd', hz⟩ => by
            subst hz
            have hsz' : (a.put o.dst (u.den hd')).tmps.size = N := by cases o.dst <;> simp [Act.put, hN]
            have hdf' : (a.put o.dst (u.den hd')).defers = [] := by cases o.dst <;> exact hD
            have hlen : x.length ≤ own'.length := hEW.len
            have hF2 := (hFr.upd (hd' := hd') (fun t sv ht => den_agree hag' (hok4 t sv ht))).put (dst := o.dst) hkd u
            refine ih _ _ W' hd' n (rem.erase i) own' (envE.put o.dst u) hls' hfu' (fun q hq' => (hag' q (by omega)).trans (hag q hq')) (fun q p sv d hp hv' hql hpd => ?_) (fun t ht => ?_) hsz' hdf' hdn' (fun q => ?_) (hnd.erase i) (by rw [List.length_erase_of_mem hir]; omega) hWd' (hgo.trans hgx) (by omega) (hF2.congr (fun t => ?_) (by rw [frK_size]; exact hsz') (by rw [frK_defers]; exact hdf')) (fun t sv ht => ?_) hVT'
            · have hqi : q ≠ i := fun e => by subst e; rw [hLi] at hp; cases hp
              have hne : o.dst ≠ some d := fun e => hqi (hdis q p i _ o d hp hLi hpd e)
              rw [put_ne hne]
              exact hT q p sv d hp hv' ((lset q hql).resolve_left hqi) hpd
            · have hne : o.dst ≠ some t := ht i _ o hLi lself
              rw [put_ne hne]
              exact hC t (fun q g p hp hql => ht q g p hp (getD_set_true hql))
            · rw [hnd.mem_erase_iff, hrem q]
              constructor
              · rintro ⟨hne, p, h2, h3⟩
                exact ⟨p, h2, by rw [hrs q hne]; exact h3⟩
              · rintro ⟨p, h2, h3⟩
                have hne : q ≠ i := fun e => by subst e; rw [lself] at h3; cases h3
                rw [hrs q hne] at h3
                exact ⟨hne, p, h2, h3⟩
            · by_cases hex : ∃ (j : Nat) (p : Oper), L[j]? = some (false, p) ∧ p.dst = some t
              · obtain ⟨j, p, hp, hpd⟩ := hex
                obtain ⟨v, hv⟩ := hvsz j (List.getElem?_eq_some_iff.1 hp).1
                have hji : j ≠ i := fun e => by subst e; rw [hLi] at hp; cases hp
                rw [ovq _ j p v t hsz' hp hv hpd, put_ne (fun e => hji (hdis j p i true o t hp hLi hpd e)), ovq a j p v t hN hp hv hpd]
              · have e1 := ovn a t (fun j p hp e => hex ⟨j, p, hp, e⟩)
                rw [ovn _ t (fun j p hp e => hex ⟨j, p, hp, e⟩)]
                by_cases hdt : o.dst = some t
                · have htN : t < N := by rw [hdt] at hkd; simpa [dstOk, Nat.blt_eq] using hkd
                  rw [hdt, put_eq (by rw [hN]; exact htN), put_eq (by rw [frK_size, hN]; exact htN)]
                · rw [put_ne hdt, put_ne hdt, e1]
            · cases hd2 : o.dst with
              | none => rw [hd2] at ht; exact okB_mono hlen (hok4 t sv ht)
              | some d =>
                rw [hd2] at ht
                simp only [Env.put, Env.get] at ht
                split at ht
                · cases ht; exact hEW.ok
                · exact okB_mono hlen (hok4 t sv ht)
          rw [wanted_congr look]
          cases hw : Region.wanted o (yielded l.toArray (frK false hd0 a L vs).tmps) with
          | false =>
            rw [hw] at h1
            simp only [Bool.false_eq_true, if_false] at h1 ⊢
            exact key _ W h1
          | true =>
            rw [hw] at h1
            simp only [if_true] at h1 ⊢
            refine .inl ?_
            unfold Oper.wp
            rw [lookq _ look]
            generalize (execOp (frK false hd0 a L vs).eval o).run P W = r at *
            cases r with
            | ok nx W' =>
              cases nx <;> simp only [EffRun] at h1 <;> simp only [Oper.upon]
              case value z => exact key _ _ h1
              case skip => exact key _ _ h1
              case enter f args => exact h1.mono fun e W'' ⟨z, he, hz⟩ => by subst he; exact key _ _ hz
            | halt x w' => simp only [EffRun] at h1
  refine wp_region_any hm.h ?_
  have hb0 : Below W0.heap.size W0 { W0 with drawn := W0.drawn + 1 } := by
    have := below_regrown W0 (W0.drawn + 1) #[]
    rw [Go.Sort.grow_empty] at this
    exact this
  have hsz : l.toArray.size = L.length := by simp [hLl]
  rw [hsz]
  refine main L.length _ a0 _ hd0 l.length es own (envK false env L vs) (by simp) ?_ (fun _ _ => rfl) (fun i o sv d _ _ h => (by rw [getD_replicate_false] at h; cases h)) (fun t _ => rfl) hR0.2.size hR0.2.defers (fun j g p _ h => (by rw [getD_replicate_false] at h; cases h)) (fun i => ?_) ?_ ?_ (hR0.1.idle hb0) rfl (Nat.le_refl _) hFq hokq hE
  · rw [Array.toList_replicate]
    induction L.length with
    | zero => rfl
    | succ n ihn => rw [List.replicate_succ]; simp
  · rw [← hes, effI_mem]
    constructor
    · rintro ⟨o, _, h⟩; exact ⟨o, h, getD_replicate_false _ _⟩
    · rintro ⟨o, h, _⟩; exact ⟨o, Nat.zero_le _, h⟩
  · rw [← hes]; exact effI_nodup L 0
  · rw [← hes, ← hLl]; exact effI_len L 0
end
end Go.Proofs.Ytipbbbamjckjoaa
