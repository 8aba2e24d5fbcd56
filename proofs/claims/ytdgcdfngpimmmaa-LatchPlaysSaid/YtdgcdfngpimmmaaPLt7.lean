/- The logic's rules for a table of any size behind a few own objects: renumbering, calls of one slot, calls that read it. -/
import Derived.Test.YtdgcdfngpimmmaaPLt6
namespace Go.Proofs.Ytdgcdfngpimmmaa
open Go Go.RowKit
attribute [local irreducible] Calls
set_option linter.unusedVariables false
set_option maxRecDepth 20000
set_option linter.unusedSimpArgs false
set_option maxHeartbeats 4000000
theorem goneAt_ne : ∀ (ρ : List Nat) (own : List Ob) (i : Nat), i ∉ ρ → (goneAt ρ own)[i]? = own[i]?
  | [], _, _, _ => rfl
  | j :: ρ, own, i, h => by
    unfold goneAt
    rw [goneAt_ne ρ _ i (fun h2 => h (by simp [h2])), List.getElem?_set_ne (fun e => h (by simp [e]))]
theorem envB_mono {n m : Nat} (h : n ≤ m) : ∀ {e : Env}, envB e n = true → envB e m = true
  | [], _ => rfl
  | (t, sv) :: e, hb => by
    unfold envB at hb ⊢
    cases hs : sv.okB n with
    | false => rw [hs] at hb; cases hb
    | true =>
      rw [hs] at hb
      have h2 : sv.okB m = true := by
        cases sv with
        | v x => rfl
        | p i off => simp only [SV.okB, Nat.blt_eq] at hs ⊢; omega
        | r i => simp only [SV.okB, Nat.blt_eq] at hs ⊢; omega
      rw [h2]
      exact envB_mono h hb
theorem envB_putv {e : Env} {n : Nat} {dst : Option Tmp} {x : Value} (h : envB e n = true) : envB (e.put dst (.v x)) n = true := by
  cases dst with
  | none => exact h
  | some t =>
    show envB ((t, .v x) :: e) n = true
    unfold envB
    exact h
section
variable {P : Program} {w : World} {M0 M : Mem} {N : Nat} {hd : Nat → Value} {own own' pre tab : List Ob} {env : Env} {W : World}
theorem Wd.re (f : Nat → Nat) (h : Wd w M0 hd M own W) (hf : ∀ i o, own'[i]? = some o → own[f i]? = some o) (hinj : ∀ i j, i < own'.length → j < own'.length → f i = f j → i = j) : Wd w M0 (fun i => hd (f i)) M own' W :=
  ⟨h.below, h.mem, h.old, h.grew, fun i o hi => h.own (f i) o (hf i o hi), fun i o b hi hne hb => h.sep (f i) o b (hf i o hi) hne hb, fun i j oi oj b hi hj hni hnj hbi hbj => hinj i j (List.getElem?_eq_some_iff.1 hi).1 (List.getElem?_eq_some_iff.1 hj).1 (h.dis (f i) (f j) oi oj b (hf i oi hi) (hf j oj hj) hni hnj hbi hbj)⟩
theorem VL_re {ops : Array Oper} {l : List Oper} {Q : Post} (f : Nat → Nat) (p : Nat) (hf : ∀ i o, own'[i]? = some o → own[f i]? = some o) (hinj : ∀ i j, i < own'.length → j < own'.length → f i = f j → i = j) (hfix : ∀ i, i < p → f i = i) (hold : envB env p = true) (h : VL P w M0 N ops l ⟨M, own', env⟩ Q) : VL P w M0 N ops l ⟨M, own, env⟩ Q := .mk fun hd a W hR =>
  h.go _ a W ⟨hR.1.re f hf hinj, hR.2.upd fun t sv ht => den_agree (fun i hi => by rw [hfix i hi]) (envB_get hold t sv ht)⟩
/-- A new object's place is ahead of the table. -/
theorem VL_front {ops : Array Oper} {l : List Oper} {Q : Post} {o : Ob} {dst : Option Tmp} {sv sv' : SV} (hsv : (sv = .r (pre ++ tab).length ∧ sv' = .r pre.length) ∨ (∃ off, sv = .p (pre ++ tab).length off ∧ sv' = .p pre.length off)) (hold : envB env pre.length = true)
    (h : VL P w M0 N ops l ⟨M, pre ++ o :: tab, env.put dst sv'⟩ Q) : VL P w M0 N ops l ⟨M, (pre ++ tab) ++ [o], env.put dst sv⟩ Q := .mk fun hd a W hR => by
  let f : Nat → Nat := fun i => if i < pre.length then i else if i = pre.length then (pre ++ tab).length else i - 1
  have hfp : f pre.length = (pre ++ tab).length := by simp [f]
  have hlen : (pre ++ tab).length = pre.length + tab.length := List.length_append
  refine h.go (fun i => hd (f i)) a W ⟨hR.1.re f (fun i x hi => ?_) (fun i j hi hj he => ?_), ⟨fun t s hs => ?_, hR.2.size, hR.2.defers⟩⟩
  · by_cases h1 : i < pre.length
    · have h2 : f i = i := by simp [f, h1]
      rw [h2]
      rw [List.getElem?_append_left h1] at hi
      rw [List.append_assoc, List.getElem?_append_left h1]
      exact hi
    · by_cases h2 : i = pre.length
      · subst h2
        rw [hfp, List.getElem?_append_right (Nat.le_refl _), Nat.sub_self]
        rw [List.getElem?_append_right (Nat.le_refl _), Nat.sub_self] at hi
        exact hi
      · have h3 : f i = i - 1 := by simp [f, h1, h2]
        rw [h3]
        rw [List.getElem?_append_right (by omega), show i - pre.length = (i - 1 - pre.length) + 1 by omega, List.getElem?_cons_succ] at hi
        have hlt := (List.getElem?_eq_some_iff.1 hi).1
        rw [List.getElem?_append_left (by omega), List.getElem?_append_right (by omega)]
        exact hi
  · simp only [List.length_append, List.length_cons] at hi hj
    simp only [f] at he
    rw [hlen] at he
    split at he <;> split at he <;> (try split at he) <;> (try split at he) <;> omega
  · have hfi : ∀ i : Nat, i < pre.length → hd (f i) = hd i := fun i hi => by
      have : f i = i := by simp [f, hi]
      rw [this]
    have key : ∀ t s, env.get t = some s → s.den (fun i => hd (f i)) = s.den hd := fun t s hs => den_agree hfi (envB_get hold t s hs)
    have hsd : sv'.den (fun i => hd (f i)) = sv.den hd := by
      rcases hsv with ⟨rfl, rfl⟩ | ⟨off, rfl, rfl⟩
      · simp only [SV.den, hfp]
      · simp only [SV.den, hfp]
    cases dst with
    | none =>
      have := hR.2.env t s hs
      rw [this]
      exact congrArg some (key t s hs).symm
    | some d =>
      have hs' : Env.get ((d, sv') :: env) t = some s := hs
      unfold Env.get at hs'
      cases hb : Nat.beq d t with
      | true =>
        rw [hb] at hs'
        obtain rfl := Option.some.inj hs'
        have := hR.2.env t sv (by show Env.get ((d, sv) :: env) t = _; unfold Env.get; rw [hb])
        rw [this, hsd]
      | false =>
        rw [hb] at hs'
        have := hR.2.env t s (by show Env.get ((d, sv) :: env) t = _; unfold Env.get; rw [hb]; exact hs')
        rw [this]
        exact congrArg some (key t s hs').symm
variable {dst : Option Tmp} {ty : TypeId} {pos : String} {aft : Array Edge}
theorem VL_allocF {ops : Array Oper} {t : TypeId} {l : List Oper} {Q : Post} {z : Value} [hz : ZerT P t z] (pre tab : List Ob) (hk : dstOk N dst = true) (hold : envB env pre.length = true)
    (h : VL P w M0 N ops l ⟨M, pre ++ .blk t z.cells.toList :: tab, env.put dst (.p pre.length 0)⟩ Q) : VL P w M0 N ops (⟨dst, .alloc t, ty, pos, aft, none⟩ :: l) ⟨M, pre ++ tab, env⟩ Q :=
  VL_alloc hk (envB_mono (by rw [List.length_append]; omega) hold) (VL_front (.inr ⟨0, rfl, rfl⟩) hold h)
/-- A call that reads one's own objects and yields an own row. -/
theorem VL_callOR {ops : Array Oper} {l : List Oper} {Q : Post} {f : FuncId} {xs : Array Operand} {ats : Array TypeId} {vs : List Value} {e : TypeId} {k n : Nat} {cs : List Value} [hf : CalT P f] (hv : env.vals xs.toList = some vs)
    (hc : ∀ hd W, Wd w M0 hd M own W → Calls P f vs.toArray W (RetRow e k n cs W)) (hk : dstOk N dst = true) (hold : envB env own.length = true) (h : VL P w M0 N ops l ⟨M, own ++ [.row e k n cs], env.put dst (.r own.length)⟩ Q) :
    VL P w M0 N ops (⟨dst, .call ⟨.value (.func f), xs, ats⟩, ty, pos, aft, none⟩ :: l) ⟨M, own, env⟩ Q := .mk fun hd a W hR => by
  refine wpList_plain rfl fun K hK => ?_
  unfold Oper.wp
  rw [exec_call (s := ⟨M, own, env⟩) hR.2 hf.h hv]
  simp only [Oper.upon]
  refine (hc hd W hR.1).mono fun x W' hret => ?_
  obtain ⟨v, he, hb, hown⟩ := hret
  subst he
  have hsz := hR.1.below.size
  have hok : W'.ownsRow w.heap.size e k v n cs := by
    refine ⟨hown.1, ?_⟩
    rcases hown.2 with h1 | ⟨g, cap, cur, h1, h2, h3⟩
    · exact .inl h1
    · exact .inr ⟨g, cap, cur, h1, by omega, h3⟩
  have hnew := hR.1.new (o' := .row e k n cs) (v' := v) (grown_of_below hb) hok (fun b hb' => by
    rcases hown.2 with ⟨h1, _⟩ | ⟨g, cap, cur, h1, h2, h3⟩
    · rw [h1] at hb'; cases hb'
    · rw [h1] at hb'
      obtain rfl : g = b := by simpa [foot] using hb'
      exact h2)
  have hput := (env_new (own := own) hR.2 hold v).put hk (.r own.length)
  have e1 : SV.den (setH hd own.length v) (.r own.length) = v := by simp only [SV.den, setH_same]
  rw [e1] at hput
  exact hK _ _ (h.go _ _ _ ⟨hnew, hput⟩)
theorem VL_callOF {ops : Array Oper} {l : List Oper} {Q : Post} {f : FuncId} {xs : Array Operand} {ats : Array TypeId} {vs : List Value} {e : TypeId} {k n : Nat} {cs : List Value} [hf : CalT P f] (pre tab : List Ob) (hv : env.vals xs.toList = some vs)
    (hc : ∀ hd W, Wd w M0 hd M (pre ++ tab) W → Calls P f vs.toArray W (RetRow e k n cs W)) (hk : dstOk N dst = true) (hold : envB env pre.length = true) (h : VL P w M0 N ops l ⟨M, pre ++ .row e k n cs :: tab, env.put dst (.r pre.length)⟩ Q) :
    VL P w M0 N ops (⟨dst, .call ⟨.value (.func f), xs, ats⟩, ty, pos, aft, none⟩ :: l) ⟨M, pre ++ tab, env⟩ Q :=
  VL_callOR hv hc hk (envB_mono (by rw [List.length_append]; omega) hold) (VL_front (.inl ⟨rfl, rfl⟩) hold h)
theorem VL_same {ops : Array Oper} {l : List Oper} {Q : Post} (o : Ob) (n : Nat) (ho : ∀ W, ObOk w.heap.size W (.slice none 0 0) o) (hold : envB env own.length = true) (h : VL P w M0 N ops l ⟨M, own ++ List.replicate n o, env⟩ Q) : VL P w M0 N ops l ⟨M, own, env⟩ Q := by
  induction n generalizing own with
  | zero => simpa using h
  | succ n ih =>
    have h1 : VL P w M0 N ops l ⟨M, own ++ [o], env⟩ Q := ih (envB_mono (by simp) hold) (by rw [List.append_assoc]; rwa [List.replicate_succ] at h)
    exact .mk fun hd a W hR => by
      have hadd := hR.1.add (o' := o) (v' := .slice none 0 0) (ho W) (fun b hb => by cases hb)
      exact h1.go _ a W ⟨hadd, env_new (own := own) hR.2 hold (.slice none 0 0)⟩
end
/-! ### The table -/
structure Slt where
  u : Value
  who : List Int
  how : Int
abbrev oneK (s : Slt) : List Value := [s.u, .int .i64 s.how]
def whoOb (s : Slt) : Ob := .nrow s.u 3 1 s.who.length (ic s.who)
def tabOb (b g c : Nat) (T : List Slt) : List Ob := .nblk (.pointer (some ⟨b, 0, none⟩)) 154 (tbC g T.length c) :: .nrow (.slice (some ⟨g, 0, none⟩) T.length c) 160 2 T.length (T.flatMap oneK) :: T.map whoOb
theorem tabOb_len (b g c : Nat) (T : List Slt) : (tabOb b g c T).length = T.length + 2 := by simp [tabOb]
theorem pre_get {pre tab : List Ob} (j : Nat) : (pre ++ tab)[pre.length + j]? = tab[j]? := by
  rw [List.getElem?_append_right (by omega), Nat.add_sub_cancel_left]
theorem flat_len2 (T : List Slt) : (T.flatMap oneK).length = T.length * 2 := by
  induction T with
  | nil => rfl
  | cons a T ih => rw [List.flatMap_cons, List.length_append, ih]; show 2 + T.length * 2 = (T.length + 1) * 2; omega
theorem flat_get2 {T : List Slt} {k : Nat} (h : k < T.length) : (T.flatMap oneK)[k * 2]? = some T[k].u ∧ (T.flatMap oneK)[k * 2 + 1]? = some (.int .i64 T[k].how) :=
  ⟨by have := flat_get (k := 2) (cells := oneK) T k 0 h (fun _ _ => rfl) (by omega); exact this, flat_get (k := 2) (cells := oneK) T k 1 h (fun _ _ => rfl) (by omega)⟩
theorem flat_set2 (T : List Slt) {k : Nat} (h : k < T.length) (s : Slt) : (T.set k s).flatMap oneK = ((T.flatMap oneK).set (k * 2) s.u).set (k * 2 + 1) (.int .i64 s.how) := by
  apply List.ext_getElem?
  intro q
  rcases Nat.lt_or_ge q (T.length * 2) with hq | hq
  · have hq2 : q / 2 < T.length := by omega
    have e := flat_get (k := 2) (cells := oneK) (T.set k s) (q / 2) (q % 2) (by rw [List.length_set]; omega) (fun _ _ => rfl) (by omega)
    have e0 := flat_get (k := 2) (cells := oneK) T (q / 2) (q % 2) (by omega) (fun _ _ => rfl) (by omega)
    rw [show q / 2 * 2 + q % 2 = q by omega] at e e0
    rw [e, List.getElem_set]
    have hfl := flat_len2 T
    by_cases hk : k = q / 2
    · subst hk
      rw [if_pos rfl]
      have h2 : q % 2 = 0 ∨ q % 2 = 1 := by omega
      rcases h2 with h2 | h2
      · rw [h2, List.getElem?_set_ne (by omega), show q / 2 * 2 = q by omega, List.getElem?_set_self (by omega)]; rfl
      · rw [h2, show q / 2 * 2 + 1 = q by omega, List.getElem?_set_self (by rw [List.length_set]; omega)]; rfl
    · rw [if_neg hk, List.getElem?_set_ne (by omega), List.getElem?_set_ne (by omega)]
      exact e0.symm
  · rw [List.getElem?_eq_none (by rw [flat_len2, List.length_set]; exact hq), List.getElem?_eq_none (by rw [List.length_set, List.length_set, flat_len2]; exact hq)]
section
variable {P : Program} {w : World} {M0 M : Mem} {N : Nat} {env : Env} {dst : Option Tmp} {ty : TypeId} {pos : String} {aft : Array Edge}
theorem VL_slot {ops : Array Oper} {l : List Oper} {Q : Post} {f : FuncId} {xs : Array Operand} {ats : Array TypeId} {vs : List Value} {b g c : Nat} {T : List Slt} {r : Int × List Int × Int} (pre : List Ob) (k : Nat) (hk : k < T.length) [hf : CalT P f] (hv : env.vals xs.toList = some vs)
    (hc : ∀ M', M.le M' → CallX P f vs M' (slOb b g c T.length (T.flatMap oneK) T[k].u T[k].who) (SlPost b g c T.length k (T.flatMap oneK) r)) (hkd : dstOk N dst = true) (hold : envB env pre.length = true)
    (h : ∀ u', NSh u' r.2.1.length → VL P w M0 N ops l ⟨M, pre ++ tabOb b g c (T.set k ⟨u', r.2.1, r.2.2⟩), env.put dst (.v (.int .i64 r.1))⟩ Q) :
    VL P w M0 N ops (⟨dst, .call ⟨.value (.func f), xs, ats⟩, ty, pos, aft, none⟩ :: l) ⟨M, pre ++ tabOb b g c T, env⟩ Q := by
  have hg0 : (pre ++ tabOb b g c T)[pre.length]? = some (.nblk (.pointer (some ⟨b, 0, none⟩)) 154 (tbC g T.length c)) := pre_get (pre := pre) (tab := tabOb b g c T) 0
  have hg1 : (pre ++ tabOb b g c T)[pre.length + 1]? = some (.nrow (.slice (some ⟨g, 0, none⟩) T.length c) 160 2 T.length (T.flatMap oneK)) := pre_get (pre := pre) (tab := tabOb b g c T) 1
  have hgw : ∀ (T : List Slt) j (hj : j < T.length), (pre ++ tabOb b g c T)[pre.length + (j + 2)]? = some (whoOb T[j]) := fun T j hj => by
    rw [pre_get]
    show (T.map whoOb)[j]? = _
    rw [List.getElem?_map, List.getElem?_eq_getElem hj]; rfl
  have hlen : ∀ T : List Slt, (pre ++ tabOb b g c T).length = pre.length + (T.length + 2) := fun T => by rw [List.length_append, tabOb_len]
  refine VL_callX (own1 := slOb b g c T.length (T.flatMap oneK) T[k].u T[k].who) [pre.length, pre.length + 1, pre.length + (k + 2)] hv (by simp [nodupB, beq_no (show pre.length ≠ pre.length + 1 by omega), beq_no (show pre.length ≠ pre.length + (k + 2) by omega), beq_no (show pre.length + 1 ≠ pre.length + (k + 2) by omega)]) ⟨hg0, hg1, hgw T k hk, trivial⟩ hc hkd (envB_mono (by rw [hlen]; omega) hold) ?_
  rintro _ _ ⟨rfl, u', h1, rfl⟩
  have hL : (goneAt [pre.length, pre.length + 1, pre.length + (k + 2)] (pre ++ tabOb b g c T)).length = pre.length + (T.length + 2) := by rw [len_goneAt, hlen]
  refine VL_re (fun i => if i < pre.length then i else if i = pre.length then pre.length + (T.length + 2) else if i = pre.length + 1 then pre.length + (T.length + 2) + 1 else if i = pre.length + (k + 2) then pre.length + (T.length + 2) + 2 else i) pre.length (own' := pre ++ tabOb b g c (T.set k ⟨u', r.2.1, r.2.2⟩)) (fun i o hi => ?_) (fun i j hi hj he => ?_) (fun i hi => by simp [hi]) (envB_putv hold) (h u' h1)
  · try dsimp only
    by_cases c1 : i < pre.length
    · rw [if_pos c1, List.getElem?_append_left (by omega), goneAt_ne _ _ _ (by simp; omega), List.getElem?_append_left c1]
      rwa [List.getElem?_append_left c1] at hi
    rw [if_neg c1]
    by_cases c2 : i = pre.length
    · subst c2
      rw [if_pos rfl, ← hL, List.getElem?_append_right (Nat.le_refl _), Nat.sub_self]
      have := pre_get (pre := pre) (tab := tabOb b g c (T.set k ⟨u', r.2.1, r.2.2⟩)) 0
      rw [Nat.add_zero] at this
      rw [this] at hi
      rw [← hi]
      show some (Ob.nblk _ _ (tbC g T.length c)) = some (Ob.nblk _ _ (tbC g (T.set k _).length c))
      rw [List.length_set]
    rw [if_neg c2]
    by_cases c3 : i = pre.length + 1
    · subst c3
      rw [if_pos rfl, ← hL, List.getElem?_append_right (by omega), Nat.add_sub_cancel_left]
      rw [pre_get] at hi
      rw [← hi]
      show some (Ob.nrow (.slice _ T.length c) _ 2 T.length _) = some (Ob.nrow (.slice _ (T.set k _).length c) _ 2 (T.set k _).length ((T.set k _).flatMap oneK))
      rw [List.length_set, flat_set2 T hk]
    rw [if_neg c3]
    have hlt := (List.getElem?_eq_some_iff.1 hi).1
    rw [hlen, List.length_set] at hlt
    obtain ⟨j, rfl⟩ : ∃ j, i = pre.length + (j + 2) := ⟨i - pre.length - 2, by omega⟩
    have hj : j < T.length := by omega
    have hj2 : j < (T.set k ⟨u', r.2.1, r.2.2⟩).length := by rw [List.length_set]; exact hj
    rw [hgw _ j hj2, List.getElem_set] at hi
    by_cases c4 : j = k
    · subst c4
      rw [if_pos rfl, ← hL, List.getElem?_append_right (by omega), Nat.add_sub_cancel_left]
      rw [if_pos rfl] at hi
      rw [← hi]; rfl
    · rw [if_neg (by omega), List.getElem?_append_left (by omega), goneAt_ne _ _ _ (by simp; omega), hgw T j hj]
      rw [if_neg (by omega)] at hi
      exact hi
  · rw [hlen, List.length_set] at hi hj
    try dsimp only at he
    repeat' split at he
    all_goals omega
/-- What memory has of a table. -/
def TabM (M : Mem) (b : Nat) (T : List Slt) : Prop := ∃ g c, M.cell b 0 = some (.slice (some ⟨g, 0, none⟩) T.length c) ∧ SlM M 2 oneK (.slice (some ⟨g, 0, none⟩) T.length c) T ∧ ∀ s ∈ T, SlM M 1 latK s.u s.who
theorem tab_wd {hd : Nat → Value} {W : World} {pre : List Ob} {b g c : Nat} {T : List Slt} (h : Wd w M0 hd M (pre ++ tabOb b g c T) W) : TabM (Mem.of W) b T := by
  have h0 := h.own pre.length _ (pre_get (pre := pre) (tab := tabOb b g c T) 0)
  have h1 := h.own (pre.length + 1) _ (pre_get (pre := pre) (tab := tabOb b g c T) 1)
  refine ⟨g, c, ?_, ?_, fun s hs => ?_⟩
  · have := ob_cell h0 (off := 0) (u := .slice (some ⟨g, 0, none⟩) T.length c) rfl
    rw [h0.1] at this
    rw [Mem.of_cell]
    exact this
  · have h2 := h1.2
    rw [h1.1] at h2
    exact (ObOk.sl (base := w.heap.size) (e := 160) (n := T.length) (cs := T.flatMap oneK) T h2 rfl (fun _ _ => rfl) rfl).toM
  · obtain ⟨j, hj, rfl⟩ := List.getElem_of_mem hs
    have h3 := h.own (pre.length + (j + 2)) (whoOb T[j]) (by
      rw [pre_get]
      show (T.map whoOb)[j]? = _
      rw [List.getElem?_map, List.getElem?_eq_getElem hj]; rfl)
    have h4 := h3.2
    rw [h3.1] at h4
    exact (ic_sl h4).toM
end
/-- The own objects of a table alone, behind others. -/
theorem sub_drop : ∀ (own pre : List Ob), OwnSub own (List.range' pre.length own.length) (pre ++ own)
  | [], _ => trivial
  | o :: own, pre => by
    rw [List.length_cons, List.range'_succ]
    refine ⟨?_, ?_⟩
    · rw [List.getElem?_append_right (Nat.le_refl _), Nat.sub_self]; rfl
    · have := sub_drop own (pre ++ [o])
      rw [List.length_append, List.append_assoc] at this
      exact this
theorem nodupB_range : ∀ (n s : Nat), nodupB (List.range' s n) = true
  | 0, _ => rfl
  | n + 1, s => by
    rw [List.range'_succ]
    unfold nodupB
    have : (List.range' (s + 1) n).all (fun y => !Nat.beq s y) = true := List.all_eq_true.2 fun y hy => by
      have := List.mem_range'_1.1 hy
      rw [beq_no (by omega)]; rfl
    rw [this]
    exact nodupB_range n (s + 1)
theorem Sub.tab {M : Mem} {own pre : List Ob} {env env' : Env} (h : EnvSub (List.range' pre.length own.length) env' env) : Sub (List.range' pre.length own.length) ⟨M, pre ++ own, env⟩ ⟨M, own, env'⟩ := ⟨rfl, nodupB_range _ _, sub_drop own pre, h⟩
end Go.Proofs.Ytdgcdfngpimmmaa
