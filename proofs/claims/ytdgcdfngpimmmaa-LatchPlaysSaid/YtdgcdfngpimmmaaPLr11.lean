/- What a slot's and the list's walks leave, one case each. -/
import Derived.Test.YtdgcdfngpimmmaaPLr10
namespace Go.Proofs.Ytdgcdfngpimmmaa
open Go Go.RowKit
attribute [local irreducible] Calls
set_option linter.unusedVariables false
set_option maxRecDepth 20000
set_option linter.unusedSimpArgs false
theorem slX {b g c n k : Nat} {T : List Slt} (hk : k < T.length) {r : Int × List Int × Int} {v : Value} {own' : List Ob} (h : SlPost b g c n k (T.flatMap oneK) r v own') : ∃ u', NSh u' r.2.1.length ∧ v = .int .i64 r.1 ∧ own' = slOb b g c n ((T.set k ⟨u', r.2.1, r.2.2⟩).flatMap oneK) u' r.2.1 := by
  obtain ⟨rfl, u', hu, rfl⟩ := h
  exact ⟨u', hu, rfl, by rw [flat_set2 T hk ⟨u', r.2.1, r.2.2⟩]⟩
theorem slI {b g c n k : Nat} {T : List Slt} (hk : k < T.length) {r : Int × List Int × Int} {p : {x : Value × List Ob // SlPost b g c n k (T.flatMap oneK) r x.1 x.2} → Prop} (h : ∀ u', NSh u' r.2.1.length → ∀ hx, p ⟨(.int .i64 r.1, slOb b g c n ((T.set k ⟨u', r.2.1, r.2.2⟩).flatMap oneK) u' r.2.1), hx⟩) : ∀ x, p x := by
  rintro ⟨⟨v, own'⟩, hx⟩
  obtain ⟨u', hu, e1, e2⟩ := slX hk hx
  simp only at e1 e2
  subst e1 e2
  exact h u' hu hx
theorem slV {b g c n k : Nat} {T : List Slt} (hk : k < T.length) {r : Int × List Int × Int} {p : Value → List Ob → Prop} (h : ∀ u', NSh u' r.2.1.length → p (.int .i64 r.1) (slOb b g c n ((T.set k ⟨u', r.2.1, r.2.2⟩).flatMap oneK) u' r.2.1)) (v : Value) (own' : List Ob) (hp : SlPost b g c n k (T.flatMap oneK) r v own') : p v own' := by
  obtain ⟨u', hu, rfl, rfl⟩ := slX hk hp
  exact h u' hu
theorem rfV {b : Nat} {N : Int} {r : Int × List Hld} {p : Value → List Ob → Prop} (h : ∀ u', NSh u' r.2.length → p (.int .i64 r.1) (rfOb b N u' r.2)) (v : Value) (own' : List Ob) (hp : RfPost b N r v own') : p v own' := by
  obtain ⟨rfl, u', hu, rfl⟩ := hp
  exact h u' hu
theorem rfI {b : Nat} {N : Int} {r : Int × List Hld} {p : {x : Value × List Ob // RfPost b N r x.1 x.2} → Prop} (h : ∀ u', NSh u' r.2.length → ∀ hx, p ⟨(.int .i64 r.1, rfOb b N u' r.2), hx⟩) : ∀ x, p x := by
  rintro ⟨⟨v, own'⟩, hx⟩
  obtain ⟨e1, u', hu, e2⟩ := id hx
  simp only at e1 e2
  subst e1 e2
  exact h u' hu hx
theorem eqV {v0 : Value} {o0 : List Ob} {p : Value → List Ob → Prop} (h : p v0 o0) (v : Value) (own' : List Ob) (hp : v = v0 ∧ own' = o0) : p v own' := by
  obtain ⟨rfl, rfl⟩ := hp
  exact h
theorem eqI {v0 : Value} {o0 : List Ob} {p : {x : Value × List Ob // x.1 = v0 ∧ x.2 = o0} → Prop} (h : ∀ hx, p ⟨(v0, o0), hx⟩) : ∀ x, p x := by
  rintro ⟨⟨v, own'⟩, hx⟩
  obtain ⟨e1, e2⟩ := id hx
  simp only at e1 e2
  subst e1 e2
  exact h hx
theorem qeqV {P : Program} {w : World} {M0 : Mem} {N : Nat} {s : St} {dst : Option Tmp} {ty : TypeId} {pos : String} {aft : Array Edge} {g : Option (Nat × Bool)} {t t2 : TypeId} {x y : Operand} {k : IntKind} {a b : Int} {q : Bool} (hx : s.env.op x = some (.v (.int k a))) (hy : s.env.op y = some (.v (.int k b))) (h : (a == b) = q) : QS P w M0 N ⟨dst, .binOp .eql t x y t2, ty, pos, aft, g⟩ s (.v (.bool q)) := by
  subst h
  exact QS_bin hx hy B_eql
theorem takeL_len (N : Int) (L : List Hld) (th sl : Int) (wr : Bool) : (takeL N L th sl wr).2.length ≤ L.length + 1 := by
  unfold takeL
  split
  · exact Nat.le_succ _
  · split
    · exact Nat.le_succ _
    · simp
theorem rl_one (t : Int) (who : List Int) (how : Int) : (rlR t who how).1 = if t ∈ who then 0 else 8 := by
  unfold rlR
  split <;> rfl
theorem sub_env {M : Mem} {own : List Ob} {env env' : Env} (h : EnvSub (List.range' 0 own.length) env' env) : Sub (List.range' 0 own.length) ⟨M, own, env⟩ ⟨M, own, env'⟩ := Sub.tab (pre := []) h
theorem RL.releaseO {N : Nat} {T : List Slt} {L : List Hld} (h : RL N T L) {sl : Int} (hs : sl < 0 ∨ (T.length : Int) ≤ sl) (th : Int) : L.filter (keepW th sl false) = L := by
  refine List.filter_eq_self.2 fun x hx => ?_
  obtain ⟨i, s, h1, h2, _⟩ := (h.mem x).1 hx
  have hi := (List.getElem?_eq_some_iff.1 h1).1
  have hne : x.slot ≠ sl := by omega
  unfold keepW
  simp [hne]
theorem sub_drop3 {M : Mem} {a b0 c0 rf0 rf1 : Ob} {tab tab' : List Ob} {env env' : Env} (h : EnvSub (0 :: (3 + tab.length + tab'.length) :: (3 + tab.length + tab'.length + 1) :: List.range' (3 + tab.length) tab'.length) env' env) : Sub (0 :: (3 + tab.length + tab'.length) :: (3 + tab.length + tab'.length + 1) :: List.range' (3 + tab.length) tab'.length) ⟨M, goneAt [1, 2] (goneAt (List.range' 3 tab.length) ([a, b0, c0] ++ tab) ++ tab') ++ [rf0, rf1], env⟩ ⟨M, [a] ++ ([rf0, rf1] ++ tab'), env'⟩ := by
  have hl : (goneAt (List.range' 3 tab.length) ([a, b0, c0] ++ tab)).length = 3 + tab.length := by rw [len_goneAt, List.length_append]; rfl
  have hl2 : (goneAt [1, 2] (goneAt (List.range' 3 tab.length) ([a, b0, c0] ++ tab) ++ tab')).length = 3 + tab.length + tab'.length := by rw [len_goneAt, List.length_append, hl]
  refine ⟨rfl, nodupB_of ?_, ownsub_of (by simp) (fun i o hi => ?_), h⟩
  · rw [List.nodup_cons, List.nodup_cons, List.nodup_cons]
    refine ⟨?_, ?_, ?_, List.nodup_range'⟩
    · simp only [List.mem_cons, List.mem_range'_1]; omega
    · simp only [List.mem_cons, List.mem_range'_1]; omega
    · simp only [List.mem_range'_1]; omega
  · match i with
    | 0 =>
      show (_ : List Ob)[0]? = _
      rw [List.getElem?_append_left (by rw [hl2]; omega), goneAt_ne _ _ _ (by simp), List.getElem?_append_left (by rw [hl]; omega), goneAt_ne _ _ _ (by simp [List.mem_range'_1])]
      exact hi
    | 1 =>
      show (_ : List Ob)[3 + tab.length + tab'.length]? = _
      rw [List.getElem?_append_right (by rw [hl2]; omega), hl2, Nat.sub_self]
      exact hi
    | 2 =>
      show (_ : List Ob)[3 + tab.length + tab'.length + 1]? = _
      rw [List.getElem?_append_right (by rw [hl2]; omega), hl2, Nat.add_sub_cancel_left]
      exact hi
    | q + 3 =>
      have hi2 : tab'[q]? = some o := hi
      have hq := (List.getElem?_eq_some_iff.1 hi2).1
      show (_ : List Ob)[(List.range' (3 + tab.length) tab'.length).getD q 0]? = _
      rw [List.getD_eq_getElem?_getD, List.getElem?_range' hq]
      show (_ : List Ob)[3 + tab.length + 1 * q]? = _
      rw [List.getElem?_append_left (by rw [hl2]; omega), goneAt_ne _ _ _ (by simp; omega), List.getElem?_append_right (by rw [hl]; omega), hl]
      rw [show 3 + tab.length + 1 * q - (3 + tab.length) = q by omega]
      exact hi2
theorem VC_ownE {P : Program} {w : World} {M0 M : Mem} {N : Nat} {c : Code} {own own' : List Ob} {env : Env} {Q : Post} (e : own = own') (h : VC P w M0 N c ⟨M, own', env⟩ Q) : VC P w M0 N c ⟨M, own, env⟩ Q := e ▸ h
theorem dropI {b g c N : Nat} {T : List Slt} {th : Int} {p : {x : Value × List Ob // DropPost b g c N T th x.1 x.2} → Prop} (h : ∀ T' : List Slt, T'.length = T.length → (∀ s ∈ T', SOk N s) → (∀ (k : Nat) (s s' : Slt), T[k]? = some s → T'[k]? = some s' → (s'.who, s'.how) = (rlR th s.who s.how).2) → ∀ hx, p ⟨(.int .i64 ((pickL (fun h => h.thread == th) T).length : Nat), tabOb b g c T'), hx⟩) : ∀ x, p x := by
  rintro ⟨⟨v, own'⟩, hx⟩
  obtain ⟨e1, T', e2, h1, h2, h3⟩ := id hx
  simp only at e1 e2
  subst e1 e2
  exact h T' h1 h2 h3 hx
theorem own12 {a b0 c0 : Ob} {tab tab' : List Ob} : OwnSub [b0, c0] [1, 2] (goneAt (List.range' 3 tab.length) ([a, b0, c0] ++ tab) ++ tab') := by
  have hl : (goneAt (List.range' 3 tab.length) ([a, b0, c0] ++ tab)).length = 3 + tab.length := by rw [len_goneAt, List.length_append]; rfl
  refine ⟨?_, ?_, trivial⟩
  · rw [List.getElem?_append_left (by rw [hl]; omega), goneAt_ne _ _ _ (by simp [List.mem_range'_1])]
    rfl
  · rw [List.getElem?_append_left (by rw [hl]; omega), goneAt_ne _ _ _ (by simp [List.mem_range'_1])]
    rfl
theorem le_gone {ρ : List Nat} {own ys : List Ob} : own.length ≤ (goneAt ρ own ++ ys).length := by
  rw [List.length_append, len_goneAt]; omega
end Go.Proofs.Ytdgcdfngpimmmaa
