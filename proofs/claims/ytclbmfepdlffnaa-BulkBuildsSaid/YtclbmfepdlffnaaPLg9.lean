/- The logic's rules for quotients, remainders, products; a round of a loop. No program in sight. -/
import Derived.Test.YtclbmfepdlffnaaPLg7
import Derived.Test.YtclbmfepdlffnaaPLg4
namespace Go.Proofs.Ytclbmfepdlffnaa
open Go Go.RowKit
set_option linter.unusedVariables false
set_option maxRecDepth 20000
set_option linter.unusedSimpArgs false
section
variable {P : Program} {x y : Operand} {t : TypeId}
theorem B_quo {a b : Int} (ha : 0 ≤ a) (hb : 0 < b) (hm : a ≤ 9223372036854775807) : Bin P .quo t x y (.int .i64 a) (.int .i64 b) (.int .i64 (a / b)) := .mk fun W => by
  have h1 : 0 ≤ a / b := Int.ediv_nonneg ha (by omega)
  have h2 : a / b ≤ a := Int.ediv_le_self b ha
  have h3 : a.tdiv b = a / b := Int.tdiv_eq_ediv_of_nonneg ha
  have h4 : b ≠ 0 := by omega
  simp [go_sem, h3, h4, wrap64 (show -9223372036854775808 ≤ a / b by omega) (show a / b ≤ 9223372036854775807 by omega)]
theorem B_rem {a b : Int} (ha : 0 ≤ a) (hb : 0 < b) (hm : a ≤ 9223372036854775807) : Bin P .rem t x y (.int .i64 a) (.int .i64 b) (.int .i64 (a % b)) := .mk fun W => by
  have h1 : 0 ≤ a % b := Int.emod_nonneg a (by omega)
  have h2 : a % b ≤ a := by
    rcases Int.lt_or_le a b with h | h
    · rw [Int.emod_eq_of_lt ha h]; omega
    · have := Int.emod_lt_of_pos a hb; omega
  have h3 : a.tmod b = a % b := Int.tmod_eq_emod_of_nonneg ha
  have h4 : b ≠ 0 := by omega
  simp [go_sem, h3, h4, wrap64 (show -9223372036854775808 ≤ a % b by omega) (show a % b ≤ 9223372036854775807 by omega)]
end
section
variable {P : Program} {w : World} {M0 : Mem} {N : Nat}
/-- An own row behind a named one: the row that comes of it, by a name. -/
theorem EX_appendN {ops : Array Oper} {dst : Option Tmp} {ty : TypeId} {pos : String} {aft : Array Edge} {M : Mem} {own : List Ob} {env : Env} {x y : Operand} {t e e2 : TypeId} {i j k n m bytes : Nat} {xs news : List Value} {u : Value} (hx : env.op x = some (.v u)) (hy : env.op y = some (.r j)) (hi : own[i]? = some (.nrow u e k n xs)) (hj : own[j]? = some (.row e2 k m news)) [hE : EloT P t e k bytes] (hij : i ≠ j) (h0 : 0 < m) (h1 : (news.all (·.oneCell')) = true) (h63 : n + m ≤ maxLen) (hbytes : (n + m) * bytes ≤ 140737488355328) :
    EX P w M0 N ops ⟨dst, .call ⟨.builtin .append, #[x, y], #[t, t]⟩, ty, pos, aft, none⟩ ⟨M, own, env⟩ (Nat × Nat) (fun _ => M) (fun p => own.set i .gone ++ [.nrow (.slice (some ⟨p.1, 0, none⟩) (n + m) p.2) e k (n + m) (xs ++ news)]) (fun p => .v (.slice (some ⟨p.1, 0, none⟩) (n + m) p.2)) := ⟨fun hd a W hR => by
  rw [if_pos (by simp [Region.wanted])]
  have hil : i < own.length := (List.getElem?_eq_some_iff.1 hi).1
  have hO := hR.1.own i _ hi
  have hR1 : Wd w M0 hd M (own.set i (.row e k n xs)) W := hR.1.recast hi (by simp) hO.2
  have h1' := hR.2.eval hx
  have h2' := hR.2.eval hy
  simp only [SV.den] at h1' h2'
  have hFr := Fr.two (hd := hd) (a := .r i) (b := .r j) (u := u) (v := hd j) (by simp [SV.den, hO.1]) rfl
  have hef := (EF_append (P := P) (w := w) (M0 := M0) (N := 2) (dst := dst) (ty := ty) (pos := pos) (aft := aft) (g := none) (M := M) (own := own.set i (.row e k n xs)) (env := [(0, .r i), (1, .r j)]) (t := t) (x := .tmp 0) (y := .tmp 1) (i := i) (j := j) rfl rfl (List.getElem?_set_self hil) (by rw [List.getElem?_set_ne hij]; exact hj) h0 h1 h63 hbytes).go hd _ W ⟨hR1, hFr⟩
  have hex : (execOp a.eval ⟨dst, .call ⟨.builtin .append, #[x, y], #[t, t]⟩, ty, pos, aft, none⟩).run P W = (execOp (Act.eval ⟨#[u, hd j], []⟩) ⟨dst, .call ⟨.builtin .append, #[.tmp 0, .tmp 1], #[t, t]⟩, ty, pos, aft, none⟩).run P W := by
    rw [exec_append h1' h2', exec_append rfl rfl]
    rfl
  rw [hex]
  rw [List.set_set] at hef
  have key : ∀ z W', (∃ hd' : Nat → Value, (∀ q, q < (own.set i (.row e k n xs)).length → hd' q = hd q) ∧ Wd w M0 hd' M (own.set i .gone ++ [.row e k (n + m) (xs ++ news)]) W' ∧ z = SV.den hd' (.r (own.set i (.row e k n xs)).length)) → ∃ (p : Nat × Nat) (hd' : Nat → Value), (∀ q, q < own.length → hd' q = hd q) ∧ Wd w M0 hd' M (own.set i .gone ++ [.nrow (.slice (some ⟨p.1, 0, none⟩) (n + m) p.2) e k (n + m) (xs ++ news)]) W' ∧ z = SV.den hd' (.v (.slice (some ⟨p.1, 0, none⟩) (n + m) p.2)) := by
    rintro z W' ⟨hd', hag, hWd, hz⟩
    rw [List.length_set] at hag hz
    have hg : (own.set i .gone ++ [.row e k (n + m) (xs ++ news)])[own.length]? = some (.row e k (n + m) (xs ++ news)) := by
      rw [List.getElem?_append_right (by rw [List.length_set]; exact Nat.le_refl _), List.length_set, Nat.sub_self]; rfl
    have hob := hWd.own own.length _ hg
    obtain ⟨b, cap, hv⟩ := (row_shape hob).some (by omega)
    have hre := hWd.recast (o' := .nrow (hd' own.length) e k (n + m) (xs ++ news)) hg (by simp) ⟨rfl, hob⟩
    have hset : (own.set i .gone ++ [Ob.row e k (n + m) (xs ++ news)]).set own.length (.nrow (hd' own.length) e k (n + m) (xs ++ news)) = own.set i .gone ++ [.nrow (hd' own.length) e k (n + m) (xs ++ news)] := by
      rw [List.set_append_right _ _ (by rw [List.length_set]; exact Nat.le_refl _), List.length_set, Nat.sub_self]; rfl
    rw [hset, hv] at hre
    refine ⟨(b, cap), hd', hag, hre, ?_⟩
    rw [hz]
    exact hv
  generalize (execOp (Act.eval ⟨#[u, hd j], []⟩) ⟨dst, .call ⟨.builtin .append, #[.tmp 0, .tmp 1], #[t, t]⟩, ty, pos, aft, none⟩).run P W = r at hef ⊢
  cases r with
  | ok nx W' =>
    cases nx <;> simp only [EffRun] at hef ⊢
    case value z => exact key _ _ hef
    case skip => exact key _ _ hef
    case enter f args => exact hef.mono fun e W'' ⟨z, he, h⟩ => ⟨z, he, key _ _ h⟩
  | halt x w' => simp only [EffRun] at hef, fun p => by simp, fun p => rfl⟩
end
end Go.Proofs.Ytclbmfepdlffnaa
