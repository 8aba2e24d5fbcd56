/- The logic's rules: rows of nil by name, rows that a function yields and nobody writes any more. No program in sight. -/
import Derived.Test.YtclbmfepdlffnaaPLg6
namespace Go.Proofs.Ytclbmfepdlffnaa
open Go Go.RowKit
set_option linter.unusedVariables false
set_option maxRecDepth 20000
set_option linter.unusedSimpArgs false
section
variable {P : Program} {w : World} {M0 : Mem} {N : Nat} {M : Mem} {own : List Ob} {env : Env}
/-- A named row without elements, of nil. -/
theorem VC_nil0 {c : Code} {Q : Post} (e : TypeId) (k : Nat) (hold : envB env own.length = true) (h : VC P w M0 N c ⟨M, own ++ [.nrow (.slice none 0 0) e k 0 []], env⟩ Q) : VC P w M0 N c ⟨M, own, env⟩ Q := .mk fun hd a W hR => by
  have hadd := hR.1.add (o' := .nrow (.slice none 0 0) e k 0 []) (v' := .slice none 0 0) ⟨rfl, World.ownsRow_nil W _ e k⟩ (fun b hb => by cases hb)
  exact h.go _ a W ⟨hadd, env_new (own := own) hR.2 hold (.slice none 0 0)⟩
/-- A row that a function yields: nobody writes it any more. -/
theorem VC_frzQ {c : Code} {s : St} {R : St → Prop} (h : VC P w M0 N c s (finQ fun s => R s ∨ ∃ i e k n cs, s.own[i]? = some (.row e k n cs) ∧ ∀ u M', s.M.le M' → RowM M' k n cs u → R ⟨M', s.own.set i .gone, frzE i u s.env⟩)) : VC P w M0 N c s (finQ R) := .mk fun hd a W hR => by
  refine wp_mono (h.go hd a W hR) ?_
  rintro e a' W' ⟨hd', s', hR', hq⟩
  have key : (R s' ∨ ∃ i e k n cs, s'.own[i]? = some (.row e k n cs) ∧ ∀ u M', s'.M.le M' → RowM M' k n cs u → R ⟨M', s'.own.set i .gone, frzE i u s'.env⟩) → ∃ hd'' s'', Rel w M0 N hd'' s'' a' W' ∧ R s'' := by
    rintro (hr | ⟨i, e, k, n, cs, hi, hr⟩)
    · exact ⟨hd', s', hR', hr⟩
    · obtain ⟨M', h1, h2, h3⟩ := frozen_wd hR'.1 hi
      exact ⟨hd', _, ⟨h3, frz_fr hR'.2⟩, hr _ _ h1 h2⟩
  cases e with
  | ret => exact key hq
  | normal => exact key hq
  | exit id => exact hq.elim
  | goto l => exact hq.elim
  | panic c => exact hq.elim
  | outgrown => exact hq.elim
end
/-- A value, told by what it is known to be. -/
theorem QS_is {P : Program} {w : World} {M0 : Mem} {N : Nat} {o : Oper} {s : St} {u v : Value} (he : u = v) (h : QS P w M0 N o s (.v u)) : QS P w M0 N o s (.v v) := he ▸ h
theorem NSh.some {v : Value} {n : Nat} (h : NSh v n) (hn : 0 < n) : ∃ b cap, v = .slice (some ⟨b, 0, none⟩) n cap := by
  rcases h with ⟨_, h⟩ | ⟨b, cap, h, _⟩
  · omega
  · exact ⟨b, cap, h⟩
end Go.Proofs.Ytclbmfepdlffnaa
