/- The logic's rules: rows of nil by name, rows that a function yields and nobody writes any more. No program in sight. -/
import Derived.Test.YtdgcdfngpimmmaaPLg6
namespace Go.Proofs.Ytdgcdfngpimmmaa
open Go Go.RowKit
set_option linter.unusedVariables false
set_option maxRecDepth 20000
set_option linter.unusedSimpArgs false
section
variable {P : Program} {w : World} {M0 : Mem} {N : Nat} {M : Mem} {own : List Ob} {env : Env}
end
/-- A smaller state within a region. -/
theorem VL_sub {P : Program} {w : World} {M0 : Mem} {N : Nat} {ops : Array Oper} {l : List Oper} {s : St} {Q : Post} (ρ : List Nat) (s' : St) (h : Sub ρ s s') (hv : VL P w M0 N ops l s' Q) : VL P w M0 N ops l s Q := .mk fun hd a W hR => hv.go _ a W (h.rel hR)
/-- A value, told by what it is known to be. -/
theorem QS_is {P : Program} {w : World} {M0 : Mem} {N : Nat} {o : Oper} {s : St} {u v : Value} (he : u = v) (h : QS P w M0 N o s (.v u)) : QS P w M0 N o s (.v v) := he ▸ h
theorem NSh.some {v : Value} {n : Nat} (h : NSh v n) (hn : 0 < n) : ∃ b cap, v = .slice (some ⟨b, 0, none⟩) n cap := by
  rcases h with ⟨_, h⟩ | ⟨b, cap, h, _⟩
  · omega
  · exact ⟨b, cap, h⟩
end Go.Proofs.Ytdgcdfngpimmmaa
