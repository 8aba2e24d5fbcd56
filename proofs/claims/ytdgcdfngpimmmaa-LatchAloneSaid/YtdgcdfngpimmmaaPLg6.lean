/- The logic's rules: nil checks, stores into named blocks. No program in sight. -/
import Derived.Test.YtdgcdfngpimmmaaPLg5
namespace Go.Proofs.Ytdgcdfngpimmmaa
open Go Go.RowKit
set_option linter.unusedVariables false
set_option maxRecDepth 20000
set_option linter.unusedSimpArgs false
section
variable {P : Program} {w : World} {M0 : Mem} {N : Nat} {dst : Option Tmp} {ty : TypeId} {pos : String} {aft : Array Edge} {g : Option (Nat × Bool)} {s : St}
theorem qni {x : Operand} {a : Addr} (hx : s.env.op x = some (.v (.pointer (some a)))) : QS P w M0 N ⟨dst, .nilCheck x, ty, pos, aft, g⟩ s (.v (.pointer (some a))) := QS_run fun hd a W hR => by
  have h1 := hR.2.eval hx
  simp only [SV.den] at h1
  simp only [execOp, h1]
  rfl
end
section
variable {P : Program} {w : World} {M0 : Mem} {N : Nat} {dst : Option Tmp} {ty : TypeId} {pos : String} {aft : Array Edge} {ops : Array Oper} {l : List Oper} {Q : Post} {M : Mem} {own : List Ob} {env : Env}
end
end Go.Proofs.Ytdgcdfngpimmmaa
