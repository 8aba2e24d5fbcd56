/- The logic's rules: nil checks, stores into named blocks. No program in sight. -/
import Derived.Test.YtdgcdfngpimmmaaPLg5
namespace Go.Proofs.Ytdgcdfngpimmmaa
open Go Go.RowKit
set_option linter.unusedVariables false
set_option maxRecDepth 20000
set_option linter.unusedSimpArgs false
section
variable {P : Program} {w : World} {M0 : Mem} {N : Nat} {dst : Option Tmp} {ty : TypeId} {pos : String} {aft : Array Edge} {g : Option (Nat × Bool)} {s : St}
theorem qni {x : Operand} {a : Addr} (hx : s.env.op x = some (.v (.pointer (some a)))) : QS P w M0 N ⟨dst, .nilCheck x, ty, pos, aft, g⟩ s (.v (.pointer (some a))) := QS_run fun hd a W hR => by
  have h1 := hR.2.eval hx
  simp only [SV.den] at h1
  simp only [execOp, h1]
  rfl
end
section
variable {P : Program} {w : World} {M0 : Mem} {N : Nat} {dst : Option Tmp} {ty : TypeId} {pos : String} {aft : Array Edge} {ops : Array Oper} {l : List Oper} {Q : Post} {M : Mem} {own : List Ob} {env : Env}
/-- A store into a named block. -/
theorem knb {t t' : TypeId} {x y : Operand} {b off : Nat} {u0 u : Value} {cs : List Value} [ht : SizT P t 1] (i : Nat) (h : VL P w M0 N ops l ⟨M, own.set i (.nblk u0 t' (cs.set off u)), env.put dst (.v undef)⟩ Q) (hx : env.op x = some (.v (.pointer (some ⟨b, off, none⟩))) := by rfl) (hy : env.op y = some (.v u) := by rfl) (hi : own[i]? = some (.nblk u0 t' cs) := by rfl) (hf : foot u0 = some b := by rfl) (hoff : Nat.blt off cs.length = true := by rfl) (hu : u.oneCell' = true := by rfl)
    (hk : dstOk N dst = true := by rfl) (hold : envB env own.length = true := by rfl) : VL P w M0 N ops (⟨dst, .store t x y, ty, pos, aft, none⟩ :: l) ⟨M, own, env⟩ Q := VL_e _ _ (EF_st (ES_nblk1 i hx hy hi hf hoff hu) (by simp)) hk hold h
end
end Go.Proofs.Ytdgcdfngpimmmaa
