/- The logic's rules for strings as bytes: index, cut, []byte(s), string(row). No program in sight. -/
import Derived.Test.YtdgcdfngpimmmaaPLg4
import Derived.Laws.Strings3
import Derived.Laws.Strings
import Derived.Laws.IdiomStrings
namespace Go.Proofs.Ytdgcdfngpimmmaa
open Go Go.RowKit
set_option linter.unusedVariables false
set_option maxRecDepth 20000
set_option linter.unusedSimpArgs false
section
variable {P : Program} {w : World} {M0 : Mem} {N : Nat} {dst : Option Tmp} {ty : TypeId} {pos : String} {aft : Array Edge} {g : Option (Nat × Bool)} {s : St}
/-- 'string(b)' of an own row of bytes. -/
class ByteT (P : Program) (t : TypeId) (e : outParam TypeId) : Prop where
  h : P.underlying t = some (.slice e)
  he : P.underlying e = some (.int .u8)
def byteB (P : Program) (t e : TypeId) : Bool := (match P.underlying t with | some (.slice e') => Nat.beq e' e | _ => false) && (match P.underlying e with | some (.int .u8) => true | _ => false)
theorem ByteT.mk' {t e : TypeId} (h : byteB P t e = true) : ByteT P t e := by
  unfold byteB at h
  simp only [Bool.and_eq_true] at h
  obtain ⟨h1, h2⟩ := h
  split at h1
  · rename_i e' hu
    obtain rfl := Nat.eq_of_beq_eq_true h1
    split at h2
    · rename_i hv; exact ⟨hu, hv⟩
    · cases h2
  · cases h1
/-- A struct put together, its fields of any size. -/
def placesB (P : Program) (t : TypeId) (pl : List (Nat × Nat)) : Bool := match P.underlying t with
  | some (.struct fs) => Nat.beq fs.toList.length pl.length && (fs.toList.zip pl).all fun x => Nat.beq x.1.offset x.2.1 && sizeB P x.1.type x.2.2
  | _ => false
class PlcT (P : Program) (t : TypeId) (pl : outParam (List (Nat × Nat))) : Prop where
  h : placesB P t pl = true
end
section
variable {P : Program} {w : World} {M0 : Mem} {N : Nat} {dst : Option Tmp} {ty : TypeId} {pos : String} {aft : Array Edge} {ops : Array Oper} {l : List Oper} {Q : Post} {M : Mem} {own : List Ob} {env : Env}
end
section
variable {P : Program} {w : World} {M0 : Mem} {N : Nat} {dst : Option Tmp} {ty : TypeId} {pos : String} {aft : Array Edge} {g : Option (Nat × Bool)} {s : St}
end
end Go.Proofs.Ytdgcdfngpimmmaa
