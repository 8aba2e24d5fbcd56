/- The logic's rules: pointers held against nil and each other, a string appended to a row of bytes, unsafe strings, function values with captured variables. No program in sight. -/
import Derived.Test.YtdgcdfngpimmmaaPLg7
import Derived.Lib.AppendStr
import Derived.Lib.Builder
import Derived.Lib.UnsafeStr
namespace Go.Proofs.Ytdgcdfngpimmmaa
open Go Go.RowKit
set_option linter.unusedVariables false
set_option maxRecDepth 20000
set_option linter.unusedSimpArgs false
/-- Pointers to what has a size. -/
def ptrB (P : Program) (t te : TypeId) : Bool := (match P.underlying t with | some (.pointer e) => Nat.beq e te | _ => false) && (match P.info? te with | some i => !(Nat.beq i.size 0) | none => false)
class PtrT (P : Program) (t : TypeId) (te : outParam TypeId) : Prop where
  h : ptrB P t te = true
theorem PtrT.parts {P : Program} {t te : TypeId} [h : PtrT P t te] : P.underlying t = some (.pointer te) ∧ ∃ i, P.info? te = some i ∧ i.size ≠ 0 := by
  have h1 := h.h
  unfold ptrB at h1
  simp only [Bool.and_eq_true] at h1
  obtain ⟨h1, h2⟩ := h1
  split at h1
  · rename_i e hu
    obtain rfl := Nat.eq_of_beq_eq_true h1
    split at h2
    · rename_i i hi
      refine ⟨hu, i, hi, fun e => ?_⟩
      rw [e] at h2; cases h2
    · cases h2
  · cases h1
section
variable {P : Program} {t : TypeId} {x y : Operand}
theorem run_equalIn_nil (W : World) (d : Nat) {te : TypeId} (hp : P.underlying t = some (.pointer te)) (a : Option Addr) {i : TypeInfo} (hi : P.info? te = some i) : (Op.equalIn (d + 1) t (.pointer a) (.pointer none)).run P W = .ok a.isNone W := by
  cases a <;> simp [Op.equalIn, run_underlying hp, sizeOf, typeInfo, hi]
theorem B_pnil {te : TypeId} [h : PtrT P t te] {a : Option Addr} : Bin P .eql t x y (.pointer a) (.pointer none) (.bool a.isNone) := .mk fun W => by
  obtain ⟨hp, i, hi, _⟩ := h.parts
  have := run_equalIn_nil W 9999 hp a hi
  have h2 : (binOp .eql t (.pointer a) (.pointer none)).run P W = .ok (.bool a.isNone) W := by
    simp only [binOp]
    simp [Op.equal, Op.maxDepth, this]
  simp [go_sem, h2]
theorem B_pnnil {te : TypeId} [h : PtrT P t te] {a : Option Addr} : Bin P .neq t x y (.pointer a) (.pointer none) (.bool (!a.isNone)) := .mk fun W => by
  obtain ⟨hp, i, hi, _⟩ := h.parts
  have := run_equalIn_nil W 9999 hp a hi
  have h2 : (binOp .neq t (.pointer a) (.pointer none)).run P W = .ok (.bool (!a.isNone)) W := by
    simp only [binOp]
    simp [Op.equal, Op.maxDepth, this]
  simp [go_sem, h2]
end
/-- The element type of rows of bytes. -/
def u8B (P : Program) (e : TypeId) : Bool := match P.info? e with
  | some i => (match i.zero with | some (.int .u8 0) => true | _ => false) && Nat.beq i.size 1 && Nat.beq i.bytes 1
  | none => false
class U8T (P : Program) (e : TypeId) : Prop where
  h : u8B P e = true
theorem U8T.parts {P : Program} {e : TypeId} [h : U8T P e] : ∃ i, P.info? e = some i ∧ i.zero = some (.int .u8 0) ∧ i.size = 1 ∧ i.bytes = 1 := by
  have h1 := h.h
  unfold u8B at h1
  split at h1
  · rename_i i hi
    simp only [Bool.and_eq_true] at h1
    obtain ⟨⟨h1, h2⟩, h3⟩ := h1
    split at h1
    · rename_i hz
      exact ⟨i, hi, hz, Nat.eq_of_beq_eq_true h2, Nat.eq_of_beq_eq_true h3⟩
    · cases h1
  · cases h1
section
variable {P : Program} {w : World} {M0 : Mem} {N : Nat} {dst : Option Tmp} {ty : TypeId} {pos : String} {aft : Array Edge} {g : Option (Nat × Bool)} {M : Mem} {own : List Ob} {env : Env}
class CelT (P : Program) (e : TypeId) : Prop where
  h : P.cellsOf e = 1
/-- An own pointer as an unsafe one, and back. -/
def unsB (P : Program) (t : TypeId) : Bool := match P.underlying t with | some .unsafePointer => true | _ => false
class UnsT (P : Program) (t : TypeId) : Prop where
  h : unsB P t = true
theorem UnsT.u {P : Program} {t : TypeId} [h : UnsT P t] : P.underlying t = some .unsafePointer := by
  have h1 := h.h
  unfold unsB at h1
  split at h1
  · assumption
  · cases h1
class LieT (P : Program) (t : TypeId) (n : outParam Nat) : Prop where
  h : liesAt P P.depth t (n / P.cellsOf t) 0 t 1 = true
/-- internal/abi.NoEscape. -/
class NoeT (P : Program) (f : FuncId) : Prop where
  h : ∀ (args : Array Value) (W : World), (callFunc f args).run P W = ((Extern.AbiNoEscape.same args).run P W).andThen fun v w' => .ok (.value v) w'
/-- A function literal with its captured variables. -/
theorem QS_mkf {f : FuncId} {xs : Array Operand} {vs : List Value} {s : St} (hv : s.env.vals xs.toList = some vs) : QS P w M0 N ⟨dst, .makeFunc (.func f) #[] xs, ty, pos, aft, g⟩ s (.v (.func (.func f) #[] vs.toArray)) := QS_run fun hd A W hR => by
  have h1 := Env.vals_eval hR.2 _ _ hv
  have h2 : xs.map A.eval = vs.toArray := by rw [← h1]; cases xs; simp
  simp only [execOp, Instr.makeFunc, h2]
  simp
  rfl
end
end Go.Proofs.Ytdgcdfngpimmmaa
