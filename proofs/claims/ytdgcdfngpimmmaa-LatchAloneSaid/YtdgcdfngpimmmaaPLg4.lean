/- The logic's rule for drawn regions whose effects yield what is known by a name alone: named rows, memory that a call has laid. No program in sight. -/
import Derived.Test.YtdgcdfngpimmmaaPLg3
namespace Go.Proofs.Ytdgcdfngpimmmaa
open Go Go.RowKit
set_option linter.unusedVariables false
set_option maxRecDepth 20000
set_option linter.unusedSimpArgs false
section
variable {P : Program} {w : World} {M0 : Mem} {N : Nat}
/-- An effect whose result is one of a family. -/
structure EX (P : Program) (w : World) (M0 : Mem) (N : Nat) (ops : Array Oper) (o : Oper) (s : St) (ι : Type) (M' : ι → Mem) (own' : ι → List Ob) (sv : ι → SV) : Prop where
  go : ∀ hd a W, Rel w M0 N hd s a W → if Region.wanted o (yielded ops a.tmps) = true then EffRun P (fun u W' => ∃ (x : ι) (hd' : Nat → Value), (∀ i, i < s.own.length → hd' i = hd i) ∧ Wd w M0 hd' (M' x) (own' x) W' ∧ u = (sv x).den hd') ((execOp a.eval o).run P W)
    else ∃ (x : ι) (hd' : Nat → Value), (∀ i, i < s.own.length → hd' i = hd i) ∧ Wd w M0 hd' (M' x) (own' x) W ∧ undef = (sv x).den hd'
  len : ∀ x, s.own.length ≤ (own' x).length
  ok : ∀ x, (sv x).okB (own' x).length = true
/-- The effects, in every order in which they may come. -/
def VF (P : Program) (w : World) (M0 : Mem) (N : Nat) (gs : List Nat) (n0 : Nat) (l : List Oper) : Nat → List Nat → St → (St → Prop) → Prop
  | 0, rem, s, Q => rem = [] → Q s
  | n + 1, rem, s, Q => (rem = [] → Q s) ∧ ∀ i ∈ rem.filter (rdy l rem), ∀ o, l[i]? = some o → ∃ (ι : Type) (M' : ι → Mem) (own' : ι → List Ob) (sv : ι → SV), EX P w M0 N l.toArray o s ι M' own' sv ∧ dstOk N o.dst = true ∧ ∀ x, s.M.le (M' x) ∧ (goneAt gs (own' x)).take n0 = (goneAt gs s.own).take n0 ∧ VF P w M0 N gs n0 l n (rem.erase i) ⟨M' x, own' x, s.env.put o.dst (sv x)⟩ Q
theorem VF.fin {gs : List Nat} {n0 : Nat} {l : List Oper} {s : St} {Q : St → Prop} : ∀ {n : Nat}, VF P w M0 N gs n0 l n [] s Q → Q s
  | 0, h => h rfl
  | n + 1, h => h.1 rfl
structure VFs (P : Program) (w : World) (M0 : Mem) (N : Nat) (gs : List Nat) (n0 : Nat) (l : List Oper) (n : Nat) (rem ks : List Nat) (s : St) (Q : St → Prop) : Prop where
  go : ∀ i ∈ ks, ∀ o, l[i]? = some o → ∃ (ι : Type) (M' : ι → Mem) (own' : ι → List Ob) (sv : ι → SV), EX P w M0 N l.toArray o s ι M' own' sv ∧ dstOk N o.dst = true ∧ ∀ x, s.M.le (M' x) ∧ (goneAt gs (own' x)).take n0 = (goneAt gs s.own).take n0 ∧ VF P w M0 N gs n0 l n (rem.erase i) ⟨M' x, own' x, s.env.put o.dst (sv x)⟩ Q
section
variable {ops : Array Oper} {es : List Nat} {k : Nat} {l : List Oper} {M : Mem} {own : List Ob} {env : Env} {K : Env → Prop}
end
end
end Go.Proofs.Ytdgcdfngpimmmaa
