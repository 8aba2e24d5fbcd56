/- An eye reads a node: the plain functions, the contracts by one state. -/
import Derived.Test.YtlapnbklbpeddaaGreatPIm4
import Derived.Test.YtlapnbklbpeddaaGreatPNd6
namespace Go.Proofs.YtlapnbklbpeddaaGreat
open Go Go.RowKit
attribute [local irreducible] Calls
set_option linter.unusedVariables false
set_option maxRecDepth 20000
set_option linter.unusedSimpArgs false
set_option maxHeartbeats 4000000
section
variable {P : Program} {w : World} {M0 M : Mem} {N : Nat} {hd : Nat → Value} {own : List Ob} {env : Env} {W : World}
/-- A call that is handed named objects, as one of some effects. -/
theorem EX_callX {ops : Array Oper} {dst : Option Tmp} {ty : TypeId} {pos : String} {aft : Array Edge} {f : FuncId} {xs : Array Operand} {ats : Array TypeId} {vs : List Value} {own1 : List Ob} {Post : Value → List Ob → Prop} (ρ : List Nat) [hf : CalT P f] (hv : env.vals xs.toList = some vs) (hnd : nodupB ρ = true) (hsub : OwnSub own1 ρ own) (hc : ∀ M', M.le M' → CallX P f vs M' own1 Post) :
    EX P w M0 N ops ⟨dst, .call ⟨.value (.func f), xs, ats⟩, ty, pos, aft, none⟩ ⟨M, own, env⟩ {x : Value × List Ob // Post x.1 x.2} (fun _ => M) (fun x => goneAt ρ own ++ x.1.2) (fun x => .v x.1.1) := ⟨fun hd a W hR => by
  rw [if_pos (by simp [Region.wanted])]
  rw [exec_call (s := ⟨M, own, env⟩) hR.2 hf.h hv]
  simp only [EffRun]
  obtain ⟨M', h1, h2, h3⟩ := lend_wd hR.1 hnd hsub
  refine (hc M' h1 w M0 _ W h2).mono fun e W' ⟨v, hd', own', he, hWd, hp⟩ => ⟨v, he, ⟨⟨v, own'⟩, hp⟩, _, fun i hi => ?_, h3 hd' own' W' hWd, rfl⟩
  show (if i < own.length then hd i else hd' (i - own.length)) = hd i
  rw [if_pos hi], fun x => by show own.length ≤ (goneAt ρ own ++ x.1.2).length; rw [List.length_append, len_goneAt]; omega, fun _ => rfl⟩
theorem B_subw {P : Program} {t : TypeId} {x y : Operand} {a b : Int} : Bin P .sub t x y (.int .i64 a) (.int .i64 b) (.int .i64 (IntKind.i64.wrap (a - b))) := .mk fun W => by simp [go_sem]
end
abbrev Ey := ByteArray × Bool
abbrev eO (b : Nat) (e : Ey) : Ob := .nblk (eyP b) 78 (eyC e.1 e.2)
def eN (e : Ey) : Int × Ey := (numV (bl (tkV e.1 8)), (tkS e.1 8, tkK e.1 e.2 8))
def eF (e : Ey) : Bool × Ey := (fgV e.1, (tkS e.1 1, tkK e.1 e.2 1))
def eT (e : Ey) : ByteArray × Ey := ((takeT e.1).1, ((takeT e.1).2.1, e.2 && (takeT e.1).2.2))
def eC (e : Ey) : Nat × Ey := (ctV e.1, (ctS e.1, ctK e.1 e.2))
/-- n things, one behind the other. -/
def eR {α : Type} (f : Ey → α × Ey) : Nat → Ey → List α × Ey
  | 0, e => ([], e)
  | n + 1, e => ((f e).1 :: (eR f n (f e).2).1, (eR f n (f e).2).2)
def eM (e : Ey) : Msg × Ey :=
  let a := eN e; let b := eN a.2; let c := eT b.2; let d := eF c.2; let h := eT d.2; let v := eT h.2
  (⟨a.1, b.1, c.1, h.1, d.1, v.1⟩, v.2)
def eP (e : Ey) : Pair × Ey := let a := eT e; let b := eT a.2; (⟨a.1, b.1⟩, b.2)
theorem size_tkS (s : ByteArray) (n : Nat) : (tkS s n).size ≤ s.size := by
  unfold tkS
  split
  · exact Nat.zero_le _
  · exact size_ext _ _ _
theorem eN_sz (e : Ey) : (eN e).2.1.size ≤ e.1.size := size_tkS _ _
theorem eF_sz (e : Ey) : (eF e).2.1.size ≤ e.1.size := size_tkS _ _
theorem eT_sz (e : Ey) : (eT e).2.1.size ≤ e.1.size := size_tk2 (Nat.le_refl _)
theorem eC_sz (e : Ey) : (eC e).2.1.size ≤ e.1.size := by
  show (ctS e.1).size ≤ _
  unfold ctS
  split
  · exact Nat.zero_le _
  · exact size_tkS _ _
theorem eC_le (e : Ey) : (eC e).1 ≤ e.1.size := by
  show ctV e.1 ≤ _
  have h := size_tkS e.1 8
  unfold ctV
  split
  · exact Nat.zero_le _
  · rename_i hc
    unfold ctB at hc
    rw [Bool.or_eq_true, not_or, decide_eq_true_iff, decide_eq_true_iff] at hc
    omega
theorem eM_sz (e : Ey) : (eM e).2.1.size ≤ e.1.size :=
  Nat.le_trans (eT_sz _) (Nat.le_trans (eT_sz _) (Nat.le_trans (eF_sz _) (Nat.le_trans (eT_sz _) (Nat.le_trans (eN_sz _) (eN_sz _)))))
theorem eP_sz (e : Ey) : (eP e).2.1.size ≤ e.1.size := Nat.le_trans (eT_sz _) (eT_sz _)
theorem eR_len {α : Type} (f : Ey → α × Ey) : ∀ (n : Nat) (e : Ey), (eR f n e).1.length = n
  | 0, _ => rfl
  | n + 1, e => by show (_ :: _).length = _; rw [List.length_cons, eR_len f n]
theorem eR_sz {α : Type} {f : Ey → α × Ey} (hf : ∀ e, (f e).2.1.size ≤ e.1.size) : ∀ (n : Nat) (e : Ey), (eR f n e).2.1.size ≤ e.1.size
  | 0, _ => Nat.le_refl _
  | n + 1, e => Nat.le_trans (eR_sz hf n _) (hf e)
theorem eR_snoc {α : Type} (f : Ey → α × Ey) : ∀ (n : Nat) (e : Ey), eR f (n + 1) e = ((eR f n e).1 ++ [(f (eR f n e).2).1], (f (eR f n e).2).2)
  | 0, _ => rfl
  | n + 1, e => by
    show ((f e).1 :: (eR f (n + 1) (f e).2).1, (eR f (n + 1) (f e).2).2) = _
    rw [eR_snoc f n (f e).2]
    rfl
theorem eyeN (b : Nat) (e : Ey) (M : Mem) : CallX Tryz.prog 29 [eyP b] M [eO b e] (fun v own' => v = .int .i64 (eN e).1 ∧ own' = [eO b (eN e).2]) := eye_num b e.1 e.2 M
theorem eyeF (b : Nat) (e : Ey) (M : Mem) : CallX Tryz.prog 59 [eyP b] M [eO b e] (fun v own' => v = .bool (eF e).1 ∧ own' = [eO b (eF e).2]) := eye_flag b e.1 e.2 M
theorem eyeT (b : Nat) (e : Ey) (M : Mem) (hs : e.1.size ≤ 100000000) : CallX Tryz.prog 60 [eyP b] M [eO b e] (fun v own' => v = .string (eT e).1 ∧ own' = [eO b (eT e).2]) := eye_text b e.1 e.2 M hs
theorem eyeC (b : Nat) (e : Ey) (M : Mem) : CallX Tryz.prog 30 [eyP b] M [eO b e] (fun v own' => v = .int .i64 ((eC e).1 : Nat) ∧ own' = [eO b (eC e).2]) := eye_count b e.1 e.2 M
end Go.Proofs.YtlapnbklbpeddaaGreat
