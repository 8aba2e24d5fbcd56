/- Has of the table is Has of the list. -/
import Derived.Test.YtdgcdfngpimmmaaPLr9
namespace Go.Proofs.Ytdgcdfngpimmmaa
open Go Go.RowKit
attribute [local irreducible] Calls
set_option linter.unusedVariables false
set_option maxRecDepth 20000
set_option linter.unusedSimpArgs false
theorem has_tab {N : Nat} {T : List Slt} {L : List Hld} {M : Mem} {b : Nat} (h : RL N T L) (hT : TabM M b T) (hn : T.length ≤ 10000) (hN : N ≤ 10000) (th sl : Int) (w : World) (hM : M.le (Mem.of w)) :
    Calls Try.prog 48 #[.pointer (some ⟨b, 0, none⟩), .int .i64 th, .int .i64 sl] w fun e w' => e = .returned (.tuple #[.bool (hasL L th sl).1, .bool (hasL L th sl).2]) ∧ Below w.heap.size w w' := by
  obtain ⟨g, c, h0, h1, h2⟩ := hT
  by_cases hs : 0 ≤ sl ∧ sl < (T.length : Int)
  · obtain ⟨j, rfl⟩ : ∃ j : Nat, sl = (j : Int) := ⟨sl.toNat, by omega⟩
    have hj : j < T.length := by omega
    have hsj := h.ok T[j] (List.getElem_mem hj)
    have hi : inB (j : Int) T.length = true := by unfold inB; rw [decide_eq_true hs.1, decide_eq_true hs.2]; rfl
    have := latch_Has b T.length th (j : Int) T[j].who T[j].how w M hM ⟨g, c, h0, fun k hk hkl => by
      obtain rfl : j = k := by omega
      obtain ⟨b1, o1, e, hcs⟩ := h1.get hj
      injection e with e
      injection e with e1 e2
      subst e1 e2
      exact ⟨T[j].u, hcs 0 _ rfl, hcs 1 _ rfl, h2 _ (List.getElem_mem hj)⟩⟩ hsj.2.1 (by omega) (by have := hsj.2.2.1; omega)
    rw [hi, Bool.true_and, Bool.true_and] at this
    rw [h.has (List.getElem?_eq_getElem hj) th]
    exact this
  · have hso : sl < 0 ∨ (T.length : Int) ≤ sl := by omega
    have hi : inB sl T.length = false := by
      unfold inB
      rcases hso with hso | hso
      · rw [decide_eq_false (show ¬ (0 ≤ sl) by omega)]; rfl
      · rw [decide_eq_false (show ¬ (sl < (T.length : Int)) by omega), Bool.and_false]
    have := latch_Has b T.length th sl [] 0 w M hM ⟨g, c, h0, fun k hk hkl => by omega⟩ asc0 (by omega) (Nat.zero_le _)
    rw [hi, Bool.false_and, Bool.false_and] at this
    rw [h.hasO hso th]
    exact this
/-- A goal that the walk leaves alone. -/
structure Held (p : Prop) : Prop where
  out : p
theorem VC_cutH {P : Program} {w : World} {M0 : Mem} {N : Nat} {id : Nat} {ops : Array Oper} {n : Nat} {x y : Code} {s : St} {Q : Post} (R : St → Prop) (h1 : Held (VC P w M0 N (.seq (.region id ops false) (.block n x)) s (fun e s' => e = .normal ∧ R s'))) (h2 : ∀ s', R s' → VC P w M0 N y s' Q) : VC P w M0 N (.seq (.seq (.region id ops false) (.block n x)) y) s Q := VC_cut R h1.out h2
theorem VC_hold {P : Program} {w : World} {M0 : Mem} {N : Nat} {id : Nat} {ops : Array Oper} {s : St} {Q : Post} (h : Held (VC P w M0 N (.region id ops true) s Q)) : VC P w M0 N (.region id ops true) s Q := h.out
/-- An effect whose guard holds. -/
theorem VFs_y {P : Program} {w : World} {M0 : Mem} {N : Nat} {gs : List Nat} {n0 : Nat} {l : List Oper} {M : Mem} {own : List Ob} {env : Env} {Q : St → Prop} {n i : Nat} {rem ks : List Nat} {dst : Option Tmp} {op : Go.Op} {ty : TypeId} {pos : String} {aft : Array Edge} {j : Nat} {want : Bool} (ι : Type) (M' : ι → Mem) (own' : ι → List Ob) (sv : ι → SV) (ho : l[i]? = some ⟨dst, op, ty, pos, aft, some (j, want)⟩) (oj : Oper) (d : Tmp) (b : Bool) (hj : l.toArray[j]? = some oj) (hd' : oj.dst = some d) (hb : env.get d = some (.v (.bool b))) (hw : b = want) (he : EX P w M0 N l.toArray ⟨dst, op, ty, pos, aft, none⟩ ⟨M, own, env⟩ ι M' own' sv) (hk : dstOk N dst = true)
    (h : ∀ x, M.le (M' x) ∧ (goneAt gs (own' x)).take n0 = (goneAt gs own).take n0 ∧ VF P w M0 N gs n0 l n (rem.erase i) ⟨M' x, own' x, env.put dst (sv x)⟩ Q) (h2 : VFs P w M0 N gs n0 l n rem ks ⟨M, own, env⟩ Q) : VFs P w M0 N gs n0 l n rem (i :: ks) ⟨M, own, env⟩ Q :=
  VFs_x ι M' own' sv ho (EX_yes oj d b rfl hj hd' hb hw he) hk h h2
theorem qbnS {P : Program} {w : World} {M0 : Mem} {N : Nat} {s : St} {dst : Option Tmp} {ty : TypeId} {pos : String} {aft : Array Edge} {g : Option (Nat × Bool)} {t t2 : TypeId} {x y : Operand} {a : Bool} [h : BolT P t] (hx : s.env.op x = some (.v (.bool a))) (hy : s.env.op y = some (.v (.bool a))) : QS P w M0 N ⟨dst, .binOp .neq t x y t2, ty, pos, aft, g⟩ s (.v (.bool false)) := by
  have := qbn (P := P) (w := w) (M0 := M0) (N := N) (s := s) (dst := dst) (ty := ty) (pos := pos) (aft := aft) (g := g) (t := t) (t2 := t2) hx hy
  rwa [show (!(a == a)) = false by simp] at this
theorem VC_lendEnd {P : Program} {w : World} {M0 M : Mem} {N : Nat} {env : Env} {id : Nat} {ops : Array Oper} {Q : Post} {b g cc b2 : Nat} {T : List Slt} {Nn : Int} {u : Value} {L : List Hld} (pre : List Ob) (hold : envB env pre.length = true)
    (h : ∀ M', M.le M' → TabM M' b T → RefM M' b2 Nn u L → VC P w M0 N (.seq (.region id ops false) .ret) ⟨M', pre, env⟩ (fun e s => M'.le s.M ∧ ∃ (ρ2 : List Nat) (pre' : List Ob) (env' : Env), Sub ρ2 s ⟨s.M, pre', env'⟩ ∧ envB env' pre'.length = true ∧ Q e ⟨M, pre' ++ (rfOb b2 Nn u L ++ tabOb b g cc T), env'⟩)) :
    VC P w M0 N (.seq (.region id ops false) .ret) ⟨M, pre ++ (rfOb b2 Nn u L ++ tabOb b g cc T), env⟩ Q := VC_lendAll pre hold h
end Go.Proofs.Ytdgcdfngpimmmaa
