/- The logic's rules: append of a number of zero elements onto nil, cap. No program in sight. -/
import Derived.Test.YtclbmfepdlffnaaPLg9
import Derived.Lib.AppendZeros
namespace Go.Proofs.Ytclbmfepdlffnaa
open Go Go.RowKit
set_option linter.unusedVariables false
set_option maxRecDepth 20000
set_option linter.unusedSimpArgs false
section
variable {P : Program} {w : World} {M0 : Mem} {N : Nat} {dst : Option Tmp} {ty : TypeId} {pos : String} {aft : Array Edge} {g : Option (Nat × Bool)} {M : Mem} {own : List Ob} {env : Env}
theorem EF_appendZ {x y : Operand} {t tn e : TypeId} {k bytes n : Nat} {z : Value} (cells : List Value) (hx : env.op x = some (.v (.slice none 0 0))) (hy : env.op y = some (.v (.int .i64 n))) [hE : EloT P t e k bytes] [hz : ZerT P e z] [hI : IntT P tn .i64] (hc : (Builtin.zeroCells z.cells n).toList = cells) (h0 : 0 < n) (hm : n ≤ maxLen) (hb : n * bytes ≤ 140737488355328) :
    EF P w M0 N ⟨dst, .call ⟨.builtin .append, #[x, y], #[t, tn]⟩, ty, pos, aft, g⟩ ⟨M, own, env⟩ (own ++ [.row e k n cells]) (.r own.length) := by
  subst hc
  exact EF_obj (.row e k n _) (fun hd a W hR => by
    have hE' := ElemOk.mk' hE.h
    obtain ⟨i, z', hi, hz', hs, hby, hzs⟩ := hE'.hi
    have hzz := zero_info hz.h hi hz' W
    subst hzz
    subst hs
    have hk := hE'.hk
    have hm' : (n : Int) ≤ 9223372036854775807 := by unfold maxLen at hm; omega
    have hr := Lib.run_append_nil_zeros (P := P) W t tn ty e i z .i64 .i64 hE'.ht (intB_u hI.h) hi hz' n h0 hk hm' (by rw [hby]; omega)
    have hge := grownCap_ge W n 0 e
    have hcm : grownCap W n 0 e ≤ maxLen := grownCap_le_maxLen W n 0 e (by omega)
    have e1 := hR.2.eval hx
    have e2 := hR.2.eval hy
    simp only [SV.den] at e1 e2
    have hlz : (Builtin.zeroCells z.cells n).toList.length = n * i.size := by rw [Array.length_toList, size_zeroCells, hzs]
    refine ⟨.slice (some ⟨W.heap.size, 0, none⟩) n (grownCap W n 0 e), W.drew.alloc (.cells (Builtin.zeroCells z.cells n ++ Builtin.zeroCells z.cells (grownCap W n 0 e - n)) e), ?_, ⟨rfl, rfl, rfl, by simp, fun q hq _ => Below.heap_alloc W.drew _ q hq⟩, ⟨hlz, .inr ⟨W.heap.size, _, _, rfl, hR.1.below.size, heap_alloc_new W.drew _, hge, hcm, ?_, ?_⟩⟩, fun b hb' => ?_⟩
    · simp only [execOp, resolve, invoke, builtin, List.map_toArray, List.map_cons, List.map_nil, e1, e2, Sem.run_bind, Sem.run_pure, Result.andThen_ok]
      rw [hr]; rfl
    · simp only [Array.size_append, size_zeroCells, hzs, ← Nat.add_mul]
      congr 1
      omega
    · rw [Array.toList_append, ← hlz]
      exact List.take_left
    · obtain rfl : W.heap.size = b := by simpa [foot] using hb'
      exact Nat.le_refl _)
theorem QS_cap {x : Operand} {t : TypeId} {A : Option Addr} {n c : Nat} {s : St} (hx : s.env.op x = some (.v (.slice A n c))) [ht : SliT P t] : QS P w M0 N ⟨dst, .call ⟨.builtin .cap, #[x], #[t]⟩, ty, pos, aft, g⟩ s (.v (.int .i64 c)) := QS_run fun hd a W hR => by
  have h1 := hR.2.eval hx
  simp only [SV.den] at h1
  simp only [execOp, resolve, invoke, builtin, List.map_toArray, List.map_cons, List.map_nil, h1, Sem.run_bind, Sem.run_pure, Result.andThen_ok]
  rw [run_cap_slice (P := P) W t ty A n c (isSliceB_u ht.h)]; rfl
theorem qcap {x : Operand} {t : TypeId} {A : Option Addr} {n c : Nat} {s : St} [ht : SliT P t] (hx : s.env.op x = some (.v (.slice A n c))) : QS P w M0 N ⟨dst, .call ⟨.builtin .cap, #[x], #[t]⟩, ty, pos, aft, g⟩ s (.v (.int .i64 c)) := QS_cap hx
end
end Go.Proofs.Ytclbmfepdlffnaa
