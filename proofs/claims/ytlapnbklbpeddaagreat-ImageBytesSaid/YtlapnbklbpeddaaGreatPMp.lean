/- Own maps keyed by integers: one is made, asked, written at a new key. -/
import Derived.Test.YtlapnbklbpeddaaGreatPLg10
import Derived.MapKept
import Derived.ChangeMaps5
import Derived.Carry
namespace Go.Proofs.YtlapnbklbpeddaaGreat
open Go Go.RowKit
open Go.MapKept (run_checkKey run_findKey)
set_option linter.unusedVariables false
set_option maxRecDepth 20000
set_option linter.unusedSimpArgs false
class MapT (P : Program) (t : TypeId) (k e : outParam TypeId) : Prop where
  h : P.underlying t = some (.map k e)
  k : P.underlying k = some (.int .i64)
def lookM (es : List (Int × Value)) (x : Int) : Option Value := (es.find? fun p => p.1 == x).map (·.2)
theorem findNow_es (x : Int) : ∀ (en : List MapEntry) (es : List (Int × Value)) (i : Nat), en.map (fun e => (e.key, e.val)) = es.map (fun p => (Value.int .i64 p.1, p.2)) →
    (lookM es x = none ∧ Instr.findNow (.int .i64) (.int .i64 x) en i = some none) ∨ ∃ v j, lookM es x = some v ∧ Instr.findNow (.int .i64) (.int .i64 x) en i = some (some (j, v))
  | [], [], _, _ => .inl ⟨rfl, rfl⟩
  | [], _ :: _, _, h => by simp at h
  | _ :: _, [], _, h => by simp at h
  | e :: en, (k, v) :: es, i, h => by
    obtain ⟨key, val, born⟩ := e
    simp only [List.map_cons, List.cons.injEq, Prod.mk.injEq] at h
    obtain ⟨⟨rfl, rfl⟩, h⟩ := h
    have ih := findNow_es x en es (i + 1) h
    by_cases hx : x = k
    · subst hx
      refine .inr ⟨val, i, by simp [lookM], by simp [Instr.findNow, Instr.sameNow]⟩
    · have h1 : (k == x) = false := beq_eq_false_iff_ne.2 fun e => hx e.symm
      have h2 : (x == k) = false := beq_eq_false_iff_ne.2 hx
      have e1 : lookM ((k, val) :: es) x = lookM es x := by simp [lookM, List.find?_cons, h1]
      have e2 : Instr.findNow (.int .i64) (.int .i64 x) (⟨.int .i64 k, val, born⟩ :: en) i = Instr.findNow (.int .i64) (.int .i64 x) en (i + 1) := by simp [Instr.findNow, Instr.sameNow, h2]
      rw [e1, e2]
      exact ih
section
variable {P : Program} {w : World} {M0 : Mem} {N : Nat} {dst : Option Tmp} {ty : TypeId} {pos : String} {aft : Array Edge} {g : Option (Nat × Bool)} {M : Mem} {own : List Ob} {env : Env} {s : St}
theorem EF_map {t : TypeId} : EF P w M0 N ⟨dst, .makeMap t none, ty, pos, aft, g⟩ ⟨M, own, env⟩ (own ++ [.omap []]) (.r own.length) :=
  EF_obj (.omap []) fun hd a W hR => ⟨.map (some W.heap.size), W.alloc (.map #[] 0), by simp [execOp, run_makeMap, Result.andThen], World.grownBy_alloc W _ none, ⟨W.heap.size, #[], 0, rfl, hR.1.below.size, heap_alloc_new W _, rfl⟩, fun b hb => by
    obtain rfl : W.heap.size = b := by simpa [foot] using hb
    exact Nat.le_refl _⟩
theorem run_look {t k e : TypeId} {b : Nat} {en : Array MapEntry} {clock : Nat} {es : List (Int × Value)} {x : Int} {z : Value} (c : Bool) [ht : MapT P t k e] [hz : ZerT P e z] {W : World} (hb : W.heap[b]? = some (.map en clock))
    (he : en.toList.map (fun e => (e.key, e.val)) = es.map (fun p => (Value.int .i64 p.1, p.2))) :
    (Instr.lookup t (.map (some b)) (.int .i64 x) c).run P W = .ok (if c = true then .tuple #[(lookM es x).getD z, .bool (lookM es x).isSome] else (lookM es x).getD z) W := by
  have hc := run_checkKey (P := P) (w := W) (k := .int .i64 x) ht.k rfl en.isEmpty 9999
  have hg : (getObj b).run P W = .ok (.map en clock) W := by simp [getObj, Sem.run, hb]
  unfold Instr.lookup
  rcases findNow_es x en.toList es 0 he with ⟨h1, h2⟩ | ⟨v, j, h1, h2⟩
  · have hf := run_findKey (P := P) (w := W) ht.k h2
    rw [h1]
    cases c <;> simp [run_underlying ht.h, hg, hc, hf, hz.h, Result.andThen]
  · have hf := run_findKey (P := P) (w := W) ht.k h2
    rw [h1]
    cases c <;> simp [run_underlying ht.h, hg, hc, hf, Result.andThen]
/-- m[k], and whether it is there. -/
theorem QS_look {t k e : TypeId} {x y : Operand} {i : Nat} {es : List (Int × Value)} {n : Int} {z v : Value} {o : Bool} [ht : MapT P t k e] [hz : ZerT P e z] (hx : s.env.op x = some (.r i)) (ho : s.own[i]? = some (.omap es)) (hy : s.env.op y = some (.v (.int .i64 n)))
    (hv : (lookM es n).getD z = v) (hb : (lookM es n).isSome = o) : QS P w M0 N ⟨dst, .lookup t x y true, ty, pos, aft, g⟩ s (.v (.tuple #[v, .bool o])) := QS_run fun hd a W hR => by
  have h1 := hR.2.eval hx
  have h2 := hR.2.eval hy
  simp only [SV.den] at h1 h2
  obtain ⟨b, en, clock, e1, _, h3, h4⟩ := hR.1.own i _ ho
  rw [e1] at h1
  have h5 := run_look (P := P) (t := t) (x := n) (z := z) true h3 h4
  rw [hv, hb] at h5
  simp [execOp, h1, h2, h5, SV.den, Result.andThen]
theorem QS_look1 {t k e : TypeId} {x y : Operand} {i : Nat} {es : List (Int × Value)} {n : Int} {z v : Value} [ht : MapT P t k e] [hz : ZerT P e z] (hx : s.env.op x = some (.r i)) (ho : s.own[i]? = some (.omap es)) (hy : s.env.op y = some (.v (.int .i64 n)))
    (hv : (lookM es n).getD z = v) : QS P w M0 N ⟨dst, .lookup t x y false, ty, pos, aft, g⟩ s (.v v) := QS_run fun hd a W hR => by
  have h1 := hR.2.eval hx
  have h2 := hR.2.eval hy
  simp only [SV.den] at h1 h2
  obtain ⟨b, en, clock, e1, _, h3, h4⟩ := hR.1.own i _ ho
  rw [e1] at h1
  have h5 := run_look (P := P) (t := t) (x := n) (z := z) false h3 h4
  rw [hv] at h5
  simp [execOp, h1, h2, h5, SV.den, Result.andThen]
/-- m[k] = v, at a key that is not there yet. -/
theorem ES_mapPut {t k e : TypeId} {m x y : Operand} {i : Nat} {es : List (Int × Value)} {n : Int} {u : Value} [ht : MapT P t k e] (hm : env.op m = some (.r i)) (hi : own[i]? = some (.omap es)) (hx : env.op x = some (.v (.int .i64 n))) (hy : env.op y = some (.v u)) (hno : lookM es n = none) :
    ES P w M0 N ⟨dst, .mapUpdate t m x y, ty, pos, aft, g⟩ ⟨M, own, env⟩ (own.set i (.omap (es ++ [(n, u)]))) := fun hd a W hR => by
  have h0 := hR.2.eval hm
  have h1 := hR.2.eval hx
  have h2 := hR.2.eval hy
  simp only [SV.den] at h0 h1 h2
  obtain ⟨b, en, clock, e1, hbase, h3, h4⟩ := hR.1.own i _ hi
  have hc := run_checkKey (P := P) (w := W) (k := .int .i64 n) ht.k rfl false 9999
  have hg : (getObj b).run P W = .ok (.map en clock) W := by simp [getObj, Sem.run, h3]
  have hf : (Instr.findKey k (.int .i64 n) en.toList).run P W = .ok none W := by
    rcases findNow_es n en.toList es 0 h4 with ⟨_, h5⟩ | ⟨v, j, h5, _⟩
    · exact run_findKey (P := P) (w := W) ht.k h5
    · rw [hno] at h5; cases h5
  have hs : (setObj b (.map (en.push ⟨.int .i64 n, u, clock⟩) (clock + 1))).run P W = .ok () (Go.ChangeMaps.setBlock W b (.map (en.push ⟨.int .i64 n, u, clock⟩) (clock + 1))) := by simp [setObj, Sem.run, h3, Go.ChangeMaps.setBlock]
  refine ⟨Go.ChangeMaps.setBlock W b (.map (en.push ⟨.int .i64 n, u, clock⟩) (clock + 1)), ?_, ?_⟩
  · rw [e1] at h0
    simp [execOp, h0, h1, h2, Instr.mapUpdate, run_underlying ht.h, hg, hc, hf, hs, Result.andThen]
  · refine hR.1.upd hi (by simp) (row := some b) ⟨rfl, rfl, rfl, by simp [Go.ChangeMaps.setBlock], fun j _ hj => Go.ChangeMaps.heap_setBlock_other h3 _ (fun e => hj (by rw [e]))⟩ (fun q hq => by cases hq; rw [e1]; rfl) ⟨b, _, _, e1, hbase, Go.ChangeMaps.heap_setBlock_same h3 _, ?_⟩
    simp [h4]
end
end Go.Proofs.YtlapnbklbpeddaaGreat
