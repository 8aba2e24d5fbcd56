/- The logic's rules for rows that are cut short, and whose tail is cleared. No program in sight. -/
import Derived.Test.YtipbbbamjckjoaaVW
namespace Go.Proofs.Ytipbbbamjckjoaa
open Go Go.RowKit
set_option linter.unusedVariables false
set_option maxRecDepth 20000
set_option linter.unusedSimpArgs false
section
variable {P : Program} {w : World} {M0 : Mem} {N : Nat} {dst : Option Tmp} {ty : TypeId} {pos : String} {aft : Array Edge} {g : Option (Nat × Bool)} {M : Mem} {own : List Ob} {env : Env} {s : St}
/-- s[:q] of an own row: the row is its first q elements. -/
theorem EF_cut {x hi : Operand} {t e : TypeId} {i k n bytes : Nat} {cs : List Value} (q : Nat) (hx : env.op x = some (.r i)) (hh : env.op hi = some (.v (.int .i64 q))) (ho : own[i]? = some (.row e k n cs)) (hq : q ≤ n) [hE : EloT P t e k bytes] :
    EF P w M0 N ⟨dst, .slice t x none (some hi) none, ty, pos, aft, g⟩ ⟨M, own, env⟩ (own.set i .gone ++ [.row e k q (cs.take (q * k))]) (.r own.length) := ⟨fun hd a W hR => by
  have hE' := ElemOk.mk' hE.h
  have hO := hR.1.own i _ ho
  have hvx := hR.2.eval hx
  have hvh := hR.2.eval hh
  simp only [SV.den] at hvx hvh
  obtain ⟨ii, z, hi1, hz, hsz, hby, hzs⟩ := hE'.hi
  have hel : P.elem t = e := by simp [Program.elem, hE'.ht]
  have hu' : P.underlying t = some (.slice (P.elem t)) := by rw [hel]; exact hE'.ht
  have hrun : ∃ v', (execOp a.eval ⟨dst, .slice t x none (some hi) none, ty, pos, aft, g⟩).run P W = .ok (.value v') W ∧ W.ownsRow w.heap.size e k v' q (cs.take (q * k)) ∧ foot v' = foot (hd i) := by
    have hqk : q * k ≤ n * k := Nat.mul_le_mul_right _ hq
    obtain ⟨hlen, ⟨hv, h0⟩ | ⟨b, cap, cur, hv, hb1, hb2, hnc, hcm, hcs, htake⟩⟩ := id hO
    · subst h0
      have hq0 : q = 0 := by omega
      subst hq0
      refine ⟨.slice none 0 0, ?_, ?_, by rw [hv]⟩
      · rw [hv] at hvx
        have h1 := run_slice_h (P := P) W t none 0 0 hu' .i64 0 (by omega) (by omega)
        simp only [execOp, hvx, hvh, Option.map_none, Option.map_some, Sem.run_bind, run_sliceAt_slice W t _ _ _ _ hu']
        have h1' : (Instr.slice t (.slice none 0 0) none (some (.int .i64 ((0 : Nat) : Int))) none).run P W = _ := h1
        rw [h1', hel, run_sizeOf_of (n := k) (by unfold sizeB; simp [hi1, hsz])]
        simp [sliced]
      · simpa using World.ownsRow_nil W w.heap.size e k
    · refine ⟨.slice (some ⟨b, 0, none⟩) q cap, ?_, ⟨by rw [List.length_take]; omega, .inr ⟨b, cap, cur, rfl, hb1, hb2, by omega, hcm, hcs, by rw [← htake, List.take_take, Nat.min_eq_left hqk]⟩⟩, by rw [hv]; rfl⟩
      rw [hv] at hvx
      have h1 := run_slice_h (P := P) W t (some ⟨b, 0, none⟩) n cap hu' .i64 q (by omega) (by omega)
      simp only [execOp, hvx, hvh, Option.map_none, Option.map_some, Sem.run_bind, run_sliceAt_slice W t _ _ _ _ hu', h1]
      rw [hel, run_sizeOf_of (n := k) (by unfold sizeB; simp [hi1, hsz])]
      simp [sliced, Addr.add_lit]
  obtain ⟨v', h1, h2, h3⟩ := hrun
  rw [h1]
  simp only [EffRun]
  have hadd := (hR.1.drop i).add (o' := .row e k q (cs.take (q * k))) (v' := v') h2 (fun b hb => by
    rw [h3] at hb
    refine ⟨hR.1.sep i _ b ho (by simp) hb, fun j oj hj hjn hjf => ?_⟩
    by_cases hji : j = i
    · subst hji
      rw [List.getElem?_set_self (List.getElem?_eq_some_iff.1 ho).1] at hj
      exact hjn (Option.some.inj hj).symm
    · rw [List.getElem?_set_ne (Ne.symm hji)] at hj
      exact hji (hR.1.dis j i oj _ b hj ho hjn (by simp) hjf hb))
  rw [List.length_set] at hadd
  exact ⟨setH hd own.length v', fun q hq => setH_ne _ _ (by have : q < own.length := hq; omega), hadd, by simp only [SV.den, setH_same]⟩, by simp, by simp [SV.okB, Nat.blt_eq]⟩
theorem zeroCells_one {z : Array Value} {m : Nat} (h : z.toList.all (·.oneCell') = true) : ∀ v ∈ (Builtin.zeroCells z m).toList, v.oneCell' = true := by
  intro v hv
  simp only [Builtin.zeroCells, Array.toList_map, List.mem_map] at hv
  obtain ⟨i, hi, rfl⟩ := hv
  have hi' : i < m * z.size := by simpa using hi
  have hz0 : 0 < z.size := Nat.pos_of_ne_zero fun e => by rw [e] at hi'; omega
  have hlt := Nat.mod_lt i hz0
  have : z[i % z.size]! = z[i % z.size]'hlt := by simp [hlt]
  rw [this]
  exact List.all_eq_true.1 h _ (by simp)
/-- clear(s[q:]) of an own row: its first q elements stay. -/
theorem VL_clearTail {ops : Array Oper} {l : List Oper} {Q : Post} {x lo : Operand} {t e ty1 ty2 : TypeId} {pos1 pos2 : String} {aft1 aft2 : Array Edge} {i k n bytes : Nat} {cs : List Value} {d : Tmp} {z : Value} (q : Nat) (hx : env.op x = some (.r i)) (hh : env.op lo = some (.v (.int .i64 q))) (ho : own[i]? = some (.row e k n cs)) (hq : q ≤ n)
    [hE : EloT P t e k bytes] [hz : ZerT P e z] (hzo : z.cells.toList.all (·.oneCell') = true) (hzk : z.cells.size = k) (hd0 : env.get d = none) (hkd : dstOk N (some d) = true)
    (h : ∀ cs', cs'.length = n * k → cs'.take (q * k) = cs.take (q * k) → VL P w M0 N ops l ⟨M, own.set i (.row e k n cs'), env⟩ Q) :
    VL P w M0 N ops (⟨some d, .slice t x (some lo) none none, ty1, pos1, aft1, none⟩ :: ⟨none, .call ⟨.builtin .clear, #[.tmp d], #[t]⟩, ty2, pos2, aft2, none⟩ :: l) ⟨M, own, env⟩ Q := .mk fun hd a W hR => by
  have hE' := ElemOk.mk' hE.h
  have hO := hR.1.own i _ ho
  have hvx := hR.2.eval hx
  have hvh := hR.2.eval hh
  simp only [SV.den] at hvx hvh
  obtain ⟨ii, z2, hi1, hz2, hsz, hby, hzs⟩ := hE'.hi
  have hel : P.elem t = e := by simp [Program.elem, hE'.ht]
  have hu' : P.underlying t = some (.slice (P.elem t)) := by rw [hel]; exact hE'.ht
  have hqk : q * k ≤ n * k := Nat.mul_le_mul_right _ hq
  have hfr : ∀ u, Fr N hd env (a.put (some d) u) := fun u => by
    have hdN : d < N := by simpa [dstOk, Nat.blt_eq] using hkd
    refine ⟨fun t sv hs => ?_, by simp [Act.put, hR.2.size], hR.2.defers⟩
    have hne : d ≠ t := fun e => by subst e; rw [hd0] at hs; cases hs
    simp only [Act.put, Array.getElem?_setIfInBounds_ne hne]
    exact hR.2.env t sv hs
  have hev : ∀ u, (a.put (some d) u).eval (.tmp d) = u := fun u => by
    have hdN : d < N := by simpa [dstOk, Nat.blt_eq] using hkd
    simp [Act.eval, Act.put, hR.2.size, hdN]
  have two : ∃ v' W' cs', (execOp a.eval ⟨some d, .slice t x (some lo) none none, ty1, pos1, aft1, none⟩).run P W = .ok (.value v') W ∧ (Builtin.clear_ #[t] ty2 #[v']).run P W = .ok (.tuple #[]) W' ∧
      cs'.length = n * k ∧ cs'.take (q * k) = cs.take (q * k) ∧ Wd w M0 hd M (own.set i (.row e k n cs')) W' := by
    obtain ⟨hlen, ⟨hv, h0⟩ | ⟨b, cap, cur, hv, hb1, hb2, hnc, hcm, hcs, htake⟩⟩ := id hO
    · subst h0
      have hq0 : q = 0 := by omega
      subst hq0
      refine ⟨.slice none 0 0, W, cs, ?_, ?_, hlen, rfl, ?_⟩
      · rw [hv] at hvx
        have h1 := run_slice_l (P := P) W t none 0 0 hu' .i64 0 (by omega) (by omega)
        have h1' : (Instr.slice t (.slice none 0 0) (some (.int .i64 ((0 : Nat) : Int))) none none).run P W = _ := h1
        simp only [execOp, hvx, hvh, Option.map_none, Option.map_some, Sem.run_bind, run_sliceAt_slice W t _ _ _ _ hu']
        rw [h1', hel, run_sizeOf_of (n := k) (by unfold sizeB; simp [hi1, hsz])]
        simp [sliced]
      · simp [Builtin.clear_, run_underlying hE'.ht]
      · exact hR.1.upd (o' := .row e k 0 cs) (W' := W) ho (by simp) (row := none) ⟨rfl, rfl, rfl, Nat.le_refl _, fun _ _ _ => rfl⟩ (fun q hq => by cases hq) hO
    · have hfoot : foot (hd i) = some b := by rw [hv]; rfl
      rw [hv] at hvx
      have h1 := run_slice_l (P := P) W t (some ⟨b, 0, none⟩) n cap hu' .i64 q (by omega) (by omega)
      have hexec : (execOp a.eval ⟨some d, .slice t x (some lo) none none, ty1, pos1, aft1, none⟩).run P W = .ok (.value (sliced (some ⟨b, 0, none⟩) q n cap k)) W := by
        simp only [execOp, hvx, hvh, Option.map_none, Option.map_some, Sem.run_bind, run_sliceAt_slice W t _ _ _ _ hu', h1]
        rw [hel, run_sizeOf_of (n := k) (by unfold sizeB; simp [hi1, hsz])]
        simp
      by_cases hqn : q = n
      · subst hqn
        refine ⟨_, W, cs, hexec, ?_, hlen, rfl, ?_⟩
        · unfold sliced
          rw [Nat.sub_self]
          generalize (if cap = q then _ else _) = A'
          cases A' <;> simp [Builtin.clear_, run_underlying hE'.ht]
        · exact hR.1.upd (o' := .row e k q cs) (W' := W) ho (by simp) (row := none) ⟨rfl, rfl, rfl, Nat.le_refl _, fun _ _ _ => rfl⟩ (fun q hq => by cases hq) hO
      · have hcapq : cap ≠ q := by omega
        let Z := (Builtin.zeroCells z.cells (n - q)).toList
        have hZl : Z.length = (n - q) * k := by simp [Z, Builtin.zeroCells, hzk]
        have hnk : q * k + (n - q) * k = n * k := by rw [← Nat.add_mul]; congr 1; omega
        have hval : sliced (some ⟨b, 0, none⟩) q n cap k = .slice (some ⟨b, q * k, none⟩) (n - q) (cap - q) := by
          unfold sliced
          rw [if_neg hcapq]
          simp [Addr.add_lit]
        have hcell : ∀ j, j < Z.length → (W.cell? ⟨b, q * k + j, none⟩).isSome = true := fun j hj => by
          have := ob_cell hO (off := q * k + j) (u := cs[q * k + j]'(by omega)) (by simp [Ob.cells])
          rw [hfoot] at this
          simp only [Option.getD_some] at this
          rw [this]; rfl
        have hfz : ∀ j, j < Z.length → W.frozen? ⟨b, q * k + j, none⟩ = false := fun j _ => frozen_of_row W b (q * k + j) cur e hb2
        have hst := run_storeCells_cells (P := P) b (q * k) Z 0 W (by simpa using hcell) (by simpa using hfz) (zeroCells_one hzo)
        simp only [Nat.add_zero] at hst
        refine ⟨_, W.setCells b (q * k) Z, putL cs (q * k) Z, hexec, ?_, by rw [putL_len]; exact hlen, ?_, ?_⟩
        · rw [hval]
          obtain ⟨m, hm⟩ : ∃ m, n - q = m + 1 := ⟨n - q - 1, by omega⟩
          have hst' : (storeCells ⟨b, q * k, none⟩ (Builtin.zeroCells z.cells (m + 1)).toList).run P W = .ok () (W.setCells b (q * k) Z) := by rw [← hm]; exact hst
          rw [hm]
          simp [Builtin.clear_, run_underlying hE'.ht, hz.h, hst']
        · rw [putL_eq Z (q * k) cs (by omega), List.append_assoc, List.take_left' (by rw [List.length_take]; omega)]
        · refine hR.1.upd ho (by simp) (row := some b) (grown_setCells Z (q * k) W) (fun q hq => by cases hq; exact hfoot) ⟨by rw [putL_len]; exact hlen, .inr ⟨b, cap, putA cur (q * k) Z, hv, hb1, heap_setCells_row Z (q * k) W cur hb2, hnc, hcm, by rw [putA_size]; exact hcs, ?_⟩⟩
          rw [putA_take, htake]
  obtain ⟨v', W', cs', h1, h2, h3, h4, h5⟩ := two
  refine wpList_plain rfl fun K hK => ?_
  unfold Oper.wp
  rw [h1]
  simp only [Oper.upon]
  refine hK _ _ (wpList_plain rfl fun K2 hK2 => ?_)
  unfold Oper.wp
  have hexec2 : (execOp (a.put (some d) v').eval ⟨none, .call ⟨.builtin .clear, #[.tmp d], #[t]⟩, ty2, pos2, aft2, none⟩).run P W = .ok (.value (.tuple #[])) W' := by
    simp only [execOp, resolve, invoke, builtin, List.map_toArray, List.map_cons, List.map_nil, hev, Sem.run_bind, Sem.run_pure, Result.andThen_ok, h2]
  rw [hexec2]
  simp only [Oper.upon]
  exact hK2 _ _ ((h cs' h3 h4).go hd _ W' ⟨h5, hfr v'⟩)
end
end Go.Proofs.Ytipbbbamjckjoaa
