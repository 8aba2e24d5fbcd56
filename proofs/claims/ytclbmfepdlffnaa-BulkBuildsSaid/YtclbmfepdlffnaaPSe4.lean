/- Rows that a call or a literal yields, frozen at once; seats in memory. -/
import Derived.Test.YtclbmfepdlffnaaPSe3
import Derived.Test.YtclbmfepdlffnaaPMp
namespace Go.Proofs.Ytclbmfepdlffnaa
open Go Go.RowKit
attribute [local irreducible] Calls
set_option linter.unusedVariables false
set_option maxRecDepth 20000
set_option linter.unusedSimpArgs false
set_option maxHeartbeats 4000000
/-- An own row that a call yields is memory. -/
theorem RetRow.retM {e : TypeId} {k n : Nat} {cs : List Value} {W W' : World} {x : Ending} {M : Mem} (hM : M.le (Mem.of W)) (h : RetRow e k n cs W x W') : RetM M W (fun v M' => RowM M' k n cs v) x W' := by
  obtain ⟨v, rfl, hb, hl, ⟨rfl, h0⟩ | ⟨b, cap, cur, rfl, h1, h2, h3, h4, h5, h6⟩⟩ := h
  · exact ⟨_, M, rfl, hb, Mem.le_refl _, Mem.le_below hM hb (Nat.le_refl _), fun _ _ h => h, hl, .inl ⟨rfl, h0⟩⟩
  · have hMb : M b = none := by
      cases hm : M b with
      | none => rfl
      | some o =>
        have : W.heap[b]? = some o := hM b o hm
        have := (Array.getElem?_eq_some_iff.1 this).1
        omega
    let M' : Mem := fun q => if q = b then W'.heap[b]? else M q
    have e1 : M' b = some (.cells cur e (0, 0)) := by simp only [M', if_true]; exact h2
    refine ⟨_, M', rfl, hb, fun q o hq => ?_, fun q o hq => ?_, fun q hq h0 => ?_, hl, .inr ⟨b, cap, rfl, h3, h4, by rw [e1]; rfl, fun j u hu => ?_⟩⟩
    · have hne : q ≠ b := fun e => by rw [e, hMb] at hq; cases hq
      simp only [M', hne, if_false]; exact hq
    · by_cases hqb : q = b
      · subst hqb; simp only [M', if_true] at hq; exact hq
      · simp only [M', hqb, if_false] at hq; exact Mem.le_below hM hb (Nat.le_refl _) q o hq
    · have hne : q ≠ b := by omega
      simp only [M', hne, if_false]; exact h0
    · unfold Mem.cell
      rw [e1]
      rw [← h6, List.getElem?_take] at hu
      split at hu
      · simpa using hu
      · cases hu
section
variable {P : Program} {w : World} {M0 : Mem} {N : Nat} {dst : Option Tmp} {ty : TypeId} {pos : String} {aft : Array Edge} {M : Mem} {own : List Ob} {env : Env}
theorem EX_cM {ops : Array Oper} {f : FuncId} {xs : Array Operand} {ats : Array TypeId} {vs : List Value} {Post : Value → Mem → Prop} [hf : CalT P f] (hv : env.vals xs.toList = some vs) (hc : ∀ W, M.le (Mem.of W) → Calls P f vs.toArray W (RetM M W Post)) :
    EX P w M0 N ops ⟨dst, .call ⟨.value (.func f), xs, ats⟩, ty, pos, aft, none⟩ ⟨M, own, env⟩ {x : Value × Mem // M.le x.2 ∧ Post x.1 x.2} (fun x => x.1.2) (fun _ => own) (fun x => .v x.1.1) := ⟨fun hd a W hR => by
  rw [if_pos (by simp [Region.wanted])]
  rw [exec_call (s := ⟨M, own, env⟩) hR.2 hf.h hv]
  simp only [EffRun]
  refine (hc W hR.1.mem).mono fun e W' ⟨v, M', he, hb, hle, hmem, hnew, hp⟩ => ⟨v, he, ⟨⟨v, M'⟩, hle, hp⟩, hd, fun _ _ => rfl, ?_, rfl⟩
  have hi := hR.1.idle hb
  refine ⟨hi.below, hmem, fun b hb' h0 => hnew b (by have := hR.1.below.size; omega) (hR.1.old b hb' h0), hi.grew.trans hle, hi.own, fun i o b hi' hne hf' => ?_, hi.dis⟩
  exact hnew b (foot_lt (hR.1.own i o hi') hne hf').2 (hR.1.sep i o b hi' hne hf'), fun x => Nat.le_refl _, fun _ => rfl⟩
/-- A call that yields an own row: the row is memory at once. -/
theorem EX_callF {ops : Array Oper} {f : FuncId} {xs : Array Operand} {ats : Array TypeId} {vs : List Value} {e : TypeId} {k n : Nat} {cs : List Value} [hf : CalT P f] (hv : env.vals xs.toList = some vs) (hc : ∀ W, M.le (Mem.of W) → Calls P f vs.toArray W (RetRow e k n cs W)) :
    EX P w M0 N ops ⟨dst, .call ⟨.value (.func f), xs, ats⟩, ty, pos, aft, none⟩ ⟨M, own, env⟩ {x : Value × Mem // M.le x.2 ∧ RowM x.2 k n cs x.1} (fun x => x.1.2) (fun _ => own) (fun x => .v x.1.1) :=
  EX_cM hv fun W hW => (hc W hW).mono fun x W' h => h.retM hW
/-- A new own row is memory at once. -/
theorem EX_frz {ops : Array Oper} {o : Oper} {e : TypeId} {k n : Nat} {cs : List Value} (hg : o.guard = none) (he : EF P w M0 N o ⟨M, own, env⟩ (own ++ [.row e k n cs]) (.r own.length)) :
    EX P w M0 N ops o ⟨M, own, env⟩ {x : Value × Mem // M.le x.2 ∧ RowM x.2 k n cs x.1} (fun x => x.1.2) (fun _ => own ++ [.gone]) (fun x => .v x.1.1) := ⟨fun hd a W hR => by
  rw [if_pos (by simp [Region.wanted, hg])]
  have key : ∀ (u : Value) (W' : World), (∃ hd', (∀ i, i < own.length → hd' i = hd i) ∧ Wd w M0 hd' M (own ++ [.row e k n cs]) W' ∧ u = (SV.r own.length).den hd') →
      ∃ (x : {x : Value × Mem // M.le x.2 ∧ RowM x.2 k n cs x.1}) (hd' : Nat → Value), (∀ i, i < own.length → hd' i = hd i) ∧ Wd w M0 hd' x.1.2 (own ++ [.gone]) W' ∧ u = (SV.v x.1.1).den hd' := by
    rintro u W' ⟨hd', h1, h2, h3⟩
    obtain ⟨M', g1, g2, g3⟩ := frozen_wd (e := e) (k := k) (n := n) (cs := cs) (i := own.length) h2 (by rw [List.getElem?_append_right (Nat.le_refl _)]; simp)
    have e1 : (own ++ [Ob.row e k n cs]).set own.length .gone = own ++ [.gone] := by rw [List.set_append_right _ _ (Nat.le_refl _)]; simp
    rw [e1] at g3
    exact ⟨⟨⟨hd' own.length, M'⟩, g1, g2⟩, hd', h1, g3, h3⟩
  have h := he.go hd a W hR
  generalize (execOp a.eval o).run P W = r at *
  cases r with
  | ok nx W' =>
    cases nx <;> simp only [EffRun] at h ⊢
    case value u => exact key u W' h
    case skip => exact key undef W' h
    case enter f args => exact h.mono fun e W'' ⟨z, hz, h⟩ => ⟨z, hz, key z W'' h⟩
  | halt x w' => simp only [EffRun] at h, fun x => by simp, fun _ => rfl⟩
end
/-! ### Seats in memory -/
abbrev sqCells (x : Sq × Value) : List Value := [.int .i64 x.1.n.slot, .int .i64 x.1.n.level, x.1.n.pv, x.1.n.kv, .string x.1.n.high, .bool x.1.n.top, .int .i64 x.1.n.right, .int .i64 x.1.n.seen, x.1.n.mv, x.1.n.rv, .string x.1.s.lo, .string x.1.s.hi, .bool x.1.s.opn, x.2]
def MsSz (l : List Msg) : Prop := ∀ m ∈ l, m.key.size ≤ 1000000 ∧ m.hi.size ≤ 1000000 ∧ m.val.size ≤ 1000000
structure SqOk (M : Mem) (x : Sq × Value) : Prop where
  ok : x.1.n.Ok M
  big : x.1.n.Big
  inn : x.1.n.In
  lo : x.1.s.lo.size ≤ 1000000
  hi : x.1.s.hi.size ≤ 1000000
  ms : SlM M 6 msgCells x.2 x.1.ms
  mz : MsSz x.1.ms
theorem SqOk.mono {M M' : Mem} {x : Sq × Value} (h : SqOk M x) (hle : M.le M') : SqOk M' x := ⟨h.ok.mono hle, h.big, h.inn, h.lo, h.hi, h.ms.mono hle, h.mz⟩
theorem sq_one {M : Mem} {x : Sq × Value} (h : SqOk M x) : ((sqCells x).toArray.toList.all (·.oneCell')) = true := by
  obtain ⟨⟨A, a, e1, _⟩, ⟨B, b, e2, _⟩, ⟨C, c, e3, _⟩, ⟨D, d, e4, _⟩⟩ := h.ok
  obtain ⟨E, e, e5, _⟩ := h.ms
  show (sqCells x).all _ = true
  unfold sqCells
  rw [e1, e2, e3, e4, e5]; rfl
theorem flat_len14 (l : List (Sq × Value)) : (l.flatMap sqCells).length = l.length * 14 := by
  induction l with
  | nil => rfl
  | cons a l ih =>
    show (sqCells a ++ l.flatMap sqCells).length = (l.length + 1) * 14
    have h14 : (sqCells a).length = 14 := rfl
    rw [List.length_append, ih, h14]; omega
theorem flat_drop14 (l : List (Sq × Value)) (q : Nat) : (l.flatMap sqCells).drop (q * 14) = (l.drop q).flatMap sqCells := by
  induction q generalizing l with
  | zero => simp
  | succ q ih =>
    cases l with
    | nil => simp
    | cons a l =>
      rw [List.flatMap_cons, List.drop_succ_cons, ← ih l, show (q + 1) * 14 = (sqCells a).length + q * 14 by have h14 : (sqCells a).length = 14 := rfl; rw [h14]; omega, List.drop_append]
      simp
theorem QS_loadSq {w : World} {M0 : Mem} {N : Nat} {dst : Option Tmp} {ty : TypeId} {pos : String} {aft : Array Edge} {g : Option (Nat × Bool)} {s : St} {x : Operand} {i j n : Nat} {e : TypeId} (L : List (Sq × Value)) (hx : s.env.op x = some (.p i (j * 14))) (hi : s.own[i]? = some (.row e 14 n (L.flatMap sqCells))) (hj : j < L.length) :
    QS Try.prog w M0 N ⟨dst, .load 98 x, ty, pos, aft, g⟩ s (.v (.agg (sqCells L[j]).toArray)) := by
  have h := QS_loadN (P := Try.prog) (w := w) (M0 := M0) (N := N) (dst := dst) (ty := ty) (pos := pos) (aft := aft) (g := g) (t := 98) 14 hx hi (Nat.ble_eq_true_of_le (by show j * 14 + 14 ≤ (L.flatMap sqCells).length; rw [flat_len14]; omega)) (AggT.h)
  have e1 : ((Ob.row e 14 n (L.flatMap sqCells)).cells.drop (j * 14)).take 14 = sqCells L[j] := by
    show ((L.flatMap sqCells).drop (j * 14)).take 14 = _
    rw [flat_drop14, List.drop_eq_getElem_cons hj, List.flatMap_cons]
    exact List.take_left' rfl
  rw [e1] at h
  exact h
theorem clip_sz {l : List Msg} {s : Span} (h : MsSz l) (h1 : s.lo.size ≤ 1000000) (h2 : s.hi.size ≤ 1000000) : MsSz (clipL l s) := fun m' hm' => by
  obtain ⟨m, hm, ht, rfl⟩ := clipL_mem.1 hm'
  obtain ⟨z1, z2, z3⟩ := h m hm
  by_cases h4 : m.kind = 4
  · have e : spanM m = ⟨m.key, m.hi, m.opn⟩ := if_pos h4
    have := meet_size (spanM m) s (n := 1000000) (by rw [e]; exact z1) (by rw [e]; exact z2) h1 h2
    unfold clipM
    rw [if_pos ht]
    simp only [h4, if_true]
    exact ⟨this.1, this.2, z3⟩
  · rw [clip_n h4 ht]; exact ⟨z1, z2, z3⟩
theorem merge_sz {a b : List Msg} (ha : MsSz a) (hb : MsSz b) : MsSz (mergeL a b) := fun m hm => (mergeL_mem.1 hm).elim (ha m) (hb m)
end Go.Proofs.Ytclbmfepdlffnaa
