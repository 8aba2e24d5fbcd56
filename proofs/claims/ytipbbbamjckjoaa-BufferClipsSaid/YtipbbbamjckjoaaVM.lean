/- The logic's rules for arithmetic, texts, results in memory, and rows that nobody writes any more. -/
import Derived.Test.YtipbbbamjckjoaaVL
namespace Go.Proofs.Ytipbbbamjckjoaa
open Go Go.RowKit
set_option linter.unusedVariables false
set_option maxRecDepth 20000
set_option linter.unusedSimpArgs false
section
variable {P : Program} {x y : Operand} {t : TypeId}
theorem wrap64 {n : Int} (h0 : -9223372036854775808 ≤ n) (h1 : n ≤ 9223372036854775807) : IntKind.i64.wrap n = n := by
  simp only [IntKind.wrap, IntKind.bits, IntKind.signed]
  simp
  split <;> omega
theorem B_add {a b : Int} (h0 : -9223372036854775808 ≤ a + b) (h1 : a + b ≤ 9223372036854775807) : Bin P .add t x y (.int .i64 a) (.int .i64 b) (.int .i64 (a + b)) := .mk fun W => by simp [go_sem, wrap64 h0 h1]
theorem B_sub {a b : Int} (h0 : -9223372036854775808 ≤ a - b) (h1 : a - b ≤ 9223372036854775807) : Bin P .sub t x y (.int .i64 a) (.int .i64 b) (.int .i64 (a - b)) := .mk fun W => by simp [go_sem, wrap64 h0 h1]
theorem B_mul {a b : Int} (h0 : -9223372036854775808 ≤ a * b) (h1 : a * b ≤ 9223372036854775807) : Bin P .mul t x y (.int .i64 a) (.int .i64 b) (.int .i64 (a * b)) := .mk fun W => by simp [go_sem, wrap64 h0 h1]
theorem B_seql {a b : ByteArray} : Bin P .eql t x y (.string a) (.string b) (.bool (decide (a = b))) := .mk fun W => by
  have : (a.toList == b.toList) = decide (a = b) := by rw [Bool.eq_iff_iff, beq_iff_eq, decide_eq_true_eq, toList_iff]
  simp [go_sem, this]
theorem B_sneq {a b : ByteArray} : Bin P .neq t x y (.string a) (.string b) (.bool (!decide (a = b))) := .mk fun W => by
  have : (a.toList == b.toList) = decide (a = b) := by rw [Bool.eq_iff_iff, beq_iff_eq, decide_eq_true_eq, toList_iff]
  simp [go_sem, this]
theorem B_slss {a b : ByteArray} : Bin P .lss t x y (.string a) (.string b) (.bool (lt a b)) := .mk fun W => by simp [go_sem, lt]
theorem B_sgeq {a b : ByteArray} : Bin P .geq t x y (.string a) (.string b) (.bool (!lt a b)) := .mk fun W => by simp [go_sem, lt]
theorem sle_lt (a b : ByteArray) : (Op.bytesLess a.toList b.toList || a.toList == b.toList) = !lt b a := by
  rw [show (a.toList == b.toList) = decide (a = b) by rw [Bool.eq_iff_iff, beq_iff_eq, decide_eq_true_eq, toList_iff]]
  change (lt a b || decide (a = b)) = !lt b a
  by_cases h : a = b
  · subst h; simp [lt_irr]
  · cases h1 : lt a b with
    | true => rw [lt_asy h1]; rfl
    | false => cases h2 : lt b a with
      | true => simp [h]
      | false => exact absurd (lt_tot h1 h2) h
theorem B_sleq {a b : ByteArray} : Bin P .leq t x y (.string a) (.string b) (.bool (!lt b a)) := .mk fun W => by simp [go_sem, sle_lt]
theorem B_sgtr {a b : ByteArray} : Bin P .gtr t x y (.string a) (.string b) (.bool (lt b a)) := .mk fun W => by simp [go_sem, sle_lt]
theorem B_sadd {a b : ByteArray} (h : (a ++ b).size ≤ maxLen) : Bin P .add t x y (.string a) (.string b) (.string (a ++ b)) := .mk fun W => by
  rw [size_app] at h; unfold maxLen at h
  have h' : ¬ (9223372036854775807 < a.size + b.size) := by omega
  simp [go_sem, Op.stringOp, h']
  omega
class BolT (P : Program) (t : TypeId) : Prop where
  h : P.underlying t = some .bool
theorem B_beql {a b : Bool} [h : BolT P t] : Bin P .eql t x y (.bool a) (.bool b) (.bool (a == b)) := .mk fun W => by simp [go_sem, run_eql_bool W t a b h.h]
theorem B_bneq {a b : Bool} [h : BolT P t] : Bin P .neq t x y (.bool a) (.bool b) (.bool (!(a == b))) := .mk fun W => by simp [go_sem, run_neq_bool W t a b h.h]
end
section
variable {P : Program} {w : World} {M0 : Mem} {N : Nat} {dst : Option Tmp} {ty : TypeId} {pos : String} {aft : Array Edge} {g : Option (Nat × Bool)} {s : St}
class GrdT (P : Program) (t : TypeId) : Prop where
  h : P.eqGuardType P.depth t = false
theorem guard_agg {op : BinOp} {t : TypeId} {x y : Operand} {xs ys : Array Value} (h : P.eqGuardType P.depth t = false) (W : World) : (eqGuard op t x y (.agg xs) (.agg ys)).run P W = .ok () W := by
  cases op <;> simp [eqGuard, h]
/-- Two structs held against each other. -/
theorem B_agg {op : BinOp} {t : TypeId} {x y : Operand} {xs ys : Array Value} {r : Value} [h : GrdT P t] (hr : ∀ W, (binOp op t (.agg xs) (.agg ys)).run P W = .ok r W) : Bin P op t x y (.agg xs) (.agg ys) r := .mk fun W => by
  rw [Sem.run_bind, guard_agg h.h]
  exact hr W
/-- The larger, the lesser of two. -/
theorem QS_max {x y : Operand} {ats : Array TypeId} {u v r : Value} (hx : s.env.op x = some (.v u)) (hy : s.env.op y = some (.v v)) (hr : ∀ W, (Builtin.max_ ats ty #[u, v]).run P W = .ok r W) : QS P w M0 N ⟨dst, .call ⟨.builtin .max, #[x, y], ats⟩, ty, pos, aft, g⟩ s (.v r) := QS_run fun hd a W hR => by
  have h1 := hR.2.eval hx
  have h2 := hR.2.eval hy
  simp only [SV.den] at h1 h2
  simp only [execOp, resolve, invoke, builtin, List.map_toArray, List.map_cons, List.map_nil, h1, h2, Sem.run_bind, Sem.run_pure, Result.andThen_ok, hr, SV.den]
theorem QS_min {x y : Operand} {ats : Array TypeId} {u v r : Value} (hx : s.env.op x = some (.v u)) (hy : s.env.op y = some (.v v)) (hr : ∀ W, (Builtin.min_ ats ty #[u, v]).run P W = .ok r W) : QS P w M0 N ⟨dst, .call ⟨.builtin .min, #[x, y], ats⟩, ty, pos, aft, g⟩ s (.v r) := QS_run fun hd a W hR => by
  have h1 := hR.2.eval hx
  have h2 := hR.2.eval hy
  simp only [SV.den] at h1 h2
  simp only [execOp, resolve, invoke, builtin, List.map_toArray, List.map_cons, List.map_nil, h1, h2, Sem.run_bind, Sem.run_pure, Result.andThen_ok, hr, SV.den]

/-! ### Slices in memory that nobody writes -/
def SlM {α : Type} (M : Mem) (k : Nat) (cells : α → List Value) (v : Value) (l : List α) : Prop :=
  ∃ A c, v = .slice A l.length c ∧ l.length ≤ c ∧ c ≤ maxLen ∧ (l = [] ∨ ∃ b off, A = some ⟨b, off, none⟩ ∧ (M b).isSome = true ∧ ∀ i (h : i < l.length) j x, (cells l[i])[j]? = some x → M.cell b (off + i * k + j) = some x)
theorem SlM.mono {α : Type} {M M' : Mem} {k : Nat} {cells : α → List Value} {v : Value} {l : List α} (h : SlM M k cells v l) (hM : M.le M') : SlM M' k cells v l := by
  obtain ⟨A, c, h1, h2, h3, h4⟩ := h
  refine ⟨A, c, h1, h2, h3, ?_⟩
  rcases h4 with h4 | ⟨b, off, h5, h6, h7⟩
  · exact .inl h4
  · refine .inr ⟨b, off, h5, ?_, fun i h j x hx => hM.cell (h7 i h j x hx)⟩
    cases hb : M b with
    | none => rw [hb] at h6; cases h6
    | some o => rw [hM b o hb]; rfl
theorem Sl.toM {α : Type} {W : World} {k : Nat} {cells : α → List Value} {v : Value} {l : List α} (h : Sl W k cells v l) : SlM (Mem.of W) k cells v l := by
  obtain ⟨A, c, h1, h2, h3, h4⟩ := h
  refine ⟨A, c, h1, h2, h3, ?_⟩
  rcases h4 with h4 | ⟨b, off, h5, h6, h7⟩
  · exact .inl h4
  · refine .inr ⟨b, off, h5, by simp [Mem.of, h6], fun i h j x hx => ?_⟩
    rw [Mem.of_cell]
    exact h7 i _ h rfl j x hx
theorem SlM.toSl {α : Type} {M : Mem} {W : World} {k : Nat} {cells : α → List Value} {v : Value} {l : List α} (h : SlM M k cells v l) (hM : M.le (Mem.of W)) : Sl W k cells v l := by
  obtain ⟨A, c, h1, h2, h3, h4⟩ := h
  refine ⟨A, c, h1, h2, h3, ?_⟩
  rcases h4 with h4 | ⟨b, off, h5, h6, h7⟩
  · exact .inl h4
  · refine .inr ⟨b, off, h5, ?_, fun i u h hu j x hx => ?_⟩
    · cases hb : M b with
      | none => rw [hb] at h6; cases h6
      | some o => exact (Array.getElem?_eq_some_iff.1 (show W.heap[b]? = some o from hM b o hb)).1
    · rw [← Mem.of_cell]
      exact hM.cell (h7 i h j x (by rw [hu]; exact hx))
theorem SlM.get {α : Type} {M : Mem} {k : Nat} {cells : α → List Value} {A : Option Addr} {c : Nat} {l : List α} (h : SlM M k cells (.slice A l.length c) l) {i : Nat} (hi : i < l.length) :
    ∃ b off, A = some ⟨b, off, none⟩ ∧ ∀ j x, (cells l[i])[j]? = some x → M.cell b (off + i * k + j) = some x := by
  obtain ⟨A', c', he, _, _, h4⟩ := h
  injection he with hA _ hc
  subst hA
  rcases h4 with h4 | ⟨b, off, rfl, _, h7⟩
  · subst h4; simp at hi
  · exact ⟨b, off, rfl, h7 i hi⟩
theorem SlM.nil {α : Type} (M : Mem) (k : Nat) (cells : α → List Value) : SlM M k cells (.slice none 0 0) ([] : List α) := ⟨none, 0, rfl, by simp, by simp, .inl rfl⟩
/-- An own row that nobody writes any more. -/
def RowM (M : Mem) (k n : Nat) (cs : List Value) (v : Value) : Prop := cs.length = n * k ∧ ((v = .slice none 0 0 ∧ n = 0) ∨ ∃ b c, v = .slice (some ⟨b, 0, none⟩) n c ∧ n ≤ c ∧ c ≤ maxLen ∧ (M b).isSome = true ∧ ∀ j u, cs[j]? = some u → M.cell b j = some u)
theorem flat_get {α : Type} {k : Nat} {cells : α → List Value} : ∀ (m : List α) (i j : Nat) (hi : i < m.length), (∀ a ∈ m, (cells a).length = k) → j < k → (m.flatMap cells)[i * k + j]? = (cells m[i])[j]?
  | [], i, _, hi, _, _ => by simp at hi
  | a :: m, i, j, hi, hk, hj => by
    have ha := hk a (by simp)
    rw [List.flatMap_cons]
    cases i with
    | zero => rw [Nat.zero_mul, Nat.zero_add, List.getElem?_append_left (by omega)]; rfl
    | succ i =>
      rw [List.getElem?_append_right (by rw [ha, Nat.add_mul]; omega), ha, show (i + 1) * k + j - k = i * k + j by rw [Nat.add_mul]; omega]
      exact flat_get m i j (by simpa using hi) (fun a ha => hk a (by simp [ha])) hj
theorem RowM.slM {α : Type} {M : Mem} {k : Nat} {cells : α → List Value} {v : Value} {l : List α} (hk : ∀ a ∈ l, (cells a).length = k) (h : RowM M k l.length (l.flatMap cells) v) : SlM M k cells v l := by
  obtain ⟨_, ⟨rfl, h0⟩ | ⟨b, c, rfl, h1, h2, h3, h4⟩⟩ := h
  · have : l = [] := List.eq_nil_of_length_eq_zero h0
    subst this
    exact SlM.nil M k cells
  · refine ⟨_, c, rfl, h1, h2, .inr ⟨b, 0, rfl, h3, fun i hi j x hx => ?_⟩⟩
    have hjk : j < k := by
      have := (List.getElem?_eq_some_iff.1 hx).1
      rw [hk l[i] (List.getElem_mem hi)] at this; exact this
    rw [Nat.zero_add]
    exact h4 _ _ (by rw [flat_get l i j hi hk hjk]; exact hx)
theorem frozen_wd {hd : Nat → Value} {M : Mem} {own : List Ob} {W : World} {i : Nat} {e : TypeId} {k n : Nat} {cs : List Value} (hR : Wd w M0 hd M own W) (hi : own[i]? = some (.row e k n cs)) : ∃ M' : Mem, M.le M' ∧ RowM M' k n cs (hd i) ∧ Wd w M0 hd M' (own.set i .gone) W := by
  have hO := hR.own i _ hi
  have hdr := hR.drop i
  have away : ∀ j oj b, (own.set i Ob.gone)[j]? = some oj → oj ≠ .gone → foot (hd j) = some b → foot (hd i) ≠ some b := fun j oj b hj hjn hjf hif => by
    by_cases hji : j = i
    · subst hji
      rw [List.getElem?_set_self (List.getElem?_eq_some_iff.1 hi).1] at hj
      exact hjn (Option.some.inj hj).symm
    · rw [List.getElem?_set_ne (Ne.symm hji)] at hj
      exact hji (hR.dis j i oj _ b hj hi hjn (by simp) hjf hif)
  let M' : Mem := fun b => if foot (hd i) = some b then W.heap[b]? else M b
  have hle : M.le M' := fun b o hb => by
    by_cases hf : foot (hd i) = some b
    · rw [hR.sep i _ b hi (by simp) hf] at hb; cases hb
    · simp only [M', hf, if_false]; exact hb
  refine ⟨M', hle, ⟨hO.1, ?_⟩, ⟨hdr.below, fun b o hb => ?_, fun b hb h0 => ?_, hR.grew.trans hle, hdr.own, fun j oj b hj hjn hjf => ?_, hdr.dis⟩⟩
  · rcases hO.2 with ⟨h, h0⟩ | ⟨b, cap, cur, h, h1, h2, h3, h4, h5, h6⟩
    · exact .inl ⟨h, h0⟩
    · have hf : foot (hd i) = some b := by rw [h]; rfl
      have hMb : M' b = some (.cells cur e (0, 0)) := by simp only [M', hf, if_true]; exact h2
      refine .inr ⟨b, cap, h, h3, h4, by rw [hMb]; rfl, fun j u hu => ?_⟩
      unfold Mem.cell
      rw [hMb]
      rw [← h6, List.getElem?_take] at hu
      split at hu
      · simpa using hu
      · cases hu
  · by_cases hf : foot (hd i) = some b
    · simp only [M', hf, if_true] at hb; exact hb
    · simp only [M', hf, if_false] at hb; exact hR.mem b o hb
  · by_cases hf : foot (hd i) = some b
    · have := (foot_lt hO (by simp) hf).1; omega
    · simp only [M', hf, if_false]; exact hR.old b hb h0
  · have := away j oj b hj hjn hjf
    simp only [M', this, if_false]
    exact hdr.sep j oj b hj hjn hjf
theorem VC_freeze {c : Code} {Q : Post} {M : Mem} {own : List Ob} {env : Env} {i : Nat} {e : TypeId} {k n : Nat} {cs : List Value} (t : Tmp) (ht : env.get t = some (.r i)) (hi : own[i]? = some (.row e k n cs))
    (h : ∀ v M', M.le M' → RowM M' k n cs v → VC P w M0 N c ⟨M', own.set i .gone, (t, .v v) :: env⟩ Q) : VC P w M0 N c ⟨M, own, env⟩ Q := .mk fun hd a W hR => by
  obtain ⟨M', h1, h2, h3⟩ := frozen_wd hR.1 hi
  refine (h (hd i) M' h1 h2).go hd a W ⟨h3, fun q sv hq => ?_, hR.2.size, hR.2.defers⟩
  unfold Env.get at hq
  split at hq
  · rename_i hb
    obtain rfl := Nat.eq_of_beq_eq_true hb
    cases hq
    exact hR.2.env _ (.r i) ht
  · exact hR.2.env q sv hq
theorem VL_freeze {ops : Array Oper} {l : List Oper} {Q : Post} {M : Mem} {own : List Ob} {env : Env} {i : Nat} {e : TypeId} {k n : Nat} {cs : List Value} (t : Tmp) (ht : env.get t = some (.r i)) (hi : own[i]? = some (.row e k n cs))
    (h : ∀ v M', M.le M' → RowM M' k n cs v → VL P w M0 N ops l ⟨M', own.set i .gone, (t, .v v) :: env⟩ Q) : VL P w M0 N ops l ⟨M, own, env⟩ Q := .mk fun hd a W hR => by
  obtain ⟨M', h1, h2, h3⟩ := frozen_wd hR.1 hi
  refine (h (hd i) M' h1 h2).go hd a W ⟨h3, fun q sv hq => ?_, hR.2.size, hR.2.defers⟩
  unfold Env.get at hq
  split at hq
  · rename_i hb
    obtain rfl := Nat.eq_of_beq_eq_true hb
    cases hq
    exact hR.2.env _ (.r i) ht
  · exact hR.2.env q sv hq
/-- What a function leaves whose result lies in memory. -/
def RetM (M : Mem) (W : World) (Post : Value → Mem → Prop) (e : Ending) (W' : World) : Prop := ∃ v M', e = .returned v ∧ Below W.heap.size W W' ∧ M.le M' ∧ M'.le (Mem.of W') ∧ (∀ b, b < W.heap.size → M b = none → M' b = none) ∧ Post v M'
theorem VL_callM {ops : Array Oper} {l : List Oper} {Q : Post} {M : Mem} {own : List Ob} {env : Env} {f : FuncId} {xs : Array Operand} {ats : Array TypeId} {vs : List Value} {Post : Value → Mem → Prop} [hf : CalT P f] (hv : env.vals xs.toList = some vs)
    (hc : ∀ W, M.le (Mem.of W) → Calls P f vs.toArray W (RetM M W Post)) (hk : dstOk N dst = true) (h : ∀ v M', M.le M' → Post v M' → VL P w M0 N ops l ⟨M', own, env.put dst (.v v)⟩ Q) :
    VL P w M0 N ops (⟨dst, .call ⟨.value (.func f), xs, ats⟩, ty, pos, aft, none⟩ :: l) ⟨M, own, env⟩ Q := .mk fun hd a W hR => by
  refine wpList_plain rfl fun K hK => ?_
  unfold Oper.wp
  rw [exec_call (s := ⟨M, own, env⟩) hR.2 hf.h hv]
  simp only [Oper.upon]
  refine (hc W hR.1.mem).mono fun e W' hret => ?_
  obtain ⟨v, M', he, hb, hle, hmem, hnew, hp⟩ := hret
  subst he
  have hi := hR.1.idle hb
  refine hK _ _ ((h v M' hle hp).go hd _ W' ⟨⟨hi.below, hmem, fun b hb' h0 => hnew b (by have := hR.1.below.size; omega) (hR.1.old b hb' h0), hi.grew.trans hle, hi.own, fun i o b hi' hne hf' => ?_, hi.dis⟩, hR.2.put hk (.v v)⟩)
  exact hnew b (foot_lt (hR.1.own i o hi') hne hf').2 (hR.1.sep i o b hi' hne hf')
theorem V_ret {f : FuncId} {fn : Func} {c : Code} {args : List Value} {M : Mem} (hf : P.funcs[f]? = some fn) (hb : fn.body = some c) (hn : fn.ntmps = N) (hk : Nat.ble args.length N = true) (hM : M.le (Mem.of w)) (Post : Value → Mem → Prop)
    (h : VC P w M N c ⟨M, [], envFrom 0 args⟩ (finQ fun s => ∃ v, Res P fn s v ∧ Post v s.M)) : Calls P f args.toArray w (RetM M w Post) := V_fun hf hb hn hk hM Post h
end
end Go.Proofs.Ytipbbbamjckjoaa
