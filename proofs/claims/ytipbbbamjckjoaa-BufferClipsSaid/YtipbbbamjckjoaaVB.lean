/- The logic's rules for literals of several structs, calls that are handed own rows, calls of function values, slices held against nil. No program in sight. -/
import Derived.Test.YtipbbbamjckjoaaVA
namespace Go.Proofs.Ytipbbbamjckjoaa
open Go Go.RowKit
set_option linter.unusedVariables false
set_option maxRecDepth 20000
set_option linter.unusedSimpArgs false
section
variable {P : Program} {w : World} {M0 : Mem} {N : Nat} {dst : Option Tmp} {ty : TypeId} {pos : String} {aft : Array Edge} {g : Option (Nat × Bool)} {M : Mem} {own : List Ob} {env : Env} {s : St}
theorem foldl_put {k off : Nat} : ∀ (us : List Value) (j : Nat) (cs : Array Value), off + j + us.length ≤ cs.size →
    ((us.zipIdx j).foldl (fun (cs : Array Value) (x : Value × Nat) => cs.setIfInBounds (off + x.2) x.1) cs).toList = cs.toList.take (off + j) ++ us ++ cs.toList.drop (off + j + us.length)
  | [], j, cs, _ => by simp
  | u :: us, j, cs, h => by
    simp only [List.length_cons] at h
    rw [List.zipIdx_cons, List.foldl_cons, foldl_put (k := k) us (j + 1) _ (by simp; omega)]
    simp only [Array.toList_setIfInBounds, List.length_cons]
    rw [List.take_set, List.drop_set_of_lt (by omega)]
    have : (cs.toList.take (off + (j + 1))).set (off + j) u = cs.toList.take (off + j) ++ [u] := by
      rw [show off + (j + 1) = (off + j) + 1 by omega, List.take_succ_eq_append_getElem (by simp; omega), List.set_append_right _ _ (by simp; omega)]
      simp [show off + j - min (off + j) cs.size = 0 by omega]
    rw [this]
    simp only [List.append_assoc, List.cons_append, List.nil_append]
    congr 4
    omega
theorem fill_enumK (n k : Nat) : ∀ (vs : List Value) (j : Nat) (cs : Array Value), cs.size = n * k → j + vs.length ≤ n → (∀ v ∈ vs, v.cells.size = k) →
    (Instr.fill (fun i => some (i * k, k)) cs (enumF j vs)).map Array.toList = some (cs.toList.take (j * k) ++ vs.flatMap (fun v => v.cells.toList) ++ cs.toList.drop ((j + vs.length) * k))
  | [], j, cs, hl, hj, _ => by
    unfold enumF Instr.fill
    simp
  | v :: vs, j, cs, hl, hj, h1 => by
    have hv : v.cells.size = k := h1 v (by simp)
    simp only [List.length_cons] at hj
    have hjk : j * k + k ≤ n * k := by rw [← Nat.succ_mul]; exact Nat.mul_le_mul_right _ (by omega)
    unfold enumF Instr.fill
    simp only [hv]
    rw [if_neg (by simp [hl]; omega)]
    have e1 : v.cells.zipIdx.foldl (fun (cs : Array Value) x => cs.setIfInBounds (j * k + x.2) x.1) cs = (v.cells.toList.zipIdx 0).foldl (fun (cs : Array Value) (x : Value × Nat) => cs.setIfInBounds (j * k + x.2) x.1) cs := by
      rw [← Array.foldl_toList]; simp
    have e2 := foldl_put (k := k) (off := j * k) v.cells.toList 0 cs (by simp [hv, hl]; exact hjk)
    rw [e1]
    generalize hcs : (v.cells.toList.zipIdx 0).foldl (fun (cs : Array Value) (x : Value × Nat) => cs.setIfInBounds (j * k + x.2) x.1) cs = cs' at e2 ⊢
    have hvl : v.cells.toList.length = k := by simp [hv]
    have hsz : cs'.size = n * k := by
      rw [← Array.length_toList, e2]
      rw [List.length_append, List.length_append, List.length_drop, List.length_take, hvl, Array.length_toList, hl, Nat.add_zero, Nat.min_eq_left (by omega)]
      omega
    have ih := fill_enumK n k vs (j + 1) cs' hsz (by omega) (fun u hu => h1 u (by simp [hu]))
    rw [ih, e2]
    have e3 : (j + 1) * k = j * k + k := Nat.succ_mul j k
    have e4 : (j + 1 + vs.length) * k = j * k + k + vs.length * k := by rw [Nat.add_mul, Nat.succ_mul]
    have e5 : (j + (v :: vs).length) * k = j * k + k + vs.length * k := by rw [List.length_cons, ← e4]; congr 1; omega
    rw [e3, e4, e5]
    simp only [Nat.add_zero, hvl]
    congr 1
    have hA : (cs.toList.take (j * k) ++ v.cells.toList).length = j * k + k := by rw [List.length_append, List.length_take, hvl, Array.length_toList, hl, Nat.min_eq_left (by omega)]
    rw [List.take_left' hA, List.flatMap_cons, List.drop_append, hA, show j * k + k + vs.length * k - (j * k + k) = vs.length * k by omega, List.drop_drop, List.drop_eq_nil_of_le (by rw [hA]; omega), List.nil_append]
    simp only [List.append_assoc]
theorem litsK_run {t e : TypeId} {env : Env} {len k bytes : Nat} {parts : Array (Nat × Operand)} {vs : List Value} [hE : EloT P t e k bytes] (hpv : env.vals (parts.toList.map (·.2)) = some vs) (hix : parts.toList.map (·.1) = List.range' 0 vs.length) (hlen : vs.length = len) (hmax : Nat.ble (len * k) 1000000 = true) (h1 : (vs.all fun v => v.cells.size == k) = true)
    (hd : Nat → Value) (a : Act) (W : World) (hF : Fr N hd env a) : (Instr.buildSlice t len (parts.map fun (i, x) => (i, a.eval x))).run P W = .ok (.slice (some ⟨W.heap.size, 0, none⟩) len len) (W.alloc (.cells (vs.flatMap fun v => v.cells.toList).toArray e)) := by
    have hE' := ElemOk.mk' hE.h
    obtain ⟨i, z, hi, hz, hs, hb, hzs⟩ := hE'.hi
    have hpe := Env.parts_eval hF parts.toList _ (parts_of_vals _ _ 0 hpv hix)
    have hlm : len * k ≤ 1000000 := Nat.le_of_ble_eq_true hmax
    have hk0 := hE'.hk
    have hparts : (parts.map fun (i, x) => (i, a.eval x)).toList = enumF 0 vs := by rw [Array.toList_map]; exact hpe
    have hfill : ∀ cs : Array Value, cs.size = len * k → Instr.fill (fun q => some (q * k, k)) cs (enumF 0 vs) = some (vs.flatMap fun v => v.cells.toList).toArray := fun cs hcs => by
      have := fill_enumK len k vs 0 cs hcs (by omega) (fun v hv => by simpa using List.all_eq_true.1 h1 v hv)
      rw [Nat.zero_mul, List.take_zero, List.nil_append, Nat.zero_add, hlen, List.drop_eq_nil_of_le (by simp [hcs]), List.append_nil] at this
      cases hf : Instr.fill (fun q => some (q * k, k)) cs (enumF 0 vs) with
      | none => rw [hf] at this; cases this
      | some r =>
        rw [hf] at this
        simp only [Option.map_some, Option.some.injEq] at this
        rw [← this]
    simp only [Instr.buildSlice, Sem.run_bind, run_underlying hE'.ht, Result.andThen_ok, sizeOf, typeInfo, run_program, hi, hs, Sem.run_pure]
    rw [if_neg (by omega)]
    by_cases h0 : len = 0
    · simp only [h0, Nat.zero_mul, if_true, Sem.run_pure, Result.andThen_ok, hparts]
      have hv0 : vs = [] := List.eq_nil_of_length_eq_zero (by omega)
      subst hv0
      simp [enumF, Instr.fill, newRow, Array.range_zero']
    · have h0' : len * k ≠ 0 := by have := Nat.mul_pos (Nat.pos_of_ne_zero h0) hk0; omega
      simp only [h0', if_false, Sem.run_bind, zeroValue, typeInfo, run_program, hi, Result.andThen_ok, hz, Sem.run_pure, hparts]
      have := hfill ((Array.range (len * k)).map (z.cells[· % z.cells.size]!)) (by simp)
      rw [this]
      simp [newRow]
theorem flat_len {k : Nat} : ∀ vs : List Value, (vs.all fun v => v.cells.size == k) = true → (vs.flatMap fun v => v.cells.toList).length = vs.length * k
  | [], _ => by simp
  | v :: vs, h => by
    simp only [List.all_cons, Bool.and_eq_true, beq_iff_eq] at h
    rw [List.flatMap_cons, List.length_append, flat_len vs h.2, List.length_cons, Nat.succ_mul]
    simp [h.1]; omega
theorem EF_litsK {t e : TypeId} {len k bytes : Nat} {parts : Array (Nat × Operand)} {vs : List Value} [hE : EloT P t e k bytes] (hpv : env.vals (parts.toList.map (·.2)) = some vs) (hix : parts.toList.map (·.1) = List.range' 0 vs.length) (hlen : vs.length = len) (hmax : Nat.ble (len * k) 1000000 = true) (h1 : (vs.all fun v => v.cells.size == k) = true) :
    EF P w M0 N ⟨dst, .buildSlice t len parts, ty, pos, aft, g⟩ ⟨M, own, env⟩ (own ++ [.row e k len (vs.flatMap fun v => v.cells.toList)]) (.r own.length) :=
  EF_lit (t := t) (e := e) k _ (by rw [flat_len vs h1, hlen]) (by
    have h2 := Nat.le_of_ble_eq_true hmax
    have h3 := (ElemOk.mk' hE.h).hk
    have : len * 1 ≤ len * k := Nat.mul_le_mul_left _ h3
    unfold maxLen; omega) (litsK_run hpv hix hlen hmax h1)
theorem VL_litsK {ops : Array Oper} {l : List Oper} {Q : Post} {t e : TypeId} {len k bytes : Nat} {parts : Array (Nat × Operand)} {vs : List Value} [hE : EloT P t e k bytes] (hpv : env.vals (parts.toList.map (·.2)) = some vs) (hix : parts.toList.map (·.1) = List.range' 0 vs.length) (hlen : vs.length = len) (hmax : Nat.ble (len * k) 1000000 = true) (h1 : (vs.all fun v => v.cells.size == k) = true)
    (hk : dstOk N dst = true) (hold : envB env own.length = true) (h : VL P w M0 N ops l ⟨M, own ++ [.row e k len (vs.flatMap fun v => v.cells.toList)], env.put dst (.r own.length)⟩ Q) : VL P w M0 N ops (⟨dst, .buildSlice t len parts, ty, pos, aft, none⟩ :: l) ⟨M, own, env⟩ Q :=
  VL_e _ _ (EF_litsK hpv hix hlen hmax h1) hk hold h

/-! ### Calls that are handed what is our own -/
def Env.svs (e : Env) : List Operand → Option (List SV)
  | [] => some []
  | x :: l => match e.op x, e.svs l with | some v, some r => some (v :: r) | _, _ => none
theorem Env.svs_eval {hd : Nat → Value} {env : Env} {a : Act} (h : Fr N hd env a) : ∀ (l : List Operand) (vs : List SV), env.svs l = some vs → l.map a.eval = vs.map (SV.den hd)
  | [], vs, hp => by cases hp; rfl
  | x :: l, vs, hp => by
    unfold Env.svs at hp
    split at hp
    · rename_i v r hx hr
      cases hp
      rw [List.map_cons, Env.svs_eval h l r hr, h.eval hx]; rfl
    · cases hp
theorem exec_callS {hd : Nat → Value} {a : Act} {W : World} {f : FuncId} {xs : Array Operand} {ats : Array TypeId} {vs : List SV} (hF : Fr N hd s.env a) (hf : callB P f = true) (hv : s.env.svs xs.toList = some vs) :
    (execOp a.eval ⟨dst, .call ⟨.value (.func f), xs, ats⟩, ty, pos, aft, g⟩).run P W = .ok (.enter f (vs.map (SV.den hd)).toArray) W := by
  have h1 := Env.svs_eval hF _ _ hv
  show (callFunc f (#[] ++ xs.map a.eval ++ #[])).run P W = _
  rw [run_call hf]
  have : (#[] ++ xs.map a.eval ++ #[] : Array Value) = (vs.map (SV.den hd)).toArray := by rw [← h1]; cases xs; simp
  rw [this]
/-- The callee only reads what it is handed. -/
theorem QS_callR {f : FuncId} {xs : Array Operand} {ats : Array TypeId} {vs : List SV} {r : Value} [hf : CalT P f] (hv : s.env.svs xs.toList = some vs)
    (hc : ∀ (hd : Nat → Value) W, (∀ i o, s.own[i]? = some o → ObOk w.heap.size W (hd i) o) → s.M.le (Mem.of W) → Calls P f (vs.map (SV.den hd)).toArray W fun e W' => e = .returned r ∧ Below W.heap.size W W') :
    QS P w M0 N ⟨dst, .call ⟨.value (.func f), xs, ats⟩, ty, pos, aft, g⟩ s (.v r) := .mk fun hd a W hR => by
  unfold Oper.quietAt
  rw [exec_callS hR.2 hf.h hv]
  exact ⟨rfl, hc hd W hR.1.own hR.1.mem⟩
/-- An own row that is read as a list. -/
theorem ObOk.sl {α : Type} {base : Nat} {W : World} {v : Value} {e : TypeId} {k n : Nat} {cs : List Value} {cells : α → List Value} (l : List α) (h : ObOk base W v (.row e k n cs)) (hn : n = l.length) (hk : ∀ a ∈ l, (cells a).length = k) (hc : cs = l.flatMap cells) : Sl W k cells v l := by
  subst hn hc
  exact Sl.of_own hk h
/-- A call of a function's value. -/
theorem exec_callV {hd : Nat → Value} {a : Act} {W : World} {f : FuncId} {x : Operand} {caps : Array Value} {xs : Array Operand} {ats : Array TypeId} {vs : List Value} (hF : Fr N hd s.env a) (hf : callB P f = true) (hx : s.env.op x = some (.v (.func (.func f) #[] caps))) (hv : s.env.vals xs.toList = some vs) :
    (execOp a.eval ⟨dst, .call ⟨.value x, xs, ats⟩, ty, pos, aft, g⟩).run P W = .ok (.enter f (vs.toArray ++ caps)) W := by
  have h1 := Env.vals_eval hF _ _ hv
  have h2 := hF.eval hx
  simp only [SV.den] at h2
  have e : (#[] ++ xs.map a.eval : Array Value) = vs.toArray := by rw [← h1]; cases xs; simp
  simp only [execOp, resolve, h2, Deferred.ofValue, Sem.run_bind, Sem.run_pure, Result.andThen_ok, e, invoke, run_call hf]
theorem QS_callV {f : FuncId} {x : Operand} {caps : Array Value} {xs : Array Operand} {ats : Array TypeId} {vs : List Value} {r : Value} (hx : s.env.op x = some (.v (.func (.func f) #[] caps))) [hf : CalT P f] (hv : s.env.vals xs.toList = some vs)
    (hc : ∀ W, s.M.le (Mem.of W) → Calls P f (vs.toArray ++ caps) W fun e W' => e = .returned r ∧ Below W.heap.size W W') : QS P w M0 N ⟨dst, .call ⟨.value x, xs, ats⟩, ty, pos, aft, g⟩ s (.v r) := .mk fun hd a W hR => by
  unfold Oper.quietAt
  rw [exec_callV hR.2 hf.h hx hv]
  exact ⟨rfl, hc W hR.1.mem⟩
end
section
variable {P : Program} {x y : Operand} {t : TypeId}
/-- A slice held against nil. -/
theorem run_equalIn_slnil (W : World) (d : Nat) (t : TypeId) {e : TypeId} (h : P.underlying t = some (.slice e)) (A : Option Addr) (n c : Nat) : (Op.equalIn (d + 1) t (.slice A n c) (.slice none 0 0)).run P W = .ok A.isNone W := by
  cases A <;> simp [Op.equalIn, run_underlying h]
theorem run_equal_slnil (W : World) (t : TypeId) {e : TypeId} (h : P.underlying t = some (.slice e)) (A : Option Addr) (n c : Nat) : (Op.equal t (.slice A n c) (.slice none 0 0)).run P W = .ok A.isNone W := run_equalIn_slnil W 9999 t h A n c
theorem B_slnil [h : SliT P t] {A : Option Addr} {n c : Nat} : Bin P .eql t x (.const (.slice none 0 0)) (.slice A n c) (.slice none 0 0) (.bool A.isNone) := .mk fun W => by
  have hu := isSliceB_u h.h
  rw [Sem.run_bind]
  have hg : (eqGuard .eql t x (.const (.slice none 0 0)) (.slice A n c) (.slice none 0 0)).run P W = .ok () W := by
    simp [eqGuard]
  rw [hg]
  simp only [Result.andThen_ok, binOp]
  simp [run_equal_slnil W t hu A n c]
end
end Go.Proofs.Ytipbbbamjckjoaa
