/- The logic's rules for slices' literals, and for functions whose result is a row of the caller's own. No program in sight. -/
import Derived.Test.YtipbbbamjckjoaaVS
namespace Go.Proofs.Ytipbbbamjckjoaa
open Go Go.RowKit
set_option linter.unusedVariables false
set_option maxRecDepth 20000
set_option linter.unusedSimpArgs false
section
variable {P : Program} {w : World} {M0 : Mem} {N : Nat} {dst : Option Tmp} {ty : TypeId} {pos : String} {aft : Array Edge} {s : St}
def enumF : Nat → List Value → List (Nat × Value)
  | _, [] => []
  | j, v :: l => (j, v) :: enumF (j + 1) l
theorem fill_enum (n : Nat) : ∀ (vs : List Value) (j : Nat) (cs : List Value), cs.length = n → j + vs.length ≤ n → (∀ v ∈ vs, v.oneCell' = true) →
    Instr.fill (fun i => some (i * 1, 1)) cs.toArray (enumF j vs) = some (cs.take j ++ vs ++ cs.drop (j + vs.length)).toArray
  | [], j, cs, hl, hj, _ => by
    unfold enumF Instr.fill
    simp
  | v :: vs, j, cs, hl, hj, h1 => by
    have hv : v.cells = #[v] := by
      have := h1 v (by simp)
      cases v <;> first | rfl | cases this
    simp only [List.length_cons] at hj
    have ih := fill_enum n vs (j + 1) (cs.set j v) (by simp [hl]) (by omega) (fun u hu => h1 u (by simp [hu]))
    unfold enumF Instr.fill
    simp only [hv, Nat.mul_one]
    rw [if_neg (by simp; omega)]
    have e1 : (#[v] : Array Value).zipIdx.foldl (fun cs x => cs.setIfInBounds (j + x.2) x.1) cs.toArray = (cs.set j v).toArray := by
      show (cs.toArray).setIfInBounds (j + 0) v = _
      simp
    have e2 : (fun (i : Nat) => some (i, 1)) = (fun i => some (i * 1, 1)) := by funext i; simp
    rw [e1, e2, ih]
    congr 2
    rw [List.take_set, List.drop_set_of_lt (by omega)]
    have : (cs.take (j + 1)).set j v = cs.take j ++ [v] := by
      rw [List.take_succ_eq_append_getElem (by omega), List.set_append_right _ _ (by simp; omega)]
      simp [show j - min j cs.length = 0 by omega]
    rw [this]
    simp [Nat.add_assoc, Nat.add_comm 1]
theorem parts_of_vals {env : Env} : ∀ (l : List (Nat × Operand)) (vs : List Value) (j : Nat), env.vals (l.map (·.2)) = some vs → l.map (·.1) = List.range' j vs.length → env.parts l = some (enumF j vs)
  | [], vs, j, h, _ => by cases h; rfl
  | (i, x) :: l, vs, j, h, hi => by
    simp only [List.map_cons] at h
    unfold Env.vals at h
    split at h
    · rename_i v r hx hr
      cases h
      simp only [List.map_cons, List.length_cons, List.range'_succ] at hi
      injection hi with h1 h2
      subst h1
      unfold Env.parts
      rw [hx, parts_of_vals l r (i + 1) hr h2]
      rfl
    · cases h
theorem lits_run {t e : TypeId} {env : Env} {len : Nat} {parts : Array (Nat × Operand)} {bytes : Nat} {vs : List Value} [hE : EloT P t e 1 bytes] (hpv : env.vals (parts.toList.map (·.2)) = some vs) (hix : parts.toList.map (·.1) = List.range' 0 vs.length) (hlen : vs.length = len) (hmax : Nat.ble len 1000000 = true) (h1 : (vs.all (·.oneCell')) = true)
    (hd : Nat → Value) (a : Act) (W : World) (hF : Fr N hd env a) : (Instr.buildSlice t len (parts.map fun (i, x) => (i, a.eval x))).run P W = .ok (.slice (some ⟨W.heap.size, 0, none⟩) len len) (W.alloc (.cells vs.toArray e)) := by
    have hE' := ElemOk.mk' hE.h
    obtain ⟨i, z, hi, hz, hs, hb, hzs⟩ := hE'.hi
    have hpe := Env.parts_eval hF parts.toList _ (parts_of_vals _ _ 0 hpv hix)
    have hlm : len ≤ 1000000 := Nat.le_of_ble_eq_true hmax
    have hparts : (parts.map fun (i, x) => (i, a.eval x)).toList = enumF 0 vs := by rw [Array.toList_map]; exact hpe
    have hfill : ∀ cs : Array Value, cs.size = len → Instr.fill (fun q => some (q * 1, 1)) cs (enumF 0 vs) = some vs.toArray := fun cs hcs => by
      have := fill_enum len vs 0 cs.toList (by simpa using hcs) (by omega) (fun v hv => List.all_eq_true.1 h1 v hv)
      rw [Array.toArray_toList] at this
      rw [this]
      simp
      omega
    simp only [Instr.buildSlice, Sem.run_bind, run_underlying hE'.ht, Result.andThen_ok, sizeOf, typeInfo, run_program, hi, hs, Nat.mul_one, Sem.run_pure]
    rw [if_neg (by omega)]
    by_cases h0 : len = 0
    · simp only [h0, if_true, Sem.run_pure, Result.andThen_ok, hparts]
      have hv0 : vs = [] := List.eq_nil_of_length_eq_zero (by omega)
      subst hv0
      simp [enumF, Instr.fill, newRow, Array.range_zero']
    · simp only [h0, if_false, Sem.run_bind, zeroValue, typeInfo, run_program, hi, Result.andThen_ok, hz, Sem.run_pure, hparts]
      have := hfill ((Array.range len).map (z.cells[· % z.cells.size]!)) (by simp)
      simp only [Nat.mul_one] at this
      rw [this]
      simp [newRow]
theorem VL_lits {ops : Array Oper} {t e : TypeId} {l : List Oper} {Q : Post} {M : Mem} {own : List Ob} {env : Env} {len : Nat} {parts : Array (Nat × Operand)} {bytes : Nat} {vs : List Value} [hE : EloT P t e 1 bytes] (hpv : env.vals (parts.toList.map (·.2)) = some vs) (hix : parts.toList.map (·.1) = List.range' 0 vs.length) (hlen : vs.length = len) (hmax : Nat.ble len 1000000 = true) (h1 : (vs.all (·.oneCell')) = true)
    (hk : dstOk N dst = true) (hold : envB env own.length = true) (h : VL P w M0 N ops l ⟨M, own ++ [.row e 1 len vs], env.put dst (.r own.length)⟩ Q) : VL P w M0 N ops (⟨dst, .buildSlice t len parts, ty, pos, aft, none⟩ :: l) ⟨M, own, env⟩ Q :=
  VL_lit (t := t) (e := e) (o := ⟨dst, .buildSlice t len parts, ty, pos, aft, none⟩) rfl rfl 1 vs (by omega) (by have := Nat.le_of_ble_eq_true hmax; unfold maxLen; omega) (lits_run hpv hix hlen hmax h1) hk hold h
/-- What a function leaves whose result is a row that is the caller's own. -/
def RetRow (e : TypeId) (k n : Nat) (cs : List Value) (W : World) (x : Ending) (W' : World) : Prop := ∃ v, x = .returned v ∧ Below W.heap.size W W' ∧ W'.ownsRow W.heap.size e k v n cs
theorem V_row {f : FuncId} {fn : Func} {c : Code} {args : List Value} {M : Mem} {e : TypeId} {k n : Nat} {cs : List Value} {t : Tmp} (hf : P.funcs[f]? = some fn) (hb : fn.body = some c) (hn : fn.ntmps = N) (hk : Nat.ble args.length N = true) (hM : M.le (Mem.of w)) (hres : fn.results = #[.tmp t])
    (h : VC P w M N c ⟨M, [], envFrom 0 args⟩ (finQ fun s => ∃ i, s.env.get t = some (.r i) ∧ s.own[i]? = some (.row e k n cs))) : Calls P f args.toArray w (RetRow e k n cs w) := by
  have hk' : args.length ≤ N := Nat.le_of_ble_eq_true hk
  refine calls_of_wp hf hb (wp_mono (h.go (fun _ => .nilFunc) _ w ⟨⟨Below.refl _ _, hM, fun b _ h => h, Mem.le_refl _, fun i o hi => by simp at hi, fun i o b hi => by simp at hi, fun i j oi oj b hi => by simp at hi⟩, fun t sv ht => ?_, ?_, rfl⟩) ?_)
  · obtain ⟨v, _, h1, rfl⟩ := envFrom_get args 0 t sv ht
    have h1' : args[t]? = some v := by simpa using h1
    have hlt := (List.getElem?_eq_some_iff.1 h1').1
    show (args.toArray ++ _)[t]? = some v
    rw [Array.getElem?_append_left (by simpa using hlt)]
    simpa using h1'
  · simp [hn]; omega
  · rintro x a' W' ⟨hd', s', hR', hq⟩
    have key : (∃ i, s'.env.get t = some (.r i) ∧ s'.own[i]? = some (.row e k n cs)) → a'.defers = [] ∧ ∃ v, (results fn a'.tmps).run P W' = .ok v W' ∧ RetRow e k n cs w (.returned v) W' := by
      rintro ⟨i, h1, h2⟩
      have ht := hR'.2.env t _ h1
      refine ⟨hR'.2.defers, hd' i, ?_, hd' i, rfl, hR'.1.below, hR'.1.own i _ h2⟩
      rw [results_tmp hres]
      simp [ht, SV.den]
    cases x with
    | ret => exact key hq
    | normal => exact key hq
    | exit id => exact hq.elim
    | goto l => exact hq.elim
    | panic c => exact hq.elim
    | outgrown => exact hq.elim
theorem VL_callO {ops : Array Oper} {l : List Oper} {Q : Post} {M : Mem} {own : List Ob} {env : Env} {f : FuncId} {xs : Array Operand} {ats : Array TypeId} {vs : List Value} {e : TypeId} {k n : Nat} {cs : List Value} [hf : CalT P f] (hv : env.vals xs.toList = some vs)
    (hc : ∀ W, M.le (Mem.of W) → Calls P f vs.toArray W (RetRow e k n cs W)) (hk : dstOk N dst = true) (hold : envB env own.length = true) (h : VL P w M0 N ops l ⟨M, own ++ [.row e k n cs], env.put dst (.r own.length)⟩ Q) :
    VL P w M0 N ops (⟨dst, .call ⟨.value (.func f), xs, ats⟩, ty, pos, aft, none⟩ :: l) ⟨M, own, env⟩ Q := .mk fun hd a W hR => by
  refine wpList_plain rfl fun K hK => ?_
  unfold Oper.wp
  rw [exec_call (s := ⟨M, own, env⟩) hR.2 hf.h hv]
  simp only [Oper.upon]
  refine (hc W hR.1.mem).mono fun x W' hret => ?_
  obtain ⟨v, he, hb, hown⟩ := hret
  subst he
  have hsz := hR.1.below.size
  have hok : W'.ownsRow w.heap.size e k v n cs := by
    refine ⟨hown.1, ?_⟩
    rcases hown.2 with h1 | ⟨g, cap, cur, h1, h2, h3⟩
    · exact .inl h1
    · exact .inr ⟨g, cap, cur, h1, by omega, h3⟩
  have hnew := hR.1.new (o' := .row e k n cs) (v' := v) (grown_of_below hb) hok (fun b hb' => by
    rcases hown.2 with ⟨h1, _⟩ | ⟨g, cap, cur, h1, h2, h3⟩
    · rw [h1] at hb'; cases hb'
    · rw [h1] at hb'
      obtain rfl : g = b := by simpa [foot] using hb'
      exact h2)
  have hput := (env_new (own := own) hR.2 hold v).put hk (.r own.length)
  have e1 : SV.den (setH hd own.length v) (.r own.length) = v := by simp only [SV.den, setH_same]
  rw [e1] at hput
  exact hK _ _ (h.go _ _ _ ⟨hnew, hput⟩)
end
end Go.Proofs.Ytipbbbamjckjoaa
