/- The logic's rules for stores into own rows, and for callees that are handed an own row. No program in sight. -/
import Derived.Test.YtipbbbamjckjoaaVN
namespace Go.Proofs.Ytipbbbamjckjoaa
open Go Go.RowKit
set_option linter.unusedVariables false
set_option maxRecDepth 20000
set_option linter.unusedSimpArgs false
section
variable {P : Program} {w : World} {M0 : Mem} {N : Nat} {dst : Option Tmp} {ty : TypeId} {pos : String} {aft : Array Edge} {g : Option (Nat × Bool)} {M : Mem} {own : List Ob} {env : Env} {s : St}
/-- One cell of an own row. -/
theorem ES_row1 {t e : TypeId} {x y : Operand} {i off k n : Nat} {cs : List Value} {u : Value} (hx : env.op x = some (.p i off)) (hy : env.op y = some (.v u)) (hi : own[i]? = some (.row e k n cs)) (hoff : off < cs.length) (hu : u.oneCell' = true) [ht : SizT P t 1] :
    ES P w M0 N ⟨dst, .store t x y, ty, pos, aft, g⟩ ⟨M, own, env⟩ (own.set i (.row e k n (cs.set off u))) := fun hd a W hR => by
  have h1 := hR.2.eval hx
  have h2 := hR.2.eval hy
  simp only [SV.den] at h1 h2
  have hO := hR.1.own i _ hi
  obtain ⟨hlen, ⟨_, h0⟩ | ⟨b, cap, cur, hv, hb1, hb2, hnc, hcm, hcs, htake⟩⟩ := id hO
  · subst h0
    rw [Nat.zero_mul] at hlen
    omega
  have hc := ob_cell hO (off := off) (u := cs[off]) (by simp [Ob.cells, hoff])
  have hfoot : foot (hd i) = some b := by rw [hv]; rfl
  rw [hfoot] at h1 hc
  simp only [Option.getD_some] at h1 hc
  have hz : W.frozen? ⟨b, off, none⟩ = false := frozen_of_row W b off cur e hb2
  have hvc : u.cells = #[u] := by cases u <;> first | rfl | cases hu
  refine ⟨W.setCell ⟨b, off, none⟩ u, ?_, ?_⟩
  · simp [execOp, h1, h2, Instr.storeAt, Instr.sureAddr, storeVar, run_sizeOf_of ht.h, hvc, storeCells, run_store P W _ u _ hu, hc, hz, Addr.add_zero']
  · refine hR.1.upd hi (by simp) (row := some b) ⟨rfl, rfl, rfl, by simp, fun q hq hne => heap_setCell_other W ⟨b, off, none⟩ q u (fun e => hne (by rw [e]))⟩ (fun q hq => by cases hq; exact hfoot) ⟨by simpa using hlen, .inr ⟨b, cap, cur.setIfInBounds off u, hv, hb1, heap_setCell_same W b off cur e u hb2, hnc, hcm, by simpa using hcs, ?_⟩⟩
    rw [Array.toList_setIfInBounds, List.take_set, htake]
def EnvV : Env → Env → Prop
  | [], _ => True
  | (t, .v x) :: l, e => e.get t = some (.v x) ∧ EnvV l e
  | _ :: _, _ => False
theorem EnvV.get : ∀ {e' e : Env}, EnvV e' e → ∀ t sv, e'.get t = some sv → ∃ x, sv = .v x ∧ e.get t = some (.v x)
  | [], _, _, _, _, h => by cases h
  | (k, .v x) :: l, e, ⟨h1, h2⟩, t, sv, h => by
    unfold Env.get at h
    split at h
    · rename_i hb
      obtain rfl := Nat.eq_of_beq_eq_true hb
      cases h; exact ⟨x, rfl, h1⟩
    · exact EnvV.get h2 t sv h
  | (k, .p _ _) :: l, e, h, _, _, _ => h.elim
  | (k, .r _) :: l, e, h, _, _, _ => h.elim
def envFromS : Nat → List SV → Env
  | _, [] => []
  | k, v :: l => (k, v) :: envFromS (k + 1) l
theorem envFromS_get : ∀ (l : List SV) (k t : Nat) (sv : SV), (envFromS k l).get t = some sv → k ≤ t ∧ l[t - k]? = some sv
  | [], _, _, _, h => by cases h
  | v :: l, k, t, sv, h => by
    unfold envFromS Env.get at h
    split at h
    · rename_i hb
      obtain rfl := Nat.eq_of_beq_eq_true hb
      cases h
      exact ⟨Nat.le_refl _, by simp⟩
    · obtain ⟨h1, h2⟩ := envFromS_get l (k + 1) t sv h
      exact ⟨by omega, by rw [show t - k = (t - (k + 1)) + 1 by omega]; simpa using h2⟩
/-- A callee that is handed own rows, and writes into them: of the caller's own nothing else is known behind it. -/
theorem VL_callW {ops : Array Oper} {l : List Oper} {Q : Post} {f : FuncId} {fn : Func} {c : Code} {N' : Nat} {xs : Array Operand} {ats : Array TypeId} {svs : List SV} {args1 : List SV} {own1 : List Ob} (ρ : List Nat) {e : TypeId} {k n : Nat} {cs : List Value} {t : Tmp}
    (hf : P.funcs[f]? = some fn) (hb : fn.body = some c) (hn : fn.ntmps = N') (hres : fn.results = #[.tmp t]) [hcal : CalT P f] (hk' : Nat.ble args1.length N' = true) (hv : env.svs xs.toList = some svs) (hren : args1.map (SV.ren ρ) = svs) (hnd : nodupB ρ = true) (hsub : OwnSub own1 ρ own)
    (hVC : VC P w M0 N' c ⟨M, own1, envFromS 0 args1⟩ (finQ fun s => s.M = M ∧ ∃ i, s.env.get t = some (.r i) ∧ s.own[i]? = some (.row e k n cs))) (env' : Env) (henv : EnvV env' env) (hk : dstOk N dst = true)
    (h : VL P w M0 N ops l ⟨M, [.row e k n cs], env'.put dst (.r 0)⟩ Q) : VL P w M0 N ops (⟨dst, .call ⟨.value (.func f), xs, ats⟩, ty, pos, aft, none⟩ :: l) ⟨M, own, env⟩ Q := .mk fun hd a W hR => by
  refine wpList_plain rfl fun K hK => ?_
  unfold Oper.wp
  rw [exec_callS (s := ⟨M, own, env⟩) hR.2 hcal.h hv]
  simp only [Oper.upon]
  have hk2 : args1.length ≤ N' := Nat.le_of_ble_eq_true hk'
  have hR1 := (Sub.rel (ρ := ρ) (s := ⟨M, own, env⟩) (s' := ⟨M, own1, []⟩) ⟨rfl, hnd, hsub, trivial⟩ hR).1
  have harg : svs.map (SV.den hd) = args1.map (SV.den fun i => hd (ρ.getD i 0)) := by
    rw [← hren, List.map_map]
    exact List.map_congr_left fun sv _ => den_ren hd ρ sv
  rw [harg]
  refine calls_of_wp hf hb (wp_mono (hVC.go (fun i => hd (ρ.getD i 0)) _ W ⟨hR1, fun q sv hq => ?_, ?_, rfl⟩) ?_)
  · obtain ⟨_, h1⟩ := envFromS_get args1 0 q sv hq
    have h1' : args1[q]? = some sv := by simpa using h1
    have hlt := (List.getElem?_eq_some_iff.1 h1').1
    show ((args1.map (SV.den fun i => hd (ρ.getD i 0))).toArray ++ _)[q]? = _
    rw [Array.getElem?_append_left (by simpa using hlt)]
    simp [h1']
  · simp [hn]; omega
  · rintro x a' W' ⟨hd', s', hR', hq⟩
    have key : (s'.M = M ∧ ∃ i, s'.env.get t = some (.r i) ∧ s'.own[i]? = some (.row e k n cs)) → a'.defers = [] ∧ ∃ v, (results fn a'.tmps).run P W' = .ok v W' ∧ K (a.put dst v) W' := by
      rintro ⟨hM, i, h1, h2⟩
      have ht := hR'.2.env t _ h1
      refine ⟨hR'.2.defers, hd' i, ?_, ?_⟩
      · rw [results_tmp hres]
        simp [ht, SV.den]
      · have hWd : Wd w M0 (fun _ => hd' i) M [.row e k n cs] W' := by
          refine ⟨hR'.1.below, by rw [← hM]; exact hR'.1.mem, by rw [← hM]; exact hR'.1.old, by rw [← hM]; exact hR'.1.grew, fun j o hj => ?_, fun j o b hj hne hfb => ?_, fun j q oj oq b hj hq' _ _ _ _ => ?_⟩
          · have hj0 : j = 0 := by have := (List.getElem?_eq_some_iff.1 hj).1; simpa using this
            subst hj0
            simp at hj
            subst hj
            exact hR'.1.own i _ h2
          · rw [← hM]
            exact hR'.1.sep i _ b h2 (by simp) hfb
          · have := (List.getElem?_eq_some_iff.1 hj).1
            have := (List.getElem?_eq_some_iff.1 hq').1
            simp at *
            omega
        have hFr : Fr N (fun _ => hd' i) env' a := ⟨fun q sv hq' => by
          obtain ⟨u, rfl, h3⟩ := henv.get q sv hq'
          exact hR.2.env q _ h3, hR.2.size, hR.2.defers⟩
        have := hFr.put hk (.r 0)
        exact hK _ _ (h.go _ _ W' ⟨hWd, this⟩)
    cases x with
    | ret => exact key hq
    | normal => exact key hq
    | exit id => exact hq.elim
    | goto l => exact hq.elim
    | panic c => exact hq.elim
    | outgrown => exact hq.elim
/-! ### A struct stored into an own row, a row cut short -/
def putL : List Value → Nat → List Value → List Value
  | cs, _, [] => cs
  | cs, o, v :: r => putL (cs.set o v) (o + 1) r
def putA : Array Value → Nat → List Value → Array Value
  | cs, _, [] => cs
  | cs, o, v :: r => putA (cs.setIfInBounds o v) (o + 1) r
theorem putL_len : ∀ (vs : List Value) (o : Nat) (cs : List Value), (putL cs o vs).length = cs.length
  | [], _, _ => rfl
  | v :: r, o, cs => by unfold putL; rw [putL_len r]; simp
theorem putA_size : ∀ (vs : List Value) (o : Nat) (cs : Array Value), (putA cs o vs).size = cs.size
  | [], _, _ => rfl
  | v :: r, o, cs => by unfold putA; rw [putA_size r]; simp
theorem putA_take (m : Nat) : ∀ (vs : List Value) (o : Nat) (cs : Array Value), (putA cs o vs).toList.take m = putL (cs.toList.take m) o vs
  | [], _, _ => rfl
  | v :: r, o, cs => by unfold putA putL; rw [putA_take m r, Array.toList_setIfInBounds, List.take_set]
theorem putL_eq : ∀ (vs : List Value) (o : Nat) (cs : List Value), o + vs.length ≤ cs.length → putL cs o vs = cs.take o ++ vs ++ cs.drop (o + vs.length)
  | [], o, cs, _ => by simp [putL]
  | v :: r, o, cs, h => by
    simp only [List.length_cons] at h
    unfold putL
    rw [putL_eq r (o + 1) _ (by simp; omega), List.take_set, List.drop_set_of_lt (by omega)]
    have : (cs.take (o + 1)).set o v = cs.take o ++ [v] := by
      rw [List.take_succ_eq_append_getElem (by omega), List.set_append_right _ _ (by simp; omega)]
      simp [show o - min o cs.length = 0 by omega]
    rw [this]
    simp [Nat.add_assoc, Nat.add_comm 1]
theorem heap_setCells_row {b : Nat} {e : TypeId} : ∀ (vs : List Value) (o : Nat) (W : World) (cur : Array Value), W.heap[b]? = some (.cells cur e (0, 0)) → (W.setCells b o vs).heap[b]? = some (.cells (putA cur o vs) e (0, 0))
  | [], _, _, _, h => h
  | v :: r, o, W, cur, h => by
    unfold World.setCells putA
    exact heap_setCells_row r (o + 1) _ _ (Go.heap_setCell_same W b o cur e v h)
theorem grown_setCells {b : Nat} : ∀ (vs : List Value) (o : Nat) (W : World), W.grownBy (W.setCells b o vs) (some b)
  | [], _, W => ⟨rfl, rfl, rfl, Nat.le_refl _, fun _ _ _ => rfl⟩
  | v :: r, o, W => by
    have h1 : W.grownBy (W.setCell ⟨b, o, none⟩ v) (some b) := ⟨rfl, rfl, rfl, by simp, fun k hk hne => heap_setCell_other W ⟨b, o, none⟩ k v (fun e => hne (by rw [e]))⟩
    have h2 := grown_setCells (b := b) r (o + 1) (W.setCell ⟨b, o, none⟩ v)
    unfold World.setCells
    exact ⟨h2.os.trans h1.os, h2.tape.trans h1.tape, h2.output.trans h1.output, Nat.le_trans h1.size h2.size, fun k hk hne => (h2.block k (Nat.lt_of_lt_of_le hk h1.size) hne).trans (h1.block k hk hne)⟩
theorem ES_rowN {t e : TypeId} {x y : Operand} {i off k n n1 : Nat} {cs : List Value} {us : Array Value} (hx : env.op x = some (.p i off)) (hy : env.op y = some (.v (.agg us))) (hi : own[i]? = some (.row e k n cs)) (hoff : off + n1 ≤ cs.length) (hu : us.toList.all (·.oneCell') = true) [ht : SizT P t n1] (hsz : us.toList.length = n1) :
    ES P w M0 N ⟨dst, .store t x y, ty, pos, aft, g⟩ ⟨M, own, env⟩ (own.set i (.row e k n (putL cs off us.toList))) := fun hd a W hR => by
  have h1 := hR.2.eval hx
  have h2 := hR.2.eval hy
  simp only [SV.den] at h1 h2
  have hO := hR.1.own i _ hi
  obtain ⟨hlen, ⟨hv, h0⟩ | ⟨b, cap, cur, hv, hb1, hb2, hnc, hcm, hcs, htake⟩⟩ := id hO
  · subst h0
    rw [Nat.zero_mul] at hlen
    have hn1 : n1 = 0 := by omega
    have hus : us = #[] := by
      apply Array.ext'
      have : us.toList.length = 0 := by omega
      simpa using List.eq_nil_of_length_eq_zero this
    have hcs : cs = [] := List.eq_nil_of_length_eq_zero hlen
    subst hn1 hus hcs
    refine ⟨W, ?_, ?_⟩
    · simp [execOp, h1, h2, Instr.storeAt, Instr.sureAddr, storeVar, run_sizeOf_of ht.h, storeCells, Value.cells]
    · have := hR.1.upd (o' := .row e k 0 (putL [] off (#[] : Array Value).toList)) (W' := W) hi (by simp) (row := none) ⟨rfl, rfl, rfl, Nat.le_refl _, fun _ _ _ => rfl⟩ (fun q hq => by cases hq) hO
      exact this
  · have hfoot : foot (hd i) = some b := by rw [hv]; rfl
    rw [hfoot] at h1
    simp only [Option.getD_some] at h1
    have hcell : ∀ j, j < us.toList.length → (W.cell? ⟨b, off + j, none⟩).isSome = true := fun j hj => by
      have := ob_cell hO (off := off + j) (u := cs[off + j]'(by omega)) (by simp [Ob.cells])
      rw [hfoot] at this
      simp only [Option.getD_some] at this
      rw [this]; rfl
    have hfz : ∀ j, j < us.toList.length → W.frozen? ⟨b, off + j, none⟩ = false := fun j _ => frozen_of_row W b (off + j) cur e hb2
    have hst := run_storeCells_cells (P := P) b off us.toList 0 W (by simpa using hcell) (by simpa using hfz) (fun v hv => List.all_eq_true.1 hu v hv)
    simp only [Nat.add_zero] at hst
    have hus : us.size = n1 := by simpa using hsz
    refine ⟨W.setCells b off us.toList, ?_, ?_⟩
    · simp only [execOp, h1, h2, Instr.storeAt, Instr.sureAddr, storeVar, Sem.run_bind, Sem.run_pure, Result.andThen_ok, run_sizeOf_of ht.h, Value.cells, hus, ne_eq, not_true_eq_false, if_false, hst]
    · refine hR.1.upd hi (by simp) (row := some b) (grown_setCells us.toList off W) (fun q hq => by cases hq; exact hfoot) ⟨by rw [putL_len]; exact hlen, .inr ⟨b, cap, putA cur off us.toList, hv, hb1, heap_setCells_row us.toList off W cur hb2, hnc, hcm, by rw [putA_size]; exact hcs, ?_⟩⟩
      rw [putA_take, htake]
end
end Go.Proofs.Ytipbbbamjckjoaa
