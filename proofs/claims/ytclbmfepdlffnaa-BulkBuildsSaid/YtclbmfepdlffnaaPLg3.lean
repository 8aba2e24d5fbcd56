/- The logic's rules for named own objects: stores, freezing, callees that are handed some of them and leave others. No program in sight. -/
import Derived.Test.YtclbmfepdlffnaaPLg2
namespace Go.Proofs.Ytclbmfepdlffnaa
open Go Go.RowKit
set_option linter.unusedVariables false
set_option maxRecDepth 20000
set_option linter.unusedSimpArgs false
section
variable {P : Program} {w : World} {M0 : Mem} {N : Nat} {dst : Option Tmp} {ty : TypeId} {pos : String} {aft : Array Edge} {g : Option (Nat × Bool)} {M : Mem} {own : List Ob} {env : Env} {hd : Nat → Value} {W W' : World}
/-- One cell of a named row. -/
theorem ES_nrow1 {t e : TypeId} {x y : Operand} {b off k n : Nat} {u0 u : Value} {cs : List Value} (i : Nat) (hx : env.op x = some (.v (.pointer (some ⟨b, off, none⟩)))) (hy : env.op y = some (.v u)) (hi : own[i]? = some (.nrow u0 e k n cs)) (hf : foot u0 = some b) (hoff : off < cs.length) (hu : u.oneCell' = true) [ht : SizT P t 1] :
    ES P w M0 N ⟨dst, .store t x y, ty, pos, aft, g⟩ ⟨M, own, env⟩ (own.set i (.nrow u0 e k n (cs.set off u))) := fun hd a W hR => by
  have h1 := hR.2.eval hx
  have h2 := hR.2.eval hy
  simp only [SV.den] at h1 h2
  have hO := hR.1.own i _ hi
  obtain ⟨hhd, hlen, ⟨_, h0⟩ | ⟨b', cap, cur, hv, hb1, hb2, hnc, hcm, hcs, htake⟩⟩ := id hO
  · subst h0
    rw [Nat.zero_mul] at hlen
    omega
  have hfoot : foot (hd i) = some b' := by rw [hv]; rfl
  have hfoot' : foot (hd i) = some b := by rw [hhd]; exact hf
  obtain rfl : b' = b := by rw [hfoot] at hfoot'; exact Option.some.inj hfoot'
  have hc := ob_cell hO (off := off) (u := cs[off]) (by simp [Ob.cells, hoff])
  rw [hfoot] at hc
  simp only [Option.getD_some] at hc
  have hz : W.frozen? ⟨b', off, none⟩ = false := frozen_of_row W b' off cur e hb2
  have hvc : u.cells = #[u] := by cases u <;> first | rfl | cases hu
  refine ⟨W.setCell ⟨b', off, none⟩ u, ?_, ?_⟩
  · simp [execOp, h1, h2, Instr.storeAt, Instr.sureAddr, storeVar, run_sizeOf_of ht.h, hvc, storeCells, run_store P W _ u _ hu, hc, hz, Addr.add_zero']
  · refine hR.1.upd hi (by simp) (row := some b') ⟨rfl, rfl, rfl, by simp, fun q hq hne => heap_setCell_other W ⟨b', off, none⟩ q u (fun e => hne (by rw [e]))⟩ (fun q hq => by cases hq; exact hfoot) ⟨hhd, by simpa using hlen, .inr ⟨b', cap, cur.setIfInBounds off u, hv, hb1, heap_setCell_same W b' off cur e u hb2, hnc, hcm, by simpa using hcs, ?_⟩⟩
    rw [Array.toList_setIfInBounds, List.take_set, htake]
theorem Fr.two {hd : Nat → Value} {a b : SV} {u v : Value} (h1 : a.den hd = u) (h2 : b.den hd = v) : Fr 2 hd [(0, a), (1, b)] ⟨#[u, v], []⟩ := by
  refine ⟨fun q sv hq => ?_, rfl, rfl⟩
  simp only [Env.get] at hq
  split at hq
  · rename_i hb
    obtain rfl := Nat.eq_of_beq_eq_true hb
    cases hq
    simp [h1]
  · split at hq
    · rename_i hb
      obtain rfl := Nat.eq_of_beq_eq_true hb
      cases hq
      simp [h2]
    · cases hq
/-- A named row that nobody writes any more. -/
theorem VL_frzN {ops : Array Oper} {l : List Oper} {Q : Post} {v : Value} {e : TypeId} {k n : Nat} {cs : List Value} (i : Nat) (hi : own[i]? = some (.nrow v e k n cs))
    (h : ∀ M', M.le M' → RowM M' k n cs v → VL P w M0 N ops l ⟨M', own.set i .gone, env⟩ Q) : VL P w M0 N ops l ⟨M, own, env⟩ Q := .mk fun hd a W hR => by
  have hil : i < own.length := (List.getElem?_eq_some_iff.1 hi).1
  have hO := hR.1.own i _ hi
  obtain ⟨M', h1, h2, h3⟩ := frozen_wd (hR.1.recast (o' := .row e k n cs) hi (by simp) hO.2) (List.getElem?_set_self hil)
  rw [List.set_set] at h3
  rw [hO.1] at h2
  exact (h M' h1 h2).go hd a W ⟨h3, hR.2⟩
theorem VC_frzN {c : Code} {Q : Post} {v : Value} {e : TypeId} {k n : Nat} {cs : List Value} (i : Nat) (hi : own[i]? = some (.nrow v e k n cs))
    (h : ∀ M', M.le M' → RowM M' k n cs v → VC P w M0 N c ⟨M', own.set i .gone, env⟩ Q) : VC P w M0 N c ⟨M, own, env⟩ Q := .mk fun hd a W hR => by
  have hil : i < own.length := (List.getElem?_eq_some_iff.1 hi).1
  have hO := hR.1.own i _ hi
  obtain ⟨M', h1, h2, h3⟩ := frozen_wd (hR.1.recast (o' := .row e k n cs) hi (by simp) hO.2) (List.getElem?_set_self hil)
  rw [List.set_set] at h3
  rw [hO.1] at h2
  exact (h M' h1 h2).go hd a W ⟨h3, hR.2⟩
/-! ### Callees that are handed named objects and leave some -/
/-- What a call does with the caller's named objects own1, where memory M is known: it yields v and leaves own'. -/
def CallX (P : Program) (f : FuncId) (args : List Value) (M : Mem) (own1 : List Ob) (Post : Value → List Ob → Prop) : Prop :=
  ∀ (w : World) (M0 : Mem) (hd : Nat → Value) (W : World), Wd w M0 hd M own1 W → Calls P f args.toArray W fun e W' => ∃ v hd' own', e = .returned v ∧ Wd w M0 hd' M own' W' ∧ Post v own'
theorem Wd.forget {Mx : Mem} (h : Wd w M0 hd Mx own W) (hle : M.le Mx) (h0 : M0.le M) (hold : ∀ b, b < w.heap.size → M0 b = none → M b = none) : Wd w M0 hd M own W :=
  ⟨h.below, hle.trans h.mem, hold, h0, h.own, fun i o b hi hne hf => by
    have := h.sep i o b hi hne hf
    cases hm : M b with
    | none => rfl
    | some x => exact absurd (this ▸ hle b x hm) (by simp), h.dis⟩
theorem V_x {f : FuncId} {fn : Func} {c : Code} {args : List Value} {own1 : List Ob} {Post : Value → List Ob → Prop} (hf : P.funcs[f]? = some fn) (hb : fn.body = some c) (hn : fn.ntmps = N) (hk : Nat.ble args.length N = true)
    (h : ∀ (w : World) (M0 : Mem), VC P w M0 N c ⟨M, own1, envFrom 0 args⟩ (finQ fun s => ∃ v ρ own', Res P fn s v ∧ M.le s.M ∧ nodupB ρ = true ∧ OwnSub own' ρ s.own ∧ Post v own')) : CallX P f args M own1 Post := fun w M0 hd W hW => by
  have hk' : args.length ≤ N := Nat.le_of_ble_eq_true hk
  refine calls_of_wp hf hb (wp_mono ((h w M0).go hd _ W ⟨hW, fun t sv ht => ?_, ?_, rfl⟩) ?_)
  · obtain ⟨v, _, h1, rfl⟩ := envFrom_get args 0 t sv ht
    have h1' : args[t]? = some v := by simpa using h1
    have hlt := (List.getElem?_eq_some_iff.1 h1').1
    show (args.toArray ++ _)[t]? = some v
    rw [Array.getElem?_append_left (by simpa using hlt)]
    simpa using h1'
  · simp [hn]; omega
  · rintro e a' W' ⟨hd', s', hR', hq⟩
    have key : (∃ v ρ own', Res P fn s' v ∧ M.le s'.M ∧ nodupB ρ = true ∧ OwnSub own' ρ s'.own ∧ Post v own') → a'.defers = [] ∧ ∃ v, (results fn a'.tmps).run P W' = .ok v W' ∧ ∃ u hd' own', Ending.returned v = .returned u ∧ Wd w M0 hd' M own' W' ∧ Post u own' := by
      rintro ⟨v, ρ, own', h1, hle, h2, h3, h4⟩
      have hR2 := (Sub.rel (ρ := ρ) (s := s') (s' := ⟨s'.M, own', []⟩) ⟨rfl, h2, h3, trivial⟩ hR').1
      exact ⟨hR'.2.defers, v, h1.run hR', v, _, own', rfl, hR2.forget hle hW.grew hW.old, h4⟩
    cases e with
    | ret => exact key hq
    | normal => exact key hq
    | exit id => exact hq.elim
    | goto l => exact hq.elim
    | panic c => exact hq.elim
    | outgrown => exact hq.elim
theorem goneAt_get : ∀ (ρ : List Nat) (own : List Ob) (i : Nat) (o : Ob), (goneAt ρ own)[i]? = some o → o ≠ Ob.gone → i ∉ ρ ∧ own[i]? = some o
  | [], own, i, o, h, hn => ⟨by simp, h⟩
  | j :: ρ, own, i, o, h, hn => by
    unfold goneAt at h
    obtain ⟨h1, h2⟩ := goneAt_get ρ _ i o h hn
    by_cases hij : j = i
    · subst hij
      rw [List.getElem?_set] at h2
      simp only [if_true] at h2
      split at h2
      · exact absurd (Option.some.inj h2).symm hn
      · cases h2
    · rw [List.getElem?_set_ne hij] at h2
      exact ⟨by simp; exact ⟨fun e => hij e.symm, h1⟩, h2⟩
theorem ObOk.heap {base : Nat} {v : Value} {o : Ob} (h : ObOk base W v o) (hh : ∀ b, foot v = some b → W'.heap[b]? = W.heap[b]?) : ObOk base W' v o := by
  have hblk : ∀ {t : TypeId} {cs : List Value}, (∃ b, v = .pointer (some ⟨b, 0, none⟩) ∧ base ≤ b ∧ W.heap[b]? = some (.cells cs.toArray t (0, 0))) → ∃ b, v = .pointer (some ⟨b, 0, none⟩) ∧ base ≤ b ∧ W'.heap[b]? = some (.cells cs.toArray t (0, 0)) := fun h => by
    obtain ⟨b, rfl, h1, h2⟩ := h
    exact ⟨b, rfl, h1, (hh b rfl).trans h2⟩
  have hrow : ∀ {e : TypeId} {k n : Nat} {cs : List Value}, W.ownsRow base e k v n cs → W'.ownsRow base e k v n cs := fun h => by
    obtain ⟨h1, h2 | ⟨b, cap, cur, rfl, hb1, hb2, h3⟩⟩ := h
    · exact ⟨h1, .inl h2⟩
    · exact ⟨h1, .inr ⟨b, cap, cur, rfl, hb1, (hh b rfl).trans hb2, h3⟩⟩
  cases o with
  | blk t cs => exact hblk h
  | row e k n cs => exact hrow h
  | gone => exact h
  | nblk u t cs => exact ⟨h.1, hblk h.2⟩
  | nrow u e k n cs => exact ⟨h.1, hrow h.2⟩
  | omap es =>
    obtain ⟨b, en, clock, rfl, h1, h2, h3⟩ := h
    exact ⟨b, en, clock, rfl, h1, (hh b rfl).trans h2, h3⟩
theorem rho_mem {ρ : List Nat} {i : Nat} (h : i < ρ.length) : ρ.getD i 0 ∈ ρ := by
  rw [List.getD_eq_getElem?_getD, List.getElem?_eq_getElem h]
  exact List.getElem_mem h
/-- All own objects but some are lent: nobody writes them for a while. -/
theorem lend_wd {ρ : List Nat} {own1 : List Ob} (hR : Wd w M0 hd M own W) (hnd : nodupB ρ = true) (hsub : OwnSub own1 ρ own) :
    ∃ M' : Mem, M.le M' ∧ Wd w M0 (fun i => hd (ρ.getD i 0)) M' own1 W ∧ ∀ hd' own' W', Wd w M0 hd' M' own' W' → Wd w M0 (fun i => if i < own.length then hd i else hd' (i - own.length)) M (goneAt ρ own ++ own') W' := by
  classical
  let Fb : Nat → Prop := fun b => ∃ i o, i ∉ ρ ∧ own[i]? = some o ∧ o ≠ Ob.gone ∧ foot (hd i) = some b
  let M' : Mem := fun b => if Fb b then W.heap[b]? else M b
  have hFM : ∀ b, Fb b → M b = none := fun b ⟨i, o, _, hi, hne, hf⟩ => hR.sep i o b hi hne hf
  have hF0 : ∀ b, Fb b → w.heap.size ≤ b ∧ b < W.heap.size := fun b ⟨i, o, _, hi, hne, hf⟩ => foot_lt (hR.own i o hi) hne hf
  have hle : M.le M' := fun b x hx => by
    show (if Fb b then W.heap[b]? else M b) = some x
    by_cases hb : Fb b
    · rw [hFM b hb] at hx; cases hx
    · rw [if_neg hb]; exact hx
  have hN : ∀ b, M' b = none → ¬ Fb b ∧ M b = none := fun b hb => by
    by_cases hf : Fb b
    · have : M' b = W.heap[b]? := if_pos hf
      rw [this, Array.getElem?_eq_getElem (hF0 b hf).2] at hb
      cases hb
    · have : M' b = M b := if_neg hf
      exact ⟨hf, this ▸ hb⟩
  have hS := (Sub.rel (N := 0) (ρ := ρ) (s := ⟨M, own, []⟩) (s' := ⟨M, own1, []⟩) ⟨rfl, hnd, hsub, trivial⟩ (hd := hd) (a := ⟨#[], []⟩) (W := W) ⟨hR, ⟨fun t sv ht => (nomatch ht), rfl, rfl⟩⟩).1
  refine ⟨M', hle, ⟨hS.below, fun b x hx => ?_, fun b hb h0 => ?_, hR.grew.trans hle, hS.own, fun i o b hi hne hf => ?_, hS.dis⟩, fun hd' own' W' hW' => ?_⟩
  · by_cases hb : Fb b
    · have : M' b = W.heap[b]? := if_pos hb
      rw [this] at hx; exact hx
    · have : M' b = M b := if_neg hb
      rw [this] at hx; exact hR.mem b x hx
  · have hnf : ¬ Fb b := fun hf => by have := (hF0 b hf).1; omega
    have : M' b = M b := if_neg hnf
    rw [this]; exact hR.old b hb h0
  · have hil := hsub.get i o hi
    have hnf : ¬ Fb b := fun ⟨j, oj, hj, hoj, hjn, hjf⟩ => by
      have := hR.dis _ _ _ _ b hil.2 hoj hne hjn hf hjf
      rw [← this] at hj
      exact hj (rho_mem hil.1)
    have : M' b = M b := if_neg hnf
    rw [this]; exact hS.sep i o b hi hne hf
  · have hln : (goneAt ρ own).length = own.length := len_goneAt ρ own
    have old : ∀ i o, i < own.length → (goneAt ρ own ++ own')[i]? = some o → o ≠ Ob.gone → i ∉ ρ ∧ own[i]? = some o := fun i o hil hi hne => by
      rw [List.getElem?_append_left (by omega)] at hi
      exact goneAt_get ρ own i o hi hne
    have new : ∀ i o, ¬ i < own.length → (goneAt ρ own ++ own')[i]? = some o → own'[i - own.length]? = some o := fun i o hil hi => by
      rw [List.getElem?_append_right (by omega), hln] at hi
      exact hi
    have hFo : ∀ i o b, i ∉ ρ → own[i]? = some o → o ≠ Ob.gone → foot (hd i) = some b → W'.heap[b]? = W.heap[b]? ∧ M' b ≠ none := fun i o b h1 h2 h3 h4 => by
      have hf : Fb b := ⟨i, o, h1, h2, h3, h4⟩
      have e : M' b = W.heap[b]? := if_pos hf
      have hlt := (hF0 b hf).2
      rw [Array.getElem?_eq_getElem hlt] at e ⊢
      exact ⟨hW'.mem b _ e, by rw [e]; simp⟩
    refine ⟨hW'.below, hle.trans hW'.mem, hR.old, hR.grew, fun i o hi => ?_, fun i o b hi hne hf => ?_, fun i j oi oj b hi hj hin hjn hbi hbj => ?_⟩
    · by_cases hil : i < own.length
      · simp only [hil, if_true]
        by_cases hg : o = .gone
        · subst hg; trivial
        · obtain ⟨h1, h2⟩ := old i o hil hi hg
          exact (hR.own i o h2).heap (fun b hb => (hFo i o b h1 h2 hg hb).1)
      · simp only [hil, if_false]
        exact hW'.own _ o (new i o hil hi)
    · by_cases hil : i < own.length
      · simp only [hil, if_true] at hf
        obtain ⟨h1, h2⟩ := old i o hil hi hne
        exact hR.sep i o b h2 hne hf
      · simp only [hil, if_false] at hf
        exact (hN b (hW'.sep _ o b (new i o hil hi) hne hf)).2
    · by_cases hil : i < own.length
      · simp only [hil, if_true] at hbi
        obtain ⟨h1, h2⟩ := old i oi hil hi hin
        by_cases hjl : j < own.length
        · simp only [hjl, if_true] at hbj
          obtain ⟨h3, h4⟩ := old j oj hjl hj hjn
          exact hR.dis i j oi oj b h2 h4 hin hjn hbi hbj
        · simp only [hjl, if_false] at hbj
          exact absurd (hW'.sep _ oj b (new j oj hjl hj) hjn hbj) (hFo i oi b h1 h2 hin hbi).2
      · simp only [hil, if_false] at hbi
        by_cases hjl : j < own.length
        · simp only [hjl, if_true] at hbj
          obtain ⟨h3, h4⟩ := old j oj hjl hj hjn
          exact absurd (hW'.sep _ oi b (new i oi hil hi) hin hbi) (hFo j oj b h3 h4 hjn hbj).2
        · simp only [hjl, if_false] at hbj
          have := hW'.dis _ _ oi oj b (new i oi hil hi) (new j oj hjl hj) hin hjn hbi hbj
          omega
/-- A call that is handed own objects ρ and leaves others; all else of the caller's own is as it was. -/
theorem VL_callX {ops : Array Oper} {l : List Oper} {Q : Post} {f : FuncId} {xs : Array Operand} {ats : Array TypeId} {vs : List Value} {own1 : List Ob} {Post : Value → List Ob → Prop} (ρ : List Nat) [hf : CalT P f] (hv : env.vals xs.toList = some vs) (hnd : nodupB ρ = true) (hsub : OwnSub own1 ρ own)
    (hc : ∀ M', M.le M' → CallX P f vs M' own1 Post) (hk : dstOk N dst = true) (hold : envB env own.length = true)
    (h : ∀ v own', Post v own' → VL P w M0 N ops l ⟨M, goneAt ρ own ++ own', env.put dst (.v v)⟩ Q) :
    VL P w M0 N ops (⟨dst, .call ⟨.value (.func f), xs, ats⟩, ty, pos, aft, none⟩ :: l) ⟨M, own, env⟩ Q := .mk fun hd a W hR => by
  refine wpList_plain rfl fun K hK => ?_
  unfold Oper.wp
  rw [exec_call (s := ⟨M, own, env⟩) hR.2 hf.h hv]
  simp only [Oper.upon]
  obtain ⟨M', h1, h2, h3⟩ := lend_wd hR.1 hnd hsub
  refine (hc M' h1 w M0 _ W h2).mono fun e W' ⟨v, hd', own', he, hWd, hp⟩ => ?_
  subst he
  have hag : ∀ i, i < own.length → (fun i => if i < own.length then hd i else hd' (i - own.length)) i = hd i := fun i hi => if_pos hi
  exact hK _ _ ((h v own' hp).go _ _ W' ⟨h3 hd' own' W' hWd, (hR.2.upd fun t u ht => den_agree hag (envB_get hold t u ht)).put hk (.v v)⟩)
end
end Go.Proofs.Ytclbmfepdlffnaa
