/- The logic's rules: all but a few own objects lent to code that only reads; calls whose result lies in memory, as one of some effects. -/
import Derived.Test.YtdgcdfngpimmmaaPLr8
namespace Go.Proofs.Ytdgcdfngpimmmaa
open Go Go.RowKit
attribute [local irreducible] Calls
set_option linter.unusedVariables false
set_option maxRecDepth 20000
set_option linter.unusedSimpArgs false
set_option maxHeartbeats 4000000
section
variable {P : Program} {w : World} {M0 M : Mem} {N : Nat} {env : Env}
theorem VC_lendT {c : Code} {Q : Post} {tab : List Ob} (pre : List Ob) (hold : envB env pre.length = true)
    (h : ∀ M', M.le M' → (∃ hd W, Wd w M0 hd M (pre ++ tab) W ∧ ∀ j o b, tab[j]? = some o → o ≠ Ob.gone → foot (hd (pre.length + j)) = some b → M' b = W.heap[b]?) → VC P w M0 N c ⟨M', pre, env⟩ (fun e s => M'.le s.M ∧ ∃ (ρ2 : List Nat) (pre' : List Ob) (env' : Env), Sub ρ2 s ⟨s.M, pre', env'⟩ ∧ envB env' pre'.length = true ∧ Q e ⟨M, pre' ++ tab, env'⟩)) :
    VC P w M0 N c ⟨M, pre ++ tab, env⟩ Q := by
  have hr : ∀ i, i < pre.length → (List.range' 0 pre.length).getD i 0 = i := fun i hi => by
    rw [List.getD_eq_getElem?_getD, List.getElem?_range' hi]; simp
  have hn : ∀ j, pre.length + j ∉ List.range' 0 pre.length := fun j hj => by have := List.mem_range'_1.1 hj; omega
  refine VC_lendG (own1 := pre) (List.range' 0 pre.length) pre.length (nodupB_range _ _) (ownsub_of (by simp) fun i o hi => ?_) hold hr (fun M' hle hF => ?_)
  · have hlt := (List.getElem?_eq_some_iff.1 hi).1
    rw [hr i hlt, List.getElem?_append_left hlt]
    exact hi
  · obtain ⟨hd, W, hW, hb⟩ := hF
    refine VC_mono (h M' hle ⟨hd, W, hW, fun j o b h1 h2 h3 => hb (pre.length + j) o b (hn j) (by rw [pre_get]; exact h1) h2 h3⟩) fun e s ⟨h1, ρ2, pre', env', h2, h3, h4⟩ => ⟨h1, ρ2, pre', [], env', pre' ++ tab, fun i => if i < pre'.length then (pre ++ tab).length + i else pre.length + (i - pre'.length), by rw [List.append_nil]; exact h2, h3, fun i hi => by simp [hi], fun i o hi => ?_, fun i j hi hj he => ?_, h4⟩
    · have hL : (goneAt (List.range' 0 pre.length) (pre ++ tab)).length = (pre ++ tab).length := len_goneAt _ _
      try dsimp only
      by_cases c1 : i < pre'.length
      · rw [if_pos c1, ← hL, List.getElem?_append_right (by omega), Nat.add_sub_cancel_left, List.append_nil]
        rwa [List.getElem?_append_left c1] at hi
      · rw [if_neg c1]
        rw [List.getElem?_append_right (by omega)] at hi
        have hlt := (List.getElem?_eq_some_iff.1 hi).1
        rw [List.getElem?_append_left (by rw [hL, List.length_append]; omega), goneAt_ne _ _ _ (hn _), pre_get]
        exact hi
    · rw [List.length_append] at hi hj
      have hl2 : (pre ++ tab).length = pre.length + tab.length := List.length_append
      try dsimp only at he
      split at he <;> split at he <;> omega
theorem tab_mem {M' : Mem} {b g cc : Nat} {T : List Slt} {pre : List Ob} {hd : Nat → Value} {W : World} (hW : Wd w M0 hd M (pre ++ tabOb b g cc T) W) (hb : ∀ j o q, (tabOb b g cc T)[j]? = some o → o ≠ Ob.gone → foot (hd (pre.length + j)) = some q → M' q = W.heap[q]?) : TabM M' b T := by
  obtain ⟨g2, c2, t1, t2, t3⟩ := tab_wd hW
  have o0 := hW.own pre.length _ (pre_get (pre := pre) (tab := tabOb b g cc T) 0)
  have o1 := hW.own (pre.length + 1) _ (pre_get (pre := pre) (tab := tabOb b g cc T) 1)
  have e0 := hb 0 _ b rfl (by simp) (by show foot (hd pre.length) = _; rw [o0.1]; rfl)
  have e1 := hb 1 _ g rfl (by simp) (by rw [o1.1]; rfl)
  have t0 := ob_cell o0 (off := 0) (u := .slice (some ⟨g, 0, none⟩) T.length cc) rfl
  rw [o0.1] at t0
  have t0' : (Mem.of W).cell b 0 = some (.slice (some ⟨g, 0, none⟩) T.length cc) := by rw [Mem.of_cell]; exact t0
  rw [t0'] at t1
  injection t1 with t1
  injection t1 with t4 _ t5
  injection t4 with t4
  injection t4 with t6
  subst t6 t5
  refine ⟨g, cc, by rw [mem_cellW e0]; exact t0', slM_of t2 (fun q hq => ?_), fun s hs => slM_of (t3 s hs) (fun q hq => ?_)⟩
  · obtain rfl : g = q := by simpa [foot] using hq
    exact e1
  · obtain ⟨j, hj, rfl⟩ := List.getElem_of_mem hs
    have hg0 : (tabOb b g cc T)[j + 2]? = some (whoOb T[j]) := by
      show (T.map whoOb)[j]? = _
      rw [List.getElem?_map, List.getElem?_eq_getElem hj]; rfl
    have hg : (pre ++ tabOb b g cc T)[pre.length + (j + 2)]? = some (whoOb T[j]) := by rw [pre_get]; exact hg0
    have o2 := hW.own _ _ hg
    exact hb (j + 2) _ q hg0 (by simp [whoOb]) (by rw [o2.1]; exact hq)
/-- Both tables are memory while code runs that only reads them. -/
theorem VC_lendAll {c : Code} {Q : Post} {b g cc b2 : Nat} {T : List Slt} {Nn : Int} {u : Value} {L : List Hld} (pre : List Ob) (hold : envB env pre.length = true)
    (h : ∀ M', M.le M' → TabM M' b T → RefM M' b2 Nn u L → VC P w M0 N c ⟨M', pre, env⟩ (fun e s => M'.le s.M ∧ ∃ (ρ2 : List Nat) (pre' : List Ob) (env' : Env), Sub ρ2 s ⟨s.M, pre', env'⟩ ∧ envB env' pre'.length = true ∧ Q e ⟨M, pre' ++ (rfOb b2 Nn u L ++ tabOb b g cc T), env'⟩)) :
    VC P w M0 N c ⟨M, pre ++ (rfOb b2 Nn u L ++ tabOb b g cc T), env⟩ Q := by
  refine VC_lendT pre hold (fun M' hle ⟨hd, W, hW, hb⟩ => h M' hle ?_ ?_)
  · have hW2 : Wd w M0 hd M ((pre ++ rfOb b2 Nn u L) ++ tabOb b g cc T) W := by rw [List.append_assoc]; exact hW
    refine tab_mem hW2 (fun j o q h1 h2 h3 => hb (2 + j) o q ?_ h2 ?_)
    · exact (pre_get (pre := rfOb b2 Nn u L) (tab := tabOb b g cc T) j).trans h1
    · rw [List.length_append] at h3
      rwa [Nat.add_assoc] at h3
  · have g0 : (pre ++ (rfOb b2 Nn u L ++ tabOb b g cc T))[pre.length + 0]? = some (.nblk (.pointer (some ⟨b2, 0, none⟩)) 94 [.int .i64 Nn, u]) := pre_get (pre := pre) (tab := rfOb b2 Nn u L ++ tabOb b g cc T) 0
    have g1 : (pre ++ (rfOb b2 Nn u L ++ tabOb b g cc T))[pre.length + 1]? = some (.nrow u 90 3 L.length (L.flatMap holdK)) := pre_get (pre := pre) (tab := rfOb b2 Nn u L ++ tabOb b g cc T) 1
    obtain ⟨r0, r1, r2⟩ := rf_wd (pre.length + 0) (pre.length + 1) (fun i o ho => hW.own i o ho) g0 g1
    have o0 := hW.own _ _ g0
    have o1 := hW.own _ _ g1
    have e0 := hb 0 _ b2 rfl (by simp) (by rw [o0.1]; rfl)
    refine ⟨by rw [mem_cellW e0]; exact r0, by rw [mem_cellW e0]; exact r1, slM_of r2 (fun q hq => hb 1 _ q rfl (by simp) (by rw [o1.1]; exact hq))⟩
/-- A call whose result lies in memory, as one of some effects. -/
theorem EX_callM {ops : Array Oper} {dst : Option Tmp} {ty : TypeId} {pos : String} {aft : Array Edge} {own : List Ob} {f : FuncId} {xs : Array Operand} {ats : Array TypeId} {vs : List Value} {Post : Value → Mem → Prop} [hf : CalT P f] (hv : env.vals xs.toList = some vs) (hc : ∀ W, M.le (Mem.of W) → Calls P f vs.toArray W (RetM M W Post)) :
    EX P w M0 N ops ⟨dst, .call ⟨.value (.func f), xs, ats⟩, ty, pos, aft, none⟩ ⟨M, own, env⟩ {x : Value × Mem // M.le x.2 ∧ Post x.1 x.2} (fun x => x.1.2) (fun _ => own) (fun x => .v x.1.1) := ⟨fun hd a W hR => by
  rw [if_pos (by simp [Region.wanted])]
  rw [exec_call (s := ⟨M, own, env⟩) hR.2 hf.h hv]
  simp only [EffRun]
  refine (hc W hR.1.mem).mono fun e W' ⟨v, M', he, hb, hle, hmem, hnew, hp⟩ => ⟨v, he, ⟨⟨v, M'⟩, hle, hp⟩, hd, fun _ _ => rfl, ?_, rfl⟩
  have hi := hR.1.idle hb
  refine ⟨hi.below, hmem, fun b hb' h0 => hnew b (by have := hR.1.below.size; omega) (hR.1.old b hb' h0), hi.grew.trans hle, hi.own, fun i o b hi' hne hf' => ?_, hi.dis⟩
  exact hnew b (foot_lt (hR.1.own i o hi') hne hf').2 (hR.1.sep i o b hi' hne hf'), fun x => Nat.le_refl _, fun _ => rfl⟩
theorem VL_boxF {ops : Array Oper} {t : TypeId} {x : Operand} {l : List Oper} {Q : Post} {u : Value} {dst : Option Tmp} {ty : TypeId} {pos : String} {aft : Array Edge} (pre tab : List Ob) (hx : env.op x = some (.v u)) (hk : dstOk N dst = true) (hold : envB env pre.length = true)
    (h : VL P w M0 N ops l ⟨M, pre ++ .blk t u.cells.toList :: tab, env.put dst (.p pre.length 0)⟩ Q) : VL P w M0 N ops (⟨dst, .box t x, ty, pos, aft, none⟩ :: l) ⟨M, pre ++ tab, env⟩ Q :=
  VL_box hx hk (envB_mono (by rw [List.length_append]; omega) hold) (VL_front (.inr ⟨0, rfl, rfl⟩) hold h)
/-- A new object's place is ahead of the table. -/
theorem VL_frontO {ops : Array Oper} {l : List Oper} {Q : Post} {pre tab : List Ob} {o : Ob} (hold : envB env pre.length = true) (h : VL P w M0 N ops l ⟨M, pre ++ o :: tab, env⟩ Q) : VL P w M0 N ops l ⟨M, (pre ++ tab) ++ [o], env⟩ Q :=
  VL_front (env := env) (dst := none) (sv := .r (pre ++ tab).length) (sv' := .r pre.length) (.inl ⟨rfl, rfl⟩) hold h
end
end Go.Proofs.Ytdgcdfngpimmmaa
