/- The logic's rule for a statement that draws its order and lays new variables, and what operators yield. No program in sight. -/
import Derived.Test.YtipbbbamjckjoaaVO
namespace Go.Proofs.Ytipbbbamjckjoaa
open Go Go.RowKit
set_option linter.unusedVariables false
set_option maxRecDepth 20000
set_option linter.unusedSimpArgs false
section
variable {P : Program} {w : World} {M0 : Mem} {N : Nat} {s : St}
theorem pushAls_rel {W : World} {B0 : Nat} (hB0 : w.heap.size ≤ B0) (gs : Nat → Nat) : ∀ (als : List (Tmp × TypeId × List Value)) (k : Nat) (s : St) (a : Act) (hd : Nat → Value), Rel w M0 N hd s a W →
    (∀ b, B0 ≤ b → s.M b = none) → (∀ i o b, s.own[i]? = some o → o ≠ Ob.gone → foot (hd i) = some b → b < B0 ∨ ∃ j, j < k ∧ b = gs j) → envB s.env s.own.length = true → (als.all fun x => Nat.blt x.1 N) = true →
    (∀ j x, als[j]? = some x → B0 ≤ gs (k + j) ∧ W.heap[gs (k + j)]? = some (.cells x.2.2.toArray x.2.1 (0, 0))) → (∀ i j, i < k + als.length → j < k + als.length → gs i = gs j → i = j) →
    ∃ hd', Rel w M0 N hd' (pushAls als s) (ovl (als.map fun x => (x.1, Obj.cells x.2.2.toArray x.2.1)) k (fun j => some (gs j)) a) W
  | [], k, s, a, hd, hR, _, _, _, _, _, _ => ⟨hd, hR⟩
  | x :: als, k, s, a, hd, hR, hM, ho, he, hk, hg, hinj => by
    obtain ⟨g1, g2⟩ := hg 0 x rfl
    simp only [Nat.add_zero] at g1 g2
    simp only [List.all_cons, Bool.and_eq_true] at hk
    have hadd := hR.1.add (o' := .blk x.2.1 x.2.2) (v' := .pointer (some ⟨gs k, 0, none⟩)) ⟨gs k, rfl, by omega, g2⟩ (fun b hb => by
      obtain rfl : gs k = b := by simpa [foot] using hb
      refine ⟨hM _ g1, fun i o hi hne hf => ?_⟩
      rcases ho i o _ hi hne hf with h1 | ⟨j, h1, h2⟩
      · omega
      · have := hinj k j (by simp) (by simp; omega) h2; omega)
    have hfr : Fr N (setH hd s.own.length (.pointer (some ⟨gs k, 0, none⟩))) s.env a := hR.2.upd fun t sv hs => by
      have h2 := envB_get he t sv hs
      cases sv with
      | v x => rfl
      | p i off =>
        have h3 : i < s.own.length := by simpa [SV.okB, Nat.blt_eq] using h2
        simp only [SV.den]; rw [setH_ne _ _ (by omega)]
      | r i =>
        have h3 : i < s.own.length := by simpa [SV.okB, Nat.blt_eq] using h2
        simp only [SV.den]; rw [setH_ne _ _ (by omega)]
    have hput := hfr.put (dst := some x.1) hk.1 (.p s.own.length 0)
    have e : SV.den (setH hd s.own.length (.pointer (some ⟨gs k, 0, none⟩))) (.p s.own.length 0) = .pointer (some ⟨gs k, 0, none⟩) := by
      simp only [SV.den, setH_same]; rfl
    rw [e] at hput
    have hlen : (s.own ++ [Ob.blk x.2.1 x.2.2]).length = s.own.length + 1 := by simp
    refine pushAls_rel hB0 gs als (k + 1) ⟨s.M, s.own ++ [.blk x.2.1 x.2.2], s.env.put (some x.1) (.p s.own.length 0)⟩ _ _ ⟨hadd, hput⟩ hM ?_ ?_ hk.2 (fun j y hy => by
      have := hg (j + 1) y hy
      rwa [show k + (j + 1) = k + 1 + j by omega] at this) (fun i j hi hj => hinj i j (by simp only [List.length_cons]; omega) (by simp only [List.length_cons]; omega))
    · intro i o b hi hne hf
      by_cases hil : i = s.own.length
      · subst hil
        rw [setH_same] at hf
        obtain rfl : gs k = b := by simpa [foot] using hf
        exact .inr ⟨k, by omega, rfl⟩
      · rw [setH_ne _ _ hil] at hf
        have hlt : i < s.own.length := by
          have := (List.getElem?_eq_some_iff.1 hi).1
          simp at this; omega
        have hi' : (s.own ++ [Ob.blk x.2.1 x.2.2])[i]? = some o := hi
        rw [List.getElem?_append_left hlt] at hi'
        rcases ho i o b hi' hne hf with h1 | ⟨j, h1, h2⟩
        · exact .inl h1
        · exact .inr ⟨j, by omega, h2⟩
    · show envB ((x.1, SV.p s.own.length 0) :: s.env) (s.own ++ [Ob.blk x.2.1 x.2.2]).length = true
      rw [hlen]
      have mono : ∀ (env : Env) (n : Nat), envB env n = true → envB env (n + 1) = true := by
        intro env n
        induction env with
        | nil => intro _; rfl
        | cons y l ih =>
          obtain ⟨q, sv⟩ := y
          intro h
          unfold envB at h ⊢
          split at h
          · rename_i hs
            have : sv.okB (n + 1) = true := by
              cases sv <;> simp [SV.okB, Nat.blt_eq] at hs ⊢ <;> omega
            rw [this]; exact ih h
          · cases h
      unfold envB
      have : SV.okB (s.own.length + 1) (SV.p s.own.length 0) = true := by simp [SV.okB, Nat.blt_eq]
      rw [this]
      exact mono _ _ he
/-- An operation that lays a new variable of a zero value. -/
def AllocOp (P : Program) (o : Oper) (x : Tmp × TypeId × List Value) : Prop := o.dst = some x.1 ∧ o.guard = none ∧ o.op = .alloc x.2.1 ∧ ∃ z : Value, (∀ W, (zeroValue x.2.1).run P W = .ok z W) ∧ z.cells.toList = x.2.2
theorem VC_draw {id : Nat} {l : List Oper} {Q : Post} (n1 n : Nat) (als : List (Tmp × TypeId × List Value)) (hm : P.follows .mixedOrders = true) (hB : Region.lexTailB .any l.toArray n = true) (hn : n = n1 + als.length) (hdist : (als.map (·.1)).Nodup)
    (hap : (l.take n1).all (fun o => als.all fun x => !(o.looksAt l.toArray).contains x.1 && o.dst != some x.1) = true) (hal : ∀ k x, als[k]? = some x → ∃ o, l[n1 + k]? = some o ∧ AllocOp P o x) (hkN : (als.all fun x => Nat.blt x.1 N) = true)
    (h : VG P w M0 N l.toArray (l.take n1) s (fun s' => envB s'.env s'.own.length = true ∧ VL P w M0 N l.toArray (l.drop n) (pushAls als s') Q)) : VC P w M0 N (.region id l.toArray true) s Q := .mk fun hd a W hR => by
  refine wp_region_grow_tail n1 n (als.map fun x => (x.1, Obj.cells x.2.2.toArray x.2.1)) hm hB (by simpa using hn) (by simpa [List.map_map, Function.comp_def] using hdist) (by simpa [List.all_map, Function.comp_def] using hap) ?_ (wpGrow_mono ?_ _ _ (h.go hd a W hR))
  · intro k x hx
    rw [List.getElem?_map] at hx
    cases hk : als[k]? with
    | none => rw [hk] at hx; cases hx
    | some y =>
      rw [hk] at hx
      cases hx
      obtain ⟨o, ho, h1, h2, h3, z, h4, h5⟩ := hal k y hk
      refine ⟨o, by simpa using ho, h1, fun a => by simp [Region.wanted, h2], fun a W => ?_⟩
      obtain ⟨od, oo, oty, opos, oaft, og⟩ := o
      simp only at h3
      subst h3
      have h5' : z.cells = y.2.2.toArray := by rw [← h5]
      simp [execOp, Instr.alloc, h4, newVar, newRow, h5']
  · rintro a' ⟨env', hF, he, hV⟩ gs W' hb hg hinj
    have hR' : Rel w M0 N hd { s with env := env' } a' W' := ⟨hR.1.idle hb, hF⟩
    obtain ⟨hd', hR2⟩ := pushAls_rel (B0 := W.heap.size) hR.1.below.size gs als 0 { s with env := env' } a' hd hR' (fun b hlt => by
      cases hm : s.M b with
      | none => rfl
      | some x =>
        have := (Array.getElem?_eq_some_iff.1 (show W.heap[b]? = some x from hR.1.mem b x hm)).1
        omega) (fun i o b hi hne hf => .inl (foot_lt (hR.1.own i o hi) hne hf).2) he hkN (fun j x hx => by
        rw [Nat.zero_add]
        have := hg j (x.1, Obj.cells x.2.2.toArray x.2.1) (by rw [List.getElem?_map, hx]; rfl)
        exact ⟨this.1, this.2.2⟩) (fun i j hi hj => hinj i j (by simpa using hi) (by simpa using hj))
    exact hV.go hd' _ W' hR2
class Mix (P : Program) : Prop where
  h : P.follows .mixedOrders = true
def isEff : Op → Bool
  | .store .. | .alloc _ | .box .. | .buildSlice .. | .makeSlice .. | .makeFunc .. => true
  | .call ⟨.builtin .append, _, _⟩ => true
  | _ => false
def idxEff : List Oper → Nat
  | [] => 0
  | o :: l => match isEff o.op with | true => 0 | false => idxEff l + 1
/-- Quiet operations, then what is in one order. -/
theorem VC_drawT {id : Nat} {l : List Oper} {Q : Post} [hm : Mix P] (hB : Region.lexTailB .any l.toArray (idxEff l) = true)
    (h : VG P w M0 N l.toArray (l.take (idxEff l)) s (fun s' => envB s'.env s'.own.length = true ∧ VL P w M0 N l.toArray (l.drop (idxEff l)) s' Q)) : VC P w M0 N (.region id l.toArray true) s Q :=
  VC_draw (idxEff l) (idxEff l) [] hm.h hB rfl (by simp) (by simp) (fun k x hx => by simp at hx) rfl h
/-- The same with a new variable between. -/
theorem VC_draw1 {id : Nat} {l : List Oper} {Q : Post} {d : Tmp} {t : TypeId} {z : Value} {ty : TypeId} {pos : String} {aft : Array Edge} [hm : Mix P] (hop : l[idxEff l]? = some ⟨some d, .alloc t, ty, pos, aft, none⟩) [hz : ZerT P t z] (hB : Region.lexTailB .any l.toArray (idxEff l + 1) = true)
    (hap : (l.take (idxEff l)).all (fun o => !(o.looksAt l.toArray).contains d && o.dst != some d) = true) (hd : Nat.blt d N = true)
    (h : VG P w M0 N l.toArray (l.take (idxEff l)) s (fun s' => envB s'.env s'.own.length = true ∧ VL P w M0 N l.toArray (l.drop (idxEff l + 1)) ⟨s'.M, s'.own ++ [.blk t z.cells.toList], s'.env.put (some d) (.p s'.own.length 0)⟩ Q)) : VC P w M0 N (.region id l.toArray true) s Q :=
  VC_draw (idxEff l) (idxEff l + 1) [(d, t, z.cells.toList)] hm.h hB rfl (by simp) (by simpa using hap) (fun k x hx => by
    cases k with
    | zero =>
      injection hx with hx
      subst hx
      exact ⟨_, hop, rfl, rfl, rfl, z, hz.h, rfl⟩
    | succ k => simp at hx) (by simpa using hd) h
end
/-! ### What operators yield -/
section
variable {P : Program} {x y : Operand} {t : TypeId}
theorem B_lss {k : IntKind} {a b : Int} : Bin P .lss t x y (.int k a) (.int k b) (.bool (decide (a < b))) := .mk fun W => by simp [go_sem]
theorem B_leq {k : IntKind} {a b : Int} : Bin P .leq t x y (.int k a) (.int k b) (.bool (decide (a ≤ b))) := .mk fun W => by simp [go_sem]
theorem B_gtr {k : IntKind} {a b : Int} : Bin P .gtr t x y (.int k a) (.int k b) (.bool (decide (b < a))) := .mk fun W => by simp [go_sem]
theorem B_geq {k : IntKind} {a b : Int} : Bin P .geq t x y (.int k a) (.int k b) (.bool (decide (b ≤ a))) := .mk fun W => by simp [go_sem]
theorem B_eql {k : IntKind} {a b : Int} : Bin P .eql t x y (.int k a) (.int k b) (.bool (a == b)) := .mk fun W => by simp [go_sem]
theorem B_neq {k : IntKind} {a b : Int} : Bin P .neq t x y (.int k a) (.int k b) (.bool (a != b)) := .mk fun W => by simp [go_sem]
end
end Go.Proofs.Ytipbbbamjckjoaa
