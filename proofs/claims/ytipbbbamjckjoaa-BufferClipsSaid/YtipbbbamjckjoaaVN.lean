/- The logic's rules for functions that yield a row or nil, and for what is frozen. No program in sight. -/
import Derived.Test.YtipbbbamjckjoaaVB
namespace Go.Proofs.Ytipbbbamjckjoaa
open Go Go.RowKit
set_option linter.unusedVariables false
set_option maxRecDepth 20000
set_option linter.unusedSimpArgs false
section
variable {P : Program} {w : World} {M0 : Mem} {N : Nat} {dst : Option Tmp} {ty : TypeId} {pos : String} {aft : Array Edge} {g : Option (Nat × Bool)} {M : Mem} {own : List Ob} {env : Env} {s : St}
/-- A function whose result is a row of the caller's own, or nil. -/
theorem V_rowN {f : FuncId} {fn : Func} {c : Code} {args : List Value} {e : TypeId} {k n : Nat} {cs : List Value} {t : Tmp} (hf : P.funcs[f]? = some fn) (hb : fn.body = some c) (hn : fn.ntmps = N) (hk : Nat.ble args.length N = true) (hM : M.le (Mem.of w)) (hres : fn.results = #[.tmp t])
    (h : VC P w M N c ⟨M, [], envFrom 0 args⟩ (finQ fun s => (∃ i, s.env.get t = some (.r i) ∧ s.own[i]? = some (.row e k n cs)) ∨ (s.env.get t = some (.v (.slice none 0 0)) ∧ n = 0 ∧ cs = []))) : Calls P f args.toArray w (RetRow e k n cs w) := by
  have hk' : args.length ≤ N := Nat.le_of_ble_eq_true hk
  refine calls_of_wp hf hb (wp_mono (h.go (fun _ => .nilFunc) _ w ⟨⟨Below.refl _ _, hM, fun b _ h => h, Mem.le_refl _, fun i o hi => by simp at hi, fun i o b hi => by simp at hi, fun i j oi oj b hi => by simp at hi⟩, fun t sv ht => ?_, ?_, rfl⟩) ?_)
  · obtain ⟨v, _, h1, rfl⟩ := envFrom_get args 0 t sv ht
    have h1' : args[t]? = some v := by simpa using h1
    have hlt := (List.getElem?_eq_some_iff.1 h1').1
    show (args.toArray ++ _)[t]? = some v
    rw [Array.getElem?_append_left (by simpa using hlt)]
    simpa using h1'
  · simp [hn]; omega
  · rintro x a' W' ⟨hd', s', hR', hq⟩
    have key : ((∃ i, s'.env.get t = some (.r i) ∧ s'.own[i]? = some (.row e k n cs)) ∨ (s'.env.get t = some (.v (.slice none 0 0)) ∧ n = 0 ∧ cs = [])) → a'.defers = [] ∧ ∃ v, (results fn a'.tmps).run P W' = .ok v W' ∧ RetRow e k n cs w (.returned v) W' := by
      rintro (⟨i, h1, h2⟩ | ⟨h1, rfl, rfl⟩)
      · have ht := hR'.2.env t _ h1
        refine ⟨hR'.2.defers, hd' i, ?_, hd' i, rfl, hR'.1.below, hR'.1.own i _ h2⟩
        rw [results_tmp hres]
        simp [ht, SV.den]
      · have ht := hR'.2.env t _ h1
        refine ⟨hR'.2.defers, .slice none 0 0, ?_, .slice none 0 0, rfl, hR'.1.below, World.ownsRow_nil W' _ e k⟩
        rw [results_tmp hres]
        simp [ht, SV.den]
    cases x with
    | ret => exact key hq
    | normal => exact key hq
    | exit id => exact hq.elim
    | goto l => exact hq.elim
    | panic c => exact hq.elim
    | outgrown => exact hq.elim
/-! ### Own objects that nobody writes any more, under whatever names -/
def SV.frz (i : Nat) (v : Value) : SV → SV
  | .r j => match Nat.beq j i with | true => .v v | false => .r j
  | .p j off => match Nat.beq j i with | true => .v (.pointer (some ⟨(foot v).getD 0, off, none⟩)) | false => .p j off
  | .v x => .v x
def frzE (i : Nat) (v : Value) : Env → Env
  | [] => []
  | (t, sv) :: l => (t, sv.frz i v) :: frzE i v l
theorem frzE_get {i : Nat} {v : Value} : ∀ {e : Env} {t : Nat} {sv : SV}, (frzE i v e).get t = some sv → ∃ u, e.get t = some u ∧ sv = u.frz i v
  | [], t, sv, h => by cases h
  | (k, u) :: l, t, sv, h => by
    unfold frzE Env.get at h
    unfold Env.get
    split at h
    · rename_i hb
      cases h
      exact ⟨u, rfl, rfl⟩
    · rename_i hb
      exact frzE_get h
theorem frz_den {hd : Nat → Value} {i : Nat} {v : Value} (hv : hd i = v) (sv : SV) : (sv.frz i v).den hd = sv.den hd := by
  subst hv
  cases sv with
  | v x => rfl
  | p j off =>
    show SV.den hd (match Nat.beq j i with | true => .v (.pointer (some ⟨(foot (hd i)).getD 0, off, none⟩)) | false => .p j off) = _
    cases hb : Nat.beq j i with
    | true => rw [Nat.eq_of_beq_eq_true hb]; rfl
    | false => rfl
  | r j =>
    show SV.den hd (match Nat.beq j i with | true => .v (hd i) | false => .r j) = _
    cases hb : Nat.beq j i with
    | true => rw [Nat.eq_of_beq_eq_true hb]; rfl
    | false => rfl
theorem frz_fr {hd : Nat → Value} {a : Act} {i : Nat} (h : Fr N hd env a) : Fr N hd (frzE i (hd i) env) a := ⟨fun t sv ht => by
  obtain ⟨u, h1, h2⟩ := frzE_get ht
  rw [h2, frz_den rfl]
  exact h.env t u h1, h.size, h.defers⟩
theorem VL_frz {ops : Array Oper} {l : List Oper} {Q : Post} {e : TypeId} {k n : Nat} {cs : List Value} (i : Nat) (hi : own[i]? = some (.row e k n cs))
    (h : ∀ v M', M.le M' → RowM M' k n cs v → VL P w M0 N ops l ⟨M', own.set i .gone, frzE i v env⟩ Q) : VL P w M0 N ops l ⟨M, own, env⟩ Q := .mk fun hd a W hR => by
  obtain ⟨M', h1, h2, h3⟩ := frozen_wd hR.1 hi
  exact (h (hd i) M' h1 h2).go hd a W ⟨h3, frz_fr hR.2⟩
theorem VC_frz {c : Code} {Q : Post} {e : TypeId} {k n : Nat} {cs : List Value} (i : Nat) (hi : own[i]? = some (.row e k n cs))
    (h : ∀ v M', M.le M' → RowM M' k n cs v → VC P w M0 N c ⟨M', own.set i .gone, frzE i v env⟩ Q) : VC P w M0 N c ⟨M, own, env⟩ Q := .mk fun hd a W hR => by
  obtain ⟨M', h1, h2, h3⟩ := frozen_wd hR.1 hi
  exact (h (hd i) M' h1 h2).go hd a W ⟨h3, frz_fr hR.2⟩
theorem frozenB_wd {hd : Nat → Value} {W : World} {i : Nat} {t : TypeId} {cs : List Value} (hR : Wd w M0 hd M own W) (hi : own[i]? = some (.blk t cs)) : ∃ (M' : Mem) (b : Nat), M.le M' ∧ hd i = .pointer (some ⟨b, 0, none⟩) ∧ M' b = some (.cells cs.toArray t (0, 0)) ∧ Wd w M0 hd M' (own.set i .gone) W := by
  obtain ⟨b, hb, hbase, hheap⟩ := hR.own i _ hi
  have hf : foot (hd i) = some b := by rw [hb]; rfl
  have hdr := hR.drop i
  have away : ∀ j oj b', (own.set i Ob.gone)[j]? = some oj → oj ≠ .gone → foot (hd j) = some b' → b' ≠ b := fun j oj b' hj hjn hjf e => by
    subst e
    by_cases hji : j = i
    · subst hji
      rw [List.getElem?_set_self (List.getElem?_eq_some_iff.1 hi).1] at hj
      exact hjn (Option.some.inj hj).symm
    · rw [List.getElem?_set_ne (Ne.symm hji)] at hj
      exact hji (hR.dis j i oj _ b' hj hi hjn (by simp) hjf hf)
  have hle : M.le (fun x => if x = b then W.heap[b]? else M x) := fun x o hx => by
    by_cases he : x = b
    · subst he; rw [hR.sep i _ x hi (by simp) hf] at hx; cases hx
    · simp only [he, if_false]; exact hx
  refine ⟨fun x => if x = b then W.heap[b]? else M x, b, hle, hb, by simp only [if_true]; exact hheap, ⟨hdr.below, fun x o hx => ?_, fun x hx h0 => ?_, hR.grew.trans hle, hdr.own, fun j oj b' hj hjn hjf => ?_, hdr.dis⟩⟩
  · by_cases he : x = b
    · subst he; simp only [if_true] at hx; exact hx
    · simp only [he, if_false] at hx; exact hR.mem x o hx
  · have : x ≠ b := fun e => by subst e; omega
    simp only [this, if_false]; exact hR.old x hx h0
  · have := away j oj b' hj hjn hjf
    simp only [this, if_false]
    exact hdr.sep j oj b' hj hjn hjf
theorem VL_frzB {ops : Array Oper} {l : List Oper} {Q : Post} {t : TypeId} {cs : List Value} (i : Nat) (hi : own[i]? = some (.blk t cs))
    (h : ∀ b M', M.le M' → M' b = some (.cells cs.toArray t (0, 0)) → VL P w M0 N ops l ⟨M', own.set i .gone, frzE i (.pointer (some ⟨b, 0, none⟩)) env⟩ Q) : VL P w M0 N ops l ⟨M, own, env⟩ Q := .mk fun hd a W hR => by
  obtain ⟨M', b, h1, h2, h3, h4⟩ := frozenB_wd hR.1 hi
  have := frz_fr (i := i) hR.2
  rw [h2] at this
  exact (h b M' h1 h3).go hd a W ⟨h4, this⟩
theorem VC_frzB {c : Code} {Q : Post} {t : TypeId} {cs : List Value} (i : Nat) (hi : own[i]? = some (.blk t cs))
    (h : ∀ b M', M.le M' → M' b = some (.cells cs.toArray t (0, 0)) → VC P w M0 N c ⟨M', own.set i .gone, frzE i (.pointer (some ⟨b, 0, none⟩)) env⟩ Q) : VC P w M0 N c ⟨M, own, env⟩ Q := .mk fun hd a W hR => by
  obtain ⟨M', b, h1, h2, h3, h4⟩ := frozenB_wd hR.1 hi
  have := frz_fr (i := i) hR.2
  rw [h2] at this
  exact (h b M' h1 h3).go hd a W ⟨h4, this⟩
theorem Mem.cell_of {M : Mem} {b off : Nat} {cs : List Value} {t : TypeId} {u : Value} (h : M b = some (.cells cs.toArray t (0, 0))) (hu : cs[off]? = some u) : M.cell b off = some u := by
  unfold Mem.cell
  rw [h]
  simpa using hu
theorem QS_append_nilZ {x y : Operand} {t e e2 : TypeId} {B : Option Addr} {i k bytes n k2 n2 c' : Nat} {cs : List Value} (hx : s.env.op x = some (.r i)) (hi : s.own[i]? = some (.row e2 k2 n cs)) (hy : s.env.op y = some (.v (.slice B n2 c'))) [hE : EloT P t e k bytes] (h0 : n2 = 0) :
    QS P w M0 N ⟨dst, .call ⟨.builtin .append, #[x, y], #[t, t]⟩, ty, pos, aft, g⟩ s (.r i) := by
  subst h0
  exact QS_append_nilR hx hi hy
/-- A slot that holds nil becomes an own row without elements. -/
theorem VC_nilR {c : Code} {Q : Post} (t : Tmp) (e : TypeId) (k : Nat) (ht : env.get t = some (.v (.slice none 0 0))) (hold : envB env own.length = true) (h : VC P w M0 N c ⟨M, own ++ [.row e k 0 []], (t, .r own.length) :: env⟩ Q) : VC P w M0 N c ⟨M, own, env⟩ Q := .mk fun hd a W hR => by
  have hadd := hR.1.add (o' := .row e k 0 []) (v' := .slice none 0 0) (World.ownsRow_nil W _ e k) (fun b hb => by cases hb)
  have hfr := env_new (own := own) hR.2 hold (.slice none 0 0)
  refine h.go _ a W ⟨hadd, fun q sv hq => ?_, hR.2.size, hR.2.defers⟩
  unfold Env.get at hq
  split at hq
  · rename_i hb
    obtain rfl := Nat.eq_of_beq_eq_true hb
    cases hq
    have := hR.2.env _ _ ht
    simp only [SV.den, setH_same] at this ⊢
    exact this
  · exact hfr.env q sv hq
end
end Go.Proofs.Ytipbbbamjckjoaa
