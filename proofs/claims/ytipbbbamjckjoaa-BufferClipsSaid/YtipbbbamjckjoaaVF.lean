/- The logic's effects, each as it may stand in a statement that draws its order. No program in sight. -/
import Derived.Test.YtipbbbamjckjoaaVE
namespace Go.Proofs.Ytipbbbamjckjoaa
open Go Go.RowKit
set_option linter.unusedVariables false
set_option maxRecDepth 20000
set_option linter.unusedSimpArgs false
section
variable {P : Program} {w : World} {M0 : Mem} {N : Nat} {dst : Option Tmp} {ty : TypeId} {pos : String} {aft : Array Edge} {g : Option (Nat × Bool)} {M : Mem} {own : List Ob} {env : Env}
theorem EF_q {o : Oper} {sv : SV} (hq : QS P w M0 N o ⟨M, own, env⟩ sv) (hok : sv.okB own.length = true) : EF P w M0 N o ⟨M, own, env⟩ own sv := ⟨fun hd a W hR => by
  have h1 := hq.go hd a W hR
  unfold Oper.quietAt at h1
  generalize (execOp a.eval o).run P W = r at *
  cases r with
  | ok nx W' =>
    cases nx <;> simp only [Oper.quietUpon] at h1 <;> simp only [EffRun]
    case value u =>
      obtain ⟨e1, e2⟩ := h1
      rw [e1, e2]; exact ⟨hd, fun _ _ => rfl, hR.1, rfl⟩
    case skip =>
      obtain ⟨e1, e2⟩ := h1
      rw [e1]; exact ⟨hd, fun _ _ => rfl, hR.1, e2.symm⟩
    case enter f args =>
      obtain ⟨e1, hc⟩ := h1
      rw [e1]
      exact hc.mono fun e W'' ⟨he, hb⟩ => ⟨_, he, hd, fun _ _ => rfl, hR.1.idle hb, rfl⟩
  | halt x w' => simp only [Oper.quietUpon] at h1, Nat.le_refl _, hok⟩
theorem EF_obj {o : Oper} (ob : Ob) (hr : ∀ hd a W, Rel w M0 N hd ⟨M, own, env⟩ a W → ∃ v W', (execOp a.eval o).run P W = .ok (.value v) W' ∧ W.grownBy W' none ∧ ObOk w.heap.size W' v ob ∧ (∀ b, foot v = some b → W.heap.size ≤ b)) :
    EF P w M0 N o ⟨M, own, env⟩ (own ++ [ob]) (.r own.length) := ⟨fun hd a W hR => by
  obtain ⟨v, W', h1, h2, h3, h4⟩ := hr hd a W hR
  rw [h1]
  exact ⟨setH hd own.length v, fun i hi => setH_ne _ _ (by have : i < own.length := hi; omega), hR.1.new h2 h3 h4, by simp only [SV.den, setH_same]⟩, by simp, by simp [SV.okB, Nat.blt_eq]⟩
theorem EF_lit {t e : TypeId} {len : Nat} {parts : Array (Nat × Operand)} (k : Nat) (cells : List Value) (hlen : cells.length = len * k) (hmax : len ≤ maxLen)
    (hrun : ∀ hd a W, Fr N hd env a → (Instr.buildSlice t len (parts.map fun (i, x) => (i, a.eval x))).run P W = .ok (.slice (some ⟨W.heap.size, 0, none⟩) len len) (W.alloc (.cells cells.toArray e))) :
    EF P w M0 N ⟨dst, .buildSlice t len parts, ty, pos, aft, g⟩ ⟨M, own, env⟩ (own ++ [.row e k len cells]) (.r own.length) :=
  EF_obj (.row e k len cells) (fun hd a W hR => by
    refine ⟨_, _, ?_, World.grownBy_alloc W (.cells cells.toArray e) none, ⟨hlen, .inr ⟨W.heap.size, len, _, rfl, hR.1.below.size, heap_alloc_new W _, Nat.le_refl _, hmax, by simpa using hlen, by rw [List.take_of_length_le (by simp [hlen])]⟩⟩, fun b hb => ?_⟩
    · simp only [execOp, Sem.run_bind, hrun hd a W hR.2, Result.andThen_ok, Sem.run_pure]
    · obtain rfl : W.heap.size = b := by simpa [foot] using hb
      exact Nat.le_refl _)
theorem EF_lit1 {t e : TypeId} {x : Operand} {u : Value} {bytes k : Nat} (hx : env.op x = some (.v u)) [hE : EloT P t e k bytes] (hu : u.cells.size = k) (hmax : Nat.ble k 1000000 = true) :
    EF P w M0 N ⟨dst, .buildSlice t 1 #[(0, x)], ty, pos, aft, g⟩ ⟨M, own, env⟩ (own ++ [.row e k 1 u.cells.toList]) (.r own.length) :=
  EF_lit (t := t) (e := e) k u.cells.toList (by simp [hu]) (by decide) (lit1_run hx hu hmax)
theorem EF_lits {t e : TypeId} {len : Nat} {parts : Array (Nat × Operand)} {bytes : Nat} {vs : List Value} [hE : EloT P t e 1 bytes] (hpv : env.vals (parts.toList.map (·.2)) = some vs) (hix : parts.toList.map (·.1) = List.range' 0 vs.length) (hlen : vs.length = len) (hmax : Nat.ble len 1000000 = true) (h1 : (vs.all (·.oneCell')) = true) :
    EF P w M0 N ⟨dst, .buildSlice t len parts, ty, pos, aft, g⟩ ⟨M, own, env⟩ (own ++ [.row e 1 len vs]) (.r own.length) :=
  EF_lit (t := t) (e := e) 1 vs (by omega) (by have := Nat.le_of_ble_eq_true hmax; unfold maxLen; omega) (lits_run hpv hix hlen hmax h1)
theorem EF_alloc {t : TypeId} {z : Value} [hz : ZerT P t z] : EF P w M0 N ⟨dst, .alloc t, ty, pos, aft, g⟩ ⟨M, own, env⟩ (own ++ [.blk t z.cells.toList]) (.p own.length 0) := ⟨fun hd a W hR => by
  have h1 : (execOp a.eval ⟨dst, .alloc t, ty, pos, aft, g⟩).run P W = .ok (.value (.pointer (some ⟨W.heap.size, 0, none⟩))) (W.alloc (.cells z.cells t)) := by
    simp [execOp, Instr.alloc, hz.h, newVar, newRow]
  rw [h1]
  refine ⟨setH hd own.length (.pointer (some ⟨W.heap.size, 0, none⟩)), fun i hi => setH_ne _ _ (by have : i < own.length := hi; omega), hR.1.new (World.grownBy_alloc W _ none) ⟨W.heap.size, rfl, hR.1.below.size, by simpa using heap_alloc_new W _⟩ (fun b hb => ?_), by simp only [SV.den, setH_same, foot]; rfl⟩
  obtain rfl : W.heap.size = b := by simpa [foot] using hb
  exact Nat.le_refl _, by simp, by simp [SV.okB, Nat.blt_eq]⟩
theorem EF_st {o : Oper} {own' : List Ob} (h : ES P w M0 N o ⟨M, own, env⟩ own') (hl : own'.length = own.length) : EF P w M0 N o ⟨M, own, env⟩ own' (.v undef) := ⟨fun hd a W hR => by
  obtain ⟨W', h1, h2⟩ := h hd a W hR
  rw [h1]
  exact ⟨hd, fun _ _ => rfl, h2, rfl⟩, by rw [hl]; exact Nat.le_refl _, rfl⟩
theorem EF_nilrow {o : Oper} {x : Operand} (e : TypeId) (k : Nat) (ho : o.op = .assign x ∨ o.op = .move x) (hx : env.op x = some (.v (.slice none 0 0))) : EF P w M0 N o ⟨M, own, env⟩ (own ++ [.row e k 0 []]) (.r own.length) :=
  EF_obj (.row e k 0 []) fun hd a W hR => by
    have h1 := hR.2.eval hx
    simp only [SV.den] at h1
    refine ⟨.slice none 0 0, W, ?_, grown_of_below (Below.refl _ _), World.ownsRow_nil W _ e k, fun b hb => by cases hb⟩
    obtain ⟨od, oo, oty, opos, oaft, og⟩ := o
    rcases ho with ho | ho <;> simp only at ho <;> subst ho <;> simp [execOp, h1]
theorem EF_callO {f : FuncId} {xs : Array Operand} {ats : Array TypeId} {vs : List Value} {e : TypeId} {k n : Nat} {cs : List Value} [hf : CalT P f] (hv : env.vals xs.toList = some vs) (hc : ∀ W, M.le (Mem.of W) → Calls P f vs.toArray W (RetRow e k n cs W)) :
    EF P w M0 N ⟨dst, .call ⟨.value (.func f), xs, ats⟩, ty, pos, aft, g⟩ ⟨M, own, env⟩ (own ++ [.row e k n cs]) (.r own.length) := ⟨fun hd a W hR => by
  rw [exec_call (s := ⟨M, own, env⟩) hR.2 hf.h hv]
  simp only [EffRun]
  refine (hc W hR.1.mem).mono fun x W' hret => ?_
  obtain ⟨v, he, hb, hown⟩ := hret
  have hsz := hR.1.below.size
  have hok : W'.ownsRow w.heap.size e k v n cs := by
    refine ⟨hown.1, ?_⟩
    rcases hown.2 with h1 | ⟨g, cap, cur, h1, h2, h3⟩
    · exact .inl h1
    · exact .inr ⟨g, cap, cur, h1, by omega, h3⟩
  have hnew := hR.1.new (o' := .row e k n cs) (v' := v) (grown_of_below hb) hok (fun b hb' => by
    rcases hown.2 with ⟨h1, _⟩ | ⟨g, cap, cur, h1, h2, h3⟩
    · rw [h1] at hb'; cases hb'
    · rw [h1] at hb'
      obtain rfl : g = b := by simpa [foot] using hb'
      exact h2)
  exact ⟨v, he, setH hd own.length v, fun i hi => setH_ne _ _ (by have : i < own.length := hi; omega), hnew, by simp only [SV.den, setH_same]⟩, by simp, by simp [SV.okB, Nat.blt_eq]⟩
theorem EF_append {x y : Operand} {t e e2 : TypeId} {i j k n m bytes : Nat} {xs news : List Value} (hx : env.op x = some (.r i)) (hy : env.op y = some (.r j)) (hi : own[i]? = some (.row e k n xs))
    (hj : own[j]? = some (.row e2 k m news)) [hE : EloT P t e k bytes] (h0 : 0 < m) (h1 : (news.all (·.oneCell')) = true) (h63 : n + m ≤ maxLen) (hbytes : (n + m) * bytes ≤ 140737488355328) :
    EF P w M0 N ⟨dst, .call ⟨.builtin .append, #[x, y], #[t, t]⟩, ty, pos, aft, g⟩ ⟨M, own, env⟩ (own.set i .gone ++ [.row e k (n + m) (xs ++ news)]) (.r own.length) := ⟨fun hd a W hR => by
  have hE' := ElemOk.mk' hE.h
  have hO := hR.1.own i _ hi
  have hN := hR.1.own j _ hj
  obtain ⟨hNl, hNv⟩ := id hN
  rcases hNv with ⟨_, h⟩ | ⟨g, cap, cur, hNv, hbg, hg, hnc, hcm, hcs, htake⟩
  · omega
  obtain ⟨v', W', r1, r2, r3, r4⟩ := run_append_where (P := P) (ty := ty) hE' hO (a := ⟨g, 0, none⟩) (m := m) (c := cap) hNl (fun q u hq => by
    have hh := ob_cell hN (off := q) (u := u) hq
    rw [hNv] at hh
    rw [Addr.add_lit, Nat.zero_add]; exact hh) (fun u hu => List.all_eq_true.1 h1 u hu) h0 h63 hbytes hR.1.below.size
  have hvx := hR.2.eval hx
  have hvy := hR.2.eval hy
  simp only [SV.den] at hvx hvy
  rw [hNv] at hvy
  rw [exec_append hvx hvy, r1]
  simp only [Result.andThen_ok, EffRun]
  have hrow : ∀ b, (hd i).ownBlock = some b → foot (hd i) = some b := fun b hb => by
    unfold Value.ownBlock at hb
    unfold foot
    split at hb
    · rename_i a' _ _ he; rw [he]; simpa using hb
    · cases hb
  have hup := hR.1.upd (o' := .gone) hi (by simp) r3 hrow trivial
  have hadd := hup.add (o' := .row e k (n + m) (xs ++ news)) (v' := v') r2 (fun b hb => by
    rcases r4 b hb with h2 | h2
    · refine ⟨hR.1.sep i _ b hi (by simp) h2, fun q oq hq hqn hqf => ?_⟩
      by_cases hqi : q = i
      · subst hqi
        rw [List.getElem?_set_self (List.getElem?_eq_some_iff.1 hi).1] at hq
        exact hqn (Option.some.inj hq).symm
      · rw [List.getElem?_set_ne (Ne.symm hqi)] at hq
        exact hqi (hR.1.dis q i oq _ b hq hi hqn (by simp) hqf h2)
    · refine ⟨(hR.1.fresh h2).1, fun q oq hq hqn hqf => ?_⟩
      by_cases hqi : q = i
      · subst hqi
        rw [List.getElem?_set_self (List.getElem?_eq_some_iff.1 hi).1] at hq
        exact hqn (Option.some.inj hq).symm
      · rw [List.getElem?_set_ne (Ne.symm hqi)] at hq
        exact (hR.1.fresh h2).2 q oq hq hqn hqf)
  rw [List.length_set] at hadd
  exact ⟨setH hd own.length v', fun q hq => setH_ne _ _ (by have : q < own.length := hq; omega), hadd, by simp only [SV.den, setH_same]⟩, by simp, by simp [SV.okB, Nat.blt_eq]⟩
/-! ### The two walks, an operation each -/
section
variable {cf : List FuncId} {ops : Array Oper} {ds : List Tmp} {l : List Oper} {K : Env → Prop}
theorem VQs_nil {s : St} (h : K s.env) : VQ P w M0 N ops (flags cf ops ds []) s K := VQ_nil h
theorem VQs_q {o : Oper} (hf : flagB cf ops ds o = false) (sv : SV) (hq : QW P w M0 N ops o ⟨M, own, env⟩ sv) (hk : dstOk N o.dst = true) (ho : sv.okB own.length = true) (h : VQ P w M0 N ops (flags cf ops ds l) ⟨M, own, env.put o.dst sv⟩ K) :
    VQ P w M0 N ops (flags cf ops ds (o :: l)) ⟨M, own, env⟩ K := by
  rw [flags_false hf]; exact VQ_q sv hq hk ho h
theorem VQs_e {o : Oper} {s : St} (hf : flagB cf ops ds o = true) (h : VQ P w M0 N ops (flags cf ops (dsN ds o) l) s K) : VQ P w M0 N ops (flags cf ops ds (o :: l)) s K := by
  rw [flags_true hf]; exact VQ_e h
theorem VQs_dec {j : Nat} {want : Bool} {op : Go.Op} (oj : Oper) (d : Tmp) (b : Bool) (hj : ops[j]? = some oj) (hd' : oj.dst = some d) (hb : env.get d = some (.v (.bool b)))
    (ht : b = true → VQ P w M0 N ops (flags cf ops ds (⟨dst, op, ty, pos, aft, some (j, want)⟩ :: l)) ⟨M, own, env⟩ K) (hf : b = false → VQ P w M0 N ops (flags cf ops ds (⟨dst, op, ty, pos, aft, some (j, want)⟩ :: l)) ⟨M, own, env⟩ K) :
    VQ P w M0 N ops (flags cf ops ds (⟨dst, op, ty, pos, aft, some (j, want)⟩ :: l)) ⟨M, own, env⟩ K := by
  cases b
  · exact hf rfl
  · exact ht rfl
end
/-- An effect by itself. -/
theorem VL_e {ops : Array Oper} {l : List Oper} {Q : Post} {op : Go.Op} (own' : List Ob) (sv : SV) (he : EF P w M0 N ⟨dst, op, ty, pos, aft, none⟩ ⟨M, own, env⟩ own' sv) (hk : dstOk N dst = true) (hold : envB env own.length = true)
    (h : VL P w M0 N ops l ⟨M, own', env.put dst sv⟩ Q) : VL P w M0 N ops (⟨dst, op, ty, pos, aft, none⟩ :: l) ⟨M, own, env⟩ Q := .mk fun hd a W hR => by
  refine wpList_plain rfl fun K hK => ?_
  have h1 := he.go hd a W hR
  unfold Oper.wp
  have key : ∀ z W', (∃ hd', (∀ i, i < own.length → hd' i = hd i) ∧ Wd w M0 hd' M own' W' ∧ z = sv.den hd') → K (a.put dst z) W' := fun z W' ⟨hd', hag, hWd, hz⟩ => by
    subst hz
    exact hK _ _ (h.go hd' _ W' ⟨hWd, (hR.2.upd fun t u ht => den_agree hag (envB_get hold t u ht)).put hk sv⟩)
  generalize (execOp a.eval ⟨dst, op, ty, pos, aft, none⟩).run P W = r at *
  cases r with
  | ok nx W' =>
    cases nx <;> simp only [EffRun] at h1 <;> simp only [Oper.upon]
    case value z => exact key _ _ h1
    case skip => exact key _ _ h1
    case enter f args => exact h1.mono fun e W'' ⟨z, he, hz⟩ => by subst he; exact key _ _ hz
  | halt x w' => simp only [EffRun] at h1
end
end Go.Proofs.Ytipbbbamjckjoaa
