/- The logic's effects, each as it may stand in a statement that draws its order. No program in sight. The logic's rules for appends out of memory and onto slices without room, and for parts of slices. No program in sight. The logic's rules for literals of several structs, calls that are handed own rows, calls of function values, slices held against nil. No program in sight. The logic's rules for functions that yield a row or nil, and for what is frozen. No program in sight. The logic's rules for stores into own rows, and for callees that are handed an own row. No program in sight. The logic's rules for rows that are cut short, and whose tail is cleared. No program in sight. The logic's rules for numbers turned from kind to kind, for shifts, for rows that are made at once. No program in sight. Short names for the logic's rules, their side conditions tried by themselves. No program in sight. The logic's rules for named own objects: an own row or block whose address is known as a value, so that it may stand in other objects and be handed on. No program in sight. -/
import Derived.Test.YtclbmfepdlffnaaPLg1
import Derived.Deep.AppendSrc
import Derived.Laws.OwnMore
namespace Go.Proofs.Ytclbmfepdlffnaa
open Go Go.RowKit
set_option linter.unusedVariables false
set_option maxRecDepth 20000
set_option linter.unusedSimpArgs false
section
variable {P : Program} {w : World} {M0 : Mem} {N : Nat} {dst : Option Tmp} {ty : TypeId} {pos : String} {aft : Array Edge} {g : Option (Nat × Bool)} {M : Mem} {own : List Ob} {env : Env}
theorem EF_q {o : Oper} {sv : SV} (hq : QS P w M0 N o ⟨M, own, env⟩ sv) (hok : sv.okB own.length = true) : EF P w M0 N o ⟨M, own, env⟩ own sv := ⟨fun hd a W hR => by
  have h1 := hq.go hd a W hR
  unfold Oper.quietAt at h1
  generalize (execOp a.eval o).run P W = r at *
  cases r with
  | ok nx W' =>
    cases nx <;> simp only [Oper.quietUpon] at h1 <;> simp only [EffRun]
    case value u =>
      obtain ⟨e1, e2⟩ := h1
      rw [e1, e2]; exact ⟨hd, fun _ _ => rfl, hR.1, rfl⟩
    case skip =>
      obtain ⟨e1, e2⟩ := h1
      rw [e1]; exact ⟨hd, fun _ _ => rfl, hR.1, e2.symm⟩
    case enter f args =>
      obtain ⟨e1, hc⟩ := h1
      rw [e1]
      exact hc.mono fun e W'' ⟨he, hb⟩ => ⟨_, he, hd, fun _ _ => rfl, hR.1.idle hb, rfl⟩
  | halt x w' => simp only [Oper.quietUpon] at h1, Nat.le_refl _, hok⟩
theorem EF_obj {o : Oper} (ob : Ob) (hr : ∀ hd a W, Rel w M0 N hd ⟨M, own, env⟩ a W → ∃ v W', (execOp a.eval o).run P W = .ok (.value v) W' ∧ W.grownBy W' none ∧ ObOk w.heap.size W' v ob ∧ (∀ b, foot v = some b → W.heap.size ≤ b)) :
    EF P w M0 N o ⟨M, own, env⟩ (own ++ [ob]) (.r own.length) := ⟨fun hd a W hR => by
  obtain ⟨v, W', h1, h2, h3, h4⟩ := hr hd a W hR
  rw [h1]
  exact ⟨setH hd own.length v, fun i hi => setH_ne _ _ (by have : i < own.length := hi; omega), hR.1.new h2 h3 h4, by simp only [SV.den, setH_same]⟩, by simp, by simp [SV.okB, Nat.blt_eq]⟩
theorem EF_lit {t e : TypeId} {len : Nat} {parts : Array (Nat × Operand)} (k : Nat) (cells : List Value) (hlen : cells.length = len * k) (hmax : len ≤ maxLen)
    (hrun : ∀ hd a W, Fr N hd env a → (Instr.buildSlice t len (parts.map fun (i, x) => (i, a.eval x))).run P W = .ok (.slice (some ⟨W.heap.size, 0, none⟩) len len) (W.alloc (.cells cells.toArray e))) :
    EF P w M0 N ⟨dst, .buildSlice t len parts, ty, pos, aft, g⟩ ⟨M, own, env⟩ (own ++ [.row e k len cells]) (.r own.length) :=
  EF_obj (.row e k len cells) (fun hd a W hR => by
    refine ⟨_, _, ?_, World.grownBy_alloc W (.cells cells.toArray e) none, ⟨hlen, .inr ⟨W.heap.size, len, _, rfl, hR.1.below.size, heap_alloc_new W _, Nat.le_refl _, hmax, by simpa using hlen, by rw [List.take_of_length_le (by simp [hlen])]⟩⟩, fun b hb => ?_⟩
    · simp only [execOp, Sem.run_bind, hrun hd a W hR.2, Result.andThen_ok, Sem.run_pure]
    · obtain rfl : W.heap.size = b := by simpa [foot] using hb
      exact Nat.le_refl _)
theorem EF_lit1 {t e : TypeId} {x : Operand} {u : Value} {bytes k : Nat} (hx : env.op x = some (.v u)) [hE : EloT P t e k bytes] (hu : u.cells.size = k) (hmax : Nat.ble k 1000000 = true) :
    EF P w M0 N ⟨dst, .buildSlice t 1 #[(0, x)], ty, pos, aft, g⟩ ⟨M, own, env⟩ (own ++ [.row e k 1 u.cells.toList]) (.r own.length) :=
  EF_lit (t := t) (e := e) k u.cells.toList (by simp [hu]) (by decide) (lit1_run hx hu hmax)
theorem EF_lits {t e : TypeId} {len : Nat} {parts : Array (Nat × Operand)} {bytes : Nat} {vs : List Value} [hE : EloT P t e 1 bytes] (hpv : env.vals (parts.toList.map (·.2)) = some vs) (hix : parts.toList.map (·.1) = List.range' 0 vs.length) (hlen : vs.length = len) (hmax : Nat.ble len 1000000 = true) (h1 : (vs.all (·.oneCell')) = true) :
    EF P w M0 N ⟨dst, .buildSlice t len parts, ty, pos, aft, g⟩ ⟨M, own, env⟩ (own ++ [.row e 1 len vs]) (.r own.length) :=
  EF_lit (t := t) (e := e) 1 vs (by omega) (by have := Nat.le_of_ble_eq_true hmax; unfold maxLen; omega) (lits_run hpv hix hlen hmax h1)
theorem EF_alloc {t : TypeId} {z : Value} [hz : ZerT P t z] : EF P w M0 N ⟨dst, .alloc t, ty, pos, aft, g⟩ ⟨M, own, env⟩ (own ++ [.blk t z.cells.toList]) (.p own.length 0) := ⟨fun hd a W hR => by
  have h1 : (execOp a.eval ⟨dst, .alloc t, ty, pos, aft, g⟩).run P W = .ok (.value (.pointer (some ⟨W.heap.size, 0, none⟩))) (W.alloc (.cells z.cells t)) := by
    simp [execOp, Instr.alloc, hz.h, newVar, newRow]
  rw [h1]
  refine ⟨setH hd own.length (.pointer (some ⟨W.heap.size, 0, none⟩)), fun i hi => setH_ne _ _ (by have : i < own.length := hi; omega), hR.1.new (World.grownBy_alloc W _ none) ⟨W.heap.size, rfl, hR.1.below.size, by simpa using heap_alloc_new W _⟩ (fun b hb => ?_), by simp only [SV.den, setH_same, foot]; rfl⟩
  obtain rfl : W.heap.size = b := by simpa [foot] using hb
  exact Nat.le_refl _, by simp, by simp [SV.okB, Nat.blt_eq]⟩
theorem EF_st {o : Oper} {own' : List Ob} (h : ES P w M0 N o ⟨M, own, env⟩ own') (hl : own'.length = own.length) : EF P w M0 N o ⟨M, own, env⟩ own' (.v undef) := ⟨fun hd a W hR => by
  obtain ⟨W', h1, h2⟩ := h hd a W hR
  rw [h1]
  exact ⟨hd, fun _ _ => rfl, h2, rfl⟩, by rw [hl]; exact Nat.le_refl _, rfl⟩
theorem EF_append {x y : Operand} {t e e2 : TypeId} {i j k n m bytes : Nat} {xs news : List Value} (hx : env.op x = some (.r i)) (hy : env.op y = some (.r j)) (hi : own[i]? = some (.row e k n xs))
    (hj : own[j]? = some (.row e2 k m news)) [hE : EloT P t e k bytes] (h0 : 0 < m) (h1 : (news.all (·.oneCell')) = true) (h63 : n + m ≤ maxLen) (hbytes : (n + m) * bytes ≤ 140737488355328) :
    EF P w M0 N ⟨dst, .call ⟨.builtin .append, #[x, y], #[t, t]⟩, ty, pos, aft, g⟩ ⟨M, own, env⟩ (own.set i .gone ++ [.row e k (n + m) (xs ++ news)]) (.r own.length) := ⟨fun hd a W hR => by
  have hE' := ElemOk.mk' hE.h
  have hO := hR.1.own i _ hi
  have hN := hR.1.own j _ hj
  obtain ⟨hNl, hNv⟩ := id hN
  rcases hNv with ⟨_, h⟩ | ⟨g, cap, cur, hNv, hbg, hg, hnc, hcm, hcs, htake⟩
  · omega
  obtain ⟨v', W', r1, r2, r3, r4⟩ := run_append_where (P := P) (ty := ty) hE' hO (a := ⟨g, 0, none⟩) (m := m) (c := cap) hNl (fun q u hq => by
    have hh := ob_cell hN (off := q) (u := u) hq
    rw [hNv] at hh
    rw [Addr.add_lit, Nat.zero_add]; exact hh) (fun u hu => List.all_eq_true.1 h1 u hu) h0 h63 hbytes hR.1.below.size
  have hvx := hR.2.eval hx
  have hvy := hR.2.eval hy
  simp only [SV.den] at hvx hvy
  rw [hNv] at hvy
  rw [exec_append hvx hvy, r1]
  simp only [Result.andThen_ok, EffRun]
  have hrow : ∀ b, (hd i).ownBlock = some b → foot (hd i) = some b := fun b hb => by
    unfold Value.ownBlock at hb
    unfold foot
    split at hb
    · rename_i a' _ _ he; rw [he]; simpa using hb
    · cases hb
  have hup := hR.1.upd (o' := .gone) hi (by simp) r3 hrow trivial
  have hadd := hup.add (o' := .row e k (n + m) (xs ++ news)) (v' := v') r2 (fun b hb => by
    rcases r4 b hb with h2 | h2
    · refine ⟨hR.1.sep i _ b hi (by simp) h2, fun q oq hq hqn hqf => ?_⟩
      by_cases hqi : q = i
      · subst hqi
        rw [List.getElem?_set_self (List.getElem?_eq_some_iff.1 hi).1] at hq
        exact hqn (Option.some.inj hq).symm
      · rw [List.getElem?_set_ne (Ne.symm hqi)] at hq
        exact hqi (hR.1.dis q i oq _ b hq hi hqn (by simp) hqf h2)
    · refine ⟨(hR.1.fresh h2).1, fun q oq hq hqn hqf => ?_⟩
      by_cases hqi : q = i
      · subst hqi
        rw [List.getElem?_set_self (List.getElem?_eq_some_iff.1 hi).1] at hq
        exact hqn (Option.some.inj hq).symm
      · rw [List.getElem?_set_ne (Ne.symm hqi)] at hq
        exact (hR.1.fresh h2).2 q oq hq hqn hqf)
  rw [List.length_set] at hadd
  exact ⟨setH hd own.length v', fun q hq => setH_ne _ _ (by have : q < own.length := hq; omega), hadd, by simp only [SV.den, setH_same]⟩, by simp, by simp [SV.okB, Nat.blt_eq]⟩
/-! ### The two walks, an operation each -/
section
variable {cf : List FuncId} {ops : Array Oper} {ds : List Tmp} {l : List Oper} {K : Env → Prop}
theorem VQs_nil {s : St} (h : K s.env) : VQ P w M0 N ops (flags cf ops ds []) s K := VQ_nil h
theorem VQs_q {o : Oper} (hf : flagB cf ops ds o = false) (sv : SV) (hq : QW P w M0 N ops o ⟨M, own, env⟩ sv) (hk : dstOk N o.dst = true) (ho : sv.okB own.length = true) (h : VQ P w M0 N ops (flags cf ops ds l) ⟨M, own, env.put o.dst sv⟩ K) :
    VQ P w M0 N ops (flags cf ops ds (o :: l)) ⟨M, own, env⟩ K := by
  rw [flags_false hf]; exact VQ_q sv hq hk ho h
theorem VQs_e {o : Oper} {s : St} (hf : flagB cf ops ds o = true) (h : VQ P w M0 N ops (flags cf ops (dsN ds o) l) s K) : VQ P w M0 N ops (flags cf ops ds (o :: l)) s K := by
  rw [flags_true hf]; exact VQ_e h
end
/-- An effect by itself. -/
theorem VL_e {ops : Array Oper} {l : List Oper} {Q : Post} {op : Go.Op} (own' : List Ob) (sv : SV) (he : EF P w M0 N ⟨dst, op, ty, pos, aft, none⟩ ⟨M, own, env⟩ own' sv) (hk : dstOk N dst = true) (hold : envB env own.length = true)
    (h : VL P w M0 N ops l ⟨M, own', env.put dst sv⟩ Q) : VL P w M0 N ops (⟨dst, op, ty, pos, aft, none⟩ :: l) ⟨M, own, env⟩ Q := .mk fun hd a W hR => by
  refine wpList_plain rfl fun K hK => ?_
  have h1 := he.go hd a W hR
  unfold Oper.wp
  have key : ∀ z W', (∃ hd', (∀ i, i < own.length → hd' i = hd i) ∧ Wd w M0 hd' M own' W' ∧ z = sv.den hd') → K (a.put dst z) W' := fun z W' ⟨hd', hag, hWd, hz⟩ => by
    subst hz
    exact hK _ _ (h.go hd' _ W' ⟨hWd, (hR.2.upd fun t u ht => den_agree hag (envB_get hold t u ht)).put hk sv⟩)
  generalize (execOp a.eval ⟨dst, op, ty, pos, aft, none⟩).run P W = r at *
  cases r with
  | ok nx W' =>
    cases nx <;> simp only [EffRun] at h1 <;> simp only [Oper.upon]
    case value z => exact key _ _ h1
    case skip => exact key _ _ h1
    case enter f args => exact h1.mono fun e W'' ⟨z, he, hz⟩ => by subst he; exact key _ _ hz
  | halt x w' => simp only [EffRun] at h1
end
end Go.Proofs.Ytclbmfepdlffnaa
namespace Go.Proofs.Ytclbmfepdlffnaa
open Go Go.RowKit
set_option linter.unusedVariables false
set_option maxRecDepth 20000
set_option linter.unusedSimpArgs false
section
variable {P : Program} {w : World} {M0 : Mem} {N : Nat} {dst : Option Tmp} {ty : TypeId} {pos : String} {aft : Array Edge} {g : Option (Nat × Bool)} {M : Mem} {own : List Ob} {env : Env}
theorem exec_append' {a : Act} {W : World} {x y : Operand} {t : TypeId} {u v r : Value} {W' : World} (hx : a.eval x = u) (hy : a.eval y = v) (hr : (Builtin.append_ #[t, t] ty #[u, v]).run P W = .ok r W') : (execOp a.eval ⟨dst, .call ⟨.builtin .append, #[x, y], #[t, t]⟩, ty, pos, aft, g⟩).run P W = .ok (.value r) W' := by
  rw [exec_append hx hy, hr]; rfl
/-- A slice of memory onto an own row. -/
theorem EF_appendM {x y : Operand} {t e : TypeId} {b off i k n m c bytes : Nat} {xs : List Value} (news : List Value) (hx : env.op x = some (.r i)) (hy : env.op y = some (.v (.slice (some ⟨b, off, none⟩) m c))) (hi : own[i]? = some (.row e k n xs)) [hE : EloT P t e k bytes] (hl : news.length = m * k)
    (hc : ∀ q u, news[q]? = some u → M.cell b (off + q) = some u) (h0 : 0 < m) (h1 : (news.all (·.oneCell')) = true) (h63 : n + m ≤ maxLen) (hbytes : (n + m) * bytes ≤ 140737488355328) :
    EF P w M0 N ⟨dst, .call ⟨.builtin .append, #[x, y], #[t, t]⟩, ty, pos, aft, g⟩ ⟨M, own, env⟩ (own.set i .gone ++ [.row e k (n + m) (xs ++ news)]) (.r own.length) := ⟨fun hd a W hR => by
  have hE' := ElemOk.mk' hE.h
  have hO := hR.1.own i _ hi
  obtain ⟨v', W', r1, r2, r3, r4⟩ := run_append_where (P := P) (ty := ty) hE' hO (a := ⟨b, off, none⟩) (m := m) (c := c) hl (fun q u hq => by rw [Addr.add_lit, ← Mem.of_cell]; exact hR.1.mem.cell (hc q u hq)) (fun u hu => List.all_eq_true.1 h1 u hu) h0 h63 hbytes hR.1.below.size
  have hvx := hR.2.eval hx
  have hvy := hR.2.eval hy
  simp only [SV.den] at hvx hvy
  rw [exec_append hvx hvy, r1]
  simp only [Result.andThen_ok, EffRun]
  have hrow : ∀ b, (hd i).ownBlock = some b → foot (hd i) = some b := fun b hb => by
    unfold Value.ownBlock at hb
    unfold foot
    split at hb
    · rename_i a' _ _ he; rw [he]; simpa using hb
    · cases hb
  have hup := hR.1.upd (o' := .gone) hi (by simp) r3 hrow trivial
  have hadd := hup.add (o' := .row e k (n + m) (xs ++ news)) (v' := v') r2 (fun b hb => by
    rcases r4 b hb with h2 | h2
    · refine ⟨hR.1.sep i _ b hi (by simp) h2, fun q oq hq hqn hqf => ?_⟩
      by_cases hqi : q = i
      · subst hqi
        rw [List.getElem?_set_self (List.getElem?_eq_some_iff.1 hi).1] at hq
        exact hqn (Option.some.inj hq).symm
      · rw [List.getElem?_set_ne (Ne.symm hqi)] at hq
        exact hqi (hR.1.dis q i oq _ b hq hi hqn (by simp) hqf h2)
    · refine ⟨(hR.1.fresh h2).1, fun q oq hq hqn hqf => ?_⟩
      by_cases hqi : q = i
      · subst hqi
        rw [List.getElem?_set_self (List.getElem?_eq_some_iff.1 hi).1] at hq
        exact hqn (Option.some.inj hq).symm
      · rw [List.getElem?_set_ne (Ne.symm hqi)] at hq
        exact (hR.1.fresh h2).2 q oq hq hqn hqf)
  rw [List.length_set] at hadd
  exact ⟨setH hd own.length v', fun q hq => setH_ne _ _ (by have : q < own.length := hq; omega), hadd, by simp only [SV.den, setH_same]⟩, by simp, by simp [SV.okB, Nat.blt_eq]⟩
/-- Nothing is appended. -/
theorem run_append_nil' {t ty e : TypeId} {k bytes : Nat} (hE : ElemOk P t e k bytes) {W : World} (A B : Option Addr) {n c c' : Nat} (hn : n ≤ c) : (Builtin.append_ #[t, t] ty #[.slice A n c, .slice B 0 c']).run P W = .ok (.slice A n c) W := by
  obtain ⟨i, z, hi, hz, hsz, hb, hzs⟩ := hE.hi
  cases A <;> cases B <;> simp [Builtin.append_, run_underlying hE.ht, sizeOf, typeInfo, hi, Builtin.lenOf, Builtin.firstCells, loadCells, loadCellsFrom, hn, storeCells]
theorem QS_append_nilR {x y : Operand} {t e e2 : TypeId} {B : Option Addr} {i k bytes n k2 c' : Nat} {cs : List Value} {s : St} (hx : s.env.op x = some (.r i)) (hi : s.own[i]? = some (.row e2 k2 n cs)) (hy : s.env.op y = some (.v (.slice B 0 c'))) [hE : EloT P t e k bytes] :
    QS P w M0 N ⟨dst, .call ⟨.builtin .append, #[x, y], #[t, t]⟩, ty, pos, aft, g⟩ s (.r i) := QS_run fun hd a W hR => by
  obtain ⟨_, ⟨h, h0⟩ | ⟨b, cap, cur, h, _, _, h3, _⟩⟩ := hR.1.own i _ hi
  · exact exec_append' (hR.2.eval hx) (hR.2.eval hy) (by simp only [SV.den]; rw [h]; exact run_append_nil' (ElemOk.mk' hE.h) none B (Nat.le_refl _))
  · exact exec_append' (hR.2.eval hx) (hR.2.eval hy) (by simp only [SV.den]; rw [h]; exact run_append_nil' (ElemOk.mk' hE.h) _ B h3)
/-- A slice's cells, one behind the other. -/
theorem SlM.flat {α : Type} {k : Nat} {cells : α → List Value} {A : Option Addr} {c : Nat} {l : List α} (hk : ∀ a ∈ l, (cells a).length = k) (h : SlM M k cells (.slice A l.length c) l) (hne : l ≠ []) :
    ∃ b off, A = some ⟨b, off, none⟩ ∧ (l.flatMap cells).length = l.length * k ∧ ∀ q u, (l.flatMap cells)[q]? = some u → M.cell b (off + q) = some u := by
  have hlen : ∀ m : List α, (∀ a ∈ m, (cells a).length = k) → (m.flatMap cells).length = m.length * k := fun m => by
    induction m with
    | nil => intro _; simp
    | cons a m ih =>
      intro hm
      rw [List.flatMap_cons, List.length_append, ih (fun x hx => hm x (by simp [hx])), hm a (by simp), List.length_cons, Nat.add_mul]
      omega
  obtain ⟨A', c', he, _, _, h4⟩ := h
  injection he with hA _ hc
  subst hA
  rcases h4 with h4 | ⟨b, off, rfl, _, h7⟩
  · exact absurd h4 hne
  · refine ⟨b, off, rfl, hlen l hk, fun q u hq => ?_⟩
    have hql : q < l.length * k := by
      have := (List.getElem?_eq_some_iff.1 hq).1
      rw [hlen l hk] at this; exact this
    have hk0 : 0 < k := Nat.pos_of_ne_zero fun h0 => by subst h0; simp at hql
    have hi : q / k < l.length := Nat.div_lt_of_lt_mul (by rw [Nat.mul_comm]; exact hql)
    have hj := Nat.mod_lt q hk0
    have hqe : q = q / k * k + q % k := by rw [Nat.mul_comm]; exact (Nat.div_add_mod q k).symm
    have h8 := flat_get (k := k) l (q / k) (q % k) hi hk hj
    rw [← hqe, hq] at h8
    have := h7 (q / k) hi (q % k) u h8.symm
    rw [hqe, ← Nat.add_assoc]; exact this
/-- A part of a slice of memory. -/
theorem SlM.part {α : Type} {k : Nat} {cells : α → List Value} {A : Option Addr} {c : Nat} {l : List α} (h : SlM M k cells (.slice A l.length c) l) {p q m : Nat} (hpq : p ≤ q) (hq : q ≤ l.length) (hm : q ≤ m) (hmc : m ≤ c) :
    SlM M k cells (sliced A p q m k) ((l.take q).drop p) := by
  obtain ⟨A', c', he, hc1, hc2, h4⟩ := h
  injection he with hA _ hc
  subst hA hc
  have hlen : ((l.take q).drop p).length = q - p := by rw [List.length_drop, List.length_take]; omega
  unfold sliced
  refine ⟨_, m - p, by rw [hlen], by omega, by omega, ?_⟩
  by_cases hpe : p = q
  · left; apply List.eq_nil_of_length_eq_zero; omega
  · rcases h4 with h4 | ⟨b, off, rfl, h6, h7⟩
    · subst h4; simp at hq; omega
    · right
      refine ⟨b, off + p * k, ?_, h6, fun i hi j x hx => ?_⟩
      · rw [if_neg (by omega)]; simp [Addr.add_lit]
      · rw [hlen] at hi
        have e : ((l.take q).drop p)[i] = l[p + i]'(by omega) := by simp
        rw [e] at hx
        have := h7 (p + i) (by omega) j x hx
        rw [show off + p * k + i * k + j = off + (p + i) * k + j by rw [Nat.add_mul]; omega]
        exact this
theorem QS_slice {x : Operand} {t : TypeId} {A : Option Addr} {n c : Nat} {lo hi mx : Option Operand} {s : St} (p q m : Nat) {k : Nat} (hx : s.env.op x = some (.v (.slice A n c))) [hte : ElmT P t k]
    (hlo : match lo with | none => p = 0 | some o => s.env.op o = some (.v (.int .i64 p))) (hhi : match hi with | none => q = n | some o => s.env.op o = some (.v (.int .i64 q))) (hmx : match hi, mx with | _, none => m = c | some _, some o => s.env.op o = some (.v (.int .i64 m)) | none, some _ => False)
    (h1 : p ≤ q) (h2 : q ≤ m) (h3 : m ≤ c) (h4 : n ≤ c) : QS P w M0 N ⟨dst, .slice t x lo hi mx, ty, pos, aft, g⟩ s (.v (sliced A p q m k)) := QS_run fun hd a W hR => by
  have hvx := hR.2.eval hx
  simp only [SV.den] at hvx
  have ht := hte.h
  unfold elemB at ht
  split at ht
  · rename_i e hu
    have hu' : P.underlying t = some (.slice (P.elem t)) := by simp [Program.elem, hu]
    have he : P.elem t = e := by simp [Program.elem, hu]
    have hsz := run_sizeOf_of (P := P) ht W
    rw [← he] at hsz
    have fin : ∀ (l' h' m' : Option Value), (Instr.slice t (.slice A n c) l' h' m').run P W = ((sizeOf (P.elem t)).run P W).andThen (fun s w => .ok (sliced A p q m s) w) → (Instr.sliceAt t (.slice A n c) l' h' m').run P W = .ok (sliced A p q m k) W := fun l' h' m' hh => by
      rw [run_sliceAt_slice W t _ l' h' m' hu', hh, hsz]; rfl
    have ev : ∀ {o : Operand} {z : Nat}, s.env.op o = some (.v (.int .i64 z)) → a.eval o = .int .i64 z := fun ho => hR.2.eval ho
    cases lo with
    | none =>
      simp only at hlo; subst hlo
      cases hi with
      | none =>
        simp only at hhi; subst hhi
        cases mx with
        | none =>
          simp only at hmx; subst hmx
          simp only [execOp, hvx, Option.map_none, Sem.run_bind, fin _ _ _ (run_slice_all W t A q m hu')]; rfl
        | some o =>
          exact hmx.elim
      | some o =>
        have hq := ev hhi
        cases mx with
        | none =>
          simp only at hmx; subst hmx
          have hh := fin none (some (.int .i64 q)) none (by rw [run_slice_h W t A n m hu' .i64 q (by omega) (by omega)]; simp)
          simp only [execOp, hvx, Option.map_none, Option.map_some, hq, Sem.run_bind, hh]; rfl
        | some o2 =>
          have hm := ev hmx
          have hh := fin none (some (.int .i64 q)) (some (.int .i64 m)) (by rw [run_slice_hm W t A n c hu' .i64 .i64 q m (by omega) (by omega) (by omega)]; simp)
          simp only [execOp, hvx, Option.map_none, Option.map_some, hq, hm, Sem.run_bind, hh]; rfl
    | some ol =>
      have hp := ev hlo
      cases hi with
      | none =>
        simp only at hhi; subst hhi
        cases mx with
        | none =>
          simp only at hmx; subst hmx
          have hh := fin (some (.int .i64 p)) none none (by rw [run_slice_l W t A q m hu' .i64 p (by omega) (by omega)]; simp)
          simp only [execOp, hvx, Option.map_none, Option.map_some, hp, Sem.run_bind, hh]; rfl
        | some o =>
          exact hmx.elim
      | some o =>
        have hq := ev hhi
        cases mx with
        | none =>
          simp only at hmx; subst hmx
          have hh := fin (some (.int .i64 p)) (some (.int .i64 q)) none (by rw [run_slice_lh W t A n m hu' .i64 .i64 p q (by omega) (by omega) (by omega)]; simp)
          simp only [execOp, hvx, Option.map_none, Option.map_some, hp, hq, Sem.run_bind, hh]; rfl
        | some o2 =>
          have hm := ev hmx
          have hh := fin (some (.int .i64 p)) (some (.int .i64 q)) (some (.int .i64 m)) (by rw [run_slice_lhm W t A n c hu' .i64 .i64 .i64 p q m (by omega) (by omega) (by omega) (by omega)]; simp)
          simp only [execOp, hvx, Option.map_none, Option.map_some, hp, hq, hm, Sem.run_bind, hh]; rfl
  · cases ht
end
end Go.Proofs.Ytclbmfepdlffnaa
namespace Go.Proofs.Ytclbmfepdlffnaa
open Go Go.RowKit
set_option linter.unusedVariables false
set_option maxRecDepth 20000
set_option linter.unusedSimpArgs false
section
variable {P : Program} {w : World} {M0 : Mem} {N : Nat} {dst : Option Tmp} {ty : TypeId} {pos : String} {aft : Array Edge} {g : Option (Nat × Bool)} {M : Mem} {own : List Ob} {env : Env} {s : St}
theorem foldl_put {k off : Nat} : ∀ (us : List Value) (j : Nat) (cs : Array Value), off + j + us.length ≤ cs.size →
    ((us.zipIdx j).foldl (fun (cs : Array Value) (x : Value × Nat) => cs.setIfInBounds (off + x.2) x.1) cs).toList = cs.toList.take (off + j) ++ us ++ cs.toList.drop (off + j + us.length)
  | [], j, cs, _ => by simp
  | u :: us, j, cs, h => by
    simp only [List.length_cons] at h
    rw [List.zipIdx_cons, List.foldl_cons, foldl_put (k := k) us (j + 1) _ (by simp; omega)]
    simp only [Array.toList_setIfInBounds, List.length_cons]
    rw [List.take_set, List.drop_set_of_lt (by omega)]
    have : (cs.toList.take (off + (j + 1))).set (off + j) u = cs.toList.take (off + j) ++ [u] := by
      rw [show off + (j + 1) = (off + j) + 1 by omega, List.take_succ_eq_append_getElem (by simp; omega), List.set_append_right _ _ (by simp; omega)]
      simp [show off + j - min (off + j) cs.size = 0 by omega]
    rw [this]
    simp only [List.append_assoc, List.cons_append, List.nil_append]
    congr 4
    omega
theorem fill_enumK (n k : Nat) : ∀ (vs : List Value) (j : Nat) (cs : Array Value), cs.size = n * k → j + vs.length ≤ n → (∀ v ∈ vs, v.cells.size = k) →
    (Instr.fill (fun i => some (i * k, k)) cs (enumF j vs)).map Array.toList = some (cs.toList.take (j * k) ++ vs.flatMap (fun v => v.cells.toList) ++ cs.toList.drop ((j + vs.length) * k))
  | [], j, cs, hl, hj, _ => by
    unfold enumF Instr.fill
    simp
  | v :: vs, j, cs, hl, hj, h1 => by
    have hv : v.cells.size = k := h1 v (by simp)
    simp only [List.length_cons] at hj
    have hjk : j * k + k ≤ n * k := by rw [← Nat.succ_mul]; exact Nat.mul_le_mul_right _ (by omega)
    unfold enumF Instr.fill
    simp only [hv]
    rw [if_neg (by simp [hl]; omega)]
    have e1 : v.cells.zipIdx.foldl (fun (cs : Array Value) x => cs.setIfInBounds (j * k + x.2) x.1) cs = (v.cells.toList.zipIdx 0).foldl (fun (cs : Array Value) (x : Value × Nat) => cs.setIfInBounds (j * k + x.2) x.1) cs := by
      rw [← Array.foldl_toList]; simp
    have e2 := foldl_put (k := k) (off := j * k) v.cells.toList 0 cs (by simp [hv, hl]; exact hjk)
    rw [e1]
    generalize hcs : (v.cells.toList.zipIdx 0).foldl (fun (cs : Array Value) (x : Value × Nat) => cs.setIfInBounds (j * k + x.2) x.1) cs = cs' at e2 ⊢
    have hvl : v.cells.toList.length = k := by simp [hv]
    have hsz : cs'.size = n * k := by
      rw [← Array.length_toList, e2]
      rw [List.length_append, List.length_append, List.length_drop, List.length_take, hvl, Array.length_toList, hl, Nat.add_zero, Nat.min_eq_left (by omega)]
      omega
    have ih := fill_enumK n k vs (j + 1) cs' hsz (by omega) (fun u hu => h1 u (by simp [hu]))
    rw [ih, e2]
    have e3 : (j + 1) * k = j * k + k := Nat.succ_mul j k
    have e4 : (j + 1 + vs.length) * k = j * k + k + vs.length * k := by rw [Nat.add_mul, Nat.succ_mul]
    have e5 : (j + (v :: vs).length) * k = j * k + k + vs.length * k := by rw [List.length_cons, ← e4]; congr 1; omega
    rw [e3, e4, e5]
    simp only [Nat.add_zero, hvl]
    congr 1
    have hA : (cs.toList.take (j * k) ++ v.cells.toList).length = j * k + k := by rw [List.length_append, List.length_take, hvl, Array.length_toList, hl, Nat.min_eq_left (by omega)]
    rw [List.take_left' hA, List.flatMap_cons, List.drop_append, hA, show j * k + k + vs.length * k - (j * k + k) = vs.length * k by omega, List.drop_drop, List.drop_eq_nil_of_le (by rw [hA]; omega), List.nil_append]
    simp only [List.append_assoc]
theorem litsK_run {t e : TypeId} {env : Env} {len k bytes : Nat} {parts : Array (Nat × Operand)} {vs : List Value} [hE : EloT P t e k bytes] (hpv : env.vals (parts.toList.map (·.2)) = some vs) (hix : parts.toList.map (·.1) = List.range' 0 vs.length) (hlen : vs.length = len) (hmax : Nat.ble (len * k) 1000000 = true) (h1 : (vs.all fun v => v.cells.size == k) = true)
    (hd : Nat → Value) (a : Act) (W : World) (hF : Fr N hd env a) : (Instr.buildSlice t len (parts.map fun (i, x) => (i, a.eval x))).run P W = .ok (.slice (some ⟨W.heap.size, 0, none⟩) len len) (W.alloc (.cells (vs.flatMap fun v => v.cells.toList).toArray e)) := by
    have hE' := ElemOk.mk' hE.h
    obtain ⟨i, z, hi, hz, hs, hb, hzs⟩ := hE'.hi
    have hpe := Env.parts_eval hF parts.toList _ (parts_of_vals _ _ 0 hpv hix)
    have hlm : len * k ≤ 1000000 := Nat.le_of_ble_eq_true hmax
    have hk0 := hE'.hk
    have hparts : (parts.map fun (i, x) => (i, a.eval x)).toList = enumF 0 vs := by rw [Array.toList_map]; exact hpe
    have hfill : ∀ cs : Array Value, cs.size = len * k → Instr.fill (fun q => some (q * k, k)) cs (enumF 0 vs) = some (vs.flatMap fun v => v.cells.toList).toArray := fun cs hcs => by
      have := fill_enumK len k vs 0 cs hcs (by omega) (fun v hv => by simpa using List.all_eq_true.1 h1 v hv)
      rw [Nat.zero_mul, List.take_zero, List.nil_append, Nat.zero_add, hlen, List.drop_eq_nil_of_le (by simp [hcs]), List.append_nil] at this
      cases hf : Instr.fill (fun q => some (q * k, k)) cs (enumF 0 vs) with
      | none => rw [hf] at this; cases this
      | some r =>
        rw [hf] at this
        simp only [Option.map_some, Option.some.injEq] at this
        rw [← this]
    simp only [Instr.buildSlice, Sem.run_bind, run_underlying hE'.ht, Result.andThen_ok, sizeOf, typeInfo, run_program, hi, hs, Sem.run_pure]
    rw [if_neg (by omega)]
    by_cases h0 : len = 0
    · simp only [h0, Nat.zero_mul, if_true, Sem.run_pure, Result.andThen_ok, hparts]
      have hv0 : vs = [] := List.eq_nil_of_length_eq_zero (by omega)
      subst hv0
      simp [enumF, Instr.fill, newRow, Array.range_zero']
    · have h0' : len * k ≠ 0 := by have := Nat.mul_pos (Nat.pos_of_ne_zero h0) hk0; omega
      simp only [h0', if_false, Sem.run_bind, zeroValue, typeInfo, run_program, hi, Result.andThen_ok, hz, Sem.run_pure, hparts]
      have := hfill ((Array.range (len * k)).map (z.cells[· % z.cells.size]!)) (by simp)
      rw [this]
      simp [newRow]
theorem flat_len {k : Nat} : ∀ vs : List Value, (vs.all fun v => v.cells.size == k) = true → (vs.flatMap fun v => v.cells.toList).length = vs.length * k
  | [], _ => by simp
  | v :: vs, h => by
    simp only [List.all_cons, Bool.and_eq_true, beq_iff_eq] at h
    rw [List.flatMap_cons, List.length_append, flat_len vs h.2, List.length_cons, Nat.succ_mul]
    simp [h.1]; omega
theorem EF_litsK {t e : TypeId} {len k bytes : Nat} {parts : Array (Nat × Operand)} {vs : List Value} [hE : EloT P t e k bytes] (hpv : env.vals (parts.toList.map (·.2)) = some vs) (hix : parts.toList.map (·.1) = List.range' 0 vs.length) (hlen : vs.length = len) (hmax : Nat.ble (len * k) 1000000 = true) (h1 : (vs.all fun v => v.cells.size == k) = true) :
    EF P w M0 N ⟨dst, .buildSlice t len parts, ty, pos, aft, g⟩ ⟨M, own, env⟩ (own ++ [.row e k len (vs.flatMap fun v => v.cells.toList)]) (.r own.length) :=
  EF_lit (t := t) (e := e) k _ (by rw [flat_len vs h1, hlen]) (by
    have h2 := Nat.le_of_ble_eq_true hmax
    have h3 := (ElemOk.mk' hE.h).hk
    have : len * 1 ≤ len * k := Nat.mul_le_mul_left _ h3
    unfold maxLen; omega) (litsK_run hpv hix hlen hmax h1)
theorem VL_litsK {ops : Array Oper} {l : List Oper} {Q : Post} {t e : TypeId} {len k bytes : Nat} {parts : Array (Nat × Operand)} {vs : List Value} [hE : EloT P t e k bytes] (hpv : env.vals (parts.toList.map (·.2)) = some vs) (hix : parts.toList.map (·.1) = List.range' 0 vs.length) (hlen : vs.length = len) (hmax : Nat.ble (len * k) 1000000 = true) (h1 : (vs.all fun v => v.cells.size == k) = true)
    (hk : dstOk N dst = true) (hold : envB env own.length = true) (h : VL P w M0 N ops l ⟨M, own ++ [.row e k len (vs.flatMap fun v => v.cells.toList)], env.put dst (.r own.length)⟩ Q) : VL P w M0 N ops (⟨dst, .buildSlice t len parts, ty, pos, aft, none⟩ :: l) ⟨M, own, env⟩ Q :=
  VL_e _ _ (EF_litsK hpv hix hlen hmax h1) hk hold h

/-! ### Calls that are handed what is our own -/
/-- An own row that is read as a list. -/
theorem ObOk.sl {α : Type} {base : Nat} {W : World} {v : Value} {e : TypeId} {k n : Nat} {cs : List Value} {cells : α → List Value} (l : List α) (h : ObOk base W v (.row e k n cs)) (hn : n = l.length) (hk : ∀ a ∈ l, (cells a).length = k) (hc : cs = l.flatMap cells) : Sl W k cells v l := by
  subst hn hc
  exact Sl.of_own hk h
end
section
variable {P : Program} {x y : Operand} {t : TypeId}
/-- A slice held against nil. -/
theorem run_equalIn_slnil (W : World) (d : Nat) (t : TypeId) {e : TypeId} (h : P.underlying t = some (.slice e)) (A : Option Addr) (n c : Nat) : (Op.equalIn (d + 1) t (.slice A n c) (.slice none 0 0)).run P W = .ok A.isNone W := by
  cases A <;> simp [Op.equalIn, run_underlying h]
theorem run_equal_slnil (W : World) (t : TypeId) {e : TypeId} (h : P.underlying t = some (.slice e)) (A : Option Addr) (n c : Nat) : (Op.equal t (.slice A n c) (.slice none 0 0)).run P W = .ok A.isNone W := run_equalIn_slnil W 9999 t h A n c
theorem B_slnil [h : SliT P t] {A : Option Addr} {n c : Nat} : Bin P .eql t x (.const (.slice none 0 0)) (.slice A n c) (.slice none 0 0) (.bool A.isNone) := .mk fun W => by
  have hu := isSliceB_u h.h
  rw [Sem.run_bind]
  have hg : (eqGuard .eql t x (.const (.slice none 0 0)) (.slice A n c) (.slice none 0 0)).run P W = .ok () W := by
    simp [eqGuard]
  rw [hg]
  simp only [Result.andThen_ok, binOp]
  simp [run_equal_slnil W t hu A n c]
end
end Go.Proofs.Ytclbmfepdlffnaa
namespace Go.Proofs.Ytclbmfepdlffnaa
open Go Go.RowKit
set_option linter.unusedVariables false
set_option maxRecDepth 20000
set_option linter.unusedSimpArgs false
section
variable {P : Program} {w : World} {M0 : Mem} {N : Nat} {dst : Option Tmp} {ty : TypeId} {pos : String} {aft : Array Edge} {g : Option (Nat × Bool)} {M : Mem} {own : List Ob} {env : Env} {s : St}
/-- A function whose result is a row of the caller's own, or nil. -/
theorem V_rowN {f : FuncId} {fn : Func} {c : Code} {args : List Value} {e : TypeId} {k n : Nat} {cs : List Value} {t : Tmp} (hf : P.funcs[f]? = some fn) (hb : fn.body = some c) (hn : fn.ntmps = N) (hk : Nat.ble args.length N = true) (hM : M.le (Mem.of w)) (hres : fn.results = #[.tmp t])
    (h : VC P w M N c ⟨M, [], envFrom 0 args⟩ (finQ fun s => (∃ i, s.env.get t = some (.r i) ∧ s.own[i]? = some (.row e k n cs)) ∨ (s.env.get t = some (.v (.slice none 0 0)) ∧ n = 0 ∧ cs = []))) : Calls P f args.toArray w (RetRow e k n cs w) := by
  have hk' : args.length ≤ N := Nat.le_of_ble_eq_true hk
  refine calls_of_wp hf hb (wp_mono (h.go (fun _ => .nilFunc) _ w ⟨⟨Below.refl _ _, hM, fun b _ h => h, Mem.le_refl _, fun i o hi => by simp at hi, fun i o b hi => by simp at hi, fun i j oi oj b hi => by simp at hi⟩, fun t sv ht => ?_, ?_, rfl⟩) ?_)
  · obtain ⟨v, _, h1, rfl⟩ := envFrom_get args 0 t sv ht
    have h1' : args[t]? = some v := by simpa using h1
    have hlt := (List.getElem?_eq_some_iff.1 h1').1
    show (args.toArray ++ _)[t]? = some v
    rw [Array.getElem?_append_left (by simpa using hlt)]
    simpa using h1'
  · simp [hn]; omega
  · rintro x a' W' ⟨hd', s', hR', hq⟩
    have key : ((∃ i, s'.env.get t = some (.r i) ∧ s'.own[i]? = some (.row e k n cs)) ∨ (s'.env.get t = some (.v (.slice none 0 0)) ∧ n = 0 ∧ cs = [])) → a'.defers = [] ∧ ∃ v, (results fn a'.tmps).run P W' = .ok v W' ∧ RetRow e k n cs w (.returned v) W' := by
      rintro (⟨i, h1, h2⟩ | ⟨h1, rfl, rfl⟩)
      · have ht := hR'.2.env t _ h1
        refine ⟨hR'.2.defers, hd' i, ?_, hd' i, rfl, hR'.1.below, hR'.1.own i _ h2⟩
        rw [results_tmp hres]
        simp [ht, SV.den]
      · have ht := hR'.2.env t _ h1
        refine ⟨hR'.2.defers, .slice none 0 0, ?_, .slice none 0 0, rfl, hR'.1.below, World.ownsRow_nil W' _ e k⟩
        rw [results_tmp hres]
        simp [ht, SV.den]
    cases x with
    | ret => exact key hq
    | normal => exact key hq
    | exit id => exact hq.elim
    | goto l => exact hq.elim
    | panic c => exact hq.elim
    | outgrown => exact hq.elim
/-! ### Own objects that nobody writes any more, under whatever names -/
def SV.frz (i : Nat) (v : Value) : SV → SV
  | .r j => match Nat.beq j i with | true => .v v | false => .r j
  | .p j off => match Nat.beq j i with | true => .v (.pointer (some ⟨(foot v).getD 0, off, none⟩)) | false => .p j off
  | .v x => .v x
def frzE (i : Nat) (v : Value) : Env → Env
  | [] => []
  | (t, sv) :: l => (t, sv.frz i v) :: frzE i v l
theorem frzE_get {i : Nat} {v : Value} : ∀ {e : Env} {t : Nat} {sv : SV}, (frzE i v e).get t = some sv → ∃ u, e.get t = some u ∧ sv = u.frz i v
  | [], t, sv, h => by cases h
  | (k, u) :: l, t, sv, h => by
    unfold frzE Env.get at h
    unfold Env.get
    split at h
    · rename_i hb
      cases h
      exact ⟨u, rfl, rfl⟩
    · rename_i hb
      exact frzE_get h
theorem frz_den {hd : Nat → Value} {i : Nat} {v : Value} (hv : hd i = v) (sv : SV) : (sv.frz i v).den hd = sv.den hd := by
  subst hv
  cases sv with
  | v x => rfl
  | p j off =>
    show SV.den hd (match Nat.beq j i with | true => .v (.pointer (some ⟨(foot (hd i)).getD 0, off, none⟩)) | false => .p j off) = _
    cases hb : Nat.beq j i with
    | true => rw [Nat.eq_of_beq_eq_true hb]; rfl
    | false => rfl
  | r j =>
    show SV.den hd (match Nat.beq j i with | true => .v (hd i) | false => .r j) = _
    cases hb : Nat.beq j i with
    | true => rw [Nat.eq_of_beq_eq_true hb]; rfl
    | false => rfl
theorem frz_fr {hd : Nat → Value} {a : Act} {i : Nat} (h : Fr N hd env a) : Fr N hd (frzE i (hd i) env) a := ⟨fun t sv ht => by
  obtain ⟨u, h1, h2⟩ := frzE_get ht
  rw [h2, frz_den rfl]
  exact h.env t u h1, h.size, h.defers⟩
theorem VL_frz {ops : Array Oper} {l : List Oper} {Q : Post} {e : TypeId} {k n : Nat} {cs : List Value} (i : Nat) (hi : own[i]? = some (.row e k n cs))
    (h : ∀ v M', M.le M' → RowM M' k n cs v → VL P w M0 N ops l ⟨M', own.set i .gone, frzE i v env⟩ Q) : VL P w M0 N ops l ⟨M, own, env⟩ Q := .mk fun hd a W hR => by
  obtain ⟨M', h1, h2, h3⟩ := frozen_wd hR.1 hi
  exact (h (hd i) M' h1 h2).go hd a W ⟨h3, frz_fr hR.2⟩
theorem QS_append_nilZ {x y : Operand} {t e e2 : TypeId} {B : Option Addr} {i k bytes n k2 n2 c' : Nat} {cs : List Value} (hx : s.env.op x = some (.r i)) (hi : s.own[i]? = some (.row e2 k2 n cs)) (hy : s.env.op y = some (.v (.slice B n2 c'))) [hE : EloT P t e k bytes] (h0 : n2 = 0) :
    QS P w M0 N ⟨dst, .call ⟨.builtin .append, #[x, y], #[t, t]⟩, ty, pos, aft, g⟩ s (.r i) := by
  subst h0
  exact QS_append_nilR hx hi hy
/-- A slot that holds nil becomes an own row without elements. -/
theorem VC_nilR {c : Code} {Q : Post} (t : Tmp) (e : TypeId) (k : Nat) (ht : env.get t = some (.v (.slice none 0 0))) (hold : envB env own.length = true) (h : VC P w M0 N c ⟨M, own ++ [.row e k 0 []], (t, .r own.length) :: env⟩ Q) : VC P w M0 N c ⟨M, own, env⟩ Q := .mk fun hd a W hR => by
  have hadd := hR.1.add (o' := .row e k 0 []) (v' := .slice none 0 0) (World.ownsRow_nil W _ e k) (fun b hb => by cases hb)
  have hfr := env_new (own := own) hR.2 hold (.slice none 0 0)
  refine h.go _ a W ⟨hadd, fun q sv hq => ?_, hR.2.size, hR.2.defers⟩
  unfold Env.get at hq
  split at hq
  · rename_i hb
    obtain rfl := Nat.eq_of_beq_eq_true hb
    cases hq
    have := hR.2.env _ _ ht
    simp only [SV.den, setH_same] at this ⊢
    exact this
  · exact hfr.env q sv hq
end
end Go.Proofs.Ytclbmfepdlffnaa
namespace Go.Proofs.Ytclbmfepdlffnaa
open Go Go.RowKit
set_option linter.unusedVariables false
set_option maxRecDepth 20000
set_option linter.unusedSimpArgs false
section
variable {P : Program} {w : World} {M0 : Mem} {N : Nat} {dst : Option Tmp} {ty : TypeId} {pos : String} {aft : Array Edge} {g : Option (Nat × Bool)} {M : Mem} {own : List Ob} {env : Env} {s : St}
/-- One cell of an own row. -/
theorem ES_row1 {t e : TypeId} {x y : Operand} {i off k n : Nat} {cs : List Value} {u : Value} (hx : env.op x = some (.p i off)) (hy : env.op y = some (.v u)) (hi : own[i]? = some (.row e k n cs)) (hoff : off < cs.length) (hu : u.oneCell' = true) [ht : SizT P t 1] :
    ES P w M0 N ⟨dst, .store t x y, ty, pos, aft, g⟩ ⟨M, own, env⟩ (own.set i (.row e k n (cs.set off u))) := fun hd a W hR => by
  have h1 := hR.2.eval hx
  have h2 := hR.2.eval hy
  simp only [SV.den] at h1 h2
  have hO := hR.1.own i _ hi
  obtain ⟨hlen, ⟨_, h0⟩ | ⟨b, cap, cur, hv, hb1, hb2, hnc, hcm, hcs, htake⟩⟩ := id hO
  · subst h0
    rw [Nat.zero_mul] at hlen
    omega
  have hc := ob_cell hO (off := off) (u := cs[off]) (by simp [Ob.cells, hoff])
  have hfoot : foot (hd i) = some b := by rw [hv]; rfl
  rw [hfoot] at h1 hc
  simp only [Option.getD_some] at h1 hc
  have hz : W.frozen? ⟨b, off, none⟩ = false := frozen_of_row W b off cur e hb2
  have hvc : u.cells = #[u] := by cases u <;> first | rfl | cases hu
  refine ⟨W.setCell ⟨b, off, none⟩ u, ?_, ?_⟩
  · simp [execOp, h1, h2, Instr.storeAt, Instr.sureAddr, storeVar, run_sizeOf_of ht.h, hvc, storeCells, run_store P W _ u _ hu, hc, hz, Addr.add_zero']
  · refine hR.1.upd hi (by simp) (row := some b) ⟨rfl, rfl, rfl, by simp, fun q hq hne => heap_setCell_other W ⟨b, off, none⟩ q u (fun e => hne (by rw [e]))⟩ (fun q hq => by cases hq; exact hfoot) ⟨by simpa using hlen, .inr ⟨b, cap, cur.setIfInBounds off u, hv, hb1, heap_setCell_same W b off cur e u hb2, hnc, hcm, by simpa using hcs, ?_⟩⟩
    rw [Array.toList_setIfInBounds, List.take_set, htake]
def EnvV : Env → Env → Prop
  | [], _ => True
  | (t, .v x) :: l, e => e.get t = some (.v x) ∧ EnvV l e
  | _ :: _, _ => False
theorem EnvV.get : ∀ {e' e : Env}, EnvV e' e → ∀ t sv, e'.get t = some sv → ∃ x, sv = .v x ∧ e.get t = some (.v x)
  | [], _, _, _, _, h => by cases h
  | (k, .v x) :: l, e, ⟨h1, h2⟩, t, sv, h => by
    unfold Env.get at h
    split at h
    · rename_i hb
      obtain rfl := Nat.eq_of_beq_eq_true hb
      cases h; exact ⟨x, rfl, h1⟩
    · exact EnvV.get h2 t sv h
  | (k, .p _ _) :: l, e, h, _, _, _ => h.elim
  | (k, .r _) :: l, e, h, _, _, _ => h.elim
end
end Go.Proofs.Ytclbmfepdlffnaa
namespace Go.Proofs.Ytclbmfepdlffnaa
open Go Go.RowKit
set_option linter.unusedVariables false
set_option maxRecDepth 20000
set_option linter.unusedSimpArgs false
section
variable {P : Program} {w : World} {M0 : Mem} {N : Nat} {dst : Option Tmp} {ty : TypeId} {pos : String} {aft : Array Edge} {g : Option (Nat × Bool)} {M : Mem} {own : List Ob} {env : Env} {s : St}
/-- s[:q] of an own row: the row is its first q elements. -/
theorem EF_cut {x hi : Operand} {t e : TypeId} {i k n bytes : Nat} {cs : List Value} (q : Nat) (hx : env.op x = some (.r i)) (hh : env.op hi = some (.v (.int .i64 q))) (ho : own[i]? = some (.row e k n cs)) (hq : q ≤ n) [hE : EloT P t e k bytes] :
    EF P w M0 N ⟨dst, .slice t x none (some hi) none, ty, pos, aft, g⟩ ⟨M, own, env⟩ (own.set i .gone ++ [.row e k q (cs.take (q * k))]) (.r own.length) := ⟨fun hd a W hR => by
  have hE' := ElemOk.mk' hE.h
  have hO := hR.1.own i _ ho
  have hvx := hR.2.eval hx
  have hvh := hR.2.eval hh
  simp only [SV.den] at hvx hvh
  obtain ⟨ii, z, hi1, hz, hsz, hby, hzs⟩ := hE'.hi
  have hel : P.elem t = e := by simp [Program.elem, hE'.ht]
  have hu' : P.underlying t = some (.slice (P.elem t)) := by rw [hel]; exact hE'.ht
  have hrun : ∃ v', (execOp a.eval ⟨dst, .slice t x none (some hi) none, ty, pos, aft, g⟩).run P W = .ok (.value v') W ∧ W.ownsRow w.heap.size e k v' q (cs.take (q * k)) ∧ foot v' = foot (hd i) := by
    have hqk : q * k ≤ n * k := Nat.mul_le_mul_right _ hq
    obtain ⟨hlen, ⟨hv, h0⟩ | ⟨b, cap, cur, hv, hb1, hb2, hnc, hcm, hcs, htake⟩⟩ := id hO
    · subst h0
      have hq0 : q = 0 := by omega
      subst hq0
      refine ⟨.slice none 0 0, ?_, ?_, by rw [hv]⟩
      · rw [hv] at hvx
        have h1 := run_slice_h (P := P) W t none 0 0 hu' .i64 0 (by omega) (by omega)
        simp only [execOp, hvx, hvh, Option.map_none, Option.map_some, Sem.run_bind, run_sliceAt_slice W t _ _ _ _ hu']
        have h1' : (Instr.slice t (.slice none 0 0) none (some (.int .i64 ((0 : Nat) : Int))) none).run P W = _ := h1
        rw [h1', hel, run_sizeOf_of (n := k) (by unfold sizeB; simp [hi1, hsz])]
        simp [sliced]
      · simpa using World.ownsRow_nil W w.heap.size e k
    · refine ⟨.slice (some ⟨b, 0, none⟩) q cap, ?_, ⟨by rw [List.length_take]; omega, .inr ⟨b, cap, cur, rfl, hb1, hb2, by omega, hcm, hcs, by rw [← htake, List.take_take, Nat.min_eq_left hqk]⟩⟩, by rw [hv]; rfl⟩
      rw [hv] at hvx
      have h1 := run_slice_h (P := P) W t (some ⟨b, 0, none⟩) n cap hu' .i64 q (by omega) (by omega)
      simp only [execOp, hvx, hvh, Option.map_none, Option.map_some, Sem.run_bind, run_sliceAt_slice W t _ _ _ _ hu', h1]
      rw [hel, run_sizeOf_of (n := k) (by unfold sizeB; simp [hi1, hsz])]
      simp [sliced, Addr.add_lit]
  obtain ⟨v', h1, h2, h3⟩ := hrun
  rw [h1]
  simp only [EffRun]
  have hadd := (hR.1.drop i).add (o' := .row e k q (cs.take (q * k))) (v' := v') h2 (fun b hb => by
    rw [h3] at hb
    refine ⟨hR.1.sep i _ b ho (by simp) hb, fun j oj hj hjn hjf => ?_⟩
    by_cases hji : j = i
    · subst hji
      rw [List.getElem?_set_self (List.getElem?_eq_some_iff.1 ho).1] at hj
      exact hjn (Option.some.inj hj).symm
    · rw [List.getElem?_set_ne (Ne.symm hji)] at hj
      exact hji (hR.1.dis j i oj _ b hj ho hjn (by simp) hjf hb))
  rw [List.length_set] at hadd
  exact ⟨setH hd own.length v', fun q hq => setH_ne _ _ (by have : q < own.length := hq; omega), hadd, by simp only [SV.den, setH_same]⟩, by simp, by simp [SV.okB, Nat.blt_eq]⟩
end
end Go.Proofs.Ytclbmfepdlffnaa
namespace Go.Proofs.Ytclbmfepdlffnaa
open Go Go.RowKit
set_option linter.unusedVariables false
set_option maxRecDepth 20000
set_option linter.unusedSimpArgs false
section
variable {P : Program} {w : World} {M0 : Mem} {N : Nat} {dst : Option Tmp} {ty : TypeId} {pos : String} {aft : Array Edge} {g : Option (Nat × Bool)} {M : Mem} {own : List Ob} {env : Env} {s : St}
def intB (P : Program) (t : TypeId) (k : IntKind) : Bool := match P.underlying t with | some (.int k') => decide (k' = k) | _ => false
class IntT (P : Program) (t : TypeId) (k : outParam IntKind) : Prop where
  h : intB P t k = true
theorem intB_u {t : TypeId} {k : IntKind} (h : intB P t k = true) : P.underlying t = some (.int k) := by
  unfold intB at h
  split at h
  · rename_i k' he
    rw [he, of_decide_eq_true h]
  · cases h
theorem zero_info {e : TypeId} {z z' : Value} {i : TypeInfo} (hz : ∀ W : World, (zeroValue e).run P W = .ok z W) (hi : P.info? e = some i) (hz' : i.zero = some z') (W : World) : z = z' := by
  have h := hz W
  simp [zeroValue, typeInfo, hi, hz'] at h
  exact h.symm
theorem EF_make {t e : TypeId} {x y : Operand} {k bytes : Nat} {kl kc : IntKind} {z : Value} (n : Nat) {i1 i2 : Int} (cells : List Value) (hx : env.op x = some (.v (.int kl i1))) (hy : env.op y = some (.v (.int kc i2))) (h1 : i1 = (n : Int)) (h2 : i2 = (n : Int)) [hE : EloT P t e k bytes] [hz : ZerT P e z] (hc : (madeCells z.cells (n * k)).toList = cells) (hm : n ≤ maxLen) (hb : bytes * n ≤ 281474976710656) :
    EF P w M0 N ⟨dst, .makeSlice t x y, ty, pos, aft, g⟩ ⟨M, own, env⟩ (own ++ [.row e k n cells]) (.r own.length) := by
  subst h1 h2
  exact EF_obj (.row e k n cells) (fun hd a W hR => by
    have hE' := ElemOk.mk' hE.h
    obtain ⟨i, z', hi, hz', hs, hby, _⟩ := hE'.hi
    have hzz := zero_info hz.h hi hz' W
    subst hzz
    obtain ⟨W', hr, ho, hg⟩ := run_make_full (P := P) W w.heap.size t e i z k hE'.ht hi hz' hs kl kc n (by rw [hby]; exact hb) hm hR.1.below.size
    have e1 := hR.2.eval hx
    have e2 := hR.2.eval hy
    simp only [SV.den] at e1 e2
    refine ⟨_, W', ?_, hg, by rw [← hc]; exact ho, fun b hb => ?_⟩
    · simp only [execOp, Sem.run_bind, e1, e2, hr, Result.andThen_ok, Sem.run_pure]
    · obtain rfl : W.heap.size = b := by simpa [foot] using hb
      exact Nat.le_refl _)
theorem madeCells_one (z : Value) (n : Nat) (h : z.cells = #[z]) : (madeCells z.cells (n * 1)).toList = List.replicate n z := by
  rw [h, Nat.mul_one]
  unfold madeCells
  apply List.ext_getElem
  · simp
  · intro i h1 h2
    simp [Nat.mod_one]
/-- A cell of an own row by its place. -/
theorem QS_loadR1 {t : TypeId} {x : Operand} {i off n : Nat} {e : TypeId} {k : Nat} {cs : List Value} {u : Value} (hx : s.env.op x = some (.p i off)) (ho : s.own[i]? = some (.row e k n cs)) (hu : cs[off]? = some u) [ht : OneT P t] : QS P w M0 N ⟨dst, .load t x, ty, pos, aft, g⟩ s (.v u) :=
  QS_load1 hx ho hu
/-- A store into an own row by its place. -/
theorem VL_row1 {ops : Array Oper} {l : List Oper} {Q : Post} {t e : TypeId} {x y : Operand} {i off k n : Nat} {cs : List Value} {u : Value} (hx : env.op x = some (.p i off)) (hy : env.op y = some (.v u)) (hi : own[i]? = some (.row e k n cs)) (hoff : off < cs.length) (hu : u.oneCell' = true) [ht : SizT P t 1] (hk : dstOk N dst = true) (hold : envB env own.length = true)
    (h : VL P w M0 N ops l ⟨M, own.set i (.row e k n (cs.set off u)), env.put dst (.v undef)⟩ Q) :
    VL P w M0 N ops (⟨dst, .store t x y, ty, pos, aft, none⟩ :: l) ⟨M, own, env⟩ Q :=
  VL_e _ _ (EF_st (ES_row1 hx hy hi hoff hu) (by simp)) hk hold h
end
end Go.Proofs.Ytclbmfepdlffnaa
namespace Go.Proofs.Ytclbmfepdlffnaa
open Go Go.RowKit
set_option linter.unusedVariables false
set_option maxRecDepth 20000
set_option linter.unusedSimpArgs false
section
variable {P : Program} {w : World} {M0 : Mem} {N : Nat} {dst : Option Tmp} {ty : TypeId} {pos : String} {aft : Array Edge} {g : Option (Nat × Bool)} {s : St}
def cmpV : BinOp → Value → Value → Option Value
  | .lss, .int .i64 a, .int .i64 b => some (.bool (decide (a < b)))
  | .leq, .int .i64 a, .int .i64 b => some (.bool (decide (a ≤ b)))
  | .gtr, .int .i64 a, .int .i64 b => some (.bool (decide (b < a)))
  | .geq, .int .i64 a, .int .i64 b => some (.bool (decide (b ≤ a)))
  | .eql, .int .i64 a, .int .i64 b => some (.bool (a == b))
  | .neq, .int .i64 a, .int .i64 b => some (.bool (a != b))
  | .lss, .int .u8 a, .int .u8 b => some (.bool (decide (a < b)))
  | .leq, .int .u8 a, .int .u8 b => some (.bool (decide (a ≤ b)))
  | .gtr, .int .u8 a, .int .u8 b => some (.bool (decide (b < a)))
  | .geq, .int .u8 a, .int .u8 b => some (.bool (decide (b ≤ a)))
  | .eql, .int .u8 a, .int .u8 b => some (.bool (a == b))
  | .neq, .int .u8 a, .int .u8 b => some (.bool (a != b))
  | .lss, .string a, .string b => some (.bool (lt a b))
  | .leq, .string a, .string b => some (.bool (!lt b a))
  | .gtr, .string a, .string b => some (.bool (lt b a))
  | .geq, .string a, .string b => some (.bool (!lt a b))
  | .eql, .string a, .string b => some (.bool (decide (a = b)))
  | .neq, .string a, .string b => some (.bool (!decide (a = b)))
  | _, _, _ => none
theorem cmp_ok {op : BinOp} {t : TypeId} {x y : Operand} {u v r : Value} (h : cmpV op u v = some r) : Bin P op t x y u v r := by
  unfold cmpV at h
  split at h <;> first | (injection h with h; subst h; first | exact B_lss | exact B_leq | exact B_gtr | exact B_geq | exact B_eql | exact B_neq | exact B_slss | exact B_sleq | exact B_sgtr | exact B_sgeq | exact B_seql | exact B_sneq) | cases h
theorem qmv {x : Operand} {sv : SV} (hx : s.env.op x = some sv) : QS P w M0 N ⟨dst, .move x, ty, pos, aft, g⟩ s sv := QS_move hx
theorem qas {x : Operand} {sv : SV} (hx : s.env.op x = some sv) : QS P w M0 N ⟨dst, .assign x, ty, pos, aft, g⟩ s sv := QS_assign hx
theorem ql1 {t : TypeId} {x : Operand} {i off : Nat} {o : Ob} {u : Value} [ht : OneT P t] (hx : s.env.op x = some (.p i off)) (ho : s.own[i]? = some o := by rfl) (hu : o.cells[off]? = some u := by rfl) : QS P w M0 N ⟨dst, .load t x, ty, pos, aft, g⟩ s (.v u) := QS_load1 hx ho hu
theorem qlA {t : TypeId} {x : Operand} {i : Nat} {o : Ob} {n : Nat} [ht : AggT P t n] (hx : s.env.op x = some (.p i 0)) (ho : s.own[i]? = some o := by rfl) (hn : o.cells.length = n := by rfl) : QS P w M0 N ⟨dst, .load t x, ty, pos, aft, g⟩ s (.v (.agg o.cells.toArray)) := QS_loadA hx ho n hn
theorem qfa {t : TypeId} {x : Operand} {f i o off : Nat} [hf : FldT P t f off] (hx : s.env.op x = some (.p i o)) : QS P w M0 N ⟨dst, .fieldAddr t x f, ty, pos, aft, g⟩ s (.p i (o + off)) := QS_fieldAddr hx
theorem qmf {t : TypeId} {x : Operand} {f b o off : Nat} [hf : FldT P t f off] (hx : s.env.op x = some (.v (.pointer (some ⟨b, o, none⟩)))) : QS P w M0 N ⟨dst, .fieldAddr t x f, ty, pos, aft, g⟩ s (.v (.pointer (some ⟨b, o + off, none⟩))) := QS_mfieldAddr hx
theorem qfd {t : TypeId} {x : Operand} {f off : Nat} {cs : Array Value} {u : Value} [hft : FvlT P t f off] (hx : s.env.op x = some (.v (.agg cs))) (hu : cs[off]? = some u := by rfl) : QS P w M0 N ⟨dst, .field t x f, ty, pos, aft, g⟩ s (.v u) := QS_field hx hu
theorem qm1 {t : TypeId} {x : Operand} {b off : Nat} {u : Value} [ht : OneT P t] (hx : s.env.op x = some (.v (.pointer (some ⟨b, off, none⟩)))) (hu : s.M.cell b off = some u := by assumption) : QS P w M0 N ⟨dst, .load t x, ty, pos, aft, g⟩ s (.v u) := QS_mload1 hx hu
theorem qbd {t : TypeId} {parts : Array (Nat × Operand)} {zs : Array Value} {ps : List (Nat × Value)} [hz : ZerT P t (.agg zs)] {n : Nat} [hft : FltT P t n] (hn : zs.toList.length = n) (hp : s.env.parts parts.toList = some ps := by rfl) (h1 : (ps.all fun p => Nat.blt p.1 n && p.2.oneCell') = true := by rfl) : QS P w M0 N ⟨dst, .build t parts, ty, pos, aft, g⟩ s (.v (.agg (sets zs.toList ps).toArray)) := QS_build n hn hp h1
theorem qno {t : TypeId} {x : Operand} {b : Bool} (hx : s.env.op x = some (.v (.bool b))) : QS P w M0 N ⟨dst, .unOp .not t x, ty, pos, aft, g⟩ s (.v (.bool (!b))) := QS_not hx
theorem qex {x : Operand} {k : Nat} {vs : Array Value} {u : Value} (hx : s.env.op x = some (.v (.tuple vs))) (hu : vs[k]? = some u := by rfl) : QS P w M0 N ⟨dst, .extract x k, ty, pos, aft, g⟩ s (.v u) := QS_extract hx hu
theorem qln {x : Operand} {t : TypeId} {A : Option Addr} {n c : Nat} [ht : SliT P t] (hx : s.env.op x = some (.v (.slice A n c))) : QS P w M0 N ⟨dst, .call ⟨.builtin .len, #[x], #[t]⟩, ty, pos, aft, g⟩ s (.v (.int .i64 n)) := QS_len hx
theorem qls {x : Operand} {t : TypeId} {b : ByteArray} [ht : StrT P t] (hx : s.env.op x = some (.v (.string b))) : QS P w M0 N ⟨dst, .call ⟨.builtin .len, #[x], #[t]⟩, ty, pos, aft, g⟩ s (.v (.int .i64 b.size)) := QS_lenStr hx
theorem qlr {x : Operand} {t : TypeId} {i : Nat} {e : TypeId} {k n : Nat} {cs : List Value} [ht : SliT P t] (hx : s.env.op x = some (.r i)) (ho : s.own[i]? = some (.row e k n cs) := by rfl) : QS P w M0 N ⟨dst, .call ⟨.builtin .len, #[x], #[t]⟩, ty, pos, aft, g⟩ s (.v (.int .i64 n)) := QS_lenRow hx ho
theorem qpt {c x y : Operand} {sv : SV} {b : Bool} (hc : s.env.op c = some (.v (.bool b))) (hb : b = true := by first | rfl | assumption) (hx : s.env.op x = some sv := by rfl) : QS P w M0 N ⟨dst, .pick c x y, ty, pos, aft, g⟩ s sv := QS_pick_t hc hb hx
theorem qpf {c x y : Operand} {sv : SV} {b : Bool} (hc : s.env.op c = some (.v (.bool b))) (hb : b = false := by first | rfl | assumption) (hy : s.env.op y = some sv := by rfl) : QS P w M0 N ⟨dst, .pick c x y, ty, pos, aft, g⟩ s sv := QS_pick_f hc hb hy
theorem qcp {op : BinOp} {t t2 : TypeId} {x y : Operand} {u v r : Value} (hx : s.env.op x = some (.v u)) (hy : s.env.op y = some (.v v) := by rfl) (hr : cmpV op u v = some r := by rfl) : QS P w M0 N ⟨dst, .binOp op t x y t2, ty, pos, aft, g⟩ s (.v r) := QS_bin hx hy (cmp_ok hr)
theorem qbe {t t2 : TypeId} {x y : Operand} {a b : Bool} [h : BolT P t] (hx : s.env.op x = some (.v (.bool a))) (hy : s.env.op y = some (.v (.bool b)) := by rfl) : QS P w M0 N ⟨dst, .binOp .eql t x y t2, ty, pos, aft, g⟩ s (.v (.bool (a == b))) := QS_bin hx hy B_beql
theorem qbn {t t2 : TypeId} {x y : Operand} {a b : Bool} [h : BolT P t] (hx : s.env.op x = some (.v (.bool a))) (hy : s.env.op y = some (.v (.bool b)) := by rfl) : QS P w M0 N ⟨dst, .binOp .neq t x y t2, ty, pos, aft, g⟩ s (.v (.bool (!(a == b)))) := QS_bin hx hy B_bneq
theorem qsn {t t2 : TypeId} {x : Operand} {A : Option Addr} {n c : Nat} [h : SliT P t] (hx : s.env.op x = some (.v (.slice A n c))) : QS P w M0 N ⟨dst, .binOp .eql t x (.const (.slice none 0 0)) t2, ty, pos, aft, g⟩ s (.v (.bool A.isNone)) := QS_bin hx rfl B_slnil
theorem qad {t t2 : TypeId} {x y : Operand} {a b : Int} (hx : s.env.op x = some (.v (.int .i64 a))) (hy : s.env.op y = some (.v (.int .i64 b)) := by rfl) (h0 : -9223372036854775808 ≤ a + b := by omega) (h1 : a + b ≤ 9223372036854775807 := by omega) : QS P w M0 N ⟨dst, .binOp .add t x y t2, ty, pos, aft, g⟩ s (.v (.int .i64 (a + b))) := QS_bin hx hy (B_add h0 h1)
theorem qsu {t t2 : TypeId} {x y : Operand} {a b : Int} (hx : s.env.op x = some (.v (.int .i64 a))) (hy : s.env.op y = some (.v (.int .i64 b)) := by rfl) (h0 : -9223372036854775808 ≤ a - b := by omega) (h1 : a - b ≤ 9223372036854775807 := by omega) : QS P w M0 N ⟨dst, .binOp .sub t x y t2, ty, pos, aft, g⟩ s (.v (.int .i64 (a - b))) := QS_bin hx hy (B_sub h0 h1)
theorem qsa {t t2 : TypeId} {x y : Operand} {a b : ByteArray} (hx : s.env.op x = some (.v (.string a))) (hy : s.env.op y = some (.v (.string b)) := by rfl) (h : (a ++ b).size ≤ maxLen := by assumption) : QS P w M0 N ⟨dst, .binOp .add t x y t2, ty, pos, aft, g⟩ s (.v (.string (a ++ b))) := QS_bin hx hy (B_sadd h)
variable {ops : Array Oper} {l : List Oper} {Q : Post} {M : Mem} {own : List Ob} {env : Env}
theorem kbox {t : TypeId} {x : Operand} {u : Value} (h : VL P w M0 N ops l ⟨M, own ++ [.blk t u.cells.toList], env.put dst (.p own.length 0)⟩ Q) (hx : env.op x = some (.v u) := by rfl) (hk : dstOk N dst = true := by rfl) (hold : envB env own.length = true := by rfl) : VL P w M0 N ops (⟨dst, .box t x, ty, pos, aft, none⟩ :: l) ⟨M, own, env⟩ Q := VL_box hx hk hold h
theorem kall {t : TypeId} {z : Value} [hz : ZerT P t z] (h : VL P w M0 N ops l ⟨M, own ++ [.blk t z.cells.toList], env.put dst (.p own.length 0)⟩ Q) (hk : dstOk N dst = true := by rfl) (hold : envB env own.length = true := by rfl) : VL P w M0 N ops (⟨dst, .alloc t, ty, pos, aft, none⟩ :: l) ⟨M, own, env⟩ Q := VL_alloc hk hold h
theorem kst {t t' : TypeId} {x y : Operand} {i off : Nat} {cs : List Value} {u : Value} [ht : SizT P t 1] (h : VL P w M0 N ops l ⟨M, own.set i (.blk t' (cs.set off u)), env.put dst (.v undef)⟩ Q) (hx : env.op x = some (.p i off) := by rfl) (hy : env.op y = some (.v u) := by rfl) (hi : own[i]? = some (.blk t' cs) := by rfl) (hoff : Nat.blt off cs.length = true := by rfl) (hu : u.oneCell' = true := by rfl) (hk : dstOk N dst = true := by rfl) :
    VL P w M0 N ops (⟨dst, .store t x y, ty, pos, aft, none⟩ :: l) ⟨M, own, env⟩ Q := VL_store1 hx hy hi hoff hu hk h
theorem ksN {t t' : TypeId} {x y : Operand} {i n : Nat} {cs : List Value} {us : Array Value} [ht : SizT P t n] (h : VL P w M0 N ops l ⟨M, own.set i (.blk t' us.toList), env.put dst (.v undef)⟩ Q) (hx : env.op x = some (.p i 0) := by rfl) (hy : env.op y = some (.v (.agg us)) := by rfl) (hi : own[i]? = some (.blk t' cs) := by rfl) (hn : cs.length = us.toList.length := by rfl) (hu : us.toList.all (·.oneCell') = true := by rfl) (hsz : us.toList.length = n := by rfl) (hk : dstOk N dst = true := by rfl) :
    VL P w M0 N ops (⟨dst, .store t x y, ty, pos, aft, none⟩ :: l) ⟨M, own, env⟩ Q := VL_storeN hx hy hi hn hu n hsz hk h
theorem klt {t e : TypeId} {len : Nat} {parts : Array (Nat × Operand)} {bytes : Nat} {vs : List Value} [hE : EloT P t e 1 bytes] (h : VL P w M0 N ops l ⟨M, own ++ [.row e 1 len vs], env.put dst (.r own.length)⟩ Q) (hpv : env.vals (parts.toList.map (·.2)) = some vs := by rfl) (hix : parts.toList.map (·.1) = List.range' 0 vs.length := by rfl) (hlen : vs.length = len := by rfl) (hmax : Nat.ble len 1000000 = true := by rfl) (h1 : (vs.all (·.oneCell')) = true := by rfl) (hk : dstOk N dst = true := by rfl) (hold : envB env own.length = true := by rfl) :
    VL P w M0 N ops (⟨dst, .buildSlice t len parts, ty, pos, aft, none⟩ :: l) ⟨M, own, env⟩ Q := VL_lits hpv hix hlen hmax h1 hk hold h
theorem kl1 {t e : TypeId} {x : Operand} {u : Value} {bytes k : Nat} [hE : EloT P t e k bytes] (h : VL P w M0 N ops l ⟨M, own ++ [.row e k 1 u.cells.toList], env.put dst (.r own.length)⟩ Q) (hx : env.op x = some (.v u) := by rfl) (hu : u.cells.size = k := by rfl) (hmax : Nat.ble k 1000000 = true := by rfl) (hk : dstOk N dst = true := by rfl) (hold : envB env own.length = true := by rfl) :
    VL P w M0 N ops (⟨dst, .buildSlice t 1 #[(0, x)], ty, pos, aft, none⟩ :: l) ⟨M, own, env⟩ Q := VL_lit1 hx hu hmax hk hold h
theorem klK {t e : TypeId} {len k bytes : Nat} {parts : Array (Nat × Operand)} {vs : List Value} [hE : EloT P t e k bytes] (h : VL P w M0 N ops l ⟨M, own ++ [.row e k len (vs.flatMap fun v => v.cells.toList)], env.put dst (.r own.length)⟩ Q) (hpv : env.vals (parts.toList.map (·.2)) = some vs := by rfl) (hix : parts.toList.map (·.1) = List.range' 0 vs.length := by rfl) (hlen : vs.length = len := by rfl) (hmax : Nat.ble (len * k) 1000000 = true := by rfl) (h1 : (vs.all fun v => v.cells.size == k) = true := by rfl) (hk : dstOk N dst = true := by rfl) (hold : envB env own.length = true := by rfl) :
    VL P w M0 N ops (⟨dst, .buildSlice t len parts, ty, pos, aft, none⟩ :: l) ⟨M, own, env⟩ Q := VL_litsK hpv hix hlen hmax h1 hk hold h
theorem kap {x y : Operand} {t e e2 : TypeId} {i j k n m bytes : Nat} {xs news : List Value} [hE : EloT P t e k bytes] (h : VL P w M0 N ops l ⟨M, own.set i .gone ++ [.row e k (n + m) (xs ++ news)], env.put dst (.r own.length)⟩ Q) (hx : env.op x = some (.r i) := by rfl) (hy : env.op y = some (.r j) := by rfl) (hi : own[i]? = some (.row e k n xs) := by rfl)
    (hj : own[j]? = some (.row e2 k m news) := by rfl) (h0 : 0 < m := by omega) (h1 : (news.all (·.oneCell')) = true := by rfl) (h63 : n + m ≤ maxLen := by unfold maxLen; omega) (hbytes : (n + m) * bytes ≤ 140737488355328 := by omega) (hk : dstOk N dst = true := by rfl) (hold : envB env own.length = true := by rfl) :
    VL P w M0 N ops (⟨dst, .call ⟨.builtin .append, #[x, y], #[t, t]⟩, ty, pos, aft, none⟩ :: l) ⟨M, own, env⟩ Q := VL_append hx hy hi hj h0 h1 h63 hbytes hk hold h
theorem kyes {op : Go.Op} {j : Nat} {want : Bool} {oj : Oper} {d : Tmp} {b : Bool} (h : VL P w M0 N ops (⟨dst, op, ty, pos, aft, none⟩ :: l) ⟨M, own, env⟩ Q) (hj : ops[j]? = some oj := by rfl) (hd' : oj.dst = some d := by rfl) (hb : env.get d = some (.v (.bool b)) := by rfl) (hw : b = want := by first | rfl | assumption) : VL P w M0 N ops (⟨dst, op, ty, pos, aft, some (j, want)⟩ :: l) ⟨M, own, env⟩ Q := VL_yes oj d b hj hd' hb hw h
theorem kno {op : Go.Op} {j : Nat} {want : Bool} {oj : Oper} {d : Tmp} {b : Bool} (h : VL P w M0 N ops l ⟨M, own, env.put dst (.v undef)⟩ Q) (hj : ops[j]? = some oj := by rfl) (hd' : oj.dst = some d := by rfl) (hb : env.get d = some (.v (.bool b)) := by rfl) (hw : b = !want := by first | rfl | assumption) (hk : dstOk N dst = true := by rfl) : VL P w M0 N ops (⟨dst, op, ty, pos, aft, some (j, want)⟩ :: l) ⟨M, own, env⟩ Q := VL_no oj d b hj hd' hb hw hk h
theorem knoU {op : Go.Op} {j : Nat} {want : Bool} {oj : Oper} {d : Tmp} (h : VL P w M0 N ops l ⟨M, own, env.put dst (.v undef)⟩ Q) (hj : ops[j]? = some oj := by rfl) (hd' : oj.dst = some d := by rfl) (hb : env.get d = some (.v undef) := by rfl) (hk : dstOk N dst = true := by rfl) : VL P w M0 N ops (⟨dst, op, ty, pos, aft, some (j, want)⟩ :: l) ⟨M, own, env⟩ Q := VL_noU oj d hj hd' hb hk h
theorem kdec {op : Go.Op} {j : Nat} {want : Bool} {oj : Oper} {d : Tmp} {b : Bool} (ht : b = true → VL P w M0 N ops (⟨dst, op, ty, pos, aft, some (j, want)⟩ :: l) ⟨M, own, env⟩ Q) (hf : b = false → VL P w M0 N ops (⟨dst, op, ty, pos, aft, some (j, want)⟩ :: l) ⟨M, own, env⟩ Q) (hj : ops[j]? = some oj := by rfl) (hd' : oj.dst = some d := by rfl) (hb : env.get d = some (.v (.bool b)) := by rfl) :
    VL P w M0 N ops (⟨dst, op, ty, pos, aft, some (j, want)⟩ :: l) ⟨M, own, env⟩ Q := VL_dec oj d b hj hd' hb ht hf
theorem dT {id : Nat} [hm : Mix P] (h : VG P w M0 N l.toArray (l.take (idxEff l)) s (fun s' => envB s'.env s'.own.length = true ∧ VL P w M0 N l.toArray (l.drop (idxEff l)) s' Q)) (hB : Region.lexTailB .any l.toArray (idxEff l) = true := by decide +kernel) : VC P w M0 N (.region id l.toArray true) s Q := VC_drawT hB h
theorem d1 {id : Nat} {d : Tmp} {t : TypeId} {z : Value} {ty : TypeId} {pos : String} {aft : Array Edge} [hm : Mix P] [hz : ZerT P t z] (h : VG P w M0 N l.toArray (l.take (idxEff l)) s (fun s' => envB s'.env s'.own.length = true ∧ VL P w M0 N l.toArray (l.drop (idxEff l + 1)) ⟨s'.M, s'.own ++ [.blk t z.cells.toList], s'.env.put (some d) (.p s'.own.length 0)⟩ Q)) (hop : l[idxEff l]? = some ⟨some d, .alloc t, ty, pos, aft, none⟩ := by rfl) (hB : Region.lexTailB .any l.toArray (idxEff l + 1) = true := by decide +kernel)
    (hap : (l.take (idxEff l)).all (fun o => !(o.looksAt l.toArray).contains d && o.dst != some d) = true := by rfl) (hd : Nat.blt d N = true := by rfl) : VC P w M0 N (.region id l.toArray true) s Q := VC_draw1 hop hB hap hd h
theorem dQ {id : Nat} [hm : Mix P] (h : VG P w M0 N l.toArray l s (fun s' => Q .normal s')) (hn : Nat.beq (idxEff l) l.length = true := by rfl) (hB : Region.lexB .any l.toArray = true := by decide +kernel) : VC P w M0 N (.region id l.toArray true) s Q := VC_drawQ hn hB h
theorem ctr {c : Operand} {x y : Code} {b : Bool} (h : VC P w M0 N x s Q) (hc : s.env.op c = some (.v (.bool b)) := by rfl) (hb : b = true := by first | rfl | assumption) : VC P w M0 N (.cond c x y) s Q := VC_true hc hb h
theorem cfa {c : Operand} {x y : Code} {b : Bool} (h : VC P w M0 N y s Q) (hc : s.env.op c = some (.v (.bool b)) := by rfl) (hb : b = false := by first | rfl | assumption) : VC P w M0 N (.cond c x y) s Q := VC_false hc hb h
theorem cco {c : Operand} {x y : Code} {b : Bool} (ht : b = true → VC P w M0 N x s Q) (hf : b = false → VC P w M0 N y s Q) (hc : s.env.op c = some (.v (.bool b)) := by rfl) : VC P w M0 N (.cond c x y) s Q := VC_cond b hc ht hf
theorem VS_q2 {o : Oper} {K : Env → Prop} {sv : SV} (hq : QS P w M0 N o ⟨M, own, env⟩ sv) (hk : (isSt o.op || !dstOk N o.dst) = false) (h : VS P w M0 N l ⟨M, own, env.put o.dst sv⟩ K) : VS P w M0 N (o :: l) ⟨M, own, env⟩ K := by
  simp only [Bool.or_eq_false_iff, Bool.not_eq_false'] at hk
  exact VS_q sv hq hk.1 hk.2 h
theorem sst {o : Oper} {K : Env → Prop} (h : VS P w M0 N l s K) (hs : isSt o.op = true := by rfl) : VS P w M0 N (o :: l) s K := VS_st hs h
theorem eeq {gs : List Nat} {o : Oper} {R : St → Prop} (h : VE P w M0 N gs l s R) (hs : isSt o.op = false := by rfl) : VE P w M0 N gs (o :: l) s R := VE_q hs h
theorem ees {gs : List Nat} {o : Oper} {R : St → Prop} {own' : List Ob} (h : VE P w M0 N gs l ⟨M, own', env⟩ R) (he : ES P w M0 N o ⟨M, own, env⟩ own') (hs : isSt o.op = true := by rfl) (hg : goneAt gs own' = goneAt gs own := by rfl) : VE P w M0 N gs (o :: l) ⟨M, own, env⟩ R := VE_st own' hs he hg h
end
section
variable {P : Program} {w : World} {M0 : Mem} {N : Nat} {dst : Option Tmp} {ty : TypeId} {pos : String} {aft : Array Edge} {ops : Array Oper} {l : List Oper} {Q : St → Prop} {M : Mem} {own : List Ob} {env : Env}
theorem gyes {op : Go.Op} {j : Nat} {want : Bool} {oj : Oper} {d : Tmp} {b : Bool} (h : VG P w M0 N ops (⟨dst, op, ty, pos, aft, none⟩ :: l) ⟨M, own, env⟩ Q) (hj : ops[j]? = some oj := by rfl) (hd' : oj.dst = some d := by rfl) (hb : env.get d = some (.v (.bool b)) := by rfl) (hw : b = want := by first | rfl | assumption) : VG P w M0 N ops (⟨dst, op, ty, pos, aft, some (j, want)⟩ :: l) ⟨M, own, env⟩ Q := VG_yes oj d b hj hd' hb hw h
theorem gno {op : Go.Op} {j : Nat} {want : Bool} {oj : Oper} {d : Tmp} {b : Bool} (h : VG P w M0 N ops l ⟨M, own, env.put dst (.v undef)⟩ Q) (hj : ops[j]? = some oj := by rfl) (hd' : oj.dst = some d := by rfl) (hb : env.get d = some (.v (.bool b)) := by rfl) (hw : b = !want := by first | rfl | assumption) (hk : dstOk N dst = true := by rfl) : VG P w M0 N ops (⟨dst, op, ty, pos, aft, some (j, want)⟩ :: l) ⟨M, own, env⟩ Q := VG_no oj d b hj hd' hb hw hk h
theorem gnoU {op : Go.Op} {j : Nat} {want : Bool} {oj : Oper} {d : Tmp} (h : VG P w M0 N ops l ⟨M, own, env.put dst (.v undef)⟩ Q) (hj : ops[j]? = some oj := by rfl) (hd' : oj.dst = some d := by rfl) (hb : env.get d = some (.v undef) := by rfl) (hk : dstOk N dst = true := by rfl) : VG P w M0 N ops (⟨dst, op, ty, pos, aft, some (j, want)⟩ :: l) ⟨M, own, env⟩ Q := VG_noU oj d hj hd' hb hk h
theorem gdec {op : Go.Op} {j : Nat} {want : Bool} {oj : Oper} {d : Tmp} {b : Bool} (ht : b = true → VG P w M0 N ops (⟨dst, op, ty, pos, aft, some (j, want)⟩ :: l) ⟨M, own, env⟩ Q) (hf : b = false → VG P w M0 N ops (⟨dst, op, ty, pos, aft, some (j, want)⟩ :: l) ⟨M, own, env⟩ Q) (hj : ops[j]? = some oj := by rfl) (hd' : oj.dst = some d := by rfl) (hb : env.get d = some (.v (.bool b)) := by rfl) :
    VG P w M0 N ops (⟨dst, op, ty, pos, aft, some (j, want)⟩ :: l) ⟨M, own, env⟩ Q := VG_dec oj d b hj hd' hb ht hf
end
section
variable {P : Program} {w : World} {M0 : Mem} {N : Nat} {ops : Array Oper} {o : Oper} {s : St} {sv : SV} {own' : List Ob}
theorem wno (hq : QS P w M0 N o s sv) (hg : o.guard = none := by rfl) : QW P w M0 N ops o s sv := QW_no hg hq
theorem wyes {j : Nat} {want : Bool} {oj : Oper} {d : Tmp} {b : Bool} (hq : QS P w M0 N o s sv) (hg : o.guard = some (j, want) := by rfl) (hj : ops[j]? = some oj := by rfl) (hd' : oj.dst = some d := by rfl) (hb : s.env.get d = some (.v (.bool b)) := by rfl) (hw : b = want := by first | rfl | assumption) : QW P w M0 N ops o s sv := QW_yes oj d b hg hj hd' hb hw hq
theorem wnot {j : Nat} {want : Bool} {oj : Oper} {d : Tmp} {b : Bool} (hg : o.guard = some (j, want)) (hj : ops[j]? = some oj := by rfl) (hd' : oj.dst = some d := by rfl) (hb : s.env.get d = some (.v (.bool b)) := by rfl) (hw : b = !want := by first | rfl | assumption) : QW P w M0 N ops o s (.v undef) := QW_not oj d b hg hj hd' hb hw
theorem wU {j : Nat} {want : Bool} {oj : Oper} {d : Tmp} (hg : o.guard = some (j, want)) (hj : ops[j]? = some oj := by rfl) (hd' : oj.dst = some d := by rfl) (hb : s.env.get d = some (.v undef) := by rfl) : QW P w M0 N ops o s (.v undef) := QW_U oj d hg hj hd' hb
theorem fno (hq : EF P w M0 N o s own' sv) (hg : o.guard = none := by rfl) : EW P w M0 N ops o s own' sv := EW_no hg hq
theorem fyes {j : Nat} {want : Bool} {oj : Oper} {d : Tmp} {b : Bool} (hq : EF P w M0 N o s own' sv) (hg : o.guard = some (j, want) := by rfl) (hj : ops[j]? = some oj := by rfl) (hd' : oj.dst = some d := by rfl) (hb : s.env.get d = some (.v (.bool b)) := by rfl) (hw : b = want := by first | rfl | assumption) : EW P w M0 N ops o s own' sv := EW_yes oj d b hg hj hd' hb hw hq
theorem fnot {j : Nat} {want : Bool} {oj : Oper} {d : Tmp} {b : Bool} (hg : o.guard = some (j, want)) (hj : ops[j]? = some oj := by rfl) (hd' : oj.dst = some d := by rfl) (hb : s.env.get d = some (.v (.bool b)) := by rfl) (hw : b = !want := by first | rfl | assumption) : EW P w M0 N ops o s s.own (.v undef) := EW_not oj d b hg hj hd' hb hw
theorem fU {j : Nat} {want : Bool} {oj : Oper} {d : Tmp} (hg : o.guard = some (j, want)) (hj : ops[j]? = some oj := by rfl) (hd' : oj.dst = some d := by rfl) (hb : s.env.get d = some (.v undef) := by rfl) : EW P w M0 N ops o s s.own (.v undef) := EW_U oj d hg hj hd' hb
end
section
variable {P : Program} {w : World} {M0 : Mem} {N : Nat} {dst : Option Tmp} {ty : TypeId} {pos : String} {aft : Array Edge} {g : Option (Nat × Bool)} {M : Mem} {own : List Ob} {env : Env}
theorem elt {t e : TypeId} {len : Nat} {parts : Array (Nat × Operand)} {bytes : Nat} {vs : List Value} [hE : EloT P t e 1 bytes] (hpv : env.vals (parts.toList.map (·.2)) = some vs) (hix : parts.toList.map (·.1) = List.range' 0 vs.length := by rfl) (hlen : vs.length = len := by rfl) (hmax : Nat.ble len 1000000 = true := by rfl) (h1 : (vs.all (·.oneCell')) = true := by rfl) :
    EF P w M0 N ⟨dst, .buildSlice t len parts, ty, pos, aft, g⟩ ⟨M, own, env⟩ (own ++ [.row e 1 len vs]) (.r own.length) := EF_lits hpv hix hlen hmax h1
theorem el1 {t e : TypeId} {x : Operand} {u : Value} {bytes k : Nat} [hE : EloT P t e k bytes] (hx : env.op x = some (.v u)) (hu : u.cells.size = k := by rfl) (hmax : Nat.ble k 1000000 = true := by rfl) :
    EF P w M0 N ⟨dst, .buildSlice t 1 #[(0, x)], ty, pos, aft, g⟩ ⟨M, own, env⟩ (own ++ [.row e k 1 u.cells.toList]) (.r own.length) := EF_lit1 hx hu hmax
theorem elK {t e : TypeId} {len k bytes : Nat} {parts : Array (Nat × Operand)} {vs : List Value} [hE : EloT P t e k bytes] (hpv : env.vals (parts.toList.map (·.2)) = some vs) (hix : parts.toList.map (·.1) = List.range' 0 vs.length := by rfl) (hlen : vs.length = len := by rfl) (hmax : Nat.ble (len * k) 1000000 = true := by rfl) (h1 : (vs.all fun v => v.cells.size == k) = true := by rfl) :
    EF P w M0 N ⟨dst, .buildSlice t len parts, ty, pos, aft, g⟩ ⟨M, own, env⟩ (own ++ [.row e k len (vs.flatMap fun v => v.cells.toList)]) (.r own.length) := EF_litsK hpv hix hlen hmax h1
theorem eap {x y : Operand} {t e e2 : TypeId} {i j k n m bytes : Nat} {xs news : List Value} [hE : EloT P t e k bytes] (hx : env.op x = some (.r i)) (hy : env.op y = some (.r j) := by rfl) (hi : own[i]? = some (.row e k n xs) := by rfl)
    (hj : own[j]? = some (.row e2 k m news) := by rfl) (h0 : 0 < m := by omega) (h1 : (news.all (·.oneCell')) = true := by rfl) (h63 : n + m ≤ maxLen := by unfold maxLen; omega) (hbytes : (n + m) * bytes ≤ 140737488355328 := by omega) :
    EF P w M0 N ⟨dst, .call ⟨.builtin .append, #[x, y], #[t, t]⟩, ty, pos, aft, g⟩ ⟨M, own, env⟩ (own.set i .gone ++ [.row e k (n + m) (xs ++ news)]) (.r own.length) := EF_append hx hy hi hj h0 h1 h63 hbytes
theorem es1 {t t' : TypeId} {x y : Operand} {i off : Nat} {cs : List Value} {u : Value} [ht : SizT P t 1] (hx : env.op x = some (.p i off)) (hy : env.op y = some (.v u) := by rfl) (hi : own[i]? = some (.blk t' cs) := by rfl)
    (hoff : Nat.blt off cs.length = true := by rfl) (hu : u.oneCell' = true := by rfl) : ES P w M0 N ⟨dst, .store t x y, ty, pos, aft, g⟩ ⟨M, own, env⟩ (own.set i (.blk t' (cs.set off u))) := ES_store1 hx hy hi hoff hu
theorem esN {t t' : TypeId} {x y : Operand} {i n : Nat} {cs : List Value} {us : Array Value} [ht : SizT P t n] (hx : env.op x = some (.p i 0)) (hy : env.op y = some (.v (.agg us)) := by rfl) (hi : own[i]? = some (.blk t' cs) := by rfl)
    (hn : cs.length = us.toList.length := by rfl) (hu : us.toList.all (·.oneCell') = true := by rfl) (hsz : us.toList.length = n := by rfl) : ES P w M0 N ⟨dst, .store t x y, ty, pos, aft, g⟩ ⟨M, own, env⟩ (own.set i (.blk t' us.toList)) := ES_storeN hx hy hi hn hu n hsz
theorem fst1 {t t' : TypeId} {x y : Operand} {i off : Nat} {cs : List Value} {u : Value} [ht : SizT P t 1] (hx : env.op x = some (.p i off)) (hy : env.op y = some (.v u) := by rfl) (hi : own[i]? = some (.blk t' cs) := by rfl)
    (hoff : Nat.blt off cs.length = true := by rfl) (hu : u.oneCell' = true := by rfl) (hl : (own.set i (.blk t' (cs.set off u))).length = own.length := by rfl) : EF P w M0 N ⟨dst, .store t x y, ty, pos, aft, g⟩ ⟨M, own, env⟩ (own.set i (.blk t' (cs.set off u))) (.v undef) := EF_st (ES_store1 hx hy hi hoff hu) hl
theorem fstN {t t' : TypeId} {x y : Operand} {i n : Nat} {cs : List Value} {us : Array Value} [ht : SizT P t n] (hx : env.op x = some (.p i 0)) (hy : env.op y = some (.v (.agg us)) := by rfl) (hi : own[i]? = some (.blk t' cs) := by rfl)
    (hn : cs.length = us.toList.length := by rfl) (hu : us.toList.all (·.oneCell') = true := by rfl) (hsz : us.toList.length = n := by rfl) (hl : (own.set i (.blk t' us.toList)).length = own.length := by rfl) : EF P w M0 N ⟨dst, .store t x y, ty, pos, aft, g⟩ ⟨M, own, env⟩ (own.set i (.blk t' us.toList)) (.v undef) := EF_st (ES_storeN hx hy hi hn hu n hsz) hl
theorem fq {o : Oper} {sv : SV} (hq : QS P w M0 N o ⟨M, own, env⟩ sv) (hok : sv.okB own.length = true := by rfl) : EF P w M0 N o ⟨M, own, env⟩ own sv := EF_q hq hok
end
end Go.Proofs.Ytclbmfepdlffnaa
namespace Go.Proofs.Ytclbmfepdlffnaa
open Go Go.RowKit
set_option linter.unusedVariables false
set_option maxRecDepth 20000
set_option linter.unusedSimpArgs false
section
variable {P : Program} {w : World} {M0 : Mem} {N : Nat} {dst : Option Tmp} {ty : TypeId} {pos : String} {aft : Array Edge} {g : Option (Nat × Bool)} {M : Mem} {own : List Ob} {env : Env} {hd : Nat → Value} {W W' : World}
/-- What an own row's value looks like. -/
def NSh (v : Value) (n : Nat) : Prop := (v = .slice none 0 0 ∧ n = 0) ∨ ∃ b cap, v = .slice (some ⟨b, 0, none⟩) n cap ∧ n ≤ cap ∧ cap ≤ maxLen
/-- An object is told otherwise; the world is as it was. -/
theorem Wd.recast (h : Wd w M0 hd M own W) {i : Nat} {o o' : Ob} (hi : own[i]? = some o) (hne : o ≠ Ob.gone) (hok : ObOk w.heap.size W (hd i) o') : Wd w M0 hd M (own.set i o') W := by
  have hil : i < own.length := (List.getElem?_eq_some_iff.1 hi).1
  have any : ∀ j oj, (own.set i o')[j]? = some oj → oj ≠ Ob.gone → ∃ ok, own[j]? = some ok ∧ ok ≠ Ob.gone := fun j oj hj hjn => by
    by_cases hji : j = i
    · subst hji; exact ⟨o, hi, hne⟩
    · rw [List.getElem?_set_ne (Ne.symm hji)] at hj
      exact ⟨oj, hj, hjn⟩
  refine ⟨h.below, h.mem, h.old, h.grew, fun j oj hj => ?_, fun j oj b hj hjn hb => ?_, fun j k oj ok b hj hk hjn hkn hbj hbk => ?_⟩
  · by_cases hji : j = i
    · subst hji
      rw [List.getElem?_set_self hil] at hj
      rw [← Option.some.inj hj]; exact hok
    · rw [List.getElem?_set_ne (Ne.symm hji)] at hj
      exact h.own j oj hj
  · obtain ⟨ok, h1, h2⟩ := any j oj hj hjn
    exact h.sep j ok b h1 h2 hb
  · obtain ⟨o1, h1, h2⟩ := any j oj hj hjn
    obtain ⟨o2, h3, h4⟩ := any k ok hk hkn
    exact h.dis j k o1 o2 b h1 h3 h2 h4 hbj hbk
theorem row_shape {base : Nat} {v : Value} {e : TypeId} {k n : Nat} {cs : List Value} (h : W.ownsRow base e k v n cs) : NSh v n := by
  obtain ⟨_, h | ⟨g, cap, cur, h1, _, _, h2, h3, _⟩⟩ := h
  · exact .inl h
  · exact .inr ⟨g, cap, h1, h2, h3⟩
theorem VL_nameR {ops : Array Oper} {l : List Oper} {Q : Post} {e : TypeId} {k n : Nat} {cs : List Value} (i : Nat) (hi : own[i]? = some (.row e k n cs))
    (h : ∀ v, NSh v n → VL P w M0 N ops l ⟨M, own.set i (.nrow v e k n cs), frzE i v env⟩ Q) : VL P w M0 N ops l ⟨M, own, env⟩ Q := .mk fun hd a W hR => by
  have hO := hR.1.own i _ hi
  exact (h (hd i) (row_shape hO)).go hd a W ⟨hR.1.recast hi (by simp) ⟨rfl, hO⟩, frz_fr hR.2⟩
theorem Fr.cons {a : Act} (h : Fr N hd env a) {t : Nat} {v : Value} {i : Nat} (ht : env.get t = some (.v v)) (hv : hd i = v) : Fr N hd ((t, .r i) :: env) a := ⟨fun q sv hq => by
  simp only [Env.get] at hq
  split at hq
  · rename_i hb
    obtain rfl := Nat.eq_of_beq_eq_true hb
    cases hq
    have := h.env _ _ ht
    rw [this]
    simp only [SV.den, hv]
  · exact h.env q sv hq, h.size, h.defers⟩
/-- A named row is an own row under a slot's name again. -/
theorem VL_unname {ops : Array Oper} {l : List Oper} {Q : Post} {u : Value} {e : TypeId} {k n : Nat} {cs : List Value} (i t : Nat) (hi : own[i]? = some (.nrow u e k n cs)) (ht : env.get t = some (.v u))
    (h : VL P w M0 N ops l ⟨M, own.set i (.row e k n cs), (t, .r i) :: env⟩ Q) : VL P w M0 N ops l ⟨M, own, env⟩ Q := .mk fun hd a W hR => by
  have hO := hR.1.own i _ hi
  exact h.go hd a W ⟨hR.1.recast hi (by simp) hO.2, hR.2.cons ht hO.1⟩
/-- The block of a named object. -/
def Ob.nfoot : Ob → Option Nat
  | .nblk u _ _ => foot u
  | .nrow u _ _ _ _ => foot u
  | _ => none
theorem nfoot_eq {base : Nat} {v : Value} {o : Ob} {b : Nat} (h : ObOk base W v o) (hf : o.nfoot = some b) : foot v = some b := by
  cases o with
  | blk t cs => cases hf
  | row e k n cs => cases hf
  | gone => cases hf
  | nblk u t cs => rw [h.1]; exact hf
  | nrow u e k n cs => rw [h.1]; exact hf
  | omap es => cases hf
/-- Loads out of a named object. -/
theorem QS_nload1 {s : St} {t : TypeId} {x : Operand} {b off : Nat} {o : Ob} {u : Value} (i : Nat) (hx : s.env.op x = some (.v (.pointer (some ⟨b, off, none⟩)))) (ho : s.own[i]? = some o) (hf : o.nfoot = some b) (hu : o.cells[off]? = some u) [ht : OneT P t] : QS P w M0 N ⟨dst, .load t x, ty, pos, aft, g⟩ s (.v u) := QS_run fun hd a W hR => by
  have h1 := hR.2.eval hx
  have h2 := ob_cell (hR.1.own i o ho) hu
  rw [nfoot_eq (hR.1.own i o ho) hf] at h2
  simp only [SV.den] at h1
  simp only [Option.getD_some] at h2
  simp [execOp, h1, Instr.loadAt, Instr.sureAddr, loadVar, run_isAgg_one ht.h, h2, SV.den]
end
end Go.Proofs.Ytclbmfepdlffnaa
