/- The logic's rules for appends out of memory and onto slices without room, and for parts of slices. No program in sight. -/
import Derived.Test.YtipbbbamjckjoaaVF
import Derived.Deep.AppendSrc
namespace Go.Proofs.Ytipbbbamjckjoaa
open Go Go.RowKit
set_option linter.unusedVariables false
set_option maxRecDepth 20000
set_option linter.unusedSimpArgs false
section
variable {P : Program} {w : World} {M0 : Mem} {N : Nat} {dst : Option Tmp} {ty : TypeId} {pos : String} {aft : Array Edge} {g : Option (Nat × Bool)} {M : Mem} {own : List Ob} {env : Env}
/-- append onto a slice without room. -/
theorem run_append0 {t ty e : TypeId} {k bytes base : Nat} (hE : ElemOk P t e k bytes) {W : World} (A : Option Addr) {x : Value} {m : Nat} {news : List Value} (hs : Src P k t x m news W) (h0 : 0 < m) (h63 : m ≤ maxLen) (hbytes : m * bytes ≤ 140737488355328) (hbase : base ≤ W.heap.size) :
    ∃ v' W', (Builtin.append_ #[t, t] ty #[.slice A 0 0, x]).run P W = .ok v' W' ∧ W'.ownsRow base e k v' m news ∧ W.grownBy W' none ∧ (∀ b, foot v' = some b → W.heap.size ≤ b) := by
  obtain ⟨i, z, hi, hz, hsz, hb, hzs⟩ := hE.hi
  subst hsz
  have h63' : m ≤ 9223372036854775807 := by unfold maxLen at h63; omega
  have hold : (Builtin.firstCells i.size 0 (.slice A 0 0)).run P W.drew = .ok ([] : List Value).toArray W.drew := by
    cases A with
    | none => simp [Builtin.firstCells]
    | some a => exact run_firstCells_some W.drew i.size 0 a 0 0 [] (by simp) (fun j v hj => by simp at hj)
  have hr := run_append_grow_src (P := P) W t t ty e i z hE.ht hi hz A 0 0 [] hold x m news hs (by omega) (by omega) (growslice_fits (by omega) (by rw [hb]; simpa using hbytes))
  have hge := grownCap_ge W (0 + m) 0 e
  have hcm : grownCap W (0 + m) 0 e ≤ maxLen := grownCap_le_maxLen W (0 + m) 0 e (by omega)
  refine ⟨_, _, hr, ⟨hs.newsLen, .inr ⟨W.heap.size, _, _, by rw [Nat.zero_add], hbase, heap_alloc_new W.drew _, by rw [Nat.zero_add] at hge; exact hge, by rw [Nat.zero_add] at hcm; exact hcm, ?_, ?_⟩⟩, ⟨rfl, rfl, rfl, by simp, fun q hq _ => Below.heap_alloc W.drew _ q hq⟩, fun b hb' => ?_⟩
  · simp only [List.nil_append, Array.size_append, List.size_toArray, size_zeroCells, hzs, hs.newsLen, ← Nat.add_mul]
    congr 1
    simp only [Nat.zero_add] at hge ⊢
    omega
  · simp only [List.nil_append, Array.toList_append]
    rw [← hs.newsLen]
    exact List.take_left
  · obtain rfl : W.heap.size = b := by simpa [foot] using hb'
    exact Nat.le_refl _
theorem src_row {t e k bytes : Nat} {W : World} (hE : ElemOk P t e k bytes) {v : Value} {base : Nat} {e2 : TypeId} {m : Nat} {news : List Value} (h : W.ownsRow base e2 k v m news) (h0 : 0 < m) (h1 : news.all (·.oneCell') = true) : Src P k t v m news W := by
  obtain ⟨hl, ⟨_, h⟩ | ⟨g, cap, cur, rfl, _, h2, _, _, _, h6⟩⟩ := id h
  · omega
  · refine Src.ofSlice W hE.ht ⟨g, 0, none⟩ m cap news hl (fun q u hq => ?_) (fun u hu => List.all_eq_true.1 h1 u hu)
    rw [Addr.add_lit, Nat.zero_add, cell_of_row W g q _ e2 _ h2]
    rw [← h6, List.getElem?_take] at hq
    split at hq
    · simpa using hq
    · cases hq
theorem src_mem {t e k bytes : Nat} {W : World} (hE : ElemOk P t e k bytes) {b off m c : Nat} {news : List Value} (hl : news.length = m * k) (hM : M.le (Mem.of W)) (hc : ∀ q u, news[q]? = some u → M.cell b (off + q) = some u) (h1 : news.all (·.oneCell') = true) : Src P k t (.slice (some ⟨b, off, none⟩) m c) m news W :=
  Src.ofSlice W hE.ht ⟨b, off, none⟩ m c news hl (fun q u hq => by rw [Addr.add_lit, ← Mem.of_cell]; exact hM.cell (hc q u hq)) (fun u hu => List.all_eq_true.1 h1 u hu)
theorem exec_append' {a : Act} {W : World} {x y : Operand} {t : TypeId} {u v r : Value} {W' : World} (hx : a.eval x = u) (hy : a.eval y = v) (hr : (Builtin.append_ #[t, t] ty #[u, v]).run P W = .ok r W') : (execOp a.eval ⟨dst, .call ⟨.builtin .append, #[x, y], #[t, t]⟩, ty, pos, aft, g⟩).run P W = .ok (.value r) W' := by
  rw [exec_append hx hy, hr]; rfl
/-- An own row onto a slice without room. -/
theorem EF_append0 {x y : Operand} {t e e2 : TypeId} {A : Option Addr} {j k m bytes : Nat} {news : List Value} (hx : env.op x = some (.v (.slice A 0 0))) (hy : env.op y = some (.r j)) (hj : own[j]? = some (.row e2 k m news)) [hE : EloT P t e k bytes] (h0 : 0 < m) (h1 : (news.all (·.oneCell')) = true) (h63 : m ≤ maxLen) (hbytes : m * bytes ≤ 140737488355328) :
    EF P w M0 N ⟨dst, .call ⟨.builtin .append, #[x, y], #[t, t]⟩, ty, pos, aft, g⟩ ⟨M, own, env⟩ (own ++ [.row e k m news]) (.r own.length) :=
  EF_obj (.row e k m news) fun hd a W hR => by
    have hE' := ElemOk.mk' hE.h
    obtain ⟨v', W', r1, r2, r3, r4⟩ := run_append0 (P := P) (ty := ty) hE' A (src_row hE' (hR.1.own j _ hj) h0 h1) h0 h63 hbytes hR.1.below.size
    exact ⟨v', W', exec_append' (hR.2.eval hx) (hR.2.eval hy) r1, r3, r2, r4⟩
/-- A slice of memory onto a slice without room. -/
theorem EF_append0M {x y : Operand} {t e : TypeId} {A : Option Addr} {b off k m c bytes : Nat} (news : List Value) (hx : env.op x = some (.v (.slice A 0 0))) (hy : env.op y = some (.v (.slice (some ⟨b, off, none⟩) m c))) [hE : EloT P t e k bytes] (hl : news.length = m * k) (hc : ∀ q u, news[q]? = some u → M.cell b (off + q) = some u)
    (h0 : 0 < m) (h1 : (news.all (·.oneCell')) = true) (h63 : m ≤ maxLen) (hbytes : m * bytes ≤ 140737488355328) : EF P w M0 N ⟨dst, .call ⟨.builtin .append, #[x, y], #[t, t]⟩, ty, pos, aft, g⟩ ⟨M, own, env⟩ (own ++ [.row e k m news]) (.r own.length) :=
  EF_obj (.row e k m news) fun hd a W hR => by
    have hE' := ElemOk.mk' hE.h
    obtain ⟨v', W', r1, r2, r3, r4⟩ := run_append0 (P := P) (ty := ty) hE' A (src_mem hE' (c := c) hl hR.1.mem hc h1) h0 h63 hbytes hR.1.below.size
    exact ⟨v', W', exec_append' (hR.2.eval hx) (hR.2.eval hy) r1, r3, r2, r4⟩
/-- A slice of memory onto an own row. -/
theorem EF_appendM {x y : Operand} {t e : TypeId} {b off i k n m c bytes : Nat} {xs : List Value} (news : List Value) (hx : env.op x = some (.r i)) (hy : env.op y = some (.v (.slice (some ⟨b, off, none⟩) m c))) (hi : own[i]? = some (.row e k n xs)) [hE : EloT P t e k bytes] (hl : news.length = m * k)
    (hc : ∀ q u, news[q]? = some u → M.cell b (off + q) = some u) (h0 : 0 < m) (h1 : (news.all (·.oneCell')) = true) (h63 : n + m ≤ maxLen) (hbytes : (n + m) * bytes ≤ 140737488355328) :
    EF P w M0 N ⟨dst, .call ⟨.builtin .append, #[x, y], #[t, t]⟩, ty, pos, aft, g⟩ ⟨M, own, env⟩ (own.set i .gone ++ [.row e k (n + m) (xs ++ news)]) (.r own.length) := ⟨fun hd a W hR => by
  have hE' := ElemOk.mk' hE.h
  have hO := hR.1.own i _ hi
  obtain ⟨v', W', r1, r2, r3, r4⟩ := run_append_where (P := P) (ty := ty) hE' hO (a := ⟨b, off, none⟩) (m := m) (c := c) hl (fun q u hq => by rw [Addr.add_lit, ← Mem.of_cell]; exact hR.1.mem.cell (hc q u hq)) (fun u hu => List.all_eq_true.1 h1 u hu) h0 h63 hbytes hR.1.below.size
  have hvx := hR.2.eval hx
  have hvy := hR.2.eval hy
  simp only [SV.den] at hvx hvy
  rw [exec_append hvx hvy, r1]
  simp only [Result.andThen_ok, EffRun]
  have hrow : ∀ b, (hd i).ownBlock = some b → foot (hd i) = some b := fun b hb => by
    unfold Value.ownBlock at hb
    unfold foot
    split at hb
    · rename_i a' _ _ he; rw [he]; simpa using hb
    · cases hb
  have hup := hR.1.upd (o' := .gone) hi (by simp) r3 hrow trivial
  have hadd := hup.add (o' := .row e k (n + m) (xs ++ news)) (v' := v') r2 (fun b hb => by
    rcases r4 b hb with h2 | h2
    · refine ⟨hR.1.sep i _ b hi (by simp) h2, fun q oq hq hqn hqf => ?_⟩
      by_cases hqi : q = i
      · subst hqi
        rw [List.getElem?_set_self (List.getElem?_eq_some_iff.1 hi).1] at hq
        exact hqn (Option.some.inj hq).symm
      · rw [List.getElem?_set_ne (Ne.symm hqi)] at hq
        exact hqi (hR.1.dis q i oq _ b hq hi hqn (by simp) hqf h2)
    · refine ⟨(hR.1.fresh h2).1, fun q oq hq hqn hqf => ?_⟩
      by_cases hqi : q = i
      · subst hqi
        rw [List.getElem?_set_self (List.getElem?_eq_some_iff.1 hi).1] at hq
        exact hqn (Option.some.inj hq).symm
      · rw [List.getElem?_set_ne (Ne.symm hqi)] at hq
        exact (hR.1.fresh h2).2 q oq hq hqn hqf)
  rw [List.length_set] at hadd
  exact ⟨setH hd own.length v', fun q hq => setH_ne _ _ (by have : q < own.length := hq; omega), hadd, by simp only [SV.den, setH_same]⟩, by simp, by simp [SV.okB, Nat.blt_eq]⟩
/-- Nothing is appended. -/
theorem run_append_nil' {t ty e : TypeId} {k bytes : Nat} (hE : ElemOk P t e k bytes) {W : World} (A B : Option Addr) {n c c' : Nat} (hn : n ≤ c) : (Builtin.append_ #[t, t] ty #[.slice A n c, .slice B 0 c']).run P W = .ok (.slice A n c) W := by
  obtain ⟨i, z, hi, hz, hsz, hb, hzs⟩ := hE.hi
  cases A <;> cases B <;> simp [Builtin.append_, run_underlying hE.ht, sizeOf, typeInfo, hi, Builtin.lenOf, Builtin.firstCells, loadCells, loadCellsFrom, hn, storeCells]
theorem QS_append_nil {x y : Operand} {t e : TypeId} {A B : Option Addr} {k bytes n c c' : Nat} {s : St} (hx : s.env.op x = some (.v (.slice A n c))) (hy : s.env.op y = some (.v (.slice B 0 c'))) [hE : EloT P t e k bytes] (hn : n ≤ c) :
    QS P w M0 N ⟨dst, .call ⟨.builtin .append, #[x, y], #[t, t]⟩, ty, pos, aft, g⟩ s (.v (.slice A n c)) := QS_run fun hd a W hR =>
  exec_append' (hR.2.eval hx) (hR.2.eval hy) (run_append_nil' (ElemOk.mk' hE.h) A B hn)
theorem QS_append_nilR {x y : Operand} {t e e2 : TypeId} {B : Option Addr} {i k bytes n k2 c' : Nat} {cs : List Value} {s : St} (hx : s.env.op x = some (.r i)) (hi : s.own[i]? = some (.row e2 k2 n cs)) (hy : s.env.op y = some (.v (.slice B 0 c'))) [hE : EloT P t e k bytes] :
    QS P w M0 N ⟨dst, .call ⟨.builtin .append, #[x, y], #[t, t]⟩, ty, pos, aft, g⟩ s (.r i) := QS_run fun hd a W hR => by
  obtain ⟨_, ⟨h, h0⟩ | ⟨b, cap, cur, h, _, _, h3, _⟩⟩ := hR.1.own i _ hi
  · exact exec_append' (hR.2.eval hx) (hR.2.eval hy) (by simp only [SV.den]; rw [h]; exact run_append_nil' (ElemOk.mk' hE.h) none B (Nat.le_refl _))
  · exact exec_append' (hR.2.eval hx) (hR.2.eval hy) (by simp only [SV.den]; rw [h]; exact run_append_nil' (ElemOk.mk' hE.h) _ B h3)
/-- A slice's cells, one behind the other. -/
theorem SlM.flat {α : Type} {k : Nat} {cells : α → List Value} {A : Option Addr} {c : Nat} {l : List α} (hk : ∀ a ∈ l, (cells a).length = k) (h : SlM M k cells (.slice A l.length c) l) (hne : l ≠ []) :
    ∃ b off, A = some ⟨b, off, none⟩ ∧ (l.flatMap cells).length = l.length * k ∧ ∀ q u, (l.flatMap cells)[q]? = some u → M.cell b (off + q) = some u := by
  have hlen : ∀ m : List α, (∀ a ∈ m, (cells a).length = k) → (m.flatMap cells).length = m.length * k := fun m => by
    induction m with
    | nil => intro _; simp
    | cons a m ih =>
      intro hm
      rw [List.flatMap_cons, List.length_append, ih (fun x hx => hm x (by simp [hx])), hm a (by simp), List.length_cons, Nat.add_mul]
      omega
  obtain ⟨A', c', he, _, _, h4⟩ := h
  injection he with hA _ hc
  subst hA
  rcases h4 with h4 | ⟨b, off, rfl, _, h7⟩
  · exact absurd h4 hne
  · refine ⟨b, off, rfl, hlen l hk, fun q u hq => ?_⟩
    have hql : q < l.length * k := by
      have := (List.getElem?_eq_some_iff.1 hq).1
      rw [hlen l hk] at this; exact this
    have hk0 : 0 < k := Nat.pos_of_ne_zero fun h0 => by subst h0; simp at hql
    have hi : q / k < l.length := Nat.div_lt_of_lt_mul (by rw [Nat.mul_comm]; exact hql)
    have hj := Nat.mod_lt q hk0
    have hqe : q = q / k * k + q % k := by rw [Nat.mul_comm]; exact (Nat.div_add_mod q k).symm
    have h8 := flat_get (k := k) l (q / k) (q % k) hi hk hj
    rw [← hqe, hq] at h8
    have := h7 (q / k) hi (q % k) u h8.symm
    rw [hqe, ← Nat.add_assoc]; exact this
/-- A part of a slice of memory. -/
theorem SlM.part {α : Type} {k : Nat} {cells : α → List Value} {A : Option Addr} {c : Nat} {l : List α} (h : SlM M k cells (.slice A l.length c) l) {p q m : Nat} (hpq : p ≤ q) (hq : q ≤ l.length) (hm : q ≤ m) (hmc : m ≤ c) :
    SlM M k cells (sliced A p q m k) ((l.take q).drop p) := by
  obtain ⟨A', c', he, hc1, hc2, h4⟩ := h
  injection he with hA _ hc
  subst hA hc
  have hlen : ((l.take q).drop p).length = q - p := by rw [List.length_drop, List.length_take]; omega
  unfold sliced
  refine ⟨_, m - p, by rw [hlen], by omega, by omega, ?_⟩
  by_cases hpe : p = q
  · left; apply List.eq_nil_of_length_eq_zero; omega
  · rcases h4 with h4 | ⟨b, off, rfl, h6, h7⟩
    · subst h4; simp at hq; omega
    · right
      refine ⟨b, off + p * k, ?_, h6, fun i hi j x hx => ?_⟩
      · rw [if_neg (by omega)]; simp [Addr.add_lit]
      · rw [hlen] at hi
        have e : ((l.take q).drop p)[i] = l[p + i]'(by omega) := by simp
        rw [e] at hx
        have := h7 (p + i) (by omega) j x hx
        rw [show off + p * k + i * k + j = off + (p + i) * k + j by rw [Nat.add_mul]; omega]
        exact this
theorem QS_slice {x : Operand} {t : TypeId} {A : Option Addr} {n c : Nat} {lo hi mx : Option Operand} {s : St} (p q m : Nat) {k : Nat} (hx : s.env.op x = some (.v (.slice A n c))) [hte : ElmT P t k]
    (hlo : match lo with | none => p = 0 | some o => s.env.op o = some (.v (.int .i64 p))) (hhi : match hi with | none => q = n | some o => s.env.op o = some (.v (.int .i64 q))) (hmx : match hi, mx with | _, none => m = c | some _, some o => s.env.op o = some (.v (.int .i64 m)) | none, some _ => False)
    (h1 : p ≤ q) (h2 : q ≤ m) (h3 : m ≤ c) (h4 : n ≤ c) : QS P w M0 N ⟨dst, .slice t x lo hi mx, ty, pos, aft, g⟩ s (.v (sliced A p q m k)) := QS_run fun hd a W hR => by
  have hvx := hR.2.eval hx
  simp only [SV.den] at hvx
  have ht := hte.h
  unfold elemB at ht
  split at ht
  · rename_i e hu
    have hu' : P.underlying t = some (.slice (P.elem t)) := by simp [Program.elem, hu]
    have he : P.elem t = e := by simp [Program.elem, hu]
    have hsz := run_sizeOf_of (P := P) ht W
    rw [← he] at hsz
    have fin : ∀ (l' h' m' : Option Value), (Instr.slice t (.slice A n c) l' h' m').run P W = ((sizeOf (P.elem t)).run P W).andThen (fun s w => .ok (sliced A p q m s) w) → (Instr.sliceAt t (.slice A n c) l' h' m').run P W = .ok (sliced A p q m k) W := fun l' h' m' hh => by
      rw [run_sliceAt_slice W t _ l' h' m' hu', hh, hsz]; rfl
    have ev : ∀ {o : Operand} {z : Nat}, s.env.op o = some (.v (.int .i64 z)) → a.eval o = .int .i64 z := fun ho => hR.2.eval ho
    cases lo with
    | none =>
      simp only at hlo; subst hlo
      cases hi with
      | none =>
        simp only at hhi; subst hhi
        cases mx with
        | none =>
          simp only at hmx; subst hmx
          simp only [execOp, hvx, Option.map_none, Sem.run_bind, fin _ _ _ (run_slice_all W t A q m hu')]; rfl
        | some o =>
          exact hmx.elim
      | some o =>
        have hq := ev hhi
        cases mx with
        | none =>
          simp only at hmx; subst hmx
          have hh := fin none (some (.int .i64 q)) none (by rw [run_slice_h W t A n m hu' .i64 q (by omega) (by omega)]; simp)
          simp only [execOp, hvx, Option.map_none, Option.map_some, hq, Sem.run_bind, hh]; rfl
        | some o2 =>
          have hm := ev hmx
          have hh := fin none (some (.int .i64 q)) (some (.int .i64 m)) (by rw [run_slice_hm W t A n c hu' .i64 .i64 q m (by omega) (by omega) (by omega)]; simp)
          simp only [execOp, hvx, Option.map_none, Option.map_some, hq, hm, Sem.run_bind, hh]; rfl
    | some ol =>
      have hp := ev hlo
      cases hi with
      | none =>
        simp only at hhi; subst hhi
        cases mx with
        | none =>
          simp only at hmx; subst hmx
          have hh := fin (some (.int .i64 p)) none none (by rw [run_slice_l W t A q m hu' .i64 p (by omega) (by omega)]; simp)
          simp only [execOp, hvx, Option.map_none, Option.map_some, hp, Sem.run_bind, hh]; rfl
        | some o =>
          exact hmx.elim
      | some o =>
        have hq := ev hhi
        cases mx with
        | none =>
          simp only at hmx; subst hmx
          have hh := fin (some (.int .i64 p)) (some (.int .i64 q)) none (by rw [run_slice_lh W t A n m hu' .i64 .i64 p q (by omega) (by omega) (by omega)]; simp)
          simp only [execOp, hvx, Option.map_none, Option.map_some, hp, hq, Sem.run_bind, hh]; rfl
        | some o2 =>
          have hm := ev hmx
          have hh := fin (some (.int .i64 p)) (some (.int .i64 q)) (some (.int .i64 m)) (by rw [run_slice_lhm W t A n c hu' .i64 .i64 .i64 p q m (by omega) (by omega) (by omega) (by omega)]; simp)
          simp only [execOp, hvx, Option.map_none, Option.map_some, hp, hq, hm, Sem.run_bind, hh]; rfl
  · cases ht
end
end Go.Proofs.Ytipbbbamjckjoaa
