/- The logic's rules for loops, slices, texts and results in memory. No program in sight. -/
import Derived.Test.YtipbbbamjckjoaaVD
import Derived.Test.YtipbbbamjckjoaaEql
import Derived.Test.YtipbbbamjckjoaaSpanM
namespace Go.Proofs.Ytipbbbamjckjoaa
open Go Go.RowKit
set_option linter.unusedVariables false
set_option maxRecDepth 20000
set_option linter.unusedSimpArgs false
section
variable {P : Program} {w : World} {M0 : Mem} {N : Nat} {dst : Option Tmp} {ty : TypeId} {pos : String} {aft : Array Edge} {g : Option (Nat × Bool)} {s : St}

/-! ### Less is known -/
def SV.ren (ρ : List Nat) : SV → SV
  | .v x => .v x
  | .p i off => .p (ρ.getD i 0) off
  | .r i => .r (ρ.getD i 0)
def EnvSub (ρ : List Nat) : Env → Env → Prop
  | [], _ => True
  | (t, sv) :: l, e => e.get t = some (sv.ren ρ) ∧ EnvSub ρ l e
theorem EnvSub.get {ρ : List Nat} : ∀ {e' e : Env}, EnvSub ρ e' e → ∀ t sv, e'.get t = some sv → e.get t = some (sv.ren ρ)
  | [], _, _, _, _, h => by cases h
  | (k, u) :: l, e, ⟨h1, h2⟩, t, sv, h => by
    unfold Env.get at h
    split at h
    · rename_i hb
      obtain rfl := Nat.eq_of_beq_eq_true hb
      cases h; exact h1
    · exact EnvSub.get h2 t sv h
def OwnSub : List Ob → List Nat → List Ob → Prop
  | [], [], _ => True
  | o :: l, j :: ρ, ow => ow[j]? = some o ∧ OwnSub l ρ ow
  | _, _, _ => False
theorem OwnSub.get : ∀ {l : List Ob} {ρ : List Nat} {ow : List Ob}, OwnSub l ρ ow → ∀ i o, l[i]? = some o → i < ρ.length ∧ ow[ρ.getD i 0]? = some o
  | [], [], _, _, i, o, h => by simp at h
  | [], _ :: _, _, h, _, _, _ => h.elim
  | _ :: _, [], _, h, _, _, _ => h.elim
  | o :: l, j :: ρ, ow, ⟨h1, h2⟩, 0, o', h => by
    simp at h; subst h
    exact ⟨by simp, by simpa using h1⟩
  | o :: l, j :: ρ, ow, ⟨h1, h2⟩, i + 1, o', h => by
    have := OwnSub.get h2 i o' (by simpa using h)
    exact ⟨by simp; omega, by simpa using this.2⟩
def nodupB : List Nat → Bool
  | [] => true
  | x :: l => match l.all (fun y => !Nat.beq x y) with | true => nodupB l | false => false
theorem nodupB_inj : ∀ {l : List Nat}, nodupB l = true → ∀ i j, i < l.length → j < l.length → l.getD i 0 = l.getD j 0 → i = j
  | [], _, i, j, hi, _, _ => by simp at hi
  | x :: l, h, i, j, hi, hj, he => by
    unfold nodupB at h
    split at h
    · rename_i ha
      have hx : ∀ k, k < l.length → x ≠ l.getD k 0 := fun k hk e => by
        have h1 := List.all_eq_true.1 ha (l.getD k 0) (by simp [List.getD, hk])
        rw [← e] at h1
        have : Nat.beq x x = true := Nat.beq_refl x
        rw [this] at h1; cases h1
      cases i with
      | zero =>
        cases j with
        | zero => rfl
        | succ j => exact absurd (by simpa using he) (hx j (by simpa using hj))
      | succ i =>
        cases j with
        | zero => exact absurd (by simpa using he.symm) (hx i (by simpa using hi))
        | succ j => rw [nodupB_inj h i j (by simpa using hi) (by simpa using hj) (by simpa using he)]
    · cases h
/-- What is known in s' is known in s; own object i of s' is own object ρ i of s. -/
structure Sub (ρ : List Nat) (s s' : St) : Prop where
  mem : s'.M = s.M
  nd : nodupB ρ = true
  own : OwnSub s'.own ρ s.own
  env : EnvSub ρ s'.env s.env
theorem den_ren (hd : Nat → Value) (ρ : List Nat) (sv : SV) : (sv.ren ρ).den hd = sv.den (fun i => hd (ρ.getD i 0)) := by cases sv <;> rfl
theorem Sub.rel {ρ : List Nat} {s s' : St} (h : Sub ρ s s') {hd : Nat → Value} {a : Act} {W : World} (hR : Rel w M0 N hd s a W) : Rel w M0 N (fun i => hd (ρ.getD i 0)) s' a W := by
  refine ⟨⟨hR.1.below, by rw [h.mem]; exact hR.1.mem, by rw [h.mem]; exact hR.1.old, by rw [h.mem]; exact hR.1.grew, fun i o hi => hR.1.own _ o (h.own.get i o hi).2, fun i o b hi hne hb => by rw [h.mem]; exact hR.1.sep _ o b (h.own.get i o hi).2 hne hb,
    fun i j oi oj b hi hj hin hjn hbi hbj => nodupB_inj h.nd i j (h.own.get i oi hi).1 (h.own.get j oj hj).1 (hR.1.dis _ _ oi oj b (h.own.get i oi hi).2 (h.own.get j oj hj).2 hin hjn hbi hbj)⟩, fun t sv ht => ?_, hR.2.size, hR.2.defers⟩
  rw [hR.2.env t _ (h.env.get t sv ht), den_ren]
theorem VC_sub {c : Code} {s : St} {Q : Post} (ρ : List Nat) (s' : St) (h : Sub ρ s s') (hv : VC P w M0 N c s' Q) : VC P w M0 N c s Q := .mk fun hd a W hR => hv.go _ a W (h.rel hR)
def forQ {α : Type} (S : α → St) (I : α → Prop) (μ : α → Nat) (n : Nat) (Q : Post) : Post
  | .normal, s => ∃ ρ x, Sub ρ s (S x) ∧ I x ∧ μ x < n
  | e, s => Q e s
theorem forQ_next {α : Type} {S : α → St} {I : α → Prop} {μ : α → Nat} {n : Nat} {Q : Post} {s : St} (ρ : List Nat) (x : α) (hs : Sub ρ s (S x)) (hI : I x) (hm : μ x < n) : forQ S I μ n Q .normal s := ⟨ρ, x, hs, hI, hm⟩
theorem dlt {a b : Nat} (h : a < b) : decide ((a : Int) < (b : Int)) = true := decide_eq_true (by omega)
theorem dge {a b : Nat} (h : b ≤ a) : decide ((a : Int) < (b : Int)) = false := decide_eq_false (by omega)
/-- A loop: its state is S of some plain data, of which I holds at every round's head; μ goes down. -/
theorem VC_for {α : Type} {c : Code} {s : St} {Q : Post} (S : α → St) (I : α → Prop) (μ : α → Nat) (ρ : List Nat) (x : α) (hs : Sub ρ s (S x)) (h0 : I x) (h : ∀ x, I x → VC P w M0 N c (S x) (forQ S I μ (μ x) Q)) : VC P w M0 N (.loop c) s Q :=
  VC_sub ρ (S x) hs (.mk fun hd a W hR => (VC_loop (s := S x) (fun n s => ∃ x, s = S x ∧ I x ∧ μ x = n) (μ x) ⟨x, rfl, h0, rfl⟩ (by
    rintro n _ ⟨y, rfl, hy, rfl⟩
    refine .mk fun hd a W hR => wp_mono ((h y hy).go hd a W hR) fun e a' W' ⟨hd2, s2, hR2, hq⟩ => ?_
    cases e with
    | normal =>
      obtain ⟨_, z, hz1, hz2, hz3⟩ := hq
      exact ⟨_, S z, hz1.rel hR2, μ z, hz3, z, rfl, hz2, rfl⟩
    | exit id => exact ⟨hd2, s2, hR2, hq⟩
    | goto l => exact ⟨hd2, s2, hR2, hq⟩
    | ret => exact ⟨hd2, s2, hR2, hq⟩
    | panic c => exact ⟨hd2, s2, hR2, hq⟩
    | outgrown => exact ⟨hd2, s2, hR2, hq⟩)).go hd a W hR)

/-! ### len, index, fields in memory -/
def sliceB (P : Program) (t e : TypeId) : Bool := match P.underlying t with | some (.slice e') => Nat.beq e' e | _ => false
def isSliceB (P : Program) (t : TypeId) : Bool := match P.underlying t with | some (.slice _) => true | _ => false
def isStrB (P : Program) (t : TypeId) : Bool := match P.underlying t with | some .string => true | _ => false
class SliT (P : Program) (t : TypeId) : Prop where
  h : isSliceB P t = true
class StrT (P : Program) (t : TypeId) : Prop where
  h : isStrB P t = true
theorem isStrB_u {t : TypeId} (h : isStrB P t = true) : P.underlying t = some .string := by unfold isStrB at h; split at h <;> first | assumption | cases h
theorem isSliceB_u {t : TypeId} (h : isSliceB P t = true) : P.underlying t = some (.slice (P.elem t)) := by
  unfold isSliceB at h
  split at h
  · rename_i e he
    simp [Program.elem, he]
  · cases h
theorem exec_len {a : Act} {W : World} {x : Operand} {t : TypeId} {u : Value} {n : Int} (hx : a.eval x = u) (hr : (Builtin.len_ #[t] ty #[u]).run P W = .ok (goInt n) W) :
    (execOp a.eval ⟨dst, .call ⟨.builtin .len, #[x], #[t]⟩, ty, pos, aft, g⟩).run P W = .ok (.value (.int .i64 n)) W := by
  simp only [execOp, resolve, invoke, builtin, List.map_toArray, List.map_cons, List.map_nil, hx, Sem.run_bind, Sem.run_pure, Result.andThen_ok, hr]
  rfl
theorem QS_len {x : Operand} {t : TypeId} {A : Option Addr} {n c : Nat} (hx : s.env.op x = some (.v (.slice A n c))) [ht : SliT P t] : QS P w M0 N ⟨dst, .call ⟨.builtin .len, #[x], #[t]⟩, ty, pos, aft, g⟩ s (.v (.int .i64 n)) := QS_run fun hd a W hR =>
  exec_len (hR.2.eval hx) (run_len_slice W t ty A n c (isSliceB_u ht.h))
theorem QS_lenStr {x : Operand} {t : TypeId} {b : ByteArray} (hx : s.env.op x = some (.v (.string b))) [ht : StrT P t] : QS P w M0 N ⟨dst, .call ⟨.builtin .len, #[x], #[t]⟩, ty, pos, aft, g⟩ s (.v (.int .i64 b.size)) := QS_run fun hd a W hR =>
  exec_len (hR.2.eval hx) (run_len_string W t ty b (isStrB_u ht.h))
theorem QS_lenRow {x : Operand} {t : TypeId} {i : Nat} {e : TypeId} {k n : Nat} {cs : List Value} (hx : s.env.op x = some (.r i)) (ho : s.own[i]? = some (.row e k n cs)) [ht : SliT P t] : QS P w M0 N ⟨dst, .call ⟨.builtin .len, #[x], #[t]⟩, ty, pos, aft, g⟩ s (.v (.int .i64 n)) := QS_run fun hd a W hR => by
  have h1 := hR.2.eval hx
  simp only [SV.den] at h1
  obtain ⟨_, ⟨h2, h3⟩ | ⟨b, cap, cur, h2, _⟩⟩ := hR.1.own i _ ho
  · rw [h2] at h1
    subst h3
    exact exec_len h1 (run_len_slice W t ty none 0 0 (isSliceB_u ht.h))
  · rw [h2] at h1
    exact exec_len h1 (run_len_slice W t ty _ n cap (isSliceB_u ht.h))
def elemB (P : Program) (t : TypeId) (k : Nat) : Bool := match P.underlying t with | some (.slice e) => sizeB P e k | _ => false
class ElmT (P : Program) (t : TypeId) (k : outParam Nat) : Prop where
  h : elemB P t k = true
/-- The address of an element. -/
theorem QS_indexAddr {x y : Operand} {t : TypeId} {b off len c : Nat} {kd : IntKind} {i : Int} {k : Nat} (n : Nat) (hx : s.env.op x = some (.v (.slice (some ⟨b, off, none⟩) len c))) (hy : s.env.op y = some (.v (.int kd i))) (hi : i = (n : Int)) (hn : n < len) [hte : ElmT P t k] :
    QS P w M0 N ⟨dst, .indexAddr t x y, ty, pos, aft, g⟩ s (.v (.pointer (some ⟨b, off + n * k, none⟩))) := QS_run fun hd a W hR => by
  have h1 := hR.2.eval hx
  have h2 := hR.2.eval hy
  simp only [SV.den] at h1 h2
  have ht := hte.h
  unfold elemB at ht
  split at ht
  · rename_i e hu
    have hu' : P.underlying t = some (.slice (P.elem t)) := by simp [Program.elem, hu]
    have he : P.elem t = e := by simp [Program.elem, hu]
    simp only [execOp, h1, h2, Sem.run_bind, run_indexAt_slice W t _ len c kd i hu']
    rw [if_pos (by omega), he, run_sizeOf_of ht, hi]
    simp only [Result.andThen_ok, Int.toNat_natCast, Addr.add_lit, SV.den]
    rfl
  · cases ht
/-- The address of an element of an own slice. -/
theorem QS_indexRow {x y : Operand} {t : TypeId} {i : Nat} {e : TypeId} {k len : Nat} {cs : List Value} {kd : IntKind} {j : Int} (n : Nat) (hx : s.env.op x = some (.r i)) (ho : s.own[i]? = some (.row e k len cs)) (hy : s.env.op y = some (.v (.int kd j))) (hi : j = (n : Int)) (hn : n < len) [hte : ElmT P t k] :
    QS P w M0 N ⟨dst, .indexAddr t x y, ty, pos, aft, g⟩ s (.p i (n * k)) := QS_run fun hd a W hR => by
  have h1 := hR.2.eval hx
  have h2 := hR.2.eval hy
  simp only [SV.den] at h1 h2
  obtain ⟨_, ⟨h3, h4⟩ | ⟨b, cap, cur, h3, _⟩⟩ := hR.1.own i _ ho
  · omega
  rw [h3] at h1
  have ht := hte.h
  unfold elemB at ht
  split at ht
  · rename_i e hu
    have hu' : P.underlying t = some (.slice (P.elem t)) := by simp [Program.elem, hu]
    have he : P.elem t = e := by simp [Program.elem, hu]
    simp only [execOp, h1, h2, Sem.run_bind, run_indexAt_slice W t _ len cap kd j hu']
    rw [if_pos (by omega), he, run_sizeOf_of ht, hi]
    simp only [Result.andThen_ok, Int.toNat_natCast, Addr.add_lit, SV.den, h3, foot]
    simp
  · cases ht

/-! ### Slices of the call's own -/
/-- An empty slice that will be appended to. -/
theorem VL_nilrow {ops : Array Oper} {o : Oper} {l : List Oper} {Q : Post} {x : Operand} {M : Mem} {own : List Ob} {env : Env} (e : TypeId) (k : Nat) (ho : o.op = .assign x ∨ o.op = .move x) (hg : o.guard = none) (hx : env.op x = some (.v (.slice none 0 0))) (hk : dstOk N o.dst = true) (hold : envB env own.length = true)
    (h : VL P w M0 N ops l ⟨M, own ++ [.row e k 0 []], env.put o.dst (.r own.length)⟩ Q) : VL P w M0 N ops (o :: l) ⟨M, own, env⟩ Q := .mk fun hd a W hR => by
  refine wpList_plain hg fun K hK => ?_
  have h1 := hR.2.eval hx
  simp only [SV.den] at h1
  have hrun : (execOp a.eval o).run P W = .ok (.value (.slice none 0 0)) W := by
    obtain ⟨od, oo, oty, opos, oaft, og⟩ := o
    rcases ho with ho | ho <;> simp only at ho <;> subst ho <;> simp [execOp, h1]
  unfold Oper.wp
  rw [hrun]
  simp only [Oper.upon]
  have hadd := hR.1.add (o' := .row e k 0 []) (v' := .slice none 0 0) (World.ownsRow_nil W _ e k) (fun b hb => by cases hb)
  have hfr : Fr N (setH hd own.length (.slice none 0 0)) env a := hR.2.upd fun t sv hs => by
    have h2 := envB_get hold t sv hs
    cases sv with
    | v x => rfl
    | p i off =>
      have h3 : i < own.length := by simpa [SV.okB, Nat.blt_eq] using h2
      simp only [SV.den]; rw [setH_ne _ _ (by omega)]
    | r i =>
      have h3 : i < own.length := by simpa [SV.okB, Nat.blt_eq] using h2
      simp only [SV.den]; rw [setH_ne _ _ (by omega)]
  have hput := hfr.put hk (.r own.length)
  have e1 : SV.den (setH hd own.length (.slice none 0 0)) (.r own.length) = .slice none 0 0 := by simp only [SV.den, setH_same]
  rw [e1] at hput
  exact hK _ _ (h.go _ _ _ ⟨hadd, hput⟩)
theorem env_new {hd : Nat → Value} {own : List Ob} {env : Env} {a : Act} (h : Fr N hd env a) (hold : envB env own.length = true) (v : Value) : Fr N (setH hd own.length v) env a := h.upd fun t sv hs => by
  have h2 := envB_get hold t sv hs
  cases sv with
  | v x => rfl
  | p i off =>
    have h3 : i < own.length := by simpa [SV.okB, Nat.blt_eq] using h2
    simp only [SV.den]; rw [setH_ne _ _ (by omega)]
  | r i =>
    have h3 : i < own.length := by simpa [SV.okB, Nat.blt_eq] using h2
    simp only [SV.den]; rw [setH_ne _ _ (by omega)]
/-- A new own object that an operation yields. -/
theorem VL_obj {ops : Array Oper} {o : Oper} {l : List Oper} {Q : Post} {M : Mem} {own : List Ob} {env : Env} (ob : Ob) (sv : SV) (hg : o.guard = none) (hk : dstOk N o.dst = true) (hold : envB env own.length = true)
    (hr : ∀ hd a W, Rel w M0 N hd ⟨M, own, env⟩ a W → ∃ v W', (execOp a.eval o).run P W = .ok (.value v) W' ∧ W.grownBy W' none ∧ ObOk w.heap.size W' v ob ∧ (∀ b, foot v = some b → W.heap.size ≤ b))
    (h : VL P w M0 N ops l ⟨M, own ++ [ob], env.put o.dst (.r own.length)⟩ Q) : VL P w M0 N ops (o :: l) ⟨M, own, env⟩ Q := .mk fun hd a W hR => by
  refine wpList_plain hg fun K hK => ?_
  obtain ⟨v, W', h1, h2, h3, h4⟩ := hr hd a W hR
  unfold Oper.wp
  rw [h1]
  simp only [Oper.upon]
  have hput := (env_new (own := own) hR.2 hold v).put hk (.r own.length)
  have e1 : SV.den (setH hd own.length v) (.r own.length) = v := by simp only [SV.den, setH_same]
  rw [e1] at hput
  exact hK _ _ (h.go _ _ _ ⟨hR.1.new h2 h3 h4, hput⟩)
/-- What is asked of an element's type. -/
structure ElemOk (P : Program) (t e : TypeId) (k bytes : Nat) : Prop where
  ht : P.underlying t = some (.slice e)
  hi : ∃ i z, P.info? e = some i ∧ i.zero = some z ∧ i.size = k ∧ i.bytes = bytes ∧ z.cells.size = k
  hk : 0 < k
def elemOkB (P : Program) (t e : TypeId) (k bytes : Nat) : Bool :=
  sliceB P t e && (match P.info? e with | some i => Nat.beq i.size k && Nat.beq i.bytes bytes && (match i.zero with | some z => Nat.beq z.cells.size k | none => false) | none => false) && Nat.blt 0 k
class EloT (P : Program) (t : TypeId) (e : outParam TypeId) (k bytes : outParam Nat) : Prop where
  h : elemOkB P t e k bytes = true
theorem ElemOk.mk' {t e : TypeId} {k bytes : Nat} (h : elemOkB P t e k bytes = true) : ElemOk P t e k bytes := by
  unfold elemOkB at h
  simp only [Bool.and_eq_true] at h
  obtain ⟨⟨h1, h2⟩, h3⟩ := h
  refine ⟨?_, ?_, by simpa [Nat.blt_eq] using h3⟩
  · unfold sliceB at h1
    split at h1
    · rename_i e' he
      rw [he, Nat.eq_of_beq_eq_true h1]
    · cases h1
  · split at h2
    · rename_i i hi
      simp only [Bool.and_eq_true] at h2
      obtain ⟨⟨h4, h5⟩, h6⟩ := h2
      split at h6
      · rename_i z hz
        exact ⟨i, z, hi, hz, Nat.eq_of_beq_eq_true h4, Nat.eq_of_beq_eq_true h5, Nat.eq_of_beq_eq_true h6⟩
      · cases h6
    · cases h2
/-- append, and where its row lies behind it. -/
theorem run_append_where {t ty e : TypeId} {k bytes base : Nat} (hE : ElemOk P t e k bytes) {W : World} {v : Value} {n : Nat} {xs : List Value} (hown : W.ownsRow base e k v n xs) {a : Addr} {m c : Nat} {news : List Value} (hl : news.length = m * k)
    (hnews : ∀ j u, news[j]? = some u → W.cell? (a.add j) = some u) (h1 : ∀ u ∈ news, u.oneCell' = true) (h0 : 0 < m) (h63 : n + m ≤ maxLen) (hbytes : (n + m) * bytes ≤ 140737488355328) (hbase : base ≤ W.heap.size) :
    ∃ v' W', (Builtin.append_ #[t, t] ty #[v, .slice (some a) m c]).run P W = .ok v' W' ∧ W'.ownsRow base e k v' (n + m) (xs ++ news) ∧ W.grownBy W' v.ownBlock ∧ (∀ b, foot v' = some b → foot v = some b ∨ W.heap.size ≤ b) := by
  obtain ⟨i, z, hi, hz, hs, hb, hzs⟩ := hE.hi
  rcases id hown.2 with ⟨hv, hn0⟩ | ⟨g, cap, cur, hv, hbg, hg, hnc, hcm, hcs, htake⟩
  · have hown' : W.ownsRow W.heap.size e k v n xs := ⟨hown.1, .inl ⟨hv, hn0⟩⟩
    obtain ⟨v', W', r1, r2, r3, _⟩ := run_append_own W W.heap.size t ty e i z k bytes hE.ht hi hz hs hb hzs hE.hk v n xs hown' a m c news hl hnews h1 h63 hbytes (Nat.le_refl _)
    refine ⟨v', W', r1, ⟨r2.1, ?_⟩, r3, fun b hb' => .inr ?_⟩
    · rcases r2.2 with h | ⟨g, cap, cur, h2, h3, h4⟩
      · exact .inl h
      · exact .inr ⟨g, cap, cur, h2, by omega, h4⟩
    · rcases r2.2 with ⟨h, _⟩ | ⟨g, cap, cur, h2, h3, h4⟩
      · rw [h] at hb'; cases hb'
      · rw [h2] at hb'
        obtain rfl : g = b := by simpa [foot] using hb'
        exact h3
  · obtain ⟨v', W', r1, r2, r3, _⟩ := run_append_own W base t ty e i z k bytes hE.ht hi hz hs hb hzs hE.hk v n xs hown a m c news hl hnews h1 h63 hbytes hbase
    refine ⟨v', W', r1, r2, r3, fun b hb' => ?_⟩
    subst hv
    by_cases hroom : n + m ≤ cap
    · obtain ⟨W2, q1, _⟩ := run_append_fits W base t ty e i k hE.ht hi hs g n cap xs hown a m c news hl hnews h1 hroom
      rw [q1] at r1
      injection r1 with r1 _
      subst r1
      exact .inl hb'
    · subst hs
      have holds : ∀ j u, xs[j]? = some u → W.cell? ((⟨g, 0, none⟩ : Addr).add j) = some u := hown.cells (g := g) rfl
      have hml : n + m ≤ 9223372036854775807 := by simp only [maxLen] at h63; omega
      have q1 := run_append_grow (P := P) W t ty e i z hE.ht hi hz ⟨g, 0, none⟩ n cap xs hown.1 holds a m c news hl hnews (by omega) (by omega) (growslice_fits (by omega) (by rw [hb]; exact hbytes))
      rw [q1] at r1
      injection r1 with r1 _
      subst r1
      refine .inr ?_
      obtain rfl : W.heap.size = b := by simpa [foot] using hb'
      exact Nat.le_refl _
theorem exec_append {a : Act} {W : World} {x y : Operand} {t : TypeId} {u v : Value} (hx : a.eval x = u) (hy : a.eval y = v) : (execOp a.eval ⟨dst, .call ⟨.builtin .append, #[x, y], #[t, t]⟩, ty, pos, aft, g⟩).run P W =
    ((Builtin.append_ #[t, t] ty #[u, v]).run P W).andThen fun r W' => .ok (.value r) W' := by
  simp only [execOp, resolve, invoke, builtin, List.map_toArray, List.map_cons, List.map_nil, hx, hy, Sem.run_bind, Sem.run_pure, Result.andThen_ok]
/-- append of an own row onto an own row. -/
theorem VL_append {ops : Array Oper} {x y : Operand} {t e e2 : TypeId} {l : List Oper} {Q : Post} {M : Mem} {own : List Ob} {env : Env} {i j k n m bytes : Nat} {xs news : List Value} (hx : env.op x = some (.r i)) (hy : env.op y = some (.r j)) (hi : own[i]? = some (.row e k n xs))
    (hj : own[j]? = some (.row e2 k m news)) [hE : EloT P t e k bytes] (h0 : 0 < m) (h1 : (news.all (·.oneCell')) = true) (h63 : n + m ≤ maxLen) (hbytes : (n + m) * bytes ≤ 140737488355328) (hk : dstOk N dst = true) (hold : envB env own.length = true)
    (h : VL P w M0 N ops l ⟨M, own.set i .gone ++ [.row e k (n + m) (xs ++ news)], env.put dst (.r own.length)⟩ Q) : VL P w M0 N ops (⟨dst, .call ⟨.builtin .append, #[x, y], #[t, t]⟩, ty, pos, aft, none⟩ :: l) ⟨M, own, env⟩ Q := .mk fun hd a W hR => by
  have hE' := ElemOk.mk' hE.h
  refine wpList_plain rfl fun K hK => ?_
  have hO := hR.1.own i _ hi
  have hN := hR.1.own j _ hj
  obtain ⟨hNl, hNv⟩ := id hN
  rcases hNv with ⟨_, h⟩ | ⟨g, cap, cur, hNv, hbg, hg, hnc, hcm, hcs, htake⟩
  · omega
  obtain ⟨v', W', r1, r2, r3, r4⟩ := run_append_where (P := P) (ty := ty) hE' hO (a := ⟨g, 0, none⟩) (m := m) (c := cap) hNl (fun q u hq => by
    have hh := ob_cell hN (off := q) (u := u) hq
    rw [hNv] at hh
    rw [Addr.add_lit, Nat.zero_add]; exact hh) (fun u hu => List.all_eq_true.1 h1 u hu) h0 h63 hbytes hR.1.below.size
  have hvx := hR.2.eval hx
  have hvy := hR.2.eval hy
  simp only [SV.den] at hvx hvy
  rw [hNv] at hvy
  unfold Oper.wp
  rw [exec_append hvx hvy, r1]
  simp only [Result.andThen_ok, Oper.upon]
  have hrow : ∀ b, (hd i).ownBlock = some b → foot (hd i) = some b := fun b hb => by
    unfold Value.ownBlock at hb
    unfold foot
    split at hb
    · rename_i a' _ _ he; rw [he]; simpa using hb
    · cases hb
  have hup := hR.1.upd (o' := .gone) hi (by simp) r3 hrow trivial
  have hadd := hup.add (o' := .row e k (n + m) (xs ++ news)) (v' := v') r2 (fun b hb => by
    rcases r4 b hb with h2 | h2
    · refine ⟨hR.1.sep i _ b hi (by simp) h2, fun q oq hq hqn hqf => ?_⟩
      by_cases hqi : q = i
      · subst hqi
        rw [List.getElem?_set_self (List.getElem?_eq_some_iff.1 hi).1] at hq
        exact hqn (Option.some.inj hq).symm
      · rw [List.getElem?_set_ne (Ne.symm hqi)] at hq
        exact hqi (hR.1.dis q i oq _ b hq hi hqn (by simp) hqf h2)
    · refine ⟨(hR.1.fresh h2).1, fun q oq hq hqn hqf => ?_⟩
      by_cases hqi : q = i
      · subst hqi
        rw [List.getElem?_set_self (List.getElem?_eq_some_iff.1 hi).1] at hq
        exact hqn (Option.some.inj hq).symm
      · rw [List.getElem?_set_ne (Ne.symm hqi)] at hq
        exact (hR.1.fresh h2).2 q oq hq hqn hqf)
  rw [List.length_set] at hadd
  have hput := (env_new (own := own) hR.2 hold v').put hk (.r own.length)
  have e1 : SV.den (setH hd own.length v') (.r own.length) = v' := by simp only [SV.den, setH_same]
  rw [e1] at hput
  exact hK _ _ (h.go _ _ _ ⟨hadd, hput⟩)
/-- A slice's literal. -/
theorem VL_lit {ops : Array Oper} {t e : TypeId} {l : List Oper} {Q : Post} {M : Mem} {own : List Ob} {env : Env} {len : Nat} {parts : Array (Nat × Operand)} {o : Oper} (ho : o.op = .buildSlice t len parts) (hg : o.guard = none) (k : Nat) (cells : List Value) (hlen : cells.length = len * k) (hmax : len ≤ maxLen)
    (hrun : ∀ hd a W, Fr N hd env a → (Instr.buildSlice t len (parts.map fun (i, x) => (i, a.eval x))).run P W = .ok (.slice (some ⟨W.heap.size, 0, none⟩) len len) (W.alloc (.cells cells.toArray e)))
    (hk : dstOk N o.dst = true) (hold : envB env own.length = true)
    (h : VL P w M0 N ops l ⟨M, own ++ [.row e k len cells], env.put o.dst (.r own.length)⟩ Q) : VL P w M0 N ops (o :: l) ⟨M, own, env⟩ Q :=
  VL_obj (.row e k len cells) (.r own.length) hg hk hold (fun hd a W hR => by
    refine ⟨_, _, ?_, World.grownBy_alloc W (.cells cells.toArray e) none, ⟨hlen, .inr ⟨W.heap.size, len, _, rfl, hR.1.below.size, heap_alloc_new W _, Nat.le_refl _, hmax, by simpa using hlen, by rw [List.take_of_length_le (by simp [hlen])]⟩⟩, fun b hb => ?_⟩
    · obtain ⟨od, oo, oty, opos, oaft, og⟩ := o
      simp only at ho
      subst ho
      simp only [execOp, Sem.run_bind, hrun hd a W hR.2, Result.andThen_ok, Sem.run_pure]
    · obtain rfl : W.heap.size = b := by simpa [foot] using hb
      exact Nat.le_refl _) h
theorem lit1_run {t e : TypeId} {env : Env} {x : Operand} {u : Value} {bytes k : Nat} (hx : env.op x = some (.v u)) [hE : EloT P t e k bytes] (hu : u.cells.size = k) (hmax : Nat.ble k 1000000 = true) (hd : Nat → Value) (a : Act) (W : World) (hF : Fr N hd env a) :
    (Instr.buildSlice t 1 ((#[(0, x)] : Array (Nat × Operand)).map fun (i, x) => (i, a.eval x))).run P W = .ok (.slice (some ⟨W.heap.size, 0, none⟩) 1 1) (W.alloc (.cells u.cells.toList.toArray e)) := by
    have hE' := ElemOk.mk' hE.h
    obtain ⟨i, z, hi, hz, hs, hb, hzs⟩ := hE'.hi
    have hev := hF.eval hx
    have hkk := hE'.hk
    have hkm : k ≤ 1000000 := Nat.le_of_ble_eq_true hmax
    simp only [SV.den] at hev
    have hne : ¬ 16777216 < k := by omega
    have hk0 : k ≠ 0 := by omega
    have hfill : ∀ cs : Array Value, cs.size = k → Instr.fill (fun q => some (q * k, k)) cs [(0, u)] = some u.cells := fun cs hcs => by
      unfold Instr.fill
      simp only [Nat.zero_mul, Nat.zero_add, hu, ne_eq, not_true_eq_false, false_or, hcs, Nat.lt_irrefl, gt_iff_lt, decide_false, Bool.or_self, Bool.false_eq_true, if_false, Instr.fill]
      congr 1
      have key : ∀ (q : Nat) (acc : Array Value), acc.size = k → q ≤ k → (∀ j, j < q → acc[j]? = u.cells[j]?) → List.foldl (fun (cs : Array Value) (x : Value × Nat) => cs.setIfInBounds x.2 x.1) acc ((u.cells.toList.drop q).zipIdx q) = u.cells := by
        intro q
        induction hq : k - q generalizing q with
        | zero =>
          intro acc ha hqk hj
          rw [List.drop_eq_nil_of_le (by simp [hu]; omega)]
          apply Array.ext_getElem?
          intro j
          by_cases hjk : j < k
          · exact hj j (by omega)
          · rw [Array.getElem?_eq_none (by simp; omega), Array.getElem?_eq_none (by omega)]
        | succ d ih =>
          intro acc ha hqk hj
          have hlt : q < u.cells.toList.length := by simp [hu]; omega
          rw [List.drop_eq_getElem_cons hlt, List.zipIdx_cons, List.foldl_cons]
          refine ih (q + 1) (by omega) _ (by simp [ha]) (by omega) (fun j hjq => ?_)
          by_cases hjq2 : j = q
          · subst hjq2
            have : j < acc.size := by omega
            simp [this]
          · rw [Array.getElem?_setIfInBounds_ne (fun e => hjq2 e.symm)]
            exact hj j (by omega)
      have := key 0 cs hcs (Nat.zero_le _) (fun j hj => by omega)
      rw [List.drop_zero] at this
      refine Eq.trans ?_ this
      rw [← Array.foldl_toList]
      simp
    simp only [Instr.buildSlice, Sem.run_bind, run_underlying hE'.ht, Result.andThen_ok, sizeOf, typeInfo, run_program, hi, hs, Nat.one_mul, Sem.run_pure]
    rw [if_neg (by omega)]
    simp only [hk0, if_false, Sem.run_bind, zeroValue, typeInfo, run_program, hi, Result.andThen_ok, hz, Sem.run_pure, List.map_toArray, List.map_cons, List.map_nil, hev]
    rw [hfill _ (by simp)]
    simp [newRow]
/-- One struct as a slice of one. -/
theorem VL_lit1 {ops : Array Oper} {t e : TypeId} {l : List Oper} {Q : Post} {M : Mem} {own : List Ob} {env : Env} {x : Operand} {u : Value} {bytes k : Nat} (hx : env.op x = some (.v u)) [hE : EloT P t e k bytes] (hu : u.cells.size = k) (hmax : Nat.ble k 1000000 = true) (hk : dstOk N dst = true) (hold : envB env own.length = true)
    (h : VL P w M0 N ops l ⟨M, own ++ [.row e k 1 u.cells.toList], env.put dst (.r own.length)⟩ Q) : VL P w M0 N ops (⟨dst, .buildSlice t 1 #[(0, x)], ty, pos, aft, none⟩ :: l) ⟨M, own, env⟩ Q :=
  VL_lit (t := t) (e := e) (o := ⟨dst, .buildSlice t 1 #[(0, x)], ty, pos, aft, none⟩) rfl rfl k u.cells.toList (by simp [hu]) (by decide) (lit1_run hx hu hmax) hk hold h
end
end Go.Proofs.Ytipbbbamjckjoaa
