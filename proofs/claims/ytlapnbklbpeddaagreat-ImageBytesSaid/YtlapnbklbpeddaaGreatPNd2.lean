/- The walks of whether a node may be: the parts of it that lists are. -/
import Derived.Test.YtlapnbklbpeddaaGreatPNd
namespace Go.Proofs.YtlapnbklbpeddaaGreat
open Go Go.RowKit
set_option linter.unusedVariables false
set_option maxRecDepth 20000
set_option linter.unusedSimpArgs false
set_option maxHeartbeats 2000000
attribute [local irreducible] Calls
section
variable {α : Type}
theorem allG_step {l : List α} {k : Nat} (h : k < l.length) (p : α → Bool) : (l.take (k + 1)).all p = ((l.take k).all p && p l[k]) := by
  rw [List.take_succ_eq_append_getElem h, List.all_append]; simp
theorem allG_stop {l : List α} {k : Nat} (h : k < l.length) {p : α → Bool} (hp : p l[k] = false) : l.all p = false := by
  cases h2 : l.all p with
  | false => rfl
  | true => rw [List.all_eq_true.1 h2 l[k] (List.getElem_mem h)] at hp; cases hp
def idxG (p : α → Bool) (l : List α) : Int := match l.findIdx? p with | some i => i | none => -1
theorem idxG_at {p : α → Bool} {l : List α} {k : Nat} (h : k < l.length) (h1 : (l.take k).all (fun m => !p m) = true) (h2 : p l[k] = true) : idxG p l = k := by
  have : l.findIdx? p = some k := by
    rw [List.findIdx?_eq_some_iff_getElem]
    refine ⟨h, h2, fun j hj => ?_⟩
    have := List.all_eq_true.1 h1 l[j] (by
      rw [List.mem_take_iff_getElem]
      exact ⟨j, by omega, rfl⟩)
    simpa using this
  unfold idxG
  rw [this]
theorem idxG_no {p : α → Bool} {l : List α} (h1 : l.all (fun m => !p m) = true) : idxG p l = -1 := by
  have : l.findIdx? p = none := by
    rw [List.findIdx?_eq_none_iff]
    intro x hx
    have := List.all_eq_true.1 h1 x hx
    simpa using this
  unfold idxG
  rw [this]
theorem idxG_any (p : α → Bool) (l : List α) : decide (0 ≤ idxG p l) = l.any p := by
  cases h : l.any p with
  | false =>
    rw [idxG_no (by
      refine List.all_eq_true.2 fun x hx => ?_
      have := List.any_eq_false.1 h x hx
      simpa using this)]
    rfl
  | true =>
    unfold idxG
    cases hf : l.findIdx? p with
    | none =>
      rw [List.findIdx?_eq_none_iff] at hf
      obtain ⟨x, hx, hp⟩ := List.any_eq_true.1 h
      rw [hf x hx] at hp; cases hp
    | some i => simp
theorem anyG_not (l : List α) (p : α → Bool) : (!l.any fun m => !p m) = l.all p := by
  induction l with
  | nil => rfl
  | cons a l ih => simp only [List.any_cons, List.all_cons, ← ih, Bool.not_or, Bool.not_not]
end
theorem slices_IndexFuncP (f : FuncId) [hf : CalT Tryz.prog f] (caps : Array Value) (p : Pair → Bool) (v : Value) (l : List Pair) (w : World) (hl : Sl w 2 pairCells v l) (hn : l.length ≤ 1000000000)
    (hp : ∀ m ∈ l, ∀ W, (Mem.of w).le (Mem.of W) → Calls Tryz.prog f (#[.agg #[.string m.key, .string m.val]] ++ caps) W fun e w' => e = .returned (.bool (p m)) ∧ Below W.heap.size W w') :
    Calls Tryz.prog 101 #[v, .func (.func f) #[] caps] w fun e w' => e = .returned (.int .i64 (idxG p l)) ∧ Below w.heap.size w w' := by
  obtain ⟨A, c, rfl, hc1, hc2, _⟩ := id hl
  have hM := hl.toM
  unfold maxLen at hc2
  refine V_flat (args := [.slice A l.length c, .func (.func f) #[] caps]) (M := Mem.of w) Tryz.func101 rfl Tryz.ntmps101 (by rfl) (Mem.le_refl _) ?_
  repeat' (first | refine VC_seq ?_ | refine VC_region ?_ | refine VL_nil ?_ | refine VC_block ?_ | ((apply VL_q); (first | exact qmv (by rfl) | exact qas (by rfl) | exact qln (by rfl)); rfl))
  refine VC_for (fun k : Nat => ⟨Mem.of w, [], [(0, .v (.slice A l.length c)), (1, .v (.func (.func f) #[] caps)), (7, .v (.int .i64 l.length)), (8, .v (.int .i64 k))]⟩) (fun k => k ≤ l.length ∧ (l.take k).all (fun m => !p m) = true) (fun k => l.length - k) [] 0 ⟨rfl, rfl, trivial, ⟨rfl, rfl, rfl, rfl, trivial⟩⟩ ⟨by omega, rfl⟩ ?_
  rintro k ⟨hk, hr⟩
  rcases Nat.lt_or_ge k l.length with hlt | hge
  · have hd := dlt hlt
    obtain ⟨b, off, rfl, hcA⟩ := hM.get hlt
    have hpk := hp l[k] (List.getElem_mem hlt)
    cases hq : p l[k] with
    | true =>
      rw [hq] at hpk
      repeat' (first | refine VC_seq ?_ | refine VC_region ?_ | refine VL_nil ?_ | refine VC_ret ?_ | refine VC_block ?_ | refine VC_skip ?_ | ((apply VL_q); (first | exact QS_indexAddr (k) (by rfl) (by rfl) (by omega) (by omega) | exact QS_mloadN _ (by rfl) hcA _ (by rfl) | exact QS_callV (by rfl) (by rfl) (fun W hW => hpk W hW) | exact qmv (by rfl) | exact qas (by rfl) | exact qcp (by rfl)); rfl) | refine ctr ?_)
      show Res _ _ _ _
      refine Res.one (by rfl) (ResV_tmp (by rfl) ?_)
      refine congrArg (Value.int .i64) ?_
      exact (idxG_at hlt hr hq).symm
    | false =>
      rw [hq] at hpk
      repeat' (first | refine VC_seq ?_ | refine VC_region ?_ | refine VL_nil ?_ | refine VC_block ?_ | refine VC_skip ?_ | ((apply VL_q); (first | exact QS_indexAddr (k) (by rfl) (by rfl) (by omega) (by omega) | exact QS_mloadN _ (by rfl) hcA _ (by rfl) | exact QS_callV (by rfl) (by rfl) (fun W hW => hpk W hW) | exact qmv (by rfl) | exact qas (by rfl) | exact qcp (by rfl) | exact qad (by rfl)); rfl) | refine ctr ?_ | refine cfa ?_)
      refine forQ_next (Q := fun _ _ => True) [] (k + 1) ⟨rfl, rfl, trivial, ⟨rfl, rfl, rfl, rfl, trivial⟩⟩ ⟨by omega, ?_⟩ (by omega)
      rw [allG_step hlt (fun m => !p m), hr, hq]; rfl
  · have hd := dge hge
    obtain rfl : k = l.length := by omega
    rw [List.take_length] at hr
    repeat' (first | refine VC_seq ?_ | refine VC_region ?_ | refine VL_nil ?_ | refine VC_ret ?_ | refine VC_exit ?_ | ((apply VL_q); (first | exact qas (by rfl) | exact qcp (by rfl)); rfl) | refine cfa ?_)
    show Res _ _ _ _
    refine Res.one (by rfl) (ResV_tmp (by rfl) ?_)
    rw [idxG_no hr]
theorem slices_ContainsFuncP (f : FuncId) [hf : CalT Tryz.prog f] (caps : Array Value) (p : Pair → Bool) (v : Value) (l : List Pair) (w : World) (hl : Sl w 2 pairCells v l) (hn : l.length ≤ 1000000000)
    (hp : ∀ m ∈ l, ∀ W, (Mem.of w).le (Mem.of W) → Calls Tryz.prog f (#[.agg #[.string m.key, .string m.val]] ++ caps) W fun e w' => e = .returned (.bool (p m)) ∧ Below W.heap.size W w') :
    Calls Tryz.prog 75 #[v, .func (.func f) #[] caps] w fun e w' => e = .returned (.bool (l.any p)) ∧ Below w.heap.size w w' := by
  have hM := hl.toM
  have c1 : ∀ W, (Mem.of w).le (Mem.of W) → Calls Tryz.prog 101 #[v, .func (.func f) #[] caps] W fun e w' => e = .returned (.int .i64 (idxG p l)) ∧ Below W.heap.size W w' :=
    fun W hW => slices_IndexFuncP f caps p v l W (hM.toSl hW) hn (fun m hm W' hW' => hp m hm W' (hW.trans hW'))
  refine V_flat (args := [v, .func (.func f) #[] caps]) (M := Mem.of w) Tryz.func75 rfl Tryz.ntmps75 (by rfl) (Mem.le_refl _) ?_
  repeat' (first | refine VC_seq ?_ | refine VC_region ?_ | refine VL_nil ?_ | refine VC_ret ?_ | ((apply VL_q); (first | exact QS_call (by rfl) c1 | exact qmv (by rfl) | exact qas (by rfl) | exact qcp (by rfl)); rfl))
  show Res _ _ _ _
  refine Res.one (by rfl) (ResV_tmp (by rfl) ?_)
  rw [idxG_any]
def pkAt (l : List Pair) (i : Nat) : ByteArray := ((l[i]?).map Pair.key).getD em
theorem pkAt_eq {l : List Pair} {i : Nat} (h : i < l.length) : pkAt l i = l[i].key := by simp [pkAt, h]
def rowP (l : List Pair) (i : Nat) : Bool := match l[i]? with | some p => decide ((p.key.size : Int) ≤ 16) && decide ((p.val.size : Int) ≤ 16) && (decide (i = 0) || lt (pkAt l (i - 1)) (pkAt l i)) | none => true
/-- Is a list of pairs a map? -/
def rightP (l : List Pair) : Bool := allTo (rowP l) l.length
theorem rowP_zero {l : List Pair} (h : 0 < l.length) : rowP l 0 = (decide ((l[0].key.size : Int) ≤ 16) && decide ((l[0].val.size : Int) ≤ 16)) := by
  unfold rowP
  rw [List.getElem?_eq_getElem h]
  simp
theorem rowP_pos {l : List Pair} {i : Nat} (h : i < l.length) (h0 : 0 < i) : rowP l i = (decide ((l[i].key.size : Int) ≤ 16) && decide ((l[i].val.size : Int) ≤ 16) && lt (l[i - 1]'(by omega)).key l[i].key) := by
  unfold rowP
  rw [List.getElem?_eq_getElem h, pkAt_eq h, pkAt_eq (by omega : i - 1 < l.length)]
  have : decide (i = 0) = false := decide_eq_false (by omega)
  simp only [this, Bool.false_or]
theorem model_RightP (v : Value) (l : List Pair) (w : World) (hl : Sl w 2 pairCells v l) (hz : ∀ p ∈ l, p.key.size ≤ maxLen ∧ p.val.size ≤ maxLen) (hn : l.length ≤ 1000000000) :
    Calls Tryz.prog 74 #[v] w fun e w' => e = .returned (.bool (rightP l)) ∧ Below w.heap.size w w' := by
  obtain ⟨A, c, rfl, hc1, hc2, _⟩ := id hl
  have hM := hl.toM
  unfold maxLen at hc2
  refine V_flat (args := [.slice A l.length c]) (M := Mem.of w) Tryz.func74 rfl Tryz.ntmps74 (by rfl) (Mem.le_refl _) ?_
  repeat' (first | refine VC_seq ?_ | refine VC_region ?_ | refine VL_nil ?_ | refine VC_block ?_ | ((apply VL_q); (first | exact qmv (by rfl) | exact qas (by rfl) | exact qln (by rfl)); rfl))
  refine VC_for (fun k : Nat => ⟨Mem.of w, [], [(0, .v (.slice A l.length c)), (5, .v (.slice A l.length c)), (6, .v (.int .i64 l.length)), (7, .v (.int .i64 k))]⟩) (fun k => k ≤ l.length ∧ allTo (rowP l) k = true) (fun k => l.length - k) [] 0 ⟨rfl, rfl, trivial, ⟨rfl, rfl, rfl, rfl, trivial⟩⟩ ⟨by omega, rfl⟩ ?_
  rintro k ⟨hk, hr⟩
  rcases Nat.lt_or_ge k l.length with hlt | hge
  · have hd := dlt hlt
    obtain ⟨b, off, rfl, hcA⟩ := hM.get hlt
    obtain ⟨z1, z2⟩ := hz l[k] (List.getElem_mem hlt)
    have c1 := fun W => key_Right l[k].key W z1
    have c2 := fun W => value_Right l[k].val W z2
    rcases Nat.eq_zero_or_pos k with h0 | h0
    · subst h0
      have g : decide ((0 : Int) < ((0 : Nat) : Int)) = false := by decide
      have hp := rowP_zero hlt
      repeat' (first | refine VC_seq ?_ | refine VC_region ?_ | refine VL_nil ?_ | refine VC_ret ?_ | refine VC_block ?_ | refine VC_skip ?_ | refine kall ?_ | refine ksN ?_ | ((first | apply VL_q | apply VG_q); (first | exact QS_indexAddr (0) (by rfl) (by rfl) (by omega) (by omega) | exact QS_mloadN _ (by rfl) hcA _ (by rfl) | exact QS_call0 (by rfl) (fun W _ => c1 W) | exact QS_call0 (by rfl) (fun W _ => c2 W) | exact qmv (by rfl) | exact qas (by rfl) | exact ql1 (by rfl) | exact qfa (by rfl) | exact qno (by rfl) | exact qpt (by rfl) | exact qpf (by rfl) | exact qcp (by rfl) | exact qad (by rfl)); rfl) | refine gyes ?_ | refine gno ?_ | refine gnoU ?_ | refine VG_nil ?_ | refine dQ ?_ | refine ctr ?_ | refine cfa ?_ | refine gdec (fun hq => ?_) (fun hq => ?_))
      all_goals first
        | (refine Res.one (by rfl) (ResV_tmp (by rfl) (congrArg Value.bool (allTo_stop (k := 0) ?_ hlt).symm)); rw [hp]; simp_all <;> omega)
        | exact forQ_next (Q := fun _ _ => True) [] 1 ⟨rfl, rfl, trivial, ⟨rfl, rfl, rfl, rfl, trivial⟩⟩ ⟨by omega, by rw [allTo_succ, hr, hp]; simp_all <;> omega⟩ (by omega)
    · have g : decide ((0 : Int) < (k : Int)) = true := decide_eq_true (by omega)
      have hlt1 : k - 1 < l.length := by omega
      obtain ⟨b', off', he, hcB⟩ := hM.get hlt1
      injection he with he
      injection he with he1 he2
      subst he1 he2
      have hp := rowP_pos hlt h0
      repeat' (first | refine VC_seq ?_ | refine VC_region ?_ | refine VL_nil ?_ | refine VC_ret ?_ | refine VC_block ?_ | refine VC_skip ?_ | refine kall ?_ | refine ksN ?_ | ((first | apply VL_q | apply VG_q); (first | exact QS_indexAddr (k) (by rfl) (by rfl) (by omega) (by omega) | exact QS_indexAddr (k - 1) (by rfl) (by rfl) (by omega) (by omega) | exact QS_mloadN _ (by rfl) hcA _ (by rfl) | exact QS_mload1 (by rfl) (hcB 0 _ (by rfl)) | exact QS_call0 (by rfl) (fun W _ => c1 W) | exact QS_call0 (by rfl) (fun W _ => c2 W) | exact qmv (by rfl) | exact qas (by rfl) | exact ql1 (by rfl) | exact qfa (by rfl) | exact qmf (by rfl) | exact qno (by rfl) | exact qpt (by rfl) | exact qpf (by rfl) | exact qcp (by rfl) | exact qad (by rfl) | exact qsu (by rfl)); rfl) | refine gyes ?_ | refine gno ?_ | refine gnoU ?_ | refine VG_nil ?_ | refine dQ ?_ | refine ctr ?_ | refine gdec (fun hq => ?_) (fun hq => ?_) | refine cco (fun hq => ?_) (fun hq => ?_))
      all_goals first
        | (refine Res.one (by rfl) (ResV_tmp (by rfl) (congrArg Value.bool (allTo_stop (k := k) ?_ hlt).symm)); rw [hp]; simp_all <;> omega)
        | exact forQ_next (Q := fun _ _ => True) [] (k + 1) ⟨rfl, rfl, trivial, ⟨rfl, rfl, rfl, rfl, trivial⟩⟩ ⟨by omega, by rw [allTo_succ, hr, hp]; simp_all <;> omega⟩ (by omega)
  · have hd := dge hge
    obtain rfl : k = l.length := by omega
    repeat' (first | refine VC_seq ?_ | refine VC_region ?_ | refine VL_nil ?_ | refine VC_ret ?_ | refine VC_exit ?_ | ((apply VL_q); (first | exact qas (by rfl) | exact qcp (by rfl)); rfl) | refine cfa ?_)
    show Res _ _ _ _
    refine Res.one (by rfl) (ResV_tmp (by rfl) ?_)
    exact congrArg Value.bool hr.symm
theorem dgt (a b : Int) : decide (b < a) = !decide (a ≤ b) := by
  by_cases h : a ≤ b
  · rw [decide_eq_true h, decide_eq_false (by omega)]; rfl
  · rw [decide_eq_false h, decide_eq_true (by omega)]; rfl
theorem ref_RightP (v : Value) (l : List Pair) (w : World) (hl : Sl w 2 pairCells v l) (hz : ∀ p ∈ l, p.key.size ≤ maxLen ∧ p.val.size ≤ maxLen) (hn : l.length ≤ 1000000000) :
    Calls Tryz.prog 89 #[v] w fun e w' => e = .returned (.bool (rightP l)) ∧ Below w.heap.size w w' := by
  obtain ⟨A, c, rfl, hc1, hc2, _⟩ := id hl
  have hM := hl.toM
  unfold maxLen at hc2
  refine V_flat (args := [.slice A l.length c]) (M := Mem.of w) Tryz.func89 rfl Tryz.ntmps89 (by rfl) (Mem.le_refl _) ?_
  repeat' (first | refine VC_seq ?_ | refine VC_region ?_ | refine VL_nil ?_ | refine VC_block ?_ | ((apply VL_q); (exact qas (by rfl)); rfl))
  refine VC_for (fun k : Nat => ⟨Mem.of w, [], [(0, .v (.slice A l.length c)), (3, .v (.int .i64 k))]⟩) (fun k => k ≤ l.length ∧ allTo (rowP l) k = true) (fun k => l.length - k) [] 0 ⟨rfl, rfl, trivial, ⟨rfl, rfl, trivial⟩⟩ ⟨by omega, rfl⟩ ?_
  rintro k ⟨hk, hr⟩
  rcases Nat.lt_or_ge k l.length with hlt | hge
  · have hd := dlt hlt
    obtain ⟨b, off, rfl, hcA⟩ := hM.get hlt
    obtain ⟨z1, z2⟩ := hz l[k] (List.getElem_mem hlt)
    have e1 := dgt (l[k].key.size : Int) 16
    have e2 := dgt (l[k].val.size : Int) 16
    rcases Nat.eq_zero_or_pos k with h0 | h0
    · subst h0
      have g : decide ((0 : Int) < ((0 : Nat) : Int)) = false := by decide
      have hp := rowP_zero hlt
      repeat' (first | refine VC_seq ?_ | refine VC_region ?_ | refine VL_nil ?_ | refine VC_ret ?_ | refine VC_block ?_ | refine VC_skip ?_ | ((first | apply VL_q | apply VG_q); (first | exact QS_indexAddr (0) (by rfl) (by rfl) (by omega) (by omega) | exact QS_mload1 (by rfl) (hcA 0 _ (by rfl)) | exact QS_mload1 (by rfl) (hcA _ _ (by rfl)) | exact qmv (by rfl) | exact qas (by rfl) | exact qmf (by rfl) | exact qln (by rfl) | exact qls (by rfl) | exact qpt (by rfl) | exact qpf (by rfl) | exact qcp (by rfl) | exact qad (by rfl)); rfl) | refine gyes ?_ | refine gno ?_ | refine gnoU ?_ | refine VG_nil ?_ | refine dQ ?_ | refine ctr ?_ | refine cfa ?_ | refine gdec (fun hq => ?_) (fun hq => ?_))
      all_goals first
        | (refine Res.one (by rfl) (ResV_tmp (by rfl) (congrArg Value.bool (allTo_stop (k := 0) ?_ hlt).symm)); rw [hp]; simp_all <;> omega)
        | exact forQ_next (Q := fun _ _ => True) [] 1 ⟨rfl, rfl, trivial, ⟨rfl, rfl, trivial⟩⟩ ⟨by omega, by rw [allTo_succ, hr, hp]; simp_all <;> omega⟩ (by omega)
    · have g : decide ((0 : Int) < (k : Int)) = true := decide_eq_true (by omega)
      have hlt1 : k - 1 < l.length := by omega
      obtain ⟨b', off', he, hcB⟩ := hM.get hlt1
      injection he with he
      injection he with he1 he2
      subst he1 he2
      have c1 : ∀ W, Calls Tryz.prog 87 #[.string l[k - 1].key, .string l[k].key] W fun e w' => e = .returned (.bool (lt l[k - 1].key l[k].key)) ∧ Below W.heap.size W w' := fun W => ref_Less _ _ (hz l[k - 1] (List.getElem_mem hlt1)).1 z1 W
      have hp := rowP_pos hlt h0
      repeat' (first | refine VC_seq ?_ | refine VC_region ?_ | refine VL_nil ?_ | refine VC_ret ?_ | refine VC_block ?_ | refine VC_skip ?_ | ((first | apply VL_q | apply VG_q); (first | exact QS_indexAddr (k) (by rfl) (by rfl) (by omega) (by omega) | exact QS_indexAddr (k - 1) (by rfl) (by rfl) (by omega) (by omega) | exact QS_mload1 (by rfl) (hcA 0 _ (by rfl)) | exact QS_mload1 (by rfl) (hcA _ _ (by rfl)) | exact QS_mload1 (by rfl) (hcB 0 _ (by rfl)) | exact QS_call (by rfl) (fun W _ => c1 W) | exact qmv (by rfl) | exact qas (by rfl) | exact qmf (by rfl) | exact qno (by rfl) | exact qln (by rfl) | exact qls (by rfl) | exact qpt (by rfl) | exact qpf (by rfl) | exact qcp (by rfl) | exact qad (by rfl) | exact qsu (by rfl)); rfl) | refine gyes ?_ | refine gno ?_ | refine gnoU ?_ | refine VG_nil ?_ | refine dQ ?_ | refine ctr ?_ | refine gdec (fun hq => ?_) (fun hq => ?_) | refine cco (fun hq => ?_) (fun hq => ?_))
      all_goals first
        | (refine Res.one (by rfl) (ResV_tmp (by rfl) (congrArg Value.bool (allTo_stop (k := k) ?_ hlt).symm)); rw [hp]; simp_all <;> omega)
        | exact forQ_next (Q := fun _ _ => True) [] (k + 1) ⟨rfl, rfl, trivial, ⟨rfl, rfl, trivial⟩⟩ ⟨by omega, by rw [allTo_succ, hr, hp]; simp_all <;> omega⟩ (by omega)
  · have hd := dge hge
    obtain rfl : k = l.length := by omega
    repeat' (first | refine VC_seq ?_ | refine VC_region ?_ | refine VL_nil ?_ | refine VC_ret ?_ | refine VC_exit ?_ | ((apply VL_q); (first | exact qmv (by rfl) | exact qas (by rfl) | exact qln (by rfl) | exact qcp (by rfl)); rfl) | refine cfa ?_)
    show Res _ _ _ _
    refine Res.one (by rfl) (ResV_tmp (by rfl) ?_)
    exact congrArg Value.bool hr.symm
def rightK (ps : List ByteArray) (ks : List Int) : Bool := risS ps && ((ks.length : Int) == (ps.length : Int) + 1)
theorem bnode_RightK (v u : Value) (ps : List ByteArray) (ks : List Int) (w : World) (hl : SlS w v ps) (hk : Sl w 1 intCells u ks) (hn : ps.length ≤ 1000000000) :
    Calls Tryz.prog 68 #[v, u] w fun e w' => e = .returned (.bool (rightK ps ks)) ∧ Below w.heap.size w w' := by
  obtain ⟨A, c, rfl, hc1, hc2, _⟩ := id hl
  obtain ⟨B, d, rfl, hd1, hd2, _⟩ := id hk
  have hM := hl.toM
  unfold maxLen at hc2 hd2
  refine V_flat (args := [.slice A ps.length c, .slice B ks.length d]) (M := Mem.of w) Tryz.func68 rfl Tryz.ntmps68 (by rfl) (Mem.le_refl _) ?_
  repeat' (first | refine VC_seq ?_ | refine VC_region ?_ | refine VL_nil ?_ | refine VC_block ?_ | ((apply VL_q); (exact qas (by rfl)); rfl))
  refine VC_for (fun k : Nat => ⟨Mem.of w, [], [(0, .v (.slice A ps.length c)), (1, .v (.slice B ks.length d)), (5, .v (.int .i64 k))]⟩) (fun k => 1 ≤ k ∧ (k ≤ ps.length ∨ k = 1) ∧ allTo (risP ps) k = true) (fun k => ps.length + 1 - k) [] 1 ⟨rfl, rfl, trivial, ⟨rfl, rfl, rfl, trivial⟩⟩ ⟨by omega, by omega, rfl⟩ ?_
  rintro k ⟨hk1, hk2, hr⟩
  rcases Nat.lt_or_ge k ps.length with hlt | hge
  · obtain ⟨b, off, rfl, hcA⟩ := hM.get hlt
    have hlt1 : k - 1 < ps.length := by omega
    obtain ⟨b', off', he, hcB⟩ := hM.get hlt1
    injection he with he
    injection he with he1 he2
    subst he1 he2
    have hd := dlt hlt
    have hp : risP ps k = lt ps[k - 1] ps[k] := by unfold risP; rw [sAt_eq hlt, sAt_eq hlt1, decide_eq_false (by omega), Bool.false_or]
    cases hc : lt ps[k - 1] ps[k] with
    | false =>
      rw [hc] at hp
      have hc' : (!lt ps[k - 1] ps[k]) = true := by rw [hc]; rfl
      repeat' (first | refine VC_seq ?_ | refine VC_region ?_ | refine VL_nil ?_ | refine VC_ret ?_ | refine VC_block ?_ | refine VC_skip ?_ | ((first | apply VL_q | apply VG_q); (first | exact QS_indexAddr (k) (by rfl) (by rfl) (by omega) (by omega) | exact QS_indexAddr (k - 1) (by rfl) (by rfl) (by omega) (by omega) | exact QS_mload1 (by rfl) (hcA 0 _ (by rfl)) | exact QS_mload1 (by rfl) (hcB 0 _ (by rfl)) | exact qmv (by rfl) | exact qas (by rfl) | exact qln (by rfl) | exact qcp (by rfl) | exact qsu (by rfl)); rfl) | refine VG_nil ?_ | refine dQ ?_ | refine ctr ?_)
      show Res _ _ _ _
      refine Res.one (by rfl) (ResV_tmp (by rfl) ?_)
      refine congrArg Value.bool ?_
      unfold rightK risS
      rw [allTo_stop hp hlt]; rfl
    | true =>
      rw [hc] at hp
      have hc' : (!lt ps[k - 1] ps[k]) = false := by rw [hc]; rfl
      repeat' (first | refine VC_seq ?_ | refine VC_region ?_ | refine VL_nil ?_ | refine VC_block ?_ | refine VC_skip ?_ | ((first | apply VL_q | apply VG_q); (first | exact QS_indexAddr (k) (by rfl) (by rfl) (by omega) (by omega) | exact QS_indexAddr (k - 1) (by rfl) (by rfl) (by omega) (by omega) | exact QS_mload1 (by rfl) (hcA 0 _ (by rfl)) | exact QS_mload1 (by rfl) (hcB 0 _ (by rfl)) | exact qmv (by rfl) | exact qas (by rfl) | exact qln (by rfl) | exact qcp (by rfl) | exact qad (by rfl) | exact qsu (by rfl)); rfl) | refine VG_nil ?_ | refine dQ ?_ | refine ctr ?_ | refine cfa ?_)
      refine forQ_next (Q := fun _ _ => True) [] (k + 1) ⟨rfl, rfl, trivial, ⟨rfl, rfl, rfl, trivial⟩⟩ ⟨by omega, by omega, ?_⟩ (by omega)
      rw [allTo_succ, hr, hp]; rfl
  · have hd := dge hge
    have hris : risS ps = true := by
      rcases hk2 with hk2 | hk2
      · have : k = ps.length := by omega
        have hh : allTo (risP ps) ps.length = true := this ▸ hr
        exact hh
      · subst hk2
        unfold risS
        have : ps.length = 0 ∨ ps.length = 1 := by omega
        rcases this with h | h <;> rw [h] <;> rfl
    cases hg : decide ((0 : Int) < (ks.length : Int)) with
    | true =>
      repeat' (first | refine VC_seq ?_ | refine VC_region ?_ | refine VL_nil ?_ | refine VC_ret ?_ | refine VC_exit ?_ | ((apply VL_q); (first | exact qmv (by rfl) | exact qas (by rfl) | exact qln (by rfl) | exact qpt (by rfl) | exact qcp (by rfl) | exact qad (by rfl)); rfl) | refine kyes ?_ | refine cfa ?_)
      show Res _ _ _ _
      refine Res.one (by rfl) (ResV_tmp (by rfl) ?_)
      refine congrArg Value.bool ?_
      unfold rightK
      rw [hris]; rfl
    | false =>
      repeat' (first | refine VC_seq ?_ | refine VC_region ?_ | refine VL_nil ?_ | refine VC_ret ?_ | refine VC_exit ?_ | ((apply VL_q); (first | exact qmv (by rfl) | exact qas (by rfl) | exact qln (by rfl) | exact qpf (by rfl) | exact qcp (by rfl)); rfl) | refine kno ?_ | refine cfa ?_)
      show Res _ _ _ _
      refine Res.one (by rfl) (ResV_tmp (by rfl) ?_)
      refine congrArg Value.bool ?_
      unfold rightK
      simp only [decide_eq_false_iff_not] at hg
      have : ((ks.length : Int) == (ps.length : Int) + 1) = false := beq_eq_false_iff_ne.2 (by omega)
      rw [this, Bool.and_false]
theorem ref_RightK (v u : Value) (ps : List ByteArray) (ks : List Int) (w : World) (hl : SlS w v ps) (hk : Sl w 1 intCells u ks) (hs : ∀ s ∈ ps, s.size ≤ 1000000000) (hn : ps.length ≤ 1000000000) :
    Calls Tryz.prog 47 #[v, u] w fun e w' => e = .returned (.bool (rightK ps ks)) ∧ Below w.heap.size w w' := by
  obtain ⟨A, c, rfl, hc1, hc2, _⟩ := id hl
  obtain ⟨B, d, rfl, hd1, hd2, _⟩ := id hk
  have hM := hl.toM
  unfold maxLen at hc2 hd2
  have c1 := fun W hW => ref_RisingS _ ps W (hM.toSl hW) hs hn
  unfold rightK
  cases hr : risS ps with
  | true =>
    rw [hr] at c1
    refine V_flat (args := [.slice A ps.length c, .slice B ks.length d]) (M := Mem.of w) Tryz.func47 rfl Tryz.ntmps47 (by rfl) (Mem.le_refl _) ?_
    repeat' (first | refine VC_seq ?_ | refine VC_region ?_ | refine VL_nil ?_ | refine VC_ret ?_ | ((apply VL_q); (first | exact QS_call (by rfl) c1 | exact qmv (by rfl) | exact qas (by rfl) | exact qln (by rfl) | exact qpt (by rfl) | exact qcp (by rfl) | exact qad (by rfl)); rfl) | refine kyes ?_)
    show Res _ _ _ _
    refine Res.one (by rfl) (ResV_tmp (by rfl) ?_)
    rfl
  | false =>
    rw [hr] at c1
    refine V_flat (args := [.slice A ps.length c, .slice B ks.length d]) (M := Mem.of w) Tryz.func47 rfl Tryz.ntmps47 (by rfl) (Mem.le_refl _) ?_
    repeat' (first | refine VC_seq ?_ | refine VC_region ?_ | refine VL_nil ?_ | refine VC_ret ?_ | ((apply VL_q); (first | exact QS_call (by rfl) c1 | exact qmv (by rfl) | exact qas (by rfl) | exact qpf (by rfl)); rfl) | refine kno ?_)
    show Res _ _ _ _
    refine Res.one (by rfl) (ResV_tmp (by rfl) ?_)
    rfl
end Go.Proofs.YtlapnbklbpeddaaGreat
