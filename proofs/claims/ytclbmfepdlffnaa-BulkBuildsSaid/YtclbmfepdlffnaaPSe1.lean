/- The document's Find (the node of a slot) and Lists (two lists of messages by their stamps). -/
import Derived.Test.YtclbmfepdlffnaaPNd6
import Derived.Test.YtclbmfepdlffnaaPLg10
import Derived.Test.YtclbmfepdlffnaaPFd
namespace Go.Proofs.Ytclbmfepdlffnaa
open Go Go.RowKit
attribute [local irreducible] Calls
set_option linter.unusedVariables false
set_option maxRecDepth 20000
set_option linter.unusedSimpArgs false
set_option maxHeartbeats 4000000
abbrev valL (v : Value) : List Value := [v]
def slotN (s : Int) (l : List Nd) : List Nd := l.filter fun n => n.slot == s
def lastN (s : Int) (l : List Nd) : Nd := ((slotN s l).getLast?).getD zero0
def cntN (s : Int) (l : List Nd) : Nat := (slotN s l).length
/-- The node of a slot; false: there is none, or more than one. -/
def findN (l : List Nd) (s : Int) : Nd × Bool := (lastN s l, (cntN s l : Int) == 1)
theorem slotN_step {l : List Nd} {k : Nat} (h : k < l.length) (s : Int) : slotN s (l.take (k + 1)) = slotN s (l.take k) ++ (if (l[k].slot == s) = true then [l[k]] else []) := by
  unfold slotN
  rw [List.take_succ_eq_append_getElem h, List.filter_append]
  congr 1
  simp only [List.filter_cons, List.filter_nil]
theorem nd_one {M : Mem} {n : Nd} (h : n.Ok M) : ((#[.int .i64 n.slot, .int .i64 n.level, n.pv, n.kv, .string n.high, .bool n.top, .int .i64 n.right, .int .i64 n.seen, n.mv, n.rv] : Array Value).toList.all (·.oneCell')) = true := by
  obtain ⟨⟨A, a, e1, _⟩, ⟨B, b, e2, _⟩, ⟨C, c, e3, _⟩, ⟨D, d, e4, _⟩⟩ := h
  rw [e1, e2, e3, e4]; rfl
theorem lastN_ok {M : Mem} {l : List Nd} (h : ∀ a ∈ l, a.Ok M) (s : Int) : (lastN s l).Ok M := by
  unfold lastN
  cases hq : (slotN s l).getLast? with
  | none => exact zero0_ok M
  | some a => exact h a ((List.mem_filter.1 (List.mem_of_getLast? hq)).1)
theorem slotN_len (s : Int) (l : List Nd) : cntN s l ≤ l.length := List.length_filter_le _ _
theorem ref_Find (v : Value) (l : List Nd) (s : Int) (w : World) (M : Mem) (hMw : M.le (Mem.of w)) (hl : SlM M 10 ndCells v l) (hok : ∀ a ∈ l, a.Ok M) (hn : l.length ≤ 1000000000) :
    Calls Try.prog 96 #[v, .int .i64 s] w fun e w' => e = .returned (.tuple #[.agg #[.int .i64 (findN l s).1.slot, .int .i64 (findN l s).1.level, (findN l s).1.pv, (findN l s).1.kv, .string (findN l s).1.high, .bool (findN l s).1.top, .int .i64 (findN l s).1.right, .int .i64 (findN l s).1.seen, (findN l s).1.mv, (findN l s).1.rv], .bool (findN l s).2]) ∧ Below w.heap.size w w' := by
  obtain ⟨A, c, rfl, hc1, hc2, _⟩ := id hl
  unfold maxLen at hc2
  refine V_flat (args := [.slice A l.length c, .int .i64 s]) (M := M) Try.func96 rfl Try.ntmps96 (by rfl) (hMw) ?_
  repeat' (first | refine VC_seq ?_ | refine VC_region ?_ | refine VL_nil ?_ | refine VC_block ?_ | refine kall ?_ | refine ksN ?_ | ((apply VL_q); (first | exact qas (by rfl) | exact qbd (by rfl)); rfl))
  refine VC_for (fun k : Nat => ⟨M, [.blk 94 (ndCells zero0), .blk 94 (ndCells (lastN s (l.take k)))], [(0, .v (.slice A l.length c)), (1, .v (.int .i64 s)), (4, .p 0 0), (6, .p 1 0), (7, .v (.int .i64 (cntN s (l.take k)))), (8, .v (.int .i64 k))]⟩) (fun k => k ≤ l.length) (fun k => l.length - k) [0, 1] 0 ⟨rfl, rfl, ⟨rfl, rfl, trivial⟩, ⟨rfl, rfl, rfl, rfl, rfl, rfl, trivial⟩⟩ (by omega) ?_
  intro k hk
  have hlen := slotN_len s (l.take k)
  rw [List.length_take] at hlen
  rcases Nat.lt_or_ge k l.length with hlt | hge
  · have hd := dlt hlt
    obtain ⟨b, off, rfl, hcA⟩ := hl.get hlt
    have hst := slotN_step hlt s
    cases hq : l[k].slot == s with
    | true =>
      rw [hq, if_pos rfl] at hst
      have e1 : lastN s (l.take (k + 1)) = l[k] := by unfold lastN; rw [hst]; simp
      have e2 : cntN s (l.take (k + 1)) = cntN s (l.take k) + 1 := by unfold cntN; rw [hst]; simp
      generalize lastN s (l.take k) = ln at *
      generalize cntN s (l.take k) = cn at *
      have h1 := nd_one (hok l[k] (List.getElem_mem hlt))
      repeat' (first | refine ksN ?_ (hu := h1) | refine VC_seq ?_ | refine VC_region ?_ | refine VL_nil ?_ | refine VC_block ?_ | refine VC_skip ?_ | ((apply VL_q); (first | exact QS_indexAddr (k) (by rfl) (by rfl) (by omega) (by omega) | exact QS_mload1 (by rfl) (hcA 0 _ (by rfl)) | exact QS_mloadN _ (by rfl) hcA _ (by rfl) | exact qmv (by rfl) | exact qas (by rfl) | exact qmf (by rfl) | exact qln (by rfl) | exact qcp (by rfl) | exact qad (by rfl)); rfl) | refine ctr ?_)
      exact forQ_next (Q := fun _ _ => True) [0, 1] (k + 1) ⟨rfl, rfl, ⟨rfl, by rw [e1]; rfl, trivial⟩, ⟨rfl, rfl, rfl, rfl, by rw [e2]; rfl, rfl, trivial⟩⟩ (by omega) (by omega)
    | false =>
      rw [hq, if_neg (by simp), List.append_nil] at hst
      have e1 : lastN s (l.take (k + 1)) = lastN s (l.take k) := by unfold lastN; rw [hst]
      have e2 : cntN s (l.take (k + 1)) = cntN s (l.take k) := by unfold cntN; rw [hst]
      generalize hln : lastN s (l.take k) = ln at *
      generalize hcn : cntN s (l.take k) = cn at *
      repeat' (first | refine VC_seq ?_ | refine VC_region ?_ | refine VL_nil ?_ | refine VC_block ?_ | refine VC_skip ?_ | ((apply VL_q); (first | exact QS_indexAddr (k) (by rfl) (by rfl) (by omega) (by omega) | exact QS_mload1 (by rfl) (hcA 0 _ (by rfl)) | exact qmv (by rfl) | exact qas (by rfl) | exact qmf (by rfl) | exact qln (by rfl) | exact qcp (by rfl) | exact qad (by rfl)); rfl) | refine ctr ?_ | refine cfa ?_)
      exact forQ_next (Q := fun _ _ => True) [0, 1] (k + 1) ⟨rfl, rfl, ⟨rfl, by rw [e1]; rfl, trivial⟩, ⟨rfl, rfl, rfl, rfl, by rw [e2]; rfl, rfl, trivial⟩⟩ (by omega) (by omega)
  · have hd := dge hge
    obtain rfl : k = l.length := by omega
    rw [List.take_length]
    unfold findN
    have h1 := nd_one (lastN_ok hok s)
    rw [List.take_length] at hlen
    generalize lastN s l = ln at *
    generalize cntN s l = cn at *
    repeat' (first | refine ksN ?_ (hu := h1) | refine VC_seq ?_ | refine VC_region ?_ | refine VL_nil ?_ | refine VC_ret ?_ | refine VC_exit ?_ | ((apply VL_q); (first | exact qmv (by rfl) | exact qas (by rfl) | exact qlA (by rfl) | exact qln (by rfl) | exact qcp (by rfl)); rfl) | refine cfa ?_)
    show Res _ _ _ _
    refine Res.two (by rfl) (ResV_agg (by rfl) (by rfl) _ (by rfl) ?_) (ResV_tmp (by rfl) ?_)
    · rfl
    · rfl
/-- Two lists of messages by their stamps; of two of one stamp the first list's comes first. -/
def mergeIn (a : Msg) (f : List Msg → List Msg) : List Msg → List Msg
  | [] => a :: f []
  | b :: bs => if b.stamp < a.stamp then b :: mergeIn a f bs else a :: f (b :: bs)
def mergeL : List Msg → List Msg → List Msg
  | [], bs => bs
  | a :: al, bs => mergeIn a (mergeL al) bs
theorem mergeL_nil : ∀ a : List Msg, mergeL a [] = a
  | [] => rfl
  | a :: al => by show a :: mergeL al [] = _; rw [mergeL_nil al]
theorem mergeL_l (a : Msg) (al bs : List Msg) (h : ∀ b, bs[0]? = some b → ¬ b.stamp < a.stamp) : mergeL (a :: al) bs = a :: mergeL al bs := by
  cases bs with
  | nil => rfl
  | cons b bs => show (if b.stamp < a.stamp then _ else _) = _; rw [if_neg (h b rfl)]
theorem mergeL_r (al : List Msg) (b : Msg) (bs : List Msg) (h : ∀ a, al[0]? = some a → b.stamp < a.stamp) : mergeL al (b :: bs) = b :: mergeL al bs := by
  cases al with
  | nil => rfl
  | cons a al => show (if b.stamp < a.stamp then _ else _) = _; rw [if_pos (h a rfl)]; rfl
theorem mergeL_perm : ∀ a b : List Msg, (mergeL a b).Perm (a ++ b)
  | [], b => List.Perm.refl _
  | a :: al, b => by
    have ih := mergeL_perm al
    induction b with
    | nil => rw [mergeL_nil]; simp
    | cons b bs ihb =>
      show (if b.stamp < a.stamp then _ else _ : List Msg).Perm _
      split
      · refine (List.Perm.cons b ihb).trans ?_
        exact (List.perm_middle (l₁ := a :: al)).symm
      · exact List.Perm.cons a (ih (b :: bs))
theorem mergeL_mem {a b : List Msg} {m : Msg} : m ∈ mergeL a b ↔ m ∈ a ∨ m ∈ b := by rw [(mergeL_perm a b).mem_iff, List.mem_append]
theorem mergeL_len (a b : List Msg) : (mergeL a b).length = a.length + b.length := by rw [(mergeL_perm a b).length_eq, List.length_append]
theorem made2 : (madeCells (Value.int .i64 0).cells (2 * 1)).toList = [.int .i64 0, .int .i64 0] := by
  apply List.ext_getElem
  · simp [madeCells]
  · intro i h1 h2
    have : i = 0 ∨ i = 1 := by simp at h2; omega
    rcases this with rfl | rfl <;> simp [madeCells, Nat.mod_one, Value.cells]
/-- Which list is next: behind k of the two lists. -/
def bestM (a b : List Msg) (i j : Nat) : Nat → Int
  | 0 => -1
  | 1 => if i < a.length then 0 else -1
  | _ => if h : j < b.length then (if h' : i < a.length then (if b[j].stamp < a[i].stamp then 1 else 0) else 1) else (if i < a.length then 0 else -1)
theorem best_cases (a b : List Msg) (i j : Nat) : (bestM a b i j 2 = -1 ∧ a.length ≤ i ∧ b.length ≤ j) ∨ (bestM a b i j 2 = 0 ∧ ∃ h : i < a.length, ∀ b', (b.drop j)[0]? = some b' → ¬ b'.stamp < a[i].stamp) ∨
    (bestM a b i j 2 = 1 ∧ ∃ h : j < b.length, ∀ a', (a.drop i)[0]? = some a' → b[j].stamp < a'.stamp) := by
  show ((if h : j < b.length then (if h' : i < a.length then (if b[j].stamp < a[i].stamp then (1 : Int) else 0) else 1) else (if i < a.length then 0 else -1)) = -1 ∧ _) ∨ ((if h : j < b.length then (if h' : i < a.length then (if b[j].stamp < a[i].stamp then (1 : Int) else 0) else 1) else (if i < a.length then 0 else -1)) = 0 ∧ _) ∨ ((if h : j < b.length then (if h' : i < a.length then (if b[j].stamp < a[i].stamp then (1 : Int) else 0) else 1) else (if i < a.length then 0 else -1)) = 1 ∧ _)
  by_cases hj : j < b.length
  · have eb : (b.drop j)[0]? = some b[j] := by rw [List.getElem?_drop, Nat.add_zero, List.getElem?_eq_getElem hj]
    by_cases hi : i < a.length
    · have ea : (a.drop i)[0]? = some a[i] := by rw [List.getElem?_drop, Nat.add_zero, List.getElem?_eq_getElem hi]
      by_cases hs : b[j].stamp < a[i].stamp
      · exact .inr (.inr ⟨by simp [hj, hi, hs], hj, fun a' h => by rw [ea] at h; rw [← Option.some.inj h]; exact hs⟩)
      · exact .inr (.inl ⟨by simp [hj, hi, hs], hi, fun b' h => by rw [eb] at h; rw [← Option.some.inj h]; exact hs⟩)
    · exact .inr (.inr ⟨by simp [hj, hi], hj, fun a' h => by rw [List.drop_eq_nil_of_le (by omega)] at h; cases h⟩)
  · by_cases hi : i < a.length
    · exact .inr (.inl ⟨by simp [hj, hi], hi, fun b' h => by rw [List.drop_eq_nil_of_le (by omega)] at h; cases h⟩)
    · exact .inl ⟨by simp [hj, hi], by omega, by omega⟩
theorem ref_Lists (v va vb : Value) (a b : List Msg) (w : World) (M : Mem) (hMw : M.le (Mem.of w)) (hl : SlM M 1 valL v [va, vb]) (ha : SlM M 6 msgCells va a) (hb : SlM M 6 msgCells vb b) (hna : a.length ≤ 500000000000) (hnb : b.length ≤ 500000000000) :
    Calls Try.prog 100 #[v] w (RetRow 155 6 (mergeL a b).length ((mergeL a b).flatMap msgCells) w) := by
  obtain ⟨V, c, rfl, hc1, hc2, _⟩ := id hl
  obtain ⟨A, ca, rfl, hca1, hca2, _⟩ := id ha
  obtain ⟨B, cb, rfl, hcb1, hcb2, _⟩ := id hb
  unfold maxLen at hc2 hca2 hcb2
  obtain ⟨g, o, rfl, hg0⟩ := hl.get (i := 0) (by simp)
  obtain ⟨g', o', he, hg1⟩ := hl.get (i := 1) (by simp)
  injection he with he
  injection he with he1 he2
  subst he1 he2
  have v0 : M.cell g (o + 0 * 1 + 0) = some (.slice A a.length ca) := hg0 0 _ rfl
  have v1 : M.cell g (o + 1 * 1 + 0) = some (.slice B b.length cb) := hg1 0 _ rfl
  refine V_rowN (args := [.slice (some ⟨g, o, none⟩) 2 c]) (M := M) Try.func100 rfl Try.ntmps100 (by rfl) hMw rfl ?_
  repeat' (first | refine VC_seq ?_ | refine VC_region ?_ | refine VL_nil ?_ | ((apply VL_q); (first | exact qmv (by rfl) | exact qas (by rfl) | exact qln (by rfl)); rfl))
  refine VL_e _ _ (EF_make 2 [.int .i64 0, .int .i64 0] (by rfl) (by rfl) rfl rfl made2 (by unfold maxLen; omega) (by omega)) (by rfl) (by rfl) ?_
  repeat' (first | refine VC_seq ?_ | refine VC_region ?_ | refine VL_nil ?_ | refine VC_block ?_ | ((apply VL_q); (exact qas (by rfl)); rfl))
  refine VC_nilR 4 155 6 (by rfl) (by rfl) ?_
  refine VC_for (fun x : Nat × Nat × List Msg => ⟨M, [.row 3 1 2 [.int .i64 (x.1 : Nat), .int .i64 (x.2.1 : Nat)], .row 155 6 x.2.2.length (x.2.2.flatMap msgCells)], [(0, .v (.slice (some ⟨g, o, none⟩) 2 c)), (3, .r 0), (4, .r 1)]⟩)
    (fun x => x.1 ≤ a.length ∧ x.2.1 ≤ b.length ∧ x.2.2 ++ mergeL (a.drop x.1) (b.drop x.2.1) = mergeL a b) (fun x => a.length + b.length - x.1 - x.2.1) [0, 1] (0, 0, []) ⟨rfl, rfl, ⟨rfl, rfl, trivial⟩, ⟨rfl, rfl, rfl, trivial⟩⟩ ⟨Nat.zero_le _, Nat.zero_le _, rfl⟩ ?_
  rintro ⟨i, j, out⟩ ⟨hi, hj, hout⟩
  dsimp only at hi hj hout ⊢
  have hol : out.length ≤ a.length + b.length := by rw [← mergeL_len, ← hout, List.length_append]; omega
  repeat' (first | refine VC_seq ?_ | refine VC_region ?_ | refine VL_nil ?_ | refine VC_block ?_ | ((apply VL_q); (exact qas (by rfl)); rfl))
  refine VC_for (fun k : Nat => ⟨M, [.row 3 1 2 [.int .i64 (i : Nat), .int .i64 (j : Nat)], .row 155 6 out.length (out.flatMap msgCells)], [(0, .v (.slice (some ⟨g, o, none⟩) 2 c)), (3, .r 0), (4, .r 1), (5, .v (.int .i64 (bestM a b i j k))), (6, .v (.int .i64 (k : Nat)))]⟩) (fun k => k ≤ 2) (fun k => 2 - k) [0, 1] 0 ⟨rfl, rfl, ⟨rfl, rfl, trivial⟩, ⟨rfl, rfl, rfl, rfl, rfl, trivial⟩⟩ (by omega) ?_
  intro k hk
  rcases (show k = 0 ∨ k = 1 ∨ k = 2 by omega) with rfl | rfl | rfl
  · have t0 : decide (((0 : Nat) : Int) < (2 : Int)) = true := by decide
    by_cases hia : i < a.length
    · have d1 := dlt hia
      repeat' (first | refine VC_seq ?_ | refine VC_region ?_ | refine VL_nil ?_ | refine VC_block ?_ | refine VC_skip ?_ | ((first | apply VL_q | apply VG_q); (first | exact QS_indexRow 0 (by rfl) (by rfl) (by rfl) rfl (by omega) | exact QS_indexAddr (0) (by rfl) (by rfl) (by omega) (by omega) | exact QS_mload1 (by rfl) (hg0 0 _ (by rfl)) | exact qmv (by rfl) | exact qas (by rfl) | exact ql1 (by rfl) | exact qln (by rfl) | exact qpt (by rfl) | exact qcp (by rfl) | exact qad (by rfl)); rfl) | refine gyes ?_ | refine gno ?_ | refine VG_nil ?_ | refine dQ ?_ | refine ctr ?_)
      exact forQ_next (Q := fun _ _ => True) [0, 1] 1 ⟨rfl, rfl, ⟨rfl, rfl, trivial⟩, ⟨rfl, rfl, rfl, by show _ = some (SV.v (.int .i64 (if i < a.length then 0 else -1))); rw [if_pos hia]; rfl, rfl, trivial⟩⟩ (by omega) (by omega)
    · have d1 := dge (Nat.le_of_not_lt hia)
      repeat' (first | refine VC_seq ?_ | refine VC_region ?_ | refine VL_nil ?_ | refine VC_block ?_ | refine VC_skip ?_ | ((first | apply VL_q | apply VG_q); (first | exact QS_indexRow 0 (by rfl) (by rfl) (by rfl) rfl (by omega) | exact QS_indexAddr (0) (by rfl) (by rfl) (by omega) (by omega) | exact QS_mload1 (by rfl) (hg0 0 _ (by rfl)) | exact qmv (by rfl) | exact qas (by rfl) | exact ql1 (by rfl) | exact qln (by rfl) | exact qpf (by rfl) | exact qcp (by rfl) | exact qad (by rfl)); rfl) | refine gno ?_ | refine gnoU ?_ | refine VG_nil ?_ | refine dQ ?_ | refine ctr ?_ | refine cfa ?_)
      exact forQ_next (Q := fun _ _ => True) [0, 1] 1 ⟨rfl, rfl, ⟨rfl, rfl, trivial⟩, ⟨rfl, rfl, rfl, by show _ = some (SV.v (.int .i64 (if i < a.length then 0 else -1))); rw [if_neg hia]; rfl, rfl, trivial⟩⟩ (by omega) (by omega)
  · have t0 : decide (((1 : Nat) : Int) < (2 : Int)) = true := by decide
    by_cases hjb : j < b.length
    · have d2 := dlt hjb
      by_cases hia : i < a.length
      · have e1 : bestM a b i j 1 = 0 := if_pos hia
        rw [e1]
        obtain ⟨bA, oA, rfl, hcA⟩ := ha.get hia
        obtain ⟨bB, oB, rfl, hcB⟩ := hb.get hjb
        by_cases hs : b[j].stamp < a[i].stamp
        · have e2 : bestM a b i j 2 = 1 := by show (if h : j < b.length then _ else _) = _; rw [dif_pos hjb, dif_pos hia, if_pos hs]
          have d3 : decide (b[j].stamp < a[i].stamp) = true := decide_eq_true hs
          repeat' (first | refine VC_seq ?_ | refine VC_region ?_ | refine VL_nil ?_ | refine VC_block ?_ | refine VC_skip ?_ | ((first | apply VL_q | apply VG_q); (first | exact QS_indexRow 0 (by rfl) (by rfl) (by rfl) rfl (by omega) | exact QS_indexRow 1 (by rfl) (by rfl) (by rfl) rfl (by omega) | exact QS_indexAddr (0) (by rfl) (by rfl) (by omega) (by omega) | exact QS_indexAddr (1) (by rfl) (by rfl) (by omega) (by omega) | exact QS_indexAddr (i) (by rfl) (by rfl) (by omega) (by omega) | exact QS_indexAddr (j) (by rfl) (by rfl) (by omega) (by omega) | exact QS_mload1 (by rfl) (hg0 0 _ (by rfl)) | exact QS_mload1 (by rfl) (hg1 0 _ (by rfl)) | exact QS_mload1 (by rfl) (hcA 0 _ (by rfl)) | exact QS_mload1 (by rfl) (hcB 0 _ (by rfl)) | exact qmv (by rfl) | exact qas (by rfl) | exact ql1 (by rfl) | exact qmf (by rfl) | exact qln (by rfl) | exact qpt (by rfl) | exact qpf (by rfl) | exact qcp (by rfl) | exact qad (by rfl)); rfl) | refine gyes ?_ | refine VG_nil ?_ | refine dQ ?_ | refine ctr ?_)
          exact forQ_next (Q := fun _ _ => True) [0, 1] 2 ⟨rfl, rfl, ⟨rfl, rfl, trivial⟩, ⟨rfl, rfl, rfl, by rw [e2]; rfl, rfl, trivial⟩⟩ (by omega) (by omega)
        · have e2 : bestM a b i j 2 = 0 := by show (if h : j < b.length then _ else _) = _; rw [dif_pos hjb, dif_pos hia, if_neg hs]
          have d3 : decide (b[j].stamp < a[i].stamp) = false := decide_eq_false hs
          repeat' (first | refine VC_seq ?_ | refine VC_region ?_ | refine VL_nil ?_ | refine VC_block ?_ | refine VC_skip ?_ | ((first | apply VL_q | apply VG_q); (first | exact QS_indexRow 0 (by rfl) (by rfl) (by rfl) rfl (by omega) | exact QS_indexRow 1 (by rfl) (by rfl) (by rfl) rfl (by omega) | exact QS_indexAddr (0) (by rfl) (by rfl) (by omega) (by omega) | exact QS_indexAddr (1) (by rfl) (by rfl) (by omega) (by omega) | exact QS_indexAddr (i) (by rfl) (by rfl) (by omega) (by omega) | exact QS_indexAddr (j) (by rfl) (by rfl) (by omega) (by omega) | exact QS_mload1 (by rfl) (hg0 0 _ (by rfl)) | exact QS_mload1 (by rfl) (hg1 0 _ (by rfl)) | exact QS_mload1 (by rfl) (hcA 0 _ (by rfl)) | exact QS_mload1 (by rfl) (hcB 0 _ (by rfl)) | exact qmv (by rfl) | exact qas (by rfl) | exact ql1 (by rfl) | exact qmf (by rfl) | exact qln (by rfl) | exact qpt (by rfl) | exact qpf (by rfl) | exact qcp (by rfl) | exact qad (by rfl)); rfl) | refine gyes ?_ | refine VG_nil ?_ | refine dQ ?_ | refine ctr ?_ | refine cfa ?_)
          exact forQ_next (Q := fun _ _ => True) [0, 1] 2 ⟨rfl, rfl, ⟨rfl, rfl, trivial⟩, ⟨rfl, rfl, rfl, by rw [e2]; rfl, rfl, trivial⟩⟩ (by omega) (by omega)
      · have e1 : bestM a b i j 1 = -1 := if_neg hia
        rw [e1]
        have e2 : bestM a b i j 2 = 1 := by show (if h : j < b.length then _ else _) = _; rw [dif_pos hjb, dif_neg hia]
        repeat' (first | refine VC_seq ?_ | refine VC_region ?_ | refine VL_nil ?_ | refine VC_block ?_ | refine VC_skip ?_ | ((first | apply VL_q | apply VG_q); (first | exact QS_indexRow 1 (by rfl) (by rfl) (by rfl) rfl (by omega) | exact QS_indexAddr (1) (by rfl) (by rfl) (by omega) (by omega) | exact QS_mload1 (by rfl) (hg1 0 _ (by rfl)) | exact qmv (by rfl) | exact qas (by rfl) | exact ql1 (by rfl) | exact qln (by rfl) | exact qpt (by rfl) | exact qcp (by rfl) | exact qad (by rfl)); rfl) | refine gyes ?_ | refine gno ?_ | refine VG_nil ?_ | refine dQ ?_ | refine ctr ?_)
        exact forQ_next (Q := fun _ _ => True) [0, 1] 2 ⟨rfl, rfl, ⟨rfl, rfl, trivial⟩, ⟨rfl, rfl, rfl, by rw [e2]; rfl, rfl, trivial⟩⟩ (by omega) (by omega)
    · have d2 := dge (Nat.le_of_not_lt hjb)
      have e2 : bestM a b i j 2 = bestM a b i j 1 := by show (if h : j < b.length then _ else _) = _; rw [dif_neg hjb]; rfl
      generalize bestM a b i j 1 = b1 at *
      repeat' (first | refine VC_seq ?_ | refine VC_region ?_ | refine VL_nil ?_ | refine VC_block ?_ | refine VC_skip ?_ | ((first | apply VL_q | apply VG_q); (first | exact QS_indexRow 1 (by rfl) (by rfl) (by rfl) rfl (by omega) | exact QS_indexAddr (1) (by rfl) (by rfl) (by omega) (by omega) | exact QS_mload1 (by rfl) (hg1 0 _ (by rfl)) | exact qmv (by rfl) | exact qas (by rfl) | exact ql1 (by rfl) | exact qln (by rfl) | exact qpf (by rfl) | exact qcp (by rfl) | exact qad (by rfl)); rfl) | refine gno ?_ | refine gnoU ?_ | refine VG_nil ?_ | refine dQ ?_ | refine ctr ?_ | refine cfa ?_)
      exact forQ_next (Q := fun _ _ => True) [0, 1] 2 ⟨rfl, rfl, ⟨rfl, rfl, trivial⟩, ⟨rfl, rfl, rfl, by rw [e2]; rfl, rfl, trivial⟩⟩ (by omega) (by omega)
  · have t0 : decide (((2 : Nat) : Int) < (2 : Int)) = false := by decide
    rcases best_cases a b i j with ⟨e2, h1, h2⟩ | ⟨e2, hia, hs⟩ | ⟨e2, hjb, hs⟩
    · rw [e2]
      rw [List.drop_eq_nil_of_le h1, List.drop_eq_nil_of_le h2] at hout
      have ho : out = mergeL a b := by rw [← hout]; simp [mergeL]
      subst ho
      repeat' (first | refine VC_seq ?_ | refine VC_region ?_ | refine VL_nil ?_ | refine VC_ret ?_ | refine VC_exit ?_ | ((apply VL_q); (first | exact qmv (by rfl) | exact qas (by rfl) | exact qln (by rfl) | exact qcp (by rfl)); rfl) | refine ctr ?_ | refine cfa ?_)
      exact .inl ⟨1, rfl, rfl⟩
    · rw [e2]
      obtain ⟨bA, oA, rfl, hcA⟩ := ha.get hia
      have hout2 : (out ++ [a[i]]) ++ mergeL (a.drop (i + 1)) (b.drop j) = mergeL a b := by
        rw [List.drop_eq_getElem_cons hia, mergeL_l _ _ _ hs] at hout
        rw [List.append_assoc]
        exact hout
      repeat' (first | refine VC_seq ?_ | refine VC_region ?_ | refine VL_nil ?_ | refine VC_exit ?_ | refine VC_skip ?_ | ((apply VL_q); (first | exact qmv (by rfl) | exact qln (by rfl) | exact qcp (by rfl)); rfl) | refine cfa ?_)
      refine VC_drawE [] [1] [11, 12, 13] (by decide +kernel) (by decide +kernel) (by rfl) ?_
      repeat' (first | refine VQs_nil ?_ | refine VQs_e (by rfl) ?_ | refine VQs_q (by rfl) _ (by exact wno (by first | exact QS_indexRow 0 (by rfl) (by rfl) (by rfl) rfl (by omega) | exact QS_indexAddr (0) (by rfl) (by rfl) (by omega) (by omega) | exact QS_indexAddr (i) (by rfl) (by rfl) (by omega) (by omega) | exact QS_mload1 (by rfl) (hg0 0 _ (by rfl)) | exact QS_mloadN _ (by rfl) hcA _ (by rfl) | exact qmv (by rfl) | exact ql1 (by rfl))) (by rfl) (by rfl) ?_ | refine VT_done ?_ | refine VT_step ?_ | exact VTs_nil | refine VTs_e (by rfl) _ _ (by exact fno (by first | exact el1 (by rfl) | exact eap (by rfl) | exact fq (by exact qas (by rfl)))) (by rfl) (by rfl) ?_ ?_)
      repeat' (first | refine VC_region ?_ | ((apply VL_q); (first | exact QS_indexRow 0 (by rfl) (by rfl) (by rfl) rfl (by omega) | exact qmv (by rfl) | exact ql1 (by rfl) | exact qad (by rfl)); rfl))
      refine VL_row1 (by rfl) (by rfl) (by rfl) (by simp) rfl (by rfl) (by rfl) ?_
      repeat' (refine VL_nil ?_)
      exact forQ_next (Q := fun _ _ => True) [0, 3] (i + 1, j, out ++ [a[i]]) ⟨rfl, rfl, ⟨rfl, by simp; rfl, trivial⟩, ⟨rfl, rfl, rfl, trivial⟩⟩ ⟨hia, hj, hout2⟩ (by show a.length + b.length - (i + 1) - j < a.length + b.length - i - j; omega)
    · rw [e2]
      obtain ⟨bB, oB, rfl, hcB⟩ := hb.get hjb
      have hout2 : (out ++ [b[j]]) ++ mergeL (a.drop i) (b.drop (j + 1)) = mergeL a b := by
        rw [List.drop_eq_getElem_cons hjb, mergeL_r _ _ _ hs] at hout
        rw [List.append_assoc]
        exact hout
      repeat' (first | refine VC_seq ?_ | refine VC_region ?_ | refine VL_nil ?_ | refine VC_exit ?_ | refine VC_skip ?_ | ((apply VL_q); (first | exact qmv (by rfl) | exact qln (by rfl) | exact qcp (by rfl)); rfl) | refine cfa ?_)
      refine VC_drawE [] [1] [11, 12, 13] (by decide +kernel) (by decide +kernel) (by rfl) ?_
      repeat' (first | refine VQs_nil ?_ | refine VQs_e (by rfl) ?_ | refine VQs_q (by rfl) _ (by exact wno (by first | exact QS_indexRow 1 (by rfl) (by rfl) (by rfl) rfl (by omega) | exact QS_indexAddr (1) (by rfl) (by rfl) (by omega) (by omega) | exact QS_indexAddr (j) (by rfl) (by rfl) (by omega) (by omega) | exact QS_mload1 (by rfl) (hg1 0 _ (by rfl)) | exact QS_mloadN _ (by rfl) hcB _ (by rfl) | exact qmv (by rfl) | exact ql1 (by rfl))) (by rfl) (by rfl) ?_ | refine VT_done ?_ | refine VT_step ?_ | exact VTs_nil | refine VTs_e (by rfl) _ _ (by exact fno (by first | exact el1 (by rfl) | exact eap (by rfl) | exact fq (by exact qas (by rfl)))) (by rfl) (by rfl) ?_ ?_)
      repeat' (first | refine VC_region ?_ | ((apply VL_q); (first | exact QS_indexRow 1 (by rfl) (by rfl) (by rfl) rfl (by omega) | exact qmv (by rfl) | exact ql1 (by rfl) | exact qad (by rfl)); rfl))
      refine VL_row1 (by rfl) (by rfl) (by rfl) (by simp) rfl (by rfl) (by rfl) ?_
      repeat' (refine VL_nil ?_)
      exact forQ_next (Q := fun _ _ => True) [0, 3] (i, j + 1, out ++ [b[j]]) ⟨rfl, rfl, ⟨rfl, by simp; rfl, trivial⟩, ⟨rfl, rfl, rfl, trivial⟩⟩ ⟨hi, hjb, hout2⟩ (by show a.length + b.length - i - (j + 1) < a.length + b.length - i - j; omega)
end Go.Proofs.Ytclbmfepdlffnaa
