/- Effects: what they do, one behind the other, which may be: plain Lean, no program in sight. The walks of the effect layer and of its reference: each function computes what the plain effects say. The walks of the effect layer: one effect and then another one (Then), all of them (Fold), and whether all may be (All). Messages: which keys they are for, what they do, their size, which may be: plain Lean, no program in sight. The walks of the message layer and of its reference, by the logic of own blocks. The walks of the reference's messages, by the logic of own blocks. The chapter's examples of the message layer. The loops over messages: whether stamps rise, whether all may be, how many bytes they have. What a message does when it is clipped, and what two do as one: plain Lean, no program in sight. The reference's ends of spans, as a row of the caller's own. Whether any message may be, however long its texts. Sums over lists: plain Lean. -/
import Derived.Test.YtlapnbklbpeddaaGreatPA
import Derived.BigQuiet
import Derived.Test.YtlapnbklbpeddaaGreatPFc
import Derived.Test.YtlapnbklbpeddaaGreatPSp
namespace Go.Proofs.YtlapnbklbpeddaaGreat
open Go.RowKit
set_option linter.unusedVariables false
set_option maxRecDepth 20000
set_option linter.unusedSimpArgs false

def rightE (e : Eff) : Bool := if e.kind = 1 ∨ e.kind = 2 then decide (e.val.size ≤ 16) else if e.kind = 0 ∨ e.kind = 3 then decide (e.val = em) else false
end Go.Proofs.YtlapnbklbpeddaaGreat
namespace Go.Proofs.YtlapnbklbpeddaaGreat
open Go.RowKit Go.Sort
set_option linter.unusedVariables false
set_option maxRecDepth 20000
set_option linter.unusedSimpArgs false

/-- A number that is none of these, as a walk's tests want it. -/
theorem ne_tests {k : Int} (h0 : k ≠ 0) (h1 : k ≠ 1) (h2 : k ≠ 2) (h3 : k ≠ 3) : (k == 0) = false ∧ (k == 1) = false ∧ (k == 2) = false ∧ (k == 3) = false := by simp [h0, h1, h2, h3]
set_option maxHeartbeats 400000 in
theorem effect_Right (e : Eff) (w : World) (hs : Sz e.val) :
    Calls Tryz.prog 124 #[.agg #[.int .i64 e.kind, .string e.val]] w fun x w' => x = .returned (.bool (rightE e)) ∧ Below w.heap.size w w' := by
  obtain ⟨k, v⟩ := e
  have HM := Lib.hid hs.max
  clear hs
  have he := beq_bl v em
  by_cases h1k : k = 1
  · subst h1k
    go_enter Tryz.func124, Tryz.ntmps124
    go_wp2_with fail
    (with_reducible refine (value_Right _ _ HM.out).mono ?_); rintro x w' ⟨rfl, rfl⟩
    go_wp2
    go_ret
    refine ⟨retv (boolv ?_), by go_grown⟩
    simp [rightE]; omega
  by_cases h2k : k = 2
  · subst h2k
    go_enter Tryz.func124, Tryz.ntmps124
    go_wp2_with fail
    (with_reducible refine (value_Right _ _ HM.out).mono ?_); rintro x w' ⟨rfl, rfl⟩
    go_wp2
    go_ret
    refine ⟨retv (boolv ?_), by go_grown⟩
    simp [rightE]; omega
  by_cases h3k : k = 3
  · subst h3k
    go_enter Tryz.func124, Tryz.ntmps124
    go_wp2
    go_ret
    refine ⟨retv (boolv ?_), by go_grown⟩
    simp [rightE, ← he]
  by_cases h0k : k = 0
  · subst h0k
    go_enter Tryz.func124, Tryz.ntmps124
    go_wp2
    go_ret
    refine ⟨retv (boolv ?_), by go_grown⟩
    simp [rightE, ← he]
  obtain ⟨g0k, g1k, g2k, g3k⟩ := ne_tests h0k h1k h2k h3k
  go_enter Tryz.func124, Tryz.ntmps124
  go_wp2
  go_ret
  refine ⟨retv (boolv ?_), by go_grown⟩
  simp [rightE, h0k, h1k, h2k, h3k]
end Go.Proofs.YtlapnbklbpeddaaGreat
namespace Go.Proofs.YtlapnbklbpeddaaGreat
open Go.RowKit Go.Sort
set_option linter.unusedVariables false
set_option maxRecDepth 20000
set_option linter.unusedSimpArgs false
end Go.Proofs.YtlapnbklbpeddaaGreat
namespace Go.Proofs.YtlapnbklbpeddaaGreat
open Go.RowKit
set_option linter.unusedVariables false
set_option maxRecDepth 20000
set_option linter.unusedSimpArgs false

def spanM (m : Msg) : Span := if m.kind = 4 then ⟨m.key, m.hi, m.opn⟩ else point m.key
def rightM (m : Msg) : Bool :=
  decide (1 ≤ m.stamp) && decide (m.key.size ≤ 16) && (if m.kind = 4 then decide (m.val = em) && decide (m.hi.size ≤ 16) && (!m.opn || decide (m.hi = em)) && !empty (spanM m)
    else decide (m.kind ≠ 0) && decide (m.hi = em) && !m.opn && rightE ⟨m.kind, m.val⟩)
def refRightM (m : Msg) : Bool :=
  decide (1 ≤ m.stamp) && decide (m.key.size ≤ 16) && decide (m.val.size ≤ 16) && decide (m.hi.size ≤ 16) &&
  (if m.kind = 4 then decide (m.val = em) && (!m.opn || decide (m.hi = em)) && !empty (spanM m)
    else decide (m.hi = em) && !m.opn && (decide (m.kind = 1) || (decide (m.kind = 2) || (decide (m.kind = 3) && decide (m.val = em)))))
theorem refRightM_eq (m : Msg) : refRightM m = rightM m := by
  have e := size_em
  unfold refRightM rightM rightE
  by_cases h4 : m.kind = 4
  · simp only [h4, if_true]
    by_cases hv : m.val = em
    · rw [hv]; simp [e]; cases decide (1 ≤ m.stamp) <;> cases decide (m.key.size ≤ 16) <;> cases decide (m.hi.size ≤ 16) <;> simp
    · simp [hv]
  · simp only [h4, if_false]
    by_cases hh : m.hi = em
    · rw [hh]
      rcases (by omega : m.kind = 0 ∨ m.kind = 1 ∨ m.kind = 2 ∨ m.kind = 3 ∨ (m.kind ≠ 0 ∧ m.kind ≠ 1 ∧ m.kind ≠ 2 ∧ m.kind ≠ 3)) with h | h | h | h | ⟨g0, g1, g2, g3⟩
      · simp [h]
      · simp [h, e]; cases decide (1 ≤ m.stamp) <;> cases decide (m.key.size ≤ 16) <;> cases decide (m.val.size ≤ 16) <;> cases m.opn <;> simp
      · simp [h, e]; cases decide (1 ≤ m.stamp) <;> cases decide (m.key.size ≤ 16) <;> cases decide (m.val.size ≤ 16) <;> cases m.opn <;> simp
      · by_cases hv : m.val = em
        · simp [h, e, hv]
        · simp [h, e, hv]
      · simp [g0, g1, g2, g3]
    · simp [hh]
def sizeM (m : Msg) : Int := if m.kind = 4 then 36 else 4 + (m.key.size : Int) + (m.val.size : Int)
def msgE : Msg := ⟨0, 0, em, em, false, em⟩
def clipM (m : Msg) (s : Span) : Msg × Bool :=
  if touch (spanM m) s = true then
    (if m.kind = 4 then ⟨m.stamp, m.kind, (meet (spanM m) s).lo, (meet (spanM m) s).hi, (meet (spanM m) s).opn, m.val⟩ else m, true)
  else (msgE, false)
end Go.Proofs.YtlapnbklbpeddaaGreat
namespace Go.Proofs.YtlapnbklbpeddaaGreat
open Go Go.RowKit
set_option linter.unusedVariables false
set_option maxRecDepth 20000
set_option linter.unusedSimpArgs false
theorem key_Right (k : ByteArray) (w : World) (h : k.size ≤ maxLen) : Calls Tryz.prog 98 #[.string k] w fun e w' => e = .returned (.bool (decide ((k.size : Int) ≤ 16))) ∧ w = w' := by
  unfold maxLen at h
  go_enter Tryz.func98, Tryz.ntmps98
  go_wp2
  go_ret
  exact ⟨rfl, rfl⟩
theorem message_Span (m : Msg) (w : World) (hk : m.key.size ≤ 1000000) :
    Calls Tryz.prog 79 #[.agg #[.int .i64 m.stamp, .int .i64 m.kind, .string m.key, .string m.hi, .bool m.opn, .string m.val]] w fun e w' => e = .returned (.agg #[.string (spanM m).lo, .string (spanM m).hi, .bool (spanM m).opn]) ∧ Below w.heap.size w w' := by
  refine V_flat (args := [.agg #[.int .i64 m.stamp, .int .i64 m.kind, .string m.key, .string m.hi, .bool m.opn, .string m.val]]) (M := Mem.no) Tryz.func79 rfl Tryz.ntmps79 (by rfl) (Mem.no_le _) ?_
  repeat' (first | refine VC_seq ?_ | refine VC_region ?_ | refine VL_nil ?_ | refine VC_ret ?_ | refine VC_skip ?_ | refine kbox ?_ | refine kall ?_ | refine ksN ?_ | ((apply VL_q); (first | exact QS_call (by rfl) (fun W _ => span_Point _ hk W) | exact ql1 (by rfl) | exact qfa (by rfl) | exact qbd (by rfl) | exact qcp (by rfl)); rfl) | refine cco (fun hq => ?_) (fun hq => ?_))
  all_goals
    show Res _ _ _ _
    refine Res.one (by rfl) (ResV_agg (by rfl) (by rfl) _ (by rfl) ?_)
    simp_all [spanM, Ob.cells, sets]
theorem ref_SpanM (m : Msg) (w : World) (hk : m.key.size ≤ 1000000) :
    Calls Tryz.prog 55 #[.agg #[.int .i64 m.stamp, .int .i64 m.kind, .string m.key, .string m.hi, .bool m.opn, .string m.val]] w fun e w' => e = .returned (.agg #[.string (spanM m).lo, .string (spanM m).hi, .bool (spanM m).opn]) ∧ Below w.heap.size w w' := by
  have hz : (m.key ++ ⟨#[0]⟩ : ByteArray).size ≤ maxLen := by rw [size_app]; unfold maxLen; show m.key.size + 1 ≤ _; omega
  refine V_flat (args := [.agg #[.int .i64 m.stamp, .int .i64 m.kind, .string m.key, .string m.hi, .bool m.opn, .string m.val]]) (M := Mem.no) Tryz.func55 rfl Tryz.ntmps55 (by rfl) (Mem.no_le _) ?_
  repeat' (first | refine VC_seq ?_ | refine VC_region ?_ | refine VL_nil ?_ | refine VC_ret ?_ | refine VC_skip ?_ | refine kbox ?_ | refine kall ?_ | refine ksN ?_ | ((apply VL_q); (first | exact ql1 (by rfl) | exact qfa (by rfl) | exact qbd (by rfl) | exact qcp (by rfl) | exact qsa (by rfl)); rfl) | refine cco (fun hq => ?_) (fun hq => ?_))
  all_goals
    show Res _ _ _ _
    refine Res.one (by rfl) (ResV_agg (by rfl) (by rfl) _ (by rfl) ?_)
    simp_all [spanM, Ob.cells, sets, point, nx]
theorem message_Size (m : Msg) (w : World) (h1 : m.key.size ≤ 1000000) (h2 : m.val.size ≤ 1000000) :
    Calls Tryz.prog 126 #[.agg #[.int .i64 m.stamp, .int .i64 m.kind, .string m.key, .string m.hi, .bool m.opn, .string m.val]] w fun e w' => e = .returned (.int .i64 (sizeM m)) ∧ Below w.heap.size w w' := by
  refine V_flat (args := [.agg #[.int .i64 m.stamp, .int .i64 m.kind, .string m.key, .string m.hi, .bool m.opn, .string m.val]]) (M := Mem.no) Tryz.func126 rfl Tryz.ntmps126 (by rfl) (Mem.no_le _) ?_
  repeat' (first | refine VC_seq ?_ | refine VC_region ?_ | refine VL_nil ?_ | refine VC_ret ?_ | refine VC_skip ?_ | refine kbox ?_ | ((apply VL_q); (first | exact qas (by rfl) | exact ql1 (by rfl) | exact qfa (by rfl) | exact qls (by rfl) | exact qcp (by rfl) | exact qad (by rfl)); rfl) | refine cco (fun hq => ?_) (fun hq => ?_))
  all_goals
    show Res _ _ _ _
    refine Res.one (by rfl) (ResV_tmp (by rfl) ?_)
    simp_all [sizeM]
theorem ref_SizeM (m : Msg) (w : World) (h1 : m.key.size ≤ 1000000) (h2 : m.val.size ≤ 1000000) :
    Calls Tryz.prog 108 #[.agg #[.int .i64 m.stamp, .int .i64 m.kind, .string m.key, .string m.hi, .bool m.opn, .string m.val]] w fun e w' => e = .returned (.int .i64 (sizeM m)) ∧ Below w.heap.size w w' := by
  refine V_flat (args := [.agg #[.int .i64 m.stamp, .int .i64 m.kind, .string m.key, .string m.hi, .bool m.opn, .string m.val]]) (M := Mem.no) Tryz.func108 rfl Tryz.ntmps108 (by rfl) (Mem.no_le _) ?_
  repeat' (first | refine VC_seq ?_ | refine VC_region ?_ | refine VL_nil ?_ | refine VC_ret ?_ | refine VC_skip ?_ | refine kbox ?_ | ((apply VL_q); (first | exact qas (by rfl) | exact ql1 (by rfl) | exact qfa (by rfl) | exact qls (by rfl) | exact qcp (by rfl) | exact qad (by rfl)); rfl) | refine cco (fun hq => ?_) (fun hq => ?_))
  all_goals
    show Res _ _ _ _
    refine Res.one (by rfl) (ResV_tmp (by rfl) ?_)
    simp_all [sizeM]
theorem message_Touches (m : Msg) (s : Span) (w : World) (hk : m.key.size ≤ 1000000) :
    Calls Tryz.prog 106 #[.agg #[.int .i64 m.stamp, .int .i64 m.kind, .string m.key, .string m.hi, .bool m.opn, .string m.val], .agg #[.string s.lo, .string s.hi, .bool s.opn]] w fun e w' => e = .returned (.bool (touch (spanM m) s)) ∧ Below w.heap.size w w' := by
  refine V_flat (args := [.agg #[.int .i64 m.stamp, .int .i64 m.kind, .string m.key, .string m.hi, .bool m.opn, .string m.val], .agg #[.string s.lo, .string s.hi, .bool s.opn]]) (M := Mem.no) Tryz.func106 rfl Tryz.ntmps106 (by rfl) (Mem.no_le _) ?_
  repeat' (first | refine VC_seq ?_ | refine VC_region ?_ | refine VL_nil ?_ | refine VC_ret ?_ | refine kbox ?_ | ((first | apply VL_q | apply VG_q); (first | exact QS_call (by rfl) (fun W _ => message_Span _ W (by assumption)) | exact QS_call (by rfl) (fun W _ => span_Touch _ _ W) | exact qas (by rfl) | exact qlA (by rfl)); rfl) | refine VG_nil ?_ | refine dQ ?_)
  show Res _ _ _ _
  refine Res.one (by rfl) (ResV_tmp (by rfl) ?_)
  rfl
set_option maxHeartbeats 1000000 in
theorem message_Right (m : Msg) (w : World) (h1 : m.key.size ≤ 1000000) (h2 : m.hi.size ≤ 1000000) (h3 : m.val.size ≤ 1000000):
    Calls Tryz.prog 115 #[.agg #[.int .i64 m.stamp, .int .i64 m.kind, .string m.key, .string m.hi, .bool m.opn, .string m.val]] w fun e w' => e = .returned (.bool (rightM m)) ∧ Below w.heap.size w w' := by
  have k1 : m.key.size ≤ maxLen := by unfold maxLen; omega
  have k2 : m.hi.size ≤ maxLen := by unfold maxLen; omega
  have k3 : Sz m.val := by unfold Sz; omega
  refine V_flat (args := [.agg #[.int .i64 m.stamp, .int .i64 m.kind, .string m.key, .string m.hi, .bool m.opn, .string m.val]]) (M := Mem.no) Tryz.func115 rfl Tryz.ntmps115 (by rfl) (Mem.no_le _) ?_
  repeat' (first | refine VC_seq ?_ | refine VC_region ?_ | refine VL_nil ?_ | refine VC_ret ?_ | refine VC_skip ?_ | refine kbox ?_ | ((apply VL_q); (first | exact QS_call (by rfl) (fun W _ => message_Span _ W (by assumption)) | exact QS_call0 (by rfl) (fun W _ => key_Right _ W (by assumption)) | exact QS_call (by rfl) (fun W _ => span_Empty _ W) | exact QS_call (by rfl) (fun W _ => effect_Right ⟨_, _⟩ W (by assumption)) | exact qmv (by rfl) | exact qas (by rfl) | exact ql1 (by rfl) | exact qlA (by rfl) | exact qfa (by rfl) | exact qbd (by rfl) | exact qno (by rfl) | exact qpt (by rfl) | exact qpf (by rfl) | exact qcp (by rfl)); rfl) | refine kyes ?_ | refine kno ?_ | refine knoU ?_ | refine ctr ?_ | refine kdec (fun hq => ?_) (fun hq => ?_) | refine cco (fun hq => ?_) (fun hq => ?_))
  all_goals
    show Res _ _ _ _
    refine Res.one (by rfl) (ResV_tmp (by rfl) ?_)
    clear h1 h2 h3 k1 k2 k3
    refine congrArg Value.bool ?_
    simp_all [rightM, i16]
    try (intros; omega)
end Go.Proofs.YtlapnbklbpeddaaGreat
namespace Go.Proofs.YtlapnbklbpeddaaGreat
open Go Go.RowKit
attribute [local irreducible] Calls
set_option linter.unusedVariables false
set_option maxRecDepth 20000
set_option linter.unusedSimpArgs false
theorem spanM_size (m : Msg) {n : Nat} (h1 : m.key.size < n) (h2 : m.hi.size ≤ n) : (spanM m).lo.size ≤ n ∧ (spanM m).hi.size ≤ n := by
  unfold spanM
  split
  · exact ⟨by simp only []; omega, h2⟩
  · refine ⟨by simp only [point]; omega, ?_⟩
    show (nx m.key).size ≤ n
    rw [size_nx]; omega
theorem meet_size (a b : Span) {n : Nat} (h1 : a.lo.size ≤ n) (h2 : a.hi.size ≤ n) (h3 : b.lo.size ≤ n) (h4 : b.hi.size ≤ n) : (meet a b).lo.size ≤ n ∧ (meet a b).hi.size ≤ n := by
  have e : em.size = 0 := rfl
  have k1 : (rawMeet a b).lo.size ≤ n := by simp only [rawMeet, meetLo, mx]; split <;> assumption
  have k2 : (rawMeet a b).hi.size ≤ n := by
    simp only [rawMeet, meetHi, mn]
    split
    · assumption
    · split
      · assumption
      · split <;> assumption
  unfold meet norm
  split
  · exact ⟨by simp [spE, e], by simp [spE, e]⟩
  · split
    · exact ⟨k1, by simp [e]⟩
    · exact ⟨k1, k2⟩
set_option maxHeartbeats 2000000 in
theorem ref_RightM (m : Msg) (w : World) (h1 : m.key.size ≤ 1000000) (h2 : m.hi.size ≤ 1000000) (h3 : m.val.size ≤ 1000000) :
    Calls Tryz.prog 107 #[.agg #[.int .i64 m.stamp, .int .i64 m.kind, .string m.key, .string m.hi, .bool m.opn, .string m.val]] w fun e w' => e = .returned (.bool (refRightM m)) ∧ Below w.heap.size w w' := by
  have hs := spanM_size m (n := 1000001) (by omega) (by omega)
  have k1 : (spanM m).lo.size ≤ maxLen := by unfold maxLen; omega
  have k2 : (spanM m).hi.size ≤ maxLen := by unfold maxLen; omega
  clear hs
  refine V_flat (args := [.agg #[.int .i64 m.stamp, .int .i64 m.kind, .string m.key, .string m.hi, .bool m.opn, .string m.val]]) (M := Mem.no) Tryz.func107 rfl Tryz.ntmps107 (by rfl) (Mem.no_le _) ?_
  repeat' (first | refine VC_seq ?_ | refine VC_region ?_ | refine VL_nil ?_ | refine VC_ret ?_ | refine VC_skip ?_ | refine kbox ?_ | ((apply VL_q); (first | exact QS_call (by rfl) (fun W _ => ref_SpanM _ W (by assumption)) | exact QS_call (by rfl) (fun W _ => ref_Empty (spanM m) W k1 k2) | exact qmv (by rfl) | exact qas (by rfl) | exact ql1 (by rfl) | exact qlA (by rfl) | exact qfa (by rfl) | exact qno (by rfl) | exact qls (by rfl) | exact qpt (by rfl) | exact qpf (by rfl) | exact qcp (by rfl)); rfl) | refine kyes ?_ | refine kno ?_ | refine knoU ?_ | refine ctr ?_ | refine kdec (fun hq => ?_) (fun hq => ?_) | refine cco (fun hq => ?_) (fun hq => ?_))
  all_goals
    show Res _ _ _ _
    refine Res.one (by rfl) (ResV_tmp (by rfl) ?_)
    clear h1 h2 h3 k1 k2
    refine congrArg Value.bool ?_
    simp_all [refRightM, i16]
    try (intros; omega)
theorem ref_ClipM (m : Msg) (s : Span) (w : World) (h1 : m.key.size ≤ 1000000) (h2 : m.hi.size ≤ 1000000) (h3 : s.lo.size ≤ 1000000) (h4 : s.hi.size ≤ 1000000) :
    Calls Tryz.prog 88 #[.agg #[.int .i64 m.stamp, .int .i64 m.kind, .string m.key, .string m.hi, .bool m.opn, .string m.val], .agg #[.string s.lo, .string s.hi, .bool s.opn]] w fun e w' => e = .returned (.tuple #[.agg #[.int .i64 (clipM m s).1.stamp, .int .i64 (clipM m s).1.kind, .string (clipM m s).1.key, .string (clipM m s).1.hi, .bool (clipM m s).1.opn, .string (clipM m s).1.val], .bool (clipM m s).2]) ∧ Below w.heap.size w w' := by
  have hs := spanM_size m (n := 1000001) (by omega) (by omega)
  have hm := meet_size (spanM m) s hs.1 hs.2 (by omega) (by omega)
  have k1 : (spanM m).lo.size ≤ maxLen := by unfold maxLen; omega
  have k2 : (spanM m).hi.size ≤ maxLen := by unfold maxLen; omega
  have k3 : s.lo.size ≤ maxLen := by unfold maxLen; omega
  have k4 : s.hi.size ≤ maxLen := by unfold maxLen; omega
  have k5 : (meet (spanM m) s).lo.size ≤ maxLen := by unfold maxLen; omega
  have k6 : (meet (spanM m) s).hi.size ≤ maxLen := by unfold maxLen; omega
  clear hs hm
  refine V_flat (args := [.agg #[.int .i64 m.stamp, .int .i64 m.kind, .string m.key, .string m.hi, .bool m.opn, .string m.val], .agg #[.string s.lo, .string s.hi, .bool s.opn]]) (M := Mem.no) Tryz.func88 rfl Tryz.ntmps88 (by rfl) (Mem.no_le _) ?_
  repeat' (first | refine VC_seq ?_ | refine VC_region ?_ | refine VL_nil ?_ | refine VC_ret ?_ | refine VC_skip ?_ | refine kbox ?_ | refine kall ?_ | refine kst ?_ | refine ksN ?_ | ((first | apply VL_q | apply VG_q); (first | exact QS_call (by rfl) (fun W _ => ref_SpanM _ W (by assumption)) | exact QS_call (by rfl) (fun W _ => ref_Meet (spanM m) s W k1 k2 k3 k4) | exact QS_call (by rfl) (fun W _ => ref_Empty (meet (spanM m) s) W k5 k6) | exact qas (by rfl) | exact ql1 (by rfl) | exact qlA (by rfl) | exact qfa (by rfl) | exact qbd (by rfl) | exact qcp (by rfl)); rfl) | refine VG_nil ⟨by rfl, ?_⟩ | refine d1 ?_ | refine cco (fun hq => ?_) (fun hq => ?_))
  all_goals
    show Res _ _ _ _
    refine Res.two (by rfl) (ResV_agg (by rfl) (by rfl) _ (by rfl) ?_) (ResV_tmp (by rfl) ?_)
    all_goals clear k1 k2 k3 k4 k5 k6 h1 h2 h3 h4
    all_goals first | rfl | (simp_all [clipM, touch, Ob.cells, sets, msgE]; done) | (simp_all [clipM, touch, Ob.cells, sets, msgE]; rfl)
end Go.Proofs.YtlapnbklbpeddaaGreat
namespace Go.Proofs.YtlapnbklbpeddaaGreat
open Go Go.RowKit
attribute [local irreducible] Calls
set_option linter.unusedVariables false
set_option maxRecDepth 20000
set_option linter.unusedSimpArgs false
end Go.Proofs.YtlapnbklbpeddaaGreat
namespace Go.Proofs.YtlapnbklbpeddaaGreat
open Go Go.RowKit
attribute [local irreducible] Calls
set_option linter.unusedVariables false
set_option maxRecDepth 20000
set_option linter.unusedSimpArgs false
def stAt (l : List Msg) (i : Nat) : Int := ((l[i]?).map Msg.stamp).getD 0
theorem stAt_eq {l : List Msg} {i : Nat} (h : i < l.length) : stAt l i = l[i].stamp := by simp [stAt, h]
/-- Do the stamps rise? -/
def riseB (l : List Msg) : Bool := (List.range l.length).all fun i => decide (i = 0 ∨ stAt l (i - 1) < stAt l i)
def riseTo (l : List Msg) (k : Nat) : Bool := (List.range k).all fun i => decide (i = 0 ∨ stAt l (i - 1) < stAt l i)
theorem riseTo_succ (l : List Msg) (k : Nat) : riseTo l (k + 1) = (riseTo l k && decide (k = 0 ∨ stAt l (k - 1) < stAt l k)) := by
  unfold riseTo
  rw [List.range_succ, List.all_append]
  simp
theorem riseTo_false {l : List Msg} {k : Nat} (h : riseTo l k = false) : ∀ n, k ≤ n → riseTo l n = false := by
  intro n hn
  induction n with
  | zero => have : k = 0 := by omega
            subst this; exact h
  | succ n ih =>
    rw [riseTo_succ]
    by_cases hk : k ≤ n
    · rw [ih hk]; rfl
    · have : k = n + 1 := by omega
      subst this
      rw [riseTo_succ] at h; exact h
theorem message_Rising (v : Value) (l : List Msg) (w : World) (hl : SlMsg w v l) :
    Calls Tryz.prog 117 #[v] w fun e w' => e = .returned (.bool (riseB l)) ∧ Below w.heap.size w w' := by
  obtain ⟨A, c, rfl, hc1, hc2, _⟩ := id hl
  have hM := hl.toM
  unfold maxLen at hc2
  refine V_flat (args := [.slice A l.length c]) (M := Mem.of w) Tryz.func117 rfl Tryz.ntmps117 (by rfl) (Mem.le_refl _) ?_
  repeat' (first | refine VC_seq ?_ | refine VC_region ?_ | refine VL_nil ?_ | refine VC_block ?_ | ((apply VL_q); (exact qas (by rfl)); rfl))
  refine VC_for (fun k : Nat => ⟨Mem.of w, [], [(0, .v (.slice A l.length c)), (3, .v (.int .i64 k))]⟩) (fun k => 1 ≤ k ∧ (k ≤ l.length ∨ k = 1) ∧ riseTo l k = true) (fun k => l.length + 1 - k) [] 1 ⟨rfl, rfl, trivial, ⟨rfl, rfl, trivial⟩⟩ ⟨by omega, by omega, rfl⟩ ?_
  rintro k ⟨hk1, hk2, hr⟩
  rcases Nat.lt_or_ge k l.length with hlt | hge
  · obtain ⟨b, off, rfl, hcA⟩ := hM.get hlt
    have hlt1 : k - 1 < l.length := by omega
    obtain ⟨b', off', he, hcB⟩ := hM.get hlt1
    injection he with he
    injection he with he1 he2
    subst he1 he2
    have hd := dlt hlt
    repeat' (first | refine VC_seq ?_ | refine VC_region ?_ | refine VL_nil ?_ | refine VC_ret ?_ | refine VC_block ?_ | refine VC_skip ?_ | ((first | apply VL_q | apply VG_q); (first | exact QS_indexAddr (k) (by rfl) (by rfl) (by omega) (by omega) | exact QS_indexAddr (k - 1) (by rfl) (by rfl) (by omega) (by omega) | exact QS_mload1 (by rfl) (hcA 0 _ (by rfl)) | exact QS_mload1 (by rfl) (hcB 0 _ (by rfl)) | exact qmv (by rfl) | exact qas (by rfl) | exact qmf (by rfl) | exact qln (by rfl) | exact qcp (by rfl) | exact qad (by rfl) | exact qsu (by rfl)); rfl) | refine VG_nil ?_ | refine dQ ?_ | refine ctr ?_ | refine cco (fun hq => ?_) (fun hq => ?_))
    · skip
      show Res _ _ _ _
      refine Res.one (by rfl) (ResV_tmp (by rfl) ?_)
      refine congrArg Value.bool ?_
      have := riseTo_false (l := l) (k := k + 1) (by
        rw [riseTo_succ, hr, stAt_eq hlt, stAt_eq hlt1]
        simp only [decide_eq_true_eq] at *
        simp only [Bool.true_and, decide_eq_false_iff_not]; omega) l.length (by omega)
      exact this.symm
    · refine forQ_next [] (k + 1) ⟨rfl, rfl, trivial, ⟨rfl, rfl, trivial⟩⟩ ⟨by omega, by omega, ?_⟩ (by omega)
      rw [riseTo_succ, hr, stAt_eq hlt, stAt_eq hlt1]
      simp only [decide_eq_false_iff_not] at *
      simp only [Bool.true_and, decide_eq_true_eq]; omega
  · have hd := dge hge
    repeat' (first | refine VC_seq ?_ | refine VC_region ?_ | refine VL_nil ?_ | refine VC_ret ?_ | refine VC_exit ?_ | ((apply VL_q); (first | exact qmv (by rfl) | exact qas (by rfl) | exact qln (by rfl) | exact qcp (by rfl)); rfl) | refine cfa ?_)
    show Res _ _ _ _
    refine Res.one (by rfl) (ResV_tmp (by rfl) ?_)
    refine congrArg Value.bool ?_
    rcases hk2 with hk2 | hk2
    · have : k = l.length := by omega
      have hh : riseTo l l.length = true := this ▸ hr
      exact hh.symm
    · subst hk2
      unfold riseB
      have : l.length = 0 ∨ l.length = 1 := by omega
      rcases this with h | h <;> rw [h] <;> rfl
end Go.Proofs.YtlapnbklbpeddaaGreat
namespace Go.Proofs.YtlapnbklbpeddaaGreat
open Go.RowKit
set_option linter.unusedVariables false
set_option maxRecDepth 20000
set_option linter.unusedSimpArgs false
theorem clip_ok (m : Msg) (s : Span) : (clipM m s).2 = touch (spanM m) s := by
  unfold clipM
  cases touch (spanM m) s <;> simp
theorem within_has {a b : Span} (h : within a b = true) {x : ByteArray} (hx : has a x = true) : has b x = true := by
  unfold within same at h
  have := has_of_norm (by simpa using h) x
  rw [has_meet, hx] at this
  simpa using this
end Go.Proofs.YtlapnbklbpeddaaGreat
namespace Go.Proofs.YtlapnbklbpeddaaGreat
open Go Go.RowKit
attribute [local irreducible] Calls
set_option linter.unusedVariables false
set_option maxRecDepth 20000
set_option linter.unusedSimpArgs false
end Go.Proofs.YtlapnbklbpeddaaGreat
namespace Go.Proofs.YtlapnbklbpeddaaGreat
open Go Go.RowKit
attribute [local irreducible] Calls
set_option linter.unusedVariables false
set_option maxRecDepth 20000
set_option linter.unusedSimpArgs false
set_option maxHeartbeats 2000000 in
theorem ref_RightM' (m : Msg) (w : World) (h : m.In) :
    Calls Tryz.prog 107 #[.agg #[.int .i64 m.stamp, .int .i64 m.kind, .string m.key, .string m.hi, .bool m.opn, .string m.val]] w fun e w' => e = .returned (.bool (refRightM m)) ∧ Below w.heap.size w w' := by
  obtain ⟨_, _, h1, h2, h3⟩ := h
  have h1 := h1.le
  have h2 := h2.le
  have h3 := h3.le
  by_cases hz : m.key.size ≤ 16 ∧ m.val.size ≤ 16 ∧ m.hi.size ≤ 16
  · exact ref_RightM m w (by omega) (by omega) (by omega)
  · have hf : refRightM m = false := by
      unfold refRightM
      by_cases c1 : m.key.size ≤ 16
      · by_cases c2 : m.val.size ≤ 16
        · have c3 : ¬ m.hi.size ≤ 16 := fun c3 => hz ⟨c1, c2, c3⟩
          simp [c3]
        · simp [c2]
      · simp [c1]
    rw [hf]
    rcases (by omega : 16 < m.key.size ∨ 16 < m.val.size ∨ 16 < m.hi.size) with c | c | c
    all_goals
      have g0 := decide_eq_true (Int.ofNat_lt.2 c)
      refine V_flat (args := [.agg #[.int .i64 m.stamp, .int .i64 m.kind, .string m.key, .string m.hi, .bool m.opn, .string m.val]]) (M := Mem.no) Tryz.func107 rfl Tryz.ntmps107 (by rfl) (Mem.no_le _) ?_
      repeat' (first | refine VC_seq ?_ | refine VC_region ?_ | refine VL_nil ?_ | refine VC_ret ?_ | refine kbox ?_ | ((apply VL_q); (first | exact qmv (by rfl) | exact qas (by rfl) | exact ql1 (by rfl) | exact qfa (by rfl) | exact qls (by rfl) | exact qpt (by rfl) | exact qpf (by rfl) | exact qcp (by rfl)); rfl) | refine kyes ?_ | refine kno ?_ | refine ctr ?_ | refine kdec (fun hq => ?_) (fun hq => ?_))
      all_goals
        show Res _ _ _ _
        refine Res.one (by rfl) (ResV_tmp (by rfl) ?_)
        rfl
end Go.Proofs.YtlapnbklbpeddaaGreat
namespace Go.Proofs.YtlapnbklbpeddaaGreat
set_option linter.unusedVariables false
set_option maxRecDepth 20000
set_option linter.unusedSimpArgs false
def sumBy {α : Type} (f : α → Int) : List α → Int
  | [] => 0
  | a :: l => f a + sumBy f l
section
variable {α : Type} {f : α → Int}
theorem sumBy_app : ∀ (l m : List α), sumBy f (l ++ m) = sumBy f l + sumBy f m
  | [], m => by simp [sumBy]
  | a :: l, m => by simp only [List.cons_append, sumBy, sumBy_app l m]; omega
theorem sumBy_step {l : List α} {k : Nat} (h : k < l.length) : sumBy f (l.take (k + 1)) = sumBy f (l.take k) + f l[k] := by
  rw [List.take_succ_eq_append_getElem h, sumBy_app]; simp [sumBy]
theorem sumBy_nonneg : ∀ (l : List α), (∀ a ∈ l, 0 ≤ f a) → 0 ≤ sumBy f l
  | [], _ => by simp [sumBy]
  | a :: l, h => by
    have := sumBy_nonneg l (fun x hx => h x (by simp [hx]))
    have := h a (by simp)
    simp only [sumBy]; omega
theorem sumBy_take_le (l : List α) (h : ∀ a ∈ l, 0 ≤ f a) (k : Nat) : sumBy f (l.take k) ≤ sumBy f l := by
  have h1 := sumBy_app (f := f) (l.take k) (l.drop k)
  rw [List.take_append_drop] at h1
  have := sumBy_nonneg (f := f) (l.drop k) (fun a ha => h a (List.mem_of_mem_drop ha))
  omega
theorem sumBy_le (c : Int) : ∀ (l : List α), (∀ a ∈ l, f a ≤ c) → sumBy f l ≤ l.length * c
  | [], _ => by simp [sumBy]
  | a :: l, h => by
    have h1 := sumBy_le c l (fun x hx => h x (by simp [hx]))
    have h2 := h a (by simp)
    simp only [sumBy, List.length_cons]
    have : ((l.length + 1 : Nat) : Int) * c = (l.length : Int) * c + c := by rw [Int.natCast_add, Int.add_mul]; simp
    omega
theorem sumBy_mem (l : List α) (h : ∀ a ∈ l, 0 ≤ f a) {a : α} (ha : a ∈ l) : f a ≤ sumBy f l := by
  induction l with
  | nil => cases ha
  | cons b l ih =>
    have h1 := sumBy_nonneg (f := f) l (fun x hx => h x (by simp [hx]))
    have h2 := h b (by simp)
    simp only [sumBy]
    rcases List.mem_cons.1 ha with rfl | ha
    · omega
    · have := ih (fun x hx => h x (by simp [hx])) ha; omega
theorem sumBy_len (l : List α) (h : ∀ a ∈ l, 1 ≤ f a) : (l.length : Int) ≤ sumBy f l := by
  induction l with
  | nil => simp [sumBy]
  | cons b l ih =>
    have h2 := h b (by simp)
    have := ih (fun x hx => h x (by simp [hx]))
    simp only [sumBy, List.length_cons]; omega
end
def wtM (m : Msg) : Int := 1 + (m.key.size : Int) + (m.hi.size : Int) + (m.val.size : Int)
theorem wtM_pos (m : Msg) : 1 ≤ wtM m := by unfold wtM; omega
/-- Few messages: how many bytes their texts have at most. -/
theorem few_bounds {l : List Msg} {n : Int} (h : sumBy wtM l ≤ n) : (l.length : Int) ≤ n ∧ ∀ m ∈ l, (m.key.size : Int) ≤ n ∧ (m.hi.size : Int) ≤ n ∧ (m.val.size : Int) ≤ n := by
  have h1 := sumBy_len l (fun a _ => wtM_pos a)
  refine ⟨by omega, fun m hm => ?_⟩
  have h2 := sumBy_mem (f := wtM) l (fun a _ => by have := wtM_pos a; omega) hm
  have h3 : wtM m = 1 + (m.key.size : Int) + (m.hi.size : Int) + (m.val.size : Int) := rfl
  omega
def sizeL (l : List Msg) : Int := sumBy sizeM l
theorem sizeM_pos (m : Msg) : 0 ≤ sizeM m := by unfold sizeM; split <;> omega
theorem sizeM_le {m : Msg} {n : Int} (h1 : (m.key.size : Int) ≤ n) (h2 : (m.val.size : Int) ≤ n) (h0 : 0 ≤ n) : sizeM m ≤ 36 + 2 * n := by unfold sizeM; split <;> omega
end Go.Proofs.YtlapnbklbpeddaaGreat
