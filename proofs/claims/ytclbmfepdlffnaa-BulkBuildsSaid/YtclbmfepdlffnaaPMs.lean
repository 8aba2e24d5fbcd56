/- Effects: what they do, one behind the other, which may be: plain Lean, no program in sight. The walks of the effect layer and of its reference: each function computes what the plain effects say. The walks of the effect layer: one effect and then another one (Then), all of them (Fold), and whether all may be (All). Messages: which keys they are for, what they do, their size, which may be: plain Lean, no program in sight. The walks of the message layer and of its reference, by the logic of own blocks. The walks of the reference's messages, by the logic of own blocks. The chapter's examples of the message layer. The loops over messages: whether stamps rise, whether all may be, how many bytes they have. What a message does when it is clipped, and what two do as one: plain Lean, no program in sight. The reference's ends of spans, as a row of the caller's own. Whether any message may be, however long its texts. Sums over lists: plain Lean. -/
import Derived.Test.YtclbmfepdlffnaaPA
import Derived.BigQuiet
import Derived.Test.YtclbmfepdlffnaaPFc
import Derived.Test.YtclbmfepdlffnaaPSp
namespace Go.Proofs.Ytclbmfepdlffnaa
open Go.RowKit
set_option linter.unusedVariables false
set_option maxRecDepth 20000
set_option linter.unusedSimpArgs false

def rightE (e : Eff) : Bool := if e.kind = 1 ∨ e.kind = 2 then decide (e.val.size ≤ 16) else if e.kind = 0 ∨ e.kind = 3 then decide (e.val = em) else false
end Go.Proofs.Ytclbmfepdlffnaa
namespace Go.Proofs.Ytclbmfepdlffnaa
open Go.RowKit Go.Sort
set_option linter.unusedVariables false
set_option maxRecDepth 20000
set_option linter.unusedSimpArgs false

end Go.Proofs.Ytclbmfepdlffnaa
namespace Go.Proofs.Ytclbmfepdlffnaa
open Go.RowKit Go.Sort
set_option linter.unusedVariables false
set_option maxRecDepth 20000
set_option linter.unusedSimpArgs false
end Go.Proofs.Ytclbmfepdlffnaa
namespace Go.Proofs.Ytclbmfepdlffnaa
open Go.RowKit
set_option linter.unusedVariables false
set_option maxRecDepth 20000
set_option linter.unusedSimpArgs false

def spanM (m : Msg) : Span := if m.kind = 4 then ⟨m.key, m.hi, m.opn⟩ else point m.key
def rightM (m : Msg) : Bool :=
  decide (1 ≤ m.stamp) && decide (m.key.size ≤ 16) && (if m.kind = 4 then decide (m.val = em) && decide (m.hi.size ≤ 16) && (!m.opn || decide (m.hi = em)) && !empty (spanM m)
    else decide (m.kind ≠ 0) && decide (m.hi = em) && !m.opn && rightE ⟨m.kind, m.val⟩)
def refRightM (m : Msg) : Bool :=
  decide (1 ≤ m.stamp) && decide (m.key.size ≤ 16) && decide (m.val.size ≤ 16) && decide (m.hi.size ≤ 16) &&
  (if m.kind = 4 then decide (m.val = em) && (!m.opn || decide (m.hi = em)) && !empty (spanM m)
    else decide (m.hi = em) && !m.opn && (decide (m.kind = 1) || (decide (m.kind = 2) || (decide (m.kind = 3) && decide (m.val = em)))))
theorem refRightM_eq (m : Msg) : refRightM m = rightM m := by
  have e := size_em
  unfold refRightM rightM rightE
  by_cases h4 : m.kind = 4
  · simp only [h4, if_true]
    by_cases hv : m.val = em
    · rw [hv]; simp [e]; cases decide (1 ≤ m.stamp) <;> cases decide (m.key.size ≤ 16) <;> cases decide (m.hi.size ≤ 16) <;> simp
    · simp [hv]
  · simp only [h4, if_false]
    by_cases hh : m.hi = em
    · rw [hh]
      rcases (by omega : m.kind = 0 ∨ m.kind = 1 ∨ m.kind = 2 ∨ m.kind = 3 ∨ (m.kind ≠ 0 ∧ m.kind ≠ 1 ∧ m.kind ≠ 2 ∧ m.kind ≠ 3)) with h | h | h | h | ⟨g0, g1, g2, g3⟩
      · simp [h]
      · simp [h, e]; cases decide (1 ≤ m.stamp) <;> cases decide (m.key.size ≤ 16) <;> cases decide (m.val.size ≤ 16) <;> cases m.opn <;> simp
      · simp [h, e]; cases decide (1 ≤ m.stamp) <;> cases decide (m.key.size ≤ 16) <;> cases decide (m.val.size ≤ 16) <;> cases m.opn <;> simp
      · by_cases hv : m.val = em
        · simp [h, e, hv]
        · simp [h, e, hv]
      · simp [g0, g1, g2, g3]
    · simp [hh]
def sizeM (m : Msg) : Int := if m.kind = 4 then 36 else 4 + (m.key.size : Int) + (m.val.size : Int)
def msgE : Msg := ⟨0, 0, em, em, false, em⟩
def clipM (m : Msg) (s : Span) : Msg × Bool :=
  if touch (spanM m) s = true then
    (if m.kind = 4 then ⟨m.stamp, m.kind, (meet (spanM m) s).lo, (meet (spanM m) s).hi, (meet (spanM m) s).opn, m.val⟩ else m, true)
  else (msgE, false)
end Go.Proofs.Ytclbmfepdlffnaa
namespace Go.Proofs.Ytclbmfepdlffnaa
open Go Go.RowKit
set_option linter.unusedVariables false
set_option maxRecDepth 20000
set_option linter.unusedSimpArgs false
theorem key_Right (k : ByteArray) (w : World) (h : k.size ≤ maxLen) : Calls Try.prog 104 #[.string k] w fun e w' => e = .returned (.bool (decide ((k.size : Int) ≤ 16))) ∧ w = w' := by
  unfold maxLen at h
  go_enter Try.func104, Try.ntmps104
  go_wp2
  go_ret
  exact ⟨rfl, rfl⟩
theorem ref_SpanM (m : Msg) (w : World) (hk : m.key.size ≤ 1000000) :
    Calls Try.prog 121 #[.agg #[.int .i64 m.stamp, .int .i64 m.kind, .string m.key, .string m.hi, .bool m.opn, .string m.val]] w fun e w' => e = .returned (.agg #[.string (spanM m).lo, .string (spanM m).hi, .bool (spanM m).opn]) ∧ Below w.heap.size w w' := by
  have hz : (m.key ++ ⟨#[0]⟩ : ByteArray).size ≤ maxLen := by rw [size_app]; unfold maxLen; show m.key.size + 1 ≤ _; omega
  refine V_flat (args := [.agg #[.int .i64 m.stamp, .int .i64 m.kind, .string m.key, .string m.hi, .bool m.opn, .string m.val]]) (M := Mem.no) Try.func121 rfl Try.ntmps121 (by rfl) (Mem.no_le _) ?_
  repeat' (first
    | refine VC_seq ?_
    | refine VC_region ?_
    | refine VL_nil ?_
    | refine VC_ret ?_
    | refine VC_exit ?_
    | refine VC_block ?_
    | refine VC_skip ?_
    | refine kbox ?_
    | refine kall ?_
    | refine kst ?_
    | refine ksN ?_
    | refine klt ?_
    | refine kl1 ?_
    | refine klK ?_
    | refine kap ?_
    | ((first | apply VL_q | apply VG_q | apply VS_q2); (first  | exact qmv (by rfl) | exact qas (by rfl) | exact ql1 (by rfl) | exact qlA (by rfl) | exact qfa (by rfl) | exact qmf (by rfl) | exact qfd (by rfl) | exact qm1 (by rfl) | exact qbd (by rfl) | exact qno (by rfl) | exact qex (by rfl) | exact qln (by rfl) | exact qls (by rfl) | exact qlr (by rfl) | exact qpt (by rfl) | exact qpf (by rfl) | exact qcp (by rfl) | exact qbe (by rfl) | exact qbn (by rfl) | exact qsn (by rfl) | exact qad (by rfl) | exact qsa (by rfl) | exact qsu (by rfl) | exact QS_bin (by rfl) (by rfl) (by first | exact B_slnil | exact Bq_eql_Msg | exact Bq_neq_Msg | exact Bq_eql_Pair | exact Bq_neq_Pair | exact Bq_eql_Op | exact Bq_neq_Op | exact Bq_eql_Cfg | exact Bq_neq_Cfg)); rfl)
    | refine sst ?_
    | refine VS_nil ?_
    | refine eeq ?_
    | refine ees ?_ (by first | exact es1 (by rfl) | exact esN (by rfl))
    | refine VE_nil ?_
    | refine kyes ?_
    | refine kno ?_
    | refine gyes ?_
    | refine gno ?_
    | refine knoU ?_
    | refine gnoU ?_
    | refine VG_nil ⟨by rfl, ?_⟩
    | refine VG_nil ?_
    | refine dT ?_
    | refine d1 ?_
    | refine dQ ?_
    | refine ctr ?_
    | refine cfa ?_
    | refine kdec (fun hq => ?_) (fun hq => ?_)
    | refine gdec (fun hq => ?_) (fun hq => ?_)
    | refine cco (fun hq => ?_) (fun hq => ?_))
  all_goals
    show Res _ _ _ _
    refine Res.one (by rfl) (ResV_agg (by rfl) (by rfl) _ (by rfl) ?_)
    simp_all [spanM, Ob.cells, sets, point, nx]
theorem ref_SizeM (m : Msg) (w : World) (h1 : m.key.size ≤ 1000000) (h2 : m.val.size ≤ 1000000) :
    Calls Try.prog 141 #[.agg #[.int .i64 m.stamp, .int .i64 m.kind, .string m.key, .string m.hi, .bool m.opn, .string m.val]] w fun e w' => e = .returned (.int .i64 (sizeM m)) ∧ Below w.heap.size w w' := by
  refine V_flat (args := [.agg #[.int .i64 m.stamp, .int .i64 m.kind, .string m.key, .string m.hi, .bool m.opn, .string m.val]]) (M := Mem.no) Try.func141 rfl Try.ntmps141 (by rfl) (Mem.no_le _) ?_
  repeat' (first
    | refine VC_seq ?_
    | refine VC_region ?_
    | refine VL_nil ?_
    | refine VC_ret ?_
    | refine VC_exit ?_
    | refine VC_block ?_
    | refine VC_skip ?_
    | refine kbox ?_
    | refine kall ?_
    | refine kst ?_
    | refine ksN ?_
    | refine klt ?_
    | refine kl1 ?_
    | refine klK ?_
    | refine kap ?_
    | ((first | apply VL_q | apply VG_q | apply VS_q2); (first  | exact qmv (by rfl) | exact qas (by rfl) | exact ql1 (by rfl) | exact qlA (by rfl) | exact qfa (by rfl) | exact qmf (by rfl) | exact qfd (by rfl) | exact qm1 (by rfl) | exact qbd (by rfl) | exact qno (by rfl) | exact qex (by rfl) | exact qln (by rfl) | exact qls (by rfl) | exact qlr (by rfl) | exact qpt (by rfl) | exact qpf (by rfl) | exact qcp (by rfl) | exact qbe (by rfl) | exact qbn (by rfl) | exact qsn (by rfl) | exact qad (by rfl) | exact qsa (by rfl) | exact qsu (by rfl) | exact QS_bin (by rfl) (by rfl) (by first | exact B_slnil | exact Bq_eql_Msg | exact Bq_neq_Msg | exact Bq_eql_Pair | exact Bq_neq_Pair | exact Bq_eql_Op | exact Bq_neq_Op | exact Bq_eql_Cfg | exact Bq_neq_Cfg)); rfl)
    | refine sst ?_
    | refine VS_nil ?_
    | refine eeq ?_
    | refine ees ?_ (by first | exact es1 (by rfl) | exact esN (by rfl))
    | refine VE_nil ?_
    | refine kyes ?_
    | refine kno ?_
    | refine gyes ?_
    | refine gno ?_
    | refine knoU ?_
    | refine gnoU ?_
    | refine VG_nil ⟨by rfl, ?_⟩
    | refine VG_nil ?_
    | refine dT ?_
    | refine d1 ?_
    | refine dQ ?_
    | refine ctr ?_
    | refine cfa ?_
    | refine kdec (fun hq => ?_) (fun hq => ?_)
    | refine gdec (fun hq => ?_) (fun hq => ?_)
    | refine cco (fun hq => ?_) (fun hq => ?_))
  all_goals
    show Res _ _ _ _
    refine Res.one (by rfl) (ResV_tmp (by rfl) ?_)
    simp_all [sizeM]
end Go.Proofs.Ytclbmfepdlffnaa
namespace Go.Proofs.Ytclbmfepdlffnaa
open Go Go.RowKit
attribute [local irreducible] Calls
set_option linter.unusedVariables false
set_option maxRecDepth 20000
set_option linter.unusedSimpArgs false
theorem spanM_size (m : Msg) {n : Nat} (h1 : m.key.size < n) (h2 : m.hi.size ≤ n) : (spanM m).lo.size ≤ n ∧ (spanM m).hi.size ≤ n := by
  unfold spanM
  split
  · exact ⟨by simp only []; omega, h2⟩
  · refine ⟨by simp only [point]; omega, ?_⟩
    show (nx m.key).size ≤ n
    rw [size_nx]; omega
theorem meet_size (a b : Span) {n : Nat} (h1 : a.lo.size ≤ n) (h2 : a.hi.size ≤ n) (h3 : b.lo.size ≤ n) (h4 : b.hi.size ≤ n) : (meet a b).lo.size ≤ n ∧ (meet a b).hi.size ≤ n := by
  have e : em.size = 0 := rfl
  have k1 : (rawMeet a b).lo.size ≤ n := by simp only [rawMeet, meetLo, mx]; split <;> assumption
  have k2 : (rawMeet a b).hi.size ≤ n := by
    simp only [rawMeet, meetHi, mn]
    split
    · assumption
    · split
      · assumption
      · split <;> assumption
  unfold meet norm
  split
  · exact ⟨by simp [spE, e], by simp [spE, e]⟩
  · split
    · exact ⟨k1, by simp [e]⟩
    · exact ⟨k1, k2⟩
set_option maxHeartbeats 2000000 in
theorem ref_RightM (m : Msg) (w : World) (h1 : m.key.size ≤ 1000000) (h2 : m.hi.size ≤ 1000000) (h3 : m.val.size ≤ 1000000) :
    Calls Try.prog 140 #[.agg #[.int .i64 m.stamp, .int .i64 m.kind, .string m.key, .string m.hi, .bool m.opn, .string m.val]] w fun e w' => e = .returned (.bool (refRightM m)) ∧ Below w.heap.size w w' := by
  have hs := spanM_size m (n := 1000001) (by omega) (by omega)
  have k1 : (spanM m).lo.size ≤ maxLen := by unfold maxLen; omega
  have k2 : (spanM m).hi.size ≤ maxLen := by unfold maxLen; omega
  clear hs
  refine V_flat (args := [.agg #[.int .i64 m.stamp, .int .i64 m.kind, .string m.key, .string m.hi, .bool m.opn, .string m.val]]) (M := Mem.no) Try.func140 rfl Try.ntmps140 (by rfl) (Mem.no_le _) ?_
  repeat' (first
    | refine VC_seq ?_
    | refine VC_region ?_
    | refine VL_nil ?_
    | refine VC_ret ?_
    | refine VC_exit ?_
    | refine VC_block ?_
    | refine VC_skip ?_
    | refine kbox ?_
    | refine kall ?_
    | refine kst ?_
    | refine ksN ?_
    | refine klt ?_
    | refine kl1 ?_
    | refine klK ?_
    | refine kap ?_
    | ((first | apply VL_q | apply VG_q | apply VS_q2); (first | exact QS_call (by rfl) (fun W _ => ref_SpanM _ W (by assumption)) | exact QS_call (by rfl) (fun W _ => ref_Empty (spanM m) W k1 k2) | exact qmv (by rfl) | exact qas (by rfl) | exact ql1 (by rfl) | exact qlA (by rfl) | exact qfa (by rfl) | exact qmf (by rfl) | exact qfd (by rfl) | exact qm1 (by rfl) | exact qbd (by rfl) | exact qno (by rfl) | exact qex (by rfl) | exact qln (by rfl) | exact qls (by rfl) | exact qlr (by rfl) | exact qpt (by rfl) | exact qpf (by rfl) | exact qcp (by rfl) | exact qbe (by rfl) | exact qbn (by rfl) | exact qsn (by rfl) | exact qad (by rfl) | exact qsa (by rfl) | exact qsu (by rfl) | exact QS_bin (by rfl) (by rfl) (by first | exact B_slnil | exact Bq_eql_Msg | exact Bq_neq_Msg | exact Bq_eql_Pair | exact Bq_neq_Pair | exact Bq_eql_Op | exact Bq_neq_Op | exact Bq_eql_Cfg | exact Bq_neq_Cfg)); rfl)
    | refine sst ?_
    | refine VS_nil ?_
    | refine eeq ?_
    | refine ees ?_ (by first | exact es1 (by rfl) | exact esN (by rfl))
    | refine VE_nil ?_
    | refine kyes ?_
    | refine kno ?_
    | refine gyes ?_
    | refine gno ?_
    | refine knoU ?_
    | refine gnoU ?_
    | refine VG_nil ⟨by rfl, ?_⟩
    | refine VG_nil ?_
    | refine dT ?_
    | refine d1 ?_
    | refine dQ ?_
    | refine ctr ?_
    | refine cfa ?_
    | refine kdec (fun hq => ?_) (fun hq => ?_)
    | refine gdec (fun hq => ?_) (fun hq => ?_)
    | refine cco (fun hq => ?_) (fun hq => ?_))
  all_goals
    show Res _ _ _ _
    refine Res.one (by rfl) (ResV_tmp (by rfl) ?_)
    clear h1 h2 h3 k1 k2
    refine congrArg Value.bool ?_
    simp_all [refRightM, i16]
    try (intros; omega)
theorem ref_ClipM (m : Msg) (s : Span) (w : World) (h1 : m.key.size ≤ 1000000) (h2 : m.hi.size ≤ 1000000) (h3 : s.lo.size ≤ 1000000) (h4 : s.hi.size ≤ 1000000) :
    Calls Try.prog 126 #[.agg #[.int .i64 m.stamp, .int .i64 m.kind, .string m.key, .string m.hi, .bool m.opn, .string m.val], .agg #[.string s.lo, .string s.hi, .bool s.opn]] w fun e w' => e = .returned (.tuple #[.agg #[.int .i64 (clipM m s).1.stamp, .int .i64 (clipM m s).1.kind, .string (clipM m s).1.key, .string (clipM m s).1.hi, .bool (clipM m s).1.opn, .string (clipM m s).1.val], .bool (clipM m s).2]) ∧ Below w.heap.size w w' := by
  have hs := spanM_size m (n := 1000001) (by omega) (by omega)
  have hm := meet_size (spanM m) s hs.1 hs.2 (by omega) (by omega)
  have k1 : (spanM m).lo.size ≤ maxLen := by unfold maxLen; omega
  have k2 : (spanM m).hi.size ≤ maxLen := by unfold maxLen; omega
  have k3 : s.lo.size ≤ maxLen := by unfold maxLen; omega
  have k4 : s.hi.size ≤ maxLen := by unfold maxLen; omega
  have k5 : (meet (spanM m) s).lo.size ≤ maxLen := by unfold maxLen; omega
  have k6 : (meet (spanM m) s).hi.size ≤ maxLen := by unfold maxLen; omega
  clear hs hm
  refine V_flat (args := [.agg #[.int .i64 m.stamp, .int .i64 m.kind, .string m.key, .string m.hi, .bool m.opn, .string m.val], .agg #[.string s.lo, .string s.hi, .bool s.opn]]) (M := Mem.no) Try.func126 rfl Try.ntmps126 (by rfl) (Mem.no_le _) ?_
  repeat' (first
    | refine VC_seq ?_
    | refine VC_region ?_
    | refine VL_nil ?_
    | refine VC_ret ?_
    | refine VC_exit ?_
    | refine VC_block ?_
    | refine VC_skip ?_
    | refine kbox ?_
    | refine kall ?_
    | refine kst ?_
    | refine ksN ?_
    | refine klt ?_
    | refine kl1 ?_
    | refine klK ?_
    | refine kap ?_
    | ((first | apply VL_q | apply VG_q | apply VS_q2); (first | exact QS_call (by rfl) (fun W _ => ref_SpanM _ W (by assumption)) | exact QS_call (by rfl) (fun W _ => ref_Meet (spanM m) s W k1 k2 k3 k4) | exact QS_call (by rfl) (fun W _ => ref_Empty (meet (spanM m) s) W k5 k6) | exact qmv (by rfl) | exact qas (by rfl) | exact ql1 (by rfl) | exact qlA (by rfl) | exact qfa (by rfl) | exact qmf (by rfl) | exact qfd (by rfl) | exact qm1 (by rfl) | exact qbd (by rfl) | exact qno (by rfl) | exact qex (by rfl) | exact qln (by rfl) | exact qls (by rfl) | exact qlr (by rfl) | exact qpt (by rfl) | exact qpf (by rfl) | exact qcp (by rfl) | exact qbe (by rfl) | exact qbn (by rfl) | exact qsn (by rfl) | exact qad (by rfl) | exact qsa (by rfl) | exact qsu (by rfl) | exact QS_bin (by rfl) (by rfl) (by first | exact B_slnil | exact Bq_eql_Msg | exact Bq_neq_Msg | exact Bq_eql_Pair | exact Bq_neq_Pair | exact Bq_eql_Op | exact Bq_neq_Op | exact Bq_eql_Cfg | exact Bq_neq_Cfg)); rfl)
    | refine sst ?_
    | refine VS_nil ?_
    | refine eeq ?_
    | refine ees ?_ (by first | exact es1 (by rfl) | exact esN (by rfl))
    | refine VE_nil ?_
    | refine kyes ?_
    | refine kno ?_
    | refine gyes ?_
    | refine gno ?_
    | refine knoU ?_
    | refine gnoU ?_
    | refine VG_nil ⟨by rfl, ?_⟩
    | refine VG_nil ?_
    | refine dT ?_
    | refine d1 ?_
    | refine dQ ?_
    | refine ctr ?_
    | refine cfa ?_
    | refine kdec (fun hq => ?_) (fun hq => ?_)
    | refine gdec (fun hq => ?_) (fun hq => ?_)
    | refine cco (fun hq => ?_) (fun hq => ?_))
  all_goals
    show Res _ _ _ _
    refine Res.two (by rfl) (ResV_agg (by rfl) (by rfl) _ (by rfl) ?_) (ResV_tmp (by rfl) ?_)
    all_goals clear k1 k2 k3 k4 k5 k6 h1 h2 h3 h4
    all_goals first | rfl | (simp_all [clipM, touch, Ob.cells, sets, msgE]; done) | (simp_all [clipM, touch, Ob.cells, sets, msgE]; rfl)
end Go.Proofs.Ytclbmfepdlffnaa
namespace Go.Proofs.Ytclbmfepdlffnaa
open Go Go.RowKit
attribute [local irreducible] Calls
set_option linter.unusedVariables false
set_option maxRecDepth 20000
set_option linter.unusedSimpArgs false
end Go.Proofs.Ytclbmfepdlffnaa
namespace Go.Proofs.Ytclbmfepdlffnaa
open Go Go.RowKit
attribute [local irreducible] Calls
set_option linter.unusedVariables false
set_option maxRecDepth 20000
set_option linter.unusedSimpArgs false
def stAt (l : List Msg) (i : Nat) : Int := ((l[i]?).map Msg.stamp).getD 0
theorem stAt_eq {l : List Msg} {i : Nat} (h : i < l.length) : stAt l i = l[i].stamp := by simp [stAt, h]
/-- Do the stamps rise? -/
def riseB (l : List Msg) : Bool := (List.range l.length).all fun i => decide (i = 0 ∨ stAt l (i - 1) < stAt l i)
def riseTo (l : List Msg) (k : Nat) : Bool := (List.range k).all fun i => decide (i = 0 ∨ stAt l (i - 1) < stAt l i)
theorem riseTo_succ (l : List Msg) (k : Nat) : riseTo l (k + 1) = (riseTo l k && decide (k = 0 ∨ stAt l (k - 1) < stAt l k)) := by
  unfold riseTo
  rw [List.range_succ, List.all_append]
  simp
theorem riseTo_false {l : List Msg} {k : Nat} (h : riseTo l k = false) : ∀ n, k ≤ n → riseTo l n = false := by
  intro n hn
  induction n with
  | zero => have : k = 0 := by omega
            subst this; exact h
  | succ n ih =>
    rw [riseTo_succ]
    by_cases hk : k ≤ n
    · rw [ih hk]; rfl
    · have : k = n + 1 := by omega
      subst this
      rw [riseTo_succ] at h; exact h
end Go.Proofs.Ytclbmfepdlffnaa
namespace Go.Proofs.Ytclbmfepdlffnaa
open Go.RowKit
set_option linter.unusedVariables false
set_option maxRecDepth 20000
set_option linter.unusedSimpArgs false
theorem clip_ok (m : Msg) (s : Span) : (clipM m s).2 = touch (spanM m) s := by
  unfold clipM
  cases touch (spanM m) s <;> simp
theorem within_has {a b : Span} (h : within a b = true) {x : ByteArray} (hx : has a x = true) : has b x = true := by
  unfold within same at h
  have := has_of_norm (by simpa using h) x
  rw [has_meet, hx] at this
  simpa using this
end Go.Proofs.Ytclbmfepdlffnaa
namespace Go.Proofs.Ytclbmfepdlffnaa
open Go Go.RowKit
attribute [local irreducible] Calls
set_option linter.unusedVariables false
set_option maxRecDepth 20000
set_option linter.unusedSimpArgs false
end Go.Proofs.Ytclbmfepdlffnaa
namespace Go.Proofs.Ytclbmfepdlffnaa
open Go Go.RowKit
attribute [local irreducible] Calls
set_option linter.unusedVariables false
set_option maxRecDepth 20000
set_option linter.unusedSimpArgs false
set_option maxHeartbeats 2000000 in
theorem ref_RightM' (m : Msg) (w : World) (h : m.In) :
    Calls Try.prog 140 #[.agg #[.int .i64 m.stamp, .int .i64 m.kind, .string m.key, .string m.hi, .bool m.opn, .string m.val]] w fun e w' => e = .returned (.bool (refRightM m)) ∧ Below w.heap.size w w' := by
  obtain ⟨_, _, h1, h2, h3⟩ := h
  have h1 := h1.le
  have h2 := h2.le
  have h3 := h3.le
  by_cases hz : m.key.size ≤ 16 ∧ m.val.size ≤ 16 ∧ m.hi.size ≤ 16
  · exact ref_RightM m w (by omega) (by omega) (by omega)
  · have hf : refRightM m = false := by
      unfold refRightM
      by_cases c1 : m.key.size ≤ 16
      · by_cases c2 : m.val.size ≤ 16
        · have c3 : ¬ m.hi.size ≤ 16 := fun c3 => hz ⟨c1, c2, c3⟩
          simp [c3]
        · simp [c2]
      · simp [c1]
    rw [hf]
    rcases (by omega : 16 < m.key.size ∨ 16 < m.val.size ∨ 16 < m.hi.size) with c | c | c
    all_goals
      have g0 := decide_eq_true (Int.ofNat_lt.2 c)
      refine V_flat (args := [.agg #[.int .i64 m.stamp, .int .i64 m.kind, .string m.key, .string m.hi, .bool m.opn, .string m.val]]) (M := Mem.no) Try.func140 rfl Try.ntmps140 (by rfl) (Mem.no_le _) ?_
      repeat' (first
        | refine VC_seq ?_
        | refine VC_region ?_
        | refine VL_nil ?_
        | refine VC_ret ?_
        | refine VC_exit ?_
        | refine VC_block ?_
        | refine VC_skip ?_
        | refine kbox ?_
        | refine kall ?_
        | refine kst ?_
        | refine ksN ?_
        | refine klt ?_
        | refine kl1 ?_
        | refine klK ?_
        | refine kap ?_
        | ((first | apply VL_q | apply VG_q | apply VS_q2); (first  | exact qmv (by rfl) | exact qas (by rfl) | exact ql1 (by rfl) | exact qlA (by rfl) | exact qfa (by rfl) | exact qmf (by rfl) | exact qfd (by rfl) | exact qm1 (by rfl) | exact qbd (by rfl) | exact qno (by rfl) | exact qex (by rfl) | exact qln (by rfl) | exact qls (by rfl) | exact qlr (by rfl) | exact qpt (by rfl) | exact qpf (by rfl) | exact qcp (by rfl) | exact qbe (by rfl) | exact qbn (by rfl) | exact qsn (by rfl) | exact qad (by rfl) | exact qsa (by rfl) | exact qsu (by rfl) | exact QS_bin (by rfl) (by rfl) (by first | exact B_slnil | exact Bq_eql_Msg | exact Bq_neq_Msg | exact Bq_eql_Pair | exact Bq_neq_Pair | exact Bq_eql_Op | exact Bq_neq_Op | exact Bq_eql_Cfg | exact Bq_neq_Cfg)); rfl)
        | refine sst ?_
        | refine VS_nil ?_
        | refine eeq ?_
        | refine ees ?_ (by first | exact es1 (by rfl) | exact esN (by rfl))
        | refine VE_nil ?_
        | refine kyes ?_
        | refine kno ?_
        | refine gyes ?_
        | refine gno ?_
        | refine knoU ?_
        | refine gnoU ?_
        | refine VG_nil ⟨by rfl, ?_⟩
        | refine VG_nil ?_
        | refine dT ?_
        | refine d1 ?_
        | refine dQ ?_
        | refine ctr ?_
        | refine cfa ?_
        | refine kdec (fun hq => ?_) (fun hq => ?_)
        | refine gdec (fun hq => ?_) (fun hq => ?_)
        | refine cco (fun hq => ?_) (fun hq => ?_))
      all_goals
        show Res _ _ _ _
        refine Res.one (by rfl) (ResV_tmp (by rfl) ?_)
        rfl
end Go.Proofs.Ytclbmfepdlffnaa
namespace Go.Proofs.Ytclbmfepdlffnaa
set_option linter.unusedVariables false
set_option maxRecDepth 20000
set_option linter.unusedSimpArgs false
def sumBy {α : Type} (f : α → Int) : List α → Int
  | [] => 0
  | a :: l => f a + sumBy f l
section
variable {α : Type} {f : α → Int}
theorem sumBy_app : ∀ (l m : List α), sumBy f (l ++ m) = sumBy f l + sumBy f m
  | [], m => by simp [sumBy]
  | a :: l, m => by simp only [List.cons_append, sumBy, sumBy_app l m]; omega
theorem sumBy_step {l : List α} {k : Nat} (h : k < l.length) : sumBy f (l.take (k + 1)) = sumBy f (l.take k) + f l[k] := by
  rw [List.take_succ_eq_append_getElem h, sumBy_app]; simp [sumBy]
theorem sumBy_nonneg : ∀ (l : List α), (∀ a ∈ l, 0 ≤ f a) → 0 ≤ sumBy f l
  | [], _ => by simp [sumBy]
  | a :: l, h => by
    have := sumBy_nonneg l (fun x hx => h x (by simp [hx]))
    have := h a (by simp)
    simp only [sumBy]; omega
theorem sumBy_le (c : Int) : ∀ (l : List α), (∀ a ∈ l, f a ≤ c) → sumBy f l ≤ l.length * c
  | [], _ => by simp [sumBy]
  | a :: l, h => by
    have h1 := sumBy_le c l (fun x hx => h x (by simp [hx]))
    have h2 := h a (by simp)
    simp only [sumBy, List.length_cons]
    have : ((l.length + 1 : Nat) : Int) * c = (l.length : Int) * c + c := by rw [Int.natCast_add, Int.add_mul]; simp
    omega
theorem sumBy_mem (l : List α) (h : ∀ a ∈ l, 0 ≤ f a) {a : α} (ha : a ∈ l) : f a ≤ sumBy f l := by
  induction l with
  | nil => cases ha
  | cons b l ih =>
    have h1 := sumBy_nonneg (f := f) l (fun x hx => h x (by simp [hx]))
    have h2 := h b (by simp)
    simp only [sumBy]
    rcases List.mem_cons.1 ha with rfl | ha
    · omega
    · have := ih (fun x hx => h x (by simp [hx])) ha; omega
theorem sumBy_len (l : List α) (h : ∀ a ∈ l, 1 ≤ f a) : (l.length : Int) ≤ sumBy f l := by
  induction l with
  | nil => simp [sumBy]
  | cons b l ih =>
    have h2 := h b (by simp)
    have := ih (fun x hx => h x (by simp [hx]))
    simp only [sumBy, List.length_cons]; omega
end
def sizeL (l : List Msg) : Int := sumBy sizeM l
theorem sizeM_pos (m : Msg) : 0 ≤ sizeM m := by unfold sizeM; split <;> omega
theorem sizeM_le {m : Msg} {n : Int} (h1 : (m.key.size : Int) ≤ n) (h2 : (m.val.size : Int) ≤ n) (h0 : 0 ≤ n) : sizeM m ≤ 36 + 2 * n := by unfold sizeM; split <;> omega
end Go.Proofs.Ytclbmfepdlffnaa
