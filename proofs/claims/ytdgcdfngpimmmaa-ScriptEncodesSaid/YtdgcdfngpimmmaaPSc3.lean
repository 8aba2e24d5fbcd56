/- The operation that bytes are: plain Lean and walk. -/
import Derived.Test.YtdgcdfngpimmmaaPSc2
namespace Go.Proofs.Ytdgcdfngpimmmaa
open Go Go.RowKit
attribute [local irreducible] Calls
set_option linter.unusedVariables false
set_option maxRecDepth 20000
set_option linter.unusedSimpArgs false
set_option maxHeartbeats 4000000
theorem e_mk : (⟨#[]⟩ : ByteArray) = em := rfl
theorem e_em : ByteArray.empty = em := rfl
def opE : Op := ⟨0, em, em, false, em, 0⟩
def fin (o : Op) (r : ByteArray) (ok : Bool) : Op × Bool := if (ok && decide (r.size = 0) && rightO o) = true then (o, true) else (opE, false)
def ofO (s : ByteArray) : Op × Bool :=
  if (b1 s == 1 || b1 s == 2) = true then fin ⟨b1 s, (takeT (r1 s)).1, em, false, (takeT (takeT (r1 s)).2.1).1, 0⟩ (takeT (takeT (r1 s)).2.1).2.1 (true && !decide (s.size = 0) && (takeT (r1 s)).2.2 && (takeT (takeT (r1 s)).2.1).2.2)
  else if b1 s = 4 then
    if b1 (takeT (r1 s)).2.1 = 0 then fin ⟨b1 s, (takeT (r1 s)).1, (takeT (r1 (takeT (r1 s)).2.1)).1, false, em, 0⟩ (takeT (r1 (takeT (r1 s)).2.1)).2.1 (true && !decide (s.size = 0) && (takeT (r1 s)).2.2 && !decide ((takeT (r1 s)).2.1.size = 0) && (takeT (r1 (takeT (r1 s)).2.1)).2.2)
    else if b1 (takeT (r1 s)).2.1 = 1 then fin ⟨b1 s, (takeT (r1 s)).1, em, true, em, 0⟩ (r1 (takeT (r1 s)).2.1) (true && !decide (s.size = 0) && (takeT (r1 s)).2.2 && !decide ((takeT (r1 s)).2.1.size = 0))
    else (opE, false)
  else if b1 s = 6 then
    if b1 (takeT (r1 s)).2.1 = 0 then fin ⟨b1 s, (takeT (r1 s)).1, (takeT (r1 (takeT (r1 s)).2.1)).1, false, em, b1 (takeT (r1 (takeT (r1 s)).2.1)).2.1⟩ (r1 (takeT (r1 (takeT (r1 s)).2.1)).2.1) (true && !decide (s.size = 0) && (takeT (r1 s)).2.2 && !decide ((takeT (r1 s)).2.1.size = 0) && (takeT (r1 (takeT (r1 s)).2.1)).2.2 && !decide ((takeT (r1 (takeT (r1 s)).2.1)).2.1.size = 0))
    else if b1 (takeT (r1 s)).2.1 = 1 then fin ⟨b1 s, (takeT (r1 s)).1, em, true, em, b1 (r1 (takeT (r1 s)).2.1)⟩ (r1 (r1 (takeT (r1 s)).2.1)) (true && !decide (s.size = 0) && (takeT (r1 s)).2.2 && !decide ((takeT (r1 s)).2.1.size = 0) && !decide ((r1 (takeT (r1 s)).2.1).size = 0))
    else (opE, false)
  else fin ⟨b1 s, (takeT (r1 s)).1, em, false, em, 0⟩ (takeT (r1 s)).2.1 (true && !decide (s.size = 0) && (takeT (r1 s)).2.2)
theorem op_RightB (o : Op) (W : World) (hk : o.key.size ≤ 1000000) (b : Bool) (h : rightO o = b) : Calls Try.prog 61 #[.agg #[.int .i64 o.kind, .string o.key, .string o.hi, .bool o.opn, .string o.val, .int .i64 o.limit]] W fun e w' => e = .returned (.int .i64 (if b = true then 0 else 3)) ∧ Below W.heap.size W w' := by
  have := op_Right o W hk
  rwa [h] at this
theorem op_Of_D (s : ByteArray) (w : World) (hs : s.size ≤ 1000000) (h1 : b1 s ≠ 1) (h2 : b1 s ≠ 2) (h4 : b1 s ≠ 4) (h6 : b1 s ≠ 6) : Calls Try.prog 17 #[.string s] w fun e w' => e = .returned (.tuple #[.agg #[.int .i64 (ofO s).1.kind, .string (ofO s).1.key, .string (ofO s).1.hi, .bool (ofO s).1.opn, .string (ofO s).1.val, .int .i64 (ofO s).1.limit], .bool (ofO s).2]) ∧ Below w.heap.size w w' := by
  have hof : ofO s = fin ⟨b1 s, (takeT (r1 s)).1, em, false, em, 0⟩ (takeT (r1 s)).2.1 (true && !decide (s.size = 0) && (takeT (r1 s)).2.2) := by unfold ofO; simp [h1, h2, h4, h6]
  have z1 : (r1 s).size ≤ 1000000 := size_r1 hs
  have zk : (takeT (r1 s)).1.size ≤ 1000000 := size_tk1 z1
  have q6 : (b1 s == 6) = false := by simp [h6]
  have cV : ∀ W, Calls Try.prog 59 #[.agg #[.int .i64 (b1 s), .string (takeT (r1 s)).1, .string em, .bool false, .string em, .int .i64 0]] W fun e w' => e = .returned (.bool false) ∧ Below W.heap.size W w' := fun W => by
    have := op_valued ⟨b1 s, (takeT (r1 s)).1, em, false, em, 0⟩ W
    rwa [show valuedO ⟨b1 s, (takeT (r1 s)).1, em, false, em, 0⟩ = false by simp [valuedO, h1, h2]] at this
  have cR : ∀ W, Calls Try.prog 60 #[.agg #[.int .i64 (b1 s), .string (takeT (r1 s)).1, .string em, .bool false, .string em, .int .i64 0]] W fun e w' => e = .returned (.bool false) ∧ Below W.heap.size W w' := fun W => by
    have := op_ranged ⟨b1 s, (takeT (r1 s)).1, em, false, em, 0⟩ W
    rwa [show rangedO ⟨b1 s, (takeT (r1 s)).1, em, false, em, 0⟩ = false by simp [rangedO, h4, h6]] at this
  cases hr : rightO ⟨b1 s, (takeT (r1 s)).1, em, false, em, 0⟩
  all_goals
    have cO := fun W => op_RightB ⟨b1 s, (takeT (r1 s)).1, em, false, em, 0⟩ W zk _ hr
    refine V_flat (args := [.string s]) (M := Mem.no) Try.func17 rfl Try.ntmps17 (by rfl) (Mem.no_le _) ?_
    repeat' (first
      | refine VC_seq ?_
      | refine VC_region ?_
      | refine VL_nil ?_
      | refine VC_ret ?_
      | refine VC_exit ?_
      | refine VC_block ?_
      | refine VC_skip ?_
      | refine kbox ?_
      | refine kall ?_
      | refine kst ?_
      | refine ksN ?_
      | refine klt ?_
      | refine kl1 ?_
      | refine klK ?_
      | refine kap ?_
      | ((first | apply VL_q | apply VG_q | apply VS_q2); (first | exact qi0 (by rfl) | exact qi1 (by rfl) | exact qwd (by rfl) | exact qnr (by rfl) | exact qni (by rfl) | exact qmv (by rfl) | exact qas (by rfl) | exact ql1 (by rfl) | exact qlA (by rfl) | exact qfa (by rfl) | exact qmf (by rfl) | exact qfd (by rfl) | exact qm1 (by rfl) | exact qbd (by rfl) | exact qno (by rfl) | exact qex (by rfl) | exact qln (by rfl) | exact qls (by rfl) | exact qlr (by rfl) | exact qpt (by rfl) | exact qpf (by rfl) | exact qcp (by rfl) | exact qbe (by rfl) | exact qbn (by rfl) | exact qsn (by rfl) | exact qad (by rfl) | exact qsa (by rfl) | exact qsu (by rfl) | exact QS_bin (by rfl) (by rfl) (by first | exact B_slnil | exact Bq_eql_Pair | exact Bq_neq_Pair | exact Bq_eql_Op | exact Bq_neq_Op | exact Bq_eql_Cfg | exact Bq_neq_Cfg)); rfl)
      | refine sst ?_
      | refine VS_nil ?_
      | refine eeq ?_
      | refine ees ?_ (by first | exact es1 (by rfl) | exact esN (by rfl))
      | refine VE_nil ?_
      | refine kyes ?_
      | refine kno ?_
      | refine gyes ?_
      | refine gno ?_
      | refine knoU ?_
      | refine gnoU ?_
      | refine VG_nil ⟨by rfl, ?_⟩
      | refine VG_nil ?_
      | refine dT ?_
      | refine d1 ?_
      | refine dQ ?_
      | refine ctr ?_
      | refine cfa ?_
      | refine kdec (fun hq => ?_) (fun hq => ?_)
      | refine gdec (fun hq => ?_) (fun hq => ?_)
      | refine cco (fun hq => ?_) (fun hq => ?_))
    refine VL_nameB 1 (by rfl) (fun b => ?_)
    refine VL_callX (own1 := [.nblk (.pointer (some ⟨b, 0, none⟩)) 111 (tkC (s) (true))]) [1] (by rfl) (by rfl) ⟨rfl, trivial⟩ (fun M' _ => op_byte1 b s true M' hs) (by rfl) (by rfl) ?_
    rintro _ _ ⟨rfl, rfl⟩
    repeat' (first
      | refine VC_seq ?_
      | refine VC_region ?_
      | refine VL_nil ?_
      | refine VC_ret ?_
      | refine VC_exit ?_
      | refine VC_block ?_
      | refine VC_skip ?_
      | refine kbox ?_
      | refine kall ?_
      | refine kst ?_
      | refine ksN ?_
      | refine klt ?_
      | refine kl1 ?_
      | refine klK ?_
      | refine kap ?_
      | ((first | apply VL_q | apply VG_q | apply VS_q2); (first | exact qi0 (by rfl) | exact qi1 (by rfl) | exact qwd (by rfl) | exact qnr (by rfl) | exact qni (by rfl) | exact qmv (by rfl) | exact qas (by rfl) | exact ql1 (by rfl) | exact qlA (by rfl) | exact qfa (by rfl) | exact qmf (by rfl) | exact qfd (by rfl) | exact qm1 (by rfl) | exact qbd (by rfl) | exact qno (by rfl) | exact qex (by rfl) | exact qln (by rfl) | exact qls (by rfl) | exact qlr (by rfl) | exact qpt (by rfl) | exact qpf (by rfl) | exact qcp (by rfl) | exact qbe (by rfl) | exact qbn (by rfl) | exact qsn (by rfl) | exact qad (by rfl) | exact qsa (by rfl) | exact qsu (by rfl) | exact QS_bin (by rfl) (by rfl) (by first | exact B_slnil | exact Bq_eql_Pair | exact Bq_neq_Pair | exact Bq_eql_Op | exact Bq_neq_Op | exact Bq_eql_Cfg | exact Bq_neq_Cfg)); rfl)
      | refine sst ?_
      | refine VS_nil ?_
      | refine eeq ?_
      | refine ees ?_ (by first | exact es1 (by rfl) | exact esN (by rfl))
      | refine VE_nil ?_
      | refine kyes ?_
      | refine kno ?_
      | refine gyes ?_
      | refine gno ?_
      | refine knoU ?_
      | refine gnoU ?_
      | refine VG_nil ⟨by rfl, ?_⟩
      | refine VG_nil ?_
      | refine dT ?_
      | refine d1 ?_
      | refine dQ ?_
      | refine ctr ?_
      | refine cfa ?_
      | refine kdec (fun hq => ?_) (fun hq => ?_)
      | refine gdec (fun hq => ?_) (fun hq => ?_)
      | refine cco (fun hq => ?_) (fun hq => ?_))
    refine VL_callX (own1 := [.nblk (.pointer (some ⟨b, 0, none⟩)) 111 (tkC (r1 s) (true && !decide (s.size = 0)))]) [2] (by rfl) (by rfl) ⟨rfl, trivial⟩ (fun M' _ => op_text b (r1 s) _ M' z1) (by rfl) (by rfl) ?_
    rintro _ _ ⟨rfl, rfl⟩
    repeat' (first
      | refine VC_seq ?_
      | refine VC_region ?_
      | refine VL_nil ?_
      | refine VC_ret ?_
      | refine VC_exit ?_
      | refine VC_block ?_
      | refine VC_skip ?_
      | refine kbox ?_
      | refine kall ?_
      | refine kst ?_
      | refine ksN ?_
      | refine klt ?_
      | refine kl1 ?_
      | refine klK ?_
      | refine kap ?_
      | ((first | apply VL_q | apply VG_q | apply VS_q2); (first | exact qi0 (by rfl) | exact qi1 (by rfl) | exact qwd (by rfl) | exact qnr (by rfl) | exact qni (by rfl) | exact QS_nload1 4 (by rfl) (by rfl) (by rfl) (by rfl) | exact QS_call (by rfl) (fun W _ => cV W) | exact QS_call (by rfl) (fun W _ => cR W) | exact QS_call (by rfl) (fun W _ => cO W) | exact qmv (by rfl) | exact qas (by rfl) | exact ql1 (by rfl) | exact qlA (by rfl) | exact qfa (by rfl) | exact qmf (by rfl) | exact qfd (by rfl) | exact qm1 (by rfl) | exact qbd (by rfl) | exact qno (by rfl) | exact qex (by rfl) | exact qln (by rfl) | exact qls (by rfl) | exact qlr (by rfl) | exact qpt (by rfl) | exact qpf (by rfl) | exact qcp (by rfl) | exact qbe (by rfl) | exact qbn (by rfl) | exact qsn (by rfl) | exact qad (by rfl) | exact qsa (by rfl) | exact qsu (by rfl) | exact QS_bin (by rfl) (by rfl) (by first | exact B_slnil | exact Bq_eql_Pair | exact Bq_neq_Pair | exact Bq_eql_Op | exact Bq_neq_Op | exact Bq_eql_Cfg | exact Bq_neq_Cfg)); rfl)
      | refine sst ?_
      | refine VS_nil ?_
      | refine eeq ?_
      | refine ees ?_ (by first | exact es1 (by rfl) | exact esN (by rfl))
      | refine VE_nil ?_
      | refine kyes ?_
      | refine kno ?_
      | refine gyes ?_
      | refine gno ?_
      | refine knoU ?_
      | refine gnoU ?_
      | refine VG_nil ⟨by rfl, ?_⟩
      | refine VG_nil ?_
      | refine dT ?_
      | refine d1 ?_
      | refine dQ ?_
      | refine ctr ?_
      | refine cfa ?_
      | refine kdec (fun hq => ?_) (fun hq => ?_)
      | refine gdec (fun hq => ?_) (fun hq => ?_)
      | refine cco (fun hq => ?_) (fun hq => ?_))
    all_goals
      show Res _ _ _ _
      refine Res.two (by rfl) (ResV_agg (by rfl) (by rfl) _ (by rfl) ?_) (ResV_tmp (by rfl) ?_)
      all_goals
        rw [hof]
        unfold fin
        split <;> simp_all [em_dec, opE, Ob.cells, sets, e_mk, e_em]
end Go.Proofs.Ytdgcdfngpimmmaa
