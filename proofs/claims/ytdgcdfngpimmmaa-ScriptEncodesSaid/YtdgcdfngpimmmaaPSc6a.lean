/- The operation that bytes are: the walk, one path. -/
import Derived.Test.YtdgcdfngpimmmaaPSc4
import Derived.Test.YtdgcdfngpimmmaaPLg7
namespace Go.Proofs.Ytdgcdfngpimmmaa
open Go Go.RowKit
attribute [local irreducible] Calls takeT b1 r1 ofO
set_option linter.unusedVariables false
set_option maxRecDepth 20000
set_option linter.unusedSimpArgs false
set_option maxHeartbeats 4000000
theorem op_Of_C0 (s : ByteArray) (w : World) (hs : s.size ≤ 1000000) (hk : b1 s = 6) (hb : b1 (takeT (r1 s)).2.1 = 0) : Calls Try.prog 17 #[.string s] w fun e w' => e = .returned (.tuple #[.agg #[.int .i64 (ofO s).1.kind, .string (ofO s).1.key, .string (ofO s).1.hi, .bool (ofO s).1.opn, .string (ofO s).1.val, .int .i64 (ofO s).1.limit], .bool (ofO s).2]) ∧ Below w.heap.size w w' := by
  have hof : ofO s = fin ⟨b1 s, (takeT (r1 s)).1, (takeT (r1 (takeT (r1 s)).2.1)).1, false, em, b1 ((takeT (r1 (takeT (r1 s)).2.1)).2.1)⟩ (r1 ((takeT (r1 (takeT (r1 s)).2.1)).2.1)) (((((true && !decide (s.size = 0)) && (takeT (r1 s)).2.2) && !decide ((takeT (r1 s)).2.1.size = 0)) && (takeT (r1 (takeT (r1 s)).2.1)).2.2) && !decide (((takeT (r1 (takeT (r1 s)).2.1)).2.1).size = 0)) := by unfold ofO; simp [hk, hb]
  have z1 : (r1 s).size ≤ 1000000 := size_r1 hs
  have zk : (takeT (r1 s)).1.size ≤ 1000000 := size_tk1 z1
  have z2 : (takeT (r1 s)).2.1.size ≤ 1000000 := size_tk2 z1
  have z3 : (r1 (takeT (r1 s)).2.1).size ≤ 1000000 := size_r1 z2
  have z4 : (takeT (r1 (takeT (r1 s)).2.1)).2.1.size ≤ 1000000 := size_tk2 z3
  have cV := fun W => op_valuedB ⟨b1 s, (takeT (r1 s)).1, em, false, em, 0⟩ W false (by simp [valuedO, hk, hb])
  have cR := fun W => op_rangedB ⟨b1 s, (takeT (r1 s)).1, em, false, em, 0⟩ W true (by simp [rangedO, hk, hb])
  have q0 : (b1 (takeT (r1 s)).2.1 == 0) = true := by simp [hb]
  have q1 : (b1 (takeT (r1 s)).2.1 == 1) = false := by simp [hb]
  have q6 : (b1 s == 6) = true := by simp [hk]
  have c1 := fun b M' => op_byte1 b s true M' hs
  have c2 := fun b M' => op_text b (r1 s) (true && !decide (s.size = 0)) M' z1
  have c3 := fun b M' => op_byte1 b ((takeT (r1 s)).2.1) ((true && !decide (s.size = 0)) && (takeT (r1 s)).2.2) M' z2
  have c4 := fun b M' => op_text b (r1 (takeT (r1 s)).2.1) (((true && !decide (s.size = 0)) && (takeT (r1 s)).2.2) && !decide ((takeT (r1 s)).2.1.size = 0)) M' z3
  have c5 := fun b M' => op_byte1 b ((takeT (r1 (takeT (r1 s)).2.1)).2.1) ((((true && !decide (s.size = 0)) && (takeT (r1 s)).2.2) && !decide ((takeT (r1 s)).2.1.size = 0)) && (takeT (r1 (takeT (r1 s)).2.1)).2.2) M' z4
  have cO := fun b W hr => op_RightB ⟨b1 s, (takeT (r1 s)).1, (takeT (r1 (takeT (r1 s)).2.1)).1, false, em, b1 ((takeT (r1 (takeT (r1 s)).2.1)).2.1)⟩ W zk b hr
  clear zk z1 z2 z3 z4 q0 q1 q6
  generalize ofO s = R at *
  generalize b1 s = kd at *
  subst hk
  generalize r1 s = s1 at *
  generalize (true && !decide (s.size = 0)) = k1 at *
  generalize takeT s1 = p1 at *
  obtain ⟨x1, s2, a1⟩ := p1
  dsimp only at *
  generalize (k1 && a1) = k2 at *
  generalize b1 s2 = c at *
  subst hb
  generalize r1 s2 = s3 at *
  generalize (k2 && !decide (s2.size = 0)) = k3 at *
  generalize takeT s3 = p2 at *
  obtain ⟨x2, s4, a2⟩ := p2
  dsimp only at *
  generalize (k3 && a2) = k4 at *
  generalize b1 s4 = lim at *
  generalize r1 s4 = s5 at *
  generalize (k4 && !decide (s4.size = 0)) = k5 at *
  cases hr : rightO ⟨6, x1, x2, false, em, lim⟩
  all_goals
    have cR2 := fun W => cO _ W hr
    refine V_flat (args := [.string s]) (M := Mem.no) Try.func17 rfl Try.ntmps17 (by rfl) (Mem.no_le _) ?_
    repeat' (first
      | refine VC_seq ?_
      | refine VC_region ?_
      | refine VL_nil ?_
      | refine VC_ret ?_
      | refine VC_exit ?_
      | refine VC_block ?_
      | refine VC_skip ?_
      | refine kbox ?_
      | refine kall ?_
      | refine kst ?_
      | refine ksN ?_
      | refine klt ?_
      | refine kl1 ?_
      | refine klK ?_
      | refine kap ?_
      | ((first | apply VL_q | apply VG_q | apply VS_q2); (first | exact qi0 (by rfl) | exact qi1 (by rfl) | exact qwd (by rfl) | exact qnr (by rfl) | exact qni (by rfl) | exact qmv (by rfl) | exact qas (by rfl) | exact ql1 (by rfl) | exact qlA (by rfl) | exact qfa (by rfl) | exact qmf (by rfl) | exact qfd (by rfl) | exact qm1 (by rfl) | exact qbd (by rfl) | exact qno (by rfl) | exact qex (by rfl) | exact qln (by rfl) | exact qls (by rfl) | exact qlr (by rfl) | exact qpt (by rfl) | exact qpf (by rfl) | exact qcp (by rfl) | exact qbe (by rfl) | exact qbn (by rfl) | exact qsn (by rfl) | exact qad (by rfl) | exact qsa (by rfl) | exact qsu (by rfl) | exact QS_bin (by rfl) (by rfl) (by first | exact B_slnil | exact Bq_eql_Pair | exact Bq_neq_Pair | exact Bq_eql_Op | exact Bq_neq_Op | exact Bq_eql_Cfg | exact Bq_neq_Cfg)); rfl)
      | refine sst ?_
      | refine VS_nil ?_
      | refine eeq ?_
      | refine ees ?_ (by first | exact es1 (by rfl) | exact esN (by rfl))
      | refine VE_nil ?_
      | refine kyes ?_
      | refine kno ?_
      | refine gyes ?_
      | refine gno ?_
      | refine knoU ?_
      | refine gnoU ?_
      | refine VG_nil ⟨by rfl, ?_⟩
      | refine VG_nil ?_
      | refine dT ?_
      | refine d1 ?_
      | refine dQ ?_
      | refine ctr ?_
      | refine cfa ?_
      | refine kdec (fun hq => ?_) (fun hq => ?_)
      | refine gdec (fun hq => ?_) (fun hq => ?_)
      | refine cco (fun hq => ?_) (fun hq => ?_))
    refine VL_nameB 1 (by rfl) (fun b => ?_)
    refine VL_callX (own1 := [.nblk (.pointer (some ⟨b, 0, none⟩)) 111 (tkC (s) (true))]) [1] (by rfl) (by rfl) ⟨rfl, trivial⟩ (fun M' _ => c1 b M') (by rfl) (by rfl) ?_
    rintro _ _ ⟨rfl, rfl⟩
    repeat' (first
      | refine VC_seq ?_
      | refine VC_region ?_
      | refine VL_nil ?_
      | refine VC_ret ?_
      | refine VC_exit ?_
      | refine VC_block ?_
      | refine VC_skip ?_
      | refine kbox ?_
      | refine kall ?_
      | refine kst ?_
      | refine ksN ?_
      | refine klt ?_
      | refine kl1 ?_
      | refine klK ?_
      | refine kap ?_
      | ((first | apply VL_q | apply VG_q | apply VS_q2); (first | exact qi0 (by rfl) | exact qi1 (by rfl) | exact qwd (by rfl) | exact qnr (by rfl) | exact qni (by rfl) | exact qmv (by rfl) | exact qas (by rfl) | exact ql1 (by rfl) | exact qlA (by rfl) | exact qfa (by rfl) | exact qmf (by rfl) | exact qfd (by rfl) | exact qm1 (by rfl) | exact qbd (by rfl) | exact qno (by rfl) | exact qex (by rfl) | exact qln (by rfl) | exact qls (by rfl) | exact qlr (by rfl) | exact qpt (by rfl) | exact qpf (by rfl) | exact qcp (by rfl) | exact qbe (by rfl) | exact qbn (by rfl) | exact qsn (by rfl) | exact qad (by rfl) | exact qsa (by rfl) | exact qsu (by rfl) | exact QS_bin (by rfl) (by rfl) (by first | exact B_slnil | exact Bq_eql_Pair | exact Bq_neq_Pair | exact Bq_eql_Op | exact Bq_neq_Op | exact Bq_eql_Cfg | exact Bq_neq_Cfg)); rfl)
      | refine sst ?_
      | refine VS_nil ?_
      | refine eeq ?_
      | refine ees ?_ (by first | exact es1 (by rfl) | exact esN (by rfl))
      | refine VE_nil ?_
      | refine kyes ?_
      | refine kno ?_
      | refine gyes ?_
      | refine gno ?_
      | refine knoU ?_
      | refine gnoU ?_
      | refine VG_nil ⟨by rfl, ?_⟩
      | refine VG_nil ?_
      | refine dT ?_
      | refine d1 ?_
      | refine dQ ?_
      | refine ctr ?_
      | refine cfa ?_
      | refine kdec (fun hq => ?_) (fun hq => ?_)
      | refine gdec (fun hq => ?_) (fun hq => ?_)
      | refine cco (fun hq => ?_) (fun hq => ?_))
    refine VL_callX (own1 := [.nblk (.pointer (some ⟨b, 0, none⟩)) 111 (tkC (s1) (k1))]) [2] (by rfl) (by rfl) ⟨rfl, trivial⟩ (fun M' _ => c2 b M') (by rfl) (by rfl) ?_
    rintro _ _ ⟨rfl, rfl⟩
    refine VL_sub [0, 4, 3] ⟨_, [.blk 30 [.int .i64 0, .string ⟨#[]⟩, .string ⟨#[]⟩, .bool false, .string ⟨#[]⟩, .int .i64 0], .nblk (.pointer (some ⟨b, 0, none⟩)) 111 (tkC (s2) (k2)), .blk 30 [.int .i64 6, .string em, .string em, .bool false, .string em, .int .i64 0]], [(13, .v (.string x1)), (4, .v (.pointer (some ⟨b, 0, none⟩))), (5, .p 2 0), (2, .p 0 0)]⟩ ⟨rfl, rfl, ⟨rfl, rfl, rfl, trivial⟩, ⟨rfl, rfl, rfl, rfl, trivial⟩⟩ ?_
    repeat' (first
      | refine VC_seq ?_
      | refine VC_region ?_
      | refine VL_nil ?_
      | refine VC_ret ?_
      | refine VC_exit ?_
      | refine VC_block ?_
      | refine VC_skip ?_
      | refine kbox ?_
      | refine kall ?_
      | refine kst ?_
      | refine ksN ?_
      | refine klt ?_
      | refine kl1 ?_
      | refine klK ?_
      | refine kap ?_
      | ((first | apply VL_q | apply VG_q | apply VS_q2); (first | exact qi0 (by rfl) | exact qi1 (by rfl) | exact qwd (by rfl) | exact qnr (by rfl) | exact qni (by rfl) | exact QS_call (by rfl) (fun W _ => cV W) | exact QS_call (by rfl) (fun W _ => cR W) | exact qmv (by rfl) | exact qas (by rfl) | exact ql1 (by rfl) | exact qlA (by rfl) | exact qfa (by rfl) | exact qmf (by rfl) | exact qfd (by rfl) | exact qm1 (by rfl) | exact qbd (by rfl) | exact qno (by rfl) | exact qex (by rfl) | exact qln (by rfl) | exact qls (by rfl) | exact qlr (by rfl) | exact qpt (by rfl) | exact qpf (by rfl) | exact qcp (by rfl) | exact qbe (by rfl) | exact qbn (by rfl) | exact qsn (by rfl) | exact qad (by rfl) | exact qsa (by rfl) | exact qsu (by rfl) | exact QS_bin (by rfl) (by rfl) (by first | exact B_slnil | exact Bq_eql_Pair | exact Bq_neq_Pair | exact Bq_eql_Op | exact Bq_neq_Op | exact Bq_eql_Cfg | exact Bq_neq_Cfg)); rfl)
      | refine sst ?_
      | refine VS_nil ?_
      | refine eeq ?_
      | refine ees ?_ (by first | exact es1 (by rfl) | exact esN (by rfl))
      | refine VE_nil ?_
      | refine kyes ?_
      | refine kno ?_
      | refine gyes ?_
      | refine gno ?_
      | refine knoU ?_
      | refine gnoU ?_
      | refine VG_nil ⟨by rfl, ?_⟩
      | refine VG_nil ?_
      | refine dT ?_
      | refine d1 ?_
      | refine dQ ?_
      | refine ctr ?_
      | refine cfa ?_
      | refine kdec (fun hq => ?_) (fun hq => ?_)
      | refine gdec (fun hq => ?_) (fun hq => ?_)
      | refine cco (fun hq => ?_) (fun hq => ?_))
    refine VL_callX (own1 := [.nblk (.pointer (some ⟨b, 0, none⟩)) 111 (tkC (s2) (k2))]) [1] (by rfl) (by rfl) ⟨rfl, trivial⟩ (fun M' _ => c3 b M') (by rfl) (by rfl) ?_
    rintro _ _ ⟨rfl, rfl⟩
    refine VL_sub [0, 3, 2] ⟨_, [.blk 30 [.int .i64 0, .string ⟨#[]⟩, .string ⟨#[]⟩, .bool false, .string ⟨#[]⟩, .int .i64 0], .nblk (.pointer (some ⟨b, 0, none⟩)) 111 (tkC (s3) (k3)), .blk 30 [.int .i64 6, .string x1, .string em, .bool false, .string em, .int .i64 0]], [(23, .v (.int .i64 0)), (4, .v (.pointer (some ⟨b, 0, none⟩))), (5, .p 2 0), (2, .p 0 0)]⟩ ⟨rfl, rfl, ⟨rfl, rfl, rfl, trivial⟩, ⟨rfl, rfl, rfl, rfl, trivial⟩⟩ ?_
    repeat' (first
      | refine VC_seq ?_
      | refine VC_region ?_
      | refine VL_nil ?_
      | refine VC_ret ?_
      | refine VC_exit ?_
      | refine VC_block ?_
      | refine VC_skip ?_
      | refine kbox ?_
      | refine kall ?_
      | refine kst ?_
      | refine ksN ?_
      | refine klt ?_
      | refine kl1 ?_
      | refine klK ?_
      | refine kap ?_
      | ((first | apply VL_q | apply VG_q | apply VS_q2); (first | exact qi0 (by rfl) | exact qi1 (by rfl) | exact qwd (by rfl) | exact qnr (by rfl) | exact qni (by rfl) | exact QS_call (by rfl) (fun W _ => cV W) | exact QS_call (by rfl) (fun W _ => cR W) | exact qmv (by rfl) | exact qas (by rfl) | exact ql1 (by rfl) | exact qlA (by rfl) | exact qfa (by rfl) | exact qmf (by rfl) | exact qfd (by rfl) | exact qm1 (by rfl) | exact qbd (by rfl) | exact qno (by rfl) | exact qex (by rfl) | exact qln (by rfl) | exact qls (by rfl) | exact qlr (by rfl) | exact qpt (by rfl) | exact qpf (by rfl) | exact qcp (by rfl) | exact qbe (by rfl) | exact qbn (by rfl) | exact qsn (by rfl) | exact qad (by rfl) | exact qsa (by rfl) | exact qsu (by rfl) | exact QS_bin (by rfl) (by rfl) (by first | exact B_slnil | exact Bq_eql_Pair | exact Bq_neq_Pair | exact Bq_eql_Op | exact Bq_neq_Op | exact Bq_eql_Cfg | exact Bq_neq_Cfg)); rfl)
      | refine sst ?_
      | refine VS_nil ?_
      | refine eeq ?_
      | refine ees ?_ (by first | exact es1 (by rfl) | exact esN (by rfl))
      | refine VE_nil ?_
      | refine kyes ?_
      | refine kno ?_
      | refine gyes ?_
      | refine gno ?_
      | refine knoU ?_
      | refine gnoU ?_
      | refine VG_nil ⟨by rfl, ?_⟩
      | refine VG_nil ?_
      | refine dT ?_
      | refine d1 ?_
      | refine dQ ?_
      | refine ctr ?_
      | refine cfa ?_
      | refine kdec (fun hq => ?_) (fun hq => ?_)
      | refine gdec (fun hq => ?_) (fun hq => ?_)
      | refine cco (fun hq => ?_) (fun hq => ?_))
    refine VL_callX (own1 := [.nblk (.pointer (some ⟨b, 0, none⟩)) 111 (tkC (s3) (k3))]) [1] (by rfl) (by rfl) ⟨rfl, trivial⟩ (fun M' _ => c4 b M') (by rfl) (by rfl) ?_
    rintro _ _ ⟨rfl, rfl⟩
    refine VL_sub [0, 3, 2] ⟨_, [.blk 30 [.int .i64 0, .string ⟨#[]⟩, .string ⟨#[]⟩, .bool false, .string ⟨#[]⟩, .int .i64 0], .nblk (.pointer (some ⟨b, 0, none⟩)) 111 (tkC (s4) (k4)), .blk 30 [.int .i64 6, .string x1, .string em, .bool false, .string em, .int .i64 0]], [(30, .v (.string x2)), (4, .v (.pointer (some ⟨b, 0, none⟩))), (5, .p 2 0), (2, .p 0 0)]⟩ ⟨rfl, rfl, ⟨rfl, rfl, rfl, trivial⟩, ⟨rfl, rfl, rfl, rfl, trivial⟩⟩ ?_
    repeat' (first
      | refine VC_seq ?_
      | refine VC_region ?_
      | refine VL_nil ?_
      | refine VC_ret ?_
      | refine VC_exit ?_
      | refine VC_block ?_
      | refine VC_skip ?_
      | refine kbox ?_
      | refine kall ?_
      | refine kst ?_
      | refine ksN ?_
      | refine klt ?_
      | refine kl1 ?_
      | refine klK ?_
      | refine kap ?_
      | ((first | apply VL_q | apply VG_q | apply VS_q2); (first | exact qi0 (by rfl) | exact qi1 (by rfl) | exact qwd (by rfl) | exact qnr (by rfl) | exact qni (by rfl) | exact QS_call (by rfl) (fun W _ => cV W) | exact QS_call (by rfl) (fun W _ => cR W) | exact qmv (by rfl) | exact qas (by rfl) | exact ql1 (by rfl) | exact qlA (by rfl) | exact qfa (by rfl) | exact qmf (by rfl) | exact qfd (by rfl) | exact qm1 (by rfl) | exact qbd (by rfl) | exact qno (by rfl) | exact qex (by rfl) | exact qln (by rfl) | exact qls (by rfl) | exact qlr (by rfl) | exact qpt (by rfl) | exact qpf (by rfl) | exact qcp (by rfl) | exact qbe (by rfl) | exact qbn (by rfl) | exact qsn (by rfl) | exact qad (by rfl) | exact qsa (by rfl) | exact qsu (by rfl) | exact QS_bin (by rfl) (by rfl) (by first | exact B_slnil | exact Bq_eql_Pair | exact Bq_neq_Pair | exact Bq_eql_Op | exact Bq_neq_Op | exact Bq_eql_Cfg | exact Bq_neq_Cfg)); rfl)
      | refine sst ?_
      | refine VS_nil ?_
      | refine eeq ?_
      | refine ees ?_ (by first | exact es1 (by rfl) | exact esN (by rfl))
      | refine VE_nil ?_
      | refine kyes ?_
      | refine kno ?_
      | refine gyes ?_
      | refine gno ?_
      | refine knoU ?_
      | refine gnoU ?_
      | refine VG_nil ⟨by rfl, ?_⟩
      | refine VG_nil ?_
      | refine dT ?_
      | refine d1 ?_
      | refine dQ ?_
      | refine ctr ?_
      | refine cfa ?_
      | refine kdec (fun hq => ?_) (fun hq => ?_)
      | refine gdec (fun hq => ?_) (fun hq => ?_)
      | refine cco (fun hq => ?_) (fun hq => ?_))
    refine VL_callX (own1 := [.nblk (.pointer (some ⟨b, 0, none⟩)) 111 (tkC (s4) (k4))]) [1] (by rfl) (by rfl) ⟨rfl, trivial⟩ (fun M' _ => c5 b M') (by rfl) (by rfl) ?_
    rintro _ _ ⟨rfl, rfl⟩
    refine VL_sub [0, 3, 2] ⟨_, [.blk 30 [.int .i64 0, .string ⟨#[]⟩, .string ⟨#[]⟩, .bool false, .string ⟨#[]⟩, .int .i64 0], .nblk (.pointer (some ⟨b, 0, none⟩)) 111 (tkC (s5) (k5)), .blk 30 [.int .i64 6, .string x1, .string x2, .bool false, .string em, .int .i64 0]], [(39, .v (.int .i64 lim)), (4, .v (.pointer (some ⟨b, 0, none⟩))), (5, .p 2 0), (2, .p 0 0)]⟩ ⟨rfl, rfl, ⟨rfl, rfl, rfl, trivial⟩, ⟨rfl, rfl, rfl, rfl, trivial⟩⟩ ?_
    repeat' (first
      | refine VC_seq ?_
      | refine VC_region ?_
      | refine VL_nil ?_
      | refine VC_ret ?_
      | refine VC_exit ?_
      | refine VC_block ?_
      | refine VC_skip ?_
      | refine kbox ?_
      | refine kall ?_
      | refine kst ?_
      | refine ksN ?_
      | refine klt ?_
      | refine kl1 ?_
      | refine klK ?_
      | refine kap ?_
      | ((first | apply VL_q | apply VG_q | apply VS_q2); (first | exact qi0 (by rfl) | exact qi1 (by rfl) | exact qwd (by rfl) | exact qnr (by rfl) | exact qni (by rfl) | exact QS_nload1 1 (by rfl) (by rfl) (by rfl) (by rfl) | exact QS_call (by rfl) (fun W _ => cV W) | exact QS_call (by rfl) (fun W _ => cR W) | exact QS_call (by rfl) (fun W _ => cR2 W) | exact qmv (by rfl) | exact qas (by rfl) | exact ql1 (by rfl) | exact qlA (by rfl) | exact qfa (by rfl) | exact qmf (by rfl) | exact qfd (by rfl) | exact qm1 (by rfl) | exact qbd (by rfl) | exact qno (by rfl) | exact qex (by rfl) | exact qln (by rfl) | exact qls (by rfl) | exact qlr (by rfl) | exact qpt (by rfl) | exact qpf (by rfl) | exact qcp (by rfl) | exact qbe (by rfl) | exact qbn (by rfl) | exact qsn (by rfl) | exact qad (by rfl) | exact qsa (by rfl) | exact qsu (by rfl) | exact QS_bin (by rfl) (by rfl) (by first | exact B_slnil | exact Bq_eql_Pair | exact Bq_neq_Pair | exact Bq_eql_Op | exact Bq_neq_Op | exact Bq_eql_Cfg | exact Bq_neq_Cfg)); rfl)
      | refine sst ?_
      | refine VS_nil ?_
      | refine eeq ?_
      | refine ees ?_ (by first | exact es1 (by rfl) | exact esN (by rfl))
      | refine VE_nil ?_
      | refine kyes ?_
      | refine kno ?_
      | refine gyes ?_
      | refine gno ?_
      | refine knoU ?_
      | refine gnoU ?_
      | refine VG_nil ⟨by rfl, ?_⟩
      | refine VG_nil ?_
      | refine dT ?_
      | refine d1 ?_
      | refine dQ ?_
      | refine ctr ?_
      | refine cfa ?_
      | refine kdec (fun hq => ?_) (fun hq => ?_)
      | refine gdec (fun hq => ?_) (fun hq => ?_)
      | refine cco (fun hq => ?_) (fun hq => ?_))
    all_goals
      show Res _ _ _ _
      refine Res.two (by rfl) (ResV_agg (by rfl) (by rfl) _ (by rfl) ?_) (ResV_tmp (by rfl) ?_)
      all_goals
        rw [hof]
        unfold fin
        split <;> simp_all [em_dec, opE, Ob.cells, sets, e_mk, e_em]
end Go.Proofs.Ytdgcdfngpimmmaa
