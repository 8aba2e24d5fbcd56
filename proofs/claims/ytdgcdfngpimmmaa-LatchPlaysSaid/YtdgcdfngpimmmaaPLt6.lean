/- The latch layer: the chapter's example: walk. -/
import Derived.Test.YtdgcdfngpimmmaaPLt5
namespace Go.Proofs.Ytdgcdfngpimmmaa
open Go Go.RowKit
attribute [local irreducible] Calls
set_option linter.unusedVariables false
set_option maxRecDepth 20000
set_option linter.unusedSimpArgs false
set_option maxHeartbeats 4000000
theorem asc0 : Asc [] := fun i j hi => by simp at hi
theorem asc1 (a : Int) : Asc [a] := fun i j hi hj h => by simp at hi hj; omega
theorem asc2 (a b : Int) (h : a < b) : Asc [a, b] := fun i j hi hj hij => by
  have h0 : i = 0 := by simp at hi hj; omega
  have h1 : j = 1 := by simp at hi hj; omega
  subst h0 h1
  exact h
theorem latch_awake (w : World) : Calls Try.prog 40 #[] w fun e w' => e = .returned (.bool true) ∧ Below w.heap.size w w' := by
  refine V_flat (args := []) (M := Mem.of w) Try.func40 rfl Try.ntmps40 (by rfl) (Mem.le_refl _) ?_
  repeat' (first
    | refine VC_seq ?_
    | refine VC_region ?_
    | refine VL_nil ?_
    | refine VC_ret ?_
    | refine VC_exit ?_
    | refine VC_block ?_
    | refine VC_skip ?_
    | refine kbox ?_
    | refine kall ?_
    | refine kst ?_
    | refine ksN ?_
    | refine klt ?_
    | refine kl1 ?_
    | refine klK ?_
    | refine kap ?_
    | ((first | apply VL_q | apply VG_q | apply VS_q2); (first  | exact qmv (by rfl) | exact qas (by rfl) | exact ql1 (by rfl) | exact qlA (by rfl) | exact qfa (by rfl) | exact qmf (by rfl) | exact qfd (by rfl) | exact qm1 (by rfl) | exact qbd (by rfl) | exact qno (by rfl) | exact qex (by rfl) | exact qln (by rfl) | exact qls (by rfl) | exact qlr (by rfl) | exact qpt (by rfl) | exact qpf (by rfl) | exact qcp (by rfl) | exact qbe (by rfl) | exact qbn (by rfl) | exact qsn (by rfl) | exact qad (by rfl) | exact qsa (by rfl) | exact qsu (by rfl) | exact QS_bin (by rfl) (by rfl) (by first | exact B_slnil | exact Bq_eql_Msg | exact Bq_neq_Msg | exact Bq_eql_Pair | exact Bq_neq_Pair | exact Bq_eql_Op | exact Bq_neq_Op | exact Bq_eql_Cfg | exact Bq_neq_Cfg)); rfl)
    | refine sst ?_
    | refine VS_nil ?_
    | refine eeq ?_
    | refine ees ?_ (by first | exact es1 (by rfl) | exact esN (by rfl))
    | refine VE_nil ?_
    | refine kyes ?_
    | refine kno ?_
    | refine gyes ?_
    | refine gno ?_
    | refine knoU ?_
    | refine gnoU ?_
    | refine VG_nil ⟨by rfl, ?_⟩
    | refine VG_nil ?_
    | refine dT ?_
    | refine d1 ?_
    | refine dQ ?_
    | refine ctr ?_
    | refine cfa ?_
    | refine kdec (fun hq => ?_) (fun hq => ?_)
    | refine gdec (fun hq => ?_) (fun hq => ?_)
    | refine cco (fun hq => ?_) (fun hq => ?_))
  refine VL_callX (own1 := []) [] (by rfl) (by rfl) trivial (fun M' _ => latch_New 2 M') (by rfl) (by rfl) ?_
  rintro _ _ (⟨m, b, g, c, hm, _, _, rfl, rfl⟩ | ⟨h, _, _⟩)
  rotate_left
  · omega
  obtain rfl : m = 2 := by omega
  refine VL_nil0 3 1 (by rfl) ?_
  refine VL_nil0 3 1 (by rfl) ?_
  repeat' (first
    | refine VC_seq ?_
    | refine VC_region ?_
    | refine VL_nil ?_
    | refine VC_ret ?_
    | refine VC_exit ?_
    | refine VC_block ?_
    | refine VC_skip ?_
    | refine kbox ?_
    | refine kall ?_
    | refine kst ?_
    | refine ksN ?_
    | refine klt ?_
    | refine kl1 ?_
    | refine klK ?_
    | refine kap ?_
    | ((first | apply VL_q | apply VG_q | apply VS_q2); (first  | exact qmv (by rfl) | exact qas (by rfl) | exact ql1 (by rfl) | exact qlA (by rfl) | exact qfa (by rfl) | exact qmf (by rfl) | exact qfd (by rfl) | exact qm1 (by rfl) | exact qbd (by rfl) | exact qno (by rfl) | exact qex (by rfl) | exact qln (by rfl) | exact qls (by rfl) | exact qlr (by rfl) | exact qpt (by rfl) | exact qpf (by rfl) | exact qcp (by rfl) | exact qbe (by rfl) | exact qbn (by rfl) | exact qsn (by rfl) | exact qad (by rfl) | exact qsa (by rfl) | exact qsu (by rfl) | exact QS_bin (by rfl) (by rfl) (by first | exact B_slnil | exact Bq_eql_Msg | exact Bq_neq_Msg | exact Bq_eql_Pair | exact Bq_neq_Pair | exact Bq_eql_Op | exact Bq_neq_Op | exact Bq_eql_Cfg | exact Bq_neq_Cfg)); rfl)
    | refine sst ?_
    | refine VS_nil ?_
    | refine eeq ?_
    | refine ees ?_ (by first | exact es1 (by rfl) | exact esN (by rfl))
    | refine VE_nil ?_
    | refine kyes ?_
    | refine kno ?_
    | refine gyes ?_
    | refine gno ?_
    | refine knoU ?_
    | refine gnoU ?_
    | refine VG_nil ⟨by rfl, ?_⟩
    | refine VG_nil ?_
    | refine dT ?_
    | refine d1 ?_
    | refine dQ ?_
    | refine ctr ?_
    | refine cfa ?_
    | refine kdec (fun hq => ?_) (fun hq => ?_)
    | refine gdec (fun hq => ?_) (fun hq => ?_)
    | refine cco (fun hq => ?_) (fun hq => ?_))
  have e1 : tkR 0 [] 0 1 = (0, [0], 1) := by decide
  have c1 : ∀ M', CallX Try.prog 41 [.pointer (some ⟨b, 0, none⟩), .int .i64 0, .int .i64 (1 : Nat)] M' (slOb b g c 2 [.slice none 0 0, .int .i64 0, .slice none 0 0, .int .i64 0] (.slice none 0 0) []) (SlPost b g c 2 1 [.slice none 0 0, .int .i64 0, .slice none 0 0, .int .i64 0] (0, [0], 1)) := fun M' => by
    rw [← e1]
    exact latch_Read b g c 2 1 [.slice none 0 0, .int .i64 0, .slice none 0 0, .int .i64 0] (.slice none 0 0) [] 0 0 M' (by omega) (by omega) rfl rfl rfl asc0 (by decide) (.inl ⟨rfl, rfl⟩)
  refine VL_callX (own1 := slOb b g c 2 [.slice none 0 0, .int .i64 0, .slice none 0 0, .int .i64 0] (.slice none 0 0) []) [0, 1, 3] (by rfl) (by rfl) ⟨rfl, rfl, rfl, trivial⟩ (fun M' _ => c1 M') (by rfl) (by rfl) ?_
  rintro _ _ ⟨rfl, u1, h1, rfl⟩
  refine VL_sub [4, 5, 2, 6] ⟨Mem.of w, [.nblk (.pointer (some ⟨b, 0, none⟩)) 154 (tbC g 2 c), .nrow (.slice (some ⟨g, 0, none⟩) 2 c) 160 2 2 [.slice none 0 0, .int .i64 0, u1, .int .i64 1], .nrow (.slice none 0 0) 3 1 0 [], .nrow u1 3 1 1 (ic [0])], [(1, .v (.pointer (some ⟨b, 0, none⟩))), (2, .v (.int .i64 0)), (15, .v (.int .i64 0))]⟩ ⟨rfl, rfl, ⟨rfl, rfl, rfl, rfl, trivial⟩, ⟨rfl, rfl, rfl, trivial⟩⟩ ?_
  repeat' (first
    | refine VC_seq ?_
    | refine VC_region ?_
    | refine VL_nil ?_
    | refine VC_ret ?_
    | refine VC_exit ?_
    | refine VC_block ?_
    | refine VC_skip ?_
    | refine kbox ?_
    | refine kall ?_
    | refine kst ?_
    | refine ksN ?_
    | refine klt ?_
    | refine kl1 ?_
    | refine klK ?_
    | refine kap ?_
    | ((first | apply VL_q | apply VG_q | apply VS_q2); (first  | exact qmv (by rfl) | exact qas (by rfl) | exact ql1 (by rfl) | exact qlA (by rfl) | exact qfa (by rfl) | exact qmf (by rfl) | exact qfd (by rfl) | exact qm1 (by rfl) | exact qbd (by rfl) | exact qno (by rfl) | exact qex (by rfl) | exact qln (by rfl) | exact qls (by rfl) | exact qlr (by rfl) | exact qpt (by rfl) | exact qpf (by rfl) | exact qcp (by rfl) | exact qbe (by rfl) | exact qbn (by rfl) | exact qsn (by rfl) | exact qad (by rfl) | exact qsa (by rfl) | exact qsu (by rfl) | exact QS_bin (by rfl) (by rfl) (by first | exact B_slnil | exact Bq_eql_Msg | exact Bq_neq_Msg | exact Bq_eql_Pair | exact Bq_neq_Pair | exact Bq_eql_Op | exact Bq_neq_Op | exact Bq_eql_Cfg | exact Bq_neq_Cfg)); rfl)
    | refine sst ?_
    | refine VS_nil ?_
    | refine eeq ?_
    | refine ees ?_ (by first | exact es1 (by rfl) | exact esN (by rfl))
    | refine VE_nil ?_
    | refine kyes ?_
    | refine kno ?_
    | refine gyes ?_
    | refine gno ?_
    | refine knoU ?_
    | refine gnoU ?_
    | refine VG_nil ⟨by rfl, ?_⟩
    | refine VG_nil ?_
    | refine dT ?_
    | refine d1 ?_
    | refine dQ ?_
    | refine ctr ?_
    | refine cfa ?_
    | refine kdec (fun hq => ?_) (fun hq => ?_)
    | refine gdec (fun hq => ?_) (fun hq => ?_)
    | refine cco (fun hq => ?_) (fun hq => ?_))
  have e2 : tkR 1 [0] 1 1 = (0, [0, 1], 1) := by decide
  have c2 : ∀ M', CallX Try.prog 41 [.pointer (some ⟨b, 0, none⟩), .int .i64 1, .int .i64 (1 : Nat)] M' (slOb b g c 2 [.slice none 0 0, .int .i64 0, u1, .int .i64 1] u1 [0]) (SlPost b g c 2 1 [.slice none 0 0, .int .i64 0, u1, .int .i64 1] (0, [0, 1], 1)) := fun M' => by
    rw [← e2]
    exact latch_Read b g c 2 1 [.slice none 0 0, .int .i64 0, u1, .int .i64 1] u1 [0] 1 1 M' (by omega) (by omega) rfl rfl rfl (asc1 0) (by decide) h1
  refine VL_callX (own1 := slOb b g c 2 [.slice none 0 0, .int .i64 0, u1, .int .i64 1] u1 [0]) [0, 1, 3] (by rfl) (by rfl) ⟨rfl, rfl, rfl, trivial⟩ (fun M' _ => c2 M') (by rfl) (by rfl) ?_
  rintro _ _ ⟨rfl, u2, h2, rfl⟩
  refine VL_sub [4, 5, 2, 6] ⟨Mem.of w, [.nblk (.pointer (some ⟨b, 0, none⟩)) 154 (tbC g 2 c), .nrow (.slice (some ⟨g, 0, none⟩) 2 c) 160 2 2 [.slice none 0 0, .int .i64 0, u2, .int .i64 1], .nrow (.slice none 0 0) 3 1 0 [], .nrow u2 3 1 2 (ic [0, 1])], [(1, .v (.pointer (some ⟨b, 0, none⟩))), (2, .v (.int .i64 0)), (15, .v (.int .i64 0)), (17, .v (.int .i64 0))]⟩ ⟨rfl, rfl, ⟨rfl, rfl, rfl, rfl, trivial⟩, ⟨rfl, rfl, rfl, rfl, trivial⟩⟩ ?_
  repeat' (first
    | refine VC_seq ?_
    | refine VC_region ?_
    | refine VL_nil ?_
    | refine VC_ret ?_
    | refine VC_exit ?_
    | refine VC_block ?_
    | refine VC_skip ?_
    | refine kbox ?_
    | refine kall ?_
    | refine kst ?_
    | refine ksN ?_
    | refine klt ?_
    | refine kl1 ?_
    | refine klK ?_
    | refine kap ?_
    | ((first | apply VL_q | apply VG_q | apply VS_q2); (first  | exact qmv (by rfl) | exact qas (by rfl) | exact ql1 (by rfl) | exact qlA (by rfl) | exact qfa (by rfl) | exact qmf (by rfl) | exact qfd (by rfl) | exact qm1 (by rfl) | exact qbd (by rfl) | exact qno (by rfl) | exact qex (by rfl) | exact qln (by rfl) | exact qls (by rfl) | exact qlr (by rfl) | exact qpt (by rfl) | exact qpf (by rfl) | exact qcp (by rfl) | exact qbe (by rfl) | exact qbn (by rfl) | exact qsn (by rfl) | exact qad (by rfl) | exact qsa (by rfl) | exact qsu (by rfl) | exact QS_bin (by rfl) (by rfl) (by first | exact B_slnil | exact Bq_eql_Msg | exact Bq_neq_Msg | exact Bq_eql_Pair | exact Bq_neq_Pair | exact Bq_eql_Op | exact Bq_neq_Op | exact Bq_eql_Cfg | exact Bq_neq_Cfg)); rfl)
    | refine sst ?_
    | refine VS_nil ?_
    | refine eeq ?_
    | refine ees ?_ (by first | exact es1 (by rfl) | exact esN (by rfl))
    | refine VE_nil ?_
    | refine kyes ?_
    | refine kno ?_
    | refine gyes ?_
    | refine gno ?_
    | refine knoU ?_
    | refine gnoU ?_
    | refine VG_nil ⟨by rfl, ?_⟩
    | refine VG_nil ?_
    | refine dT ?_
    | refine d1 ?_
    | refine dQ ?_
    | refine ctr ?_
    | refine cfa ?_
    | refine kdec (fun hq => ?_) (fun hq => ?_)
    | refine gdec (fun hq => ?_) (fun hq => ?_)
    | refine cco (fun hq => ?_) (fun hq => ?_))
  have e3 : tkR 2 [0, 1] 1 2 = (7, [0, 1], 1) := by decide
  have c3 : ∀ M', CallX Try.prog 42 [.pointer (some ⟨b, 0, none⟩), .int .i64 2, .int .i64 (1 : Nat)] M' (slOb b g c 2 [.slice none 0 0, .int .i64 0, u2, .int .i64 1] u2 [0, 1]) (SlPost b g c 2 1 [.slice none 0 0, .int .i64 0, u2, .int .i64 1] (7, [0, 1], 1)) := fun M' => by
    rw [← e3]
    exact latch_Write b g c 2 1 [.slice none 0 0, .int .i64 0, u2, .int .i64 1] u2 [0, 1] 2 1 M' (by omega) (by omega) rfl rfl rfl (asc2 0 1 (by omega)) (by decide) h2
  refine VL_callX (own1 := slOb b g c 2 [.slice none 0 0, .int .i64 0, u2, .int .i64 1] u2 [0, 1]) [0, 1, 3] (by rfl) (by rfl) ⟨rfl, rfl, rfl, trivial⟩ (fun M' _ => c3 M') (by rfl) (by rfl) ?_
  rintro _ _ ⟨rfl, u3, h3, rfl⟩
  refine VL_sub [4, 5, 2, 6] ⟨Mem.of w, [.nblk (.pointer (some ⟨b, 0, none⟩)) 154 (tbC g 2 c), .nrow (.slice (some ⟨g, 0, none⟩) 2 c) 160 2 2 [.slice none 0 0, .int .i64 0, u3, .int .i64 1], .nrow (.slice none 0 0) 3 1 0 [], .nrow u3 3 1 2 (ic [0, 1])], [(1, .v (.pointer (some ⟨b, 0, none⟩))), (2, .v (.int .i64 0)), (15, .v (.int .i64 0)), (17, .v (.int .i64 0)), (19, .v (.int .i64 7))]⟩ ⟨rfl, rfl, ⟨rfl, rfl, rfl, rfl, trivial⟩, ⟨rfl, rfl, rfl, rfl, rfl, trivial⟩⟩ ?_
  repeat' (first
    | refine VC_seq ?_
    | refine VC_region ?_
    | refine VL_nil ?_
    | refine VC_ret ?_
    | refine VC_exit ?_
    | refine VC_block ?_
    | refine VC_skip ?_
    | refine kbox ?_
    | refine kall ?_
    | refine kst ?_
    | refine ksN ?_
    | refine klt ?_
    | refine kl1 ?_
    | refine klK ?_
    | refine kap ?_
    | ((first | apply VL_q | apply VG_q | apply VS_q2); (first  | exact qmv (by rfl) | exact qas (by rfl) | exact ql1 (by rfl) | exact qlA (by rfl) | exact qfa (by rfl) | exact qmf (by rfl) | exact qfd (by rfl) | exact qm1 (by rfl) | exact qbd (by rfl) | exact qno (by rfl) | exact qex (by rfl) | exact qln (by rfl) | exact qls (by rfl) | exact qlr (by rfl) | exact qpt (by rfl) | exact qpf (by rfl) | exact qcp (by rfl) | exact qbe (by rfl) | exact qbn (by rfl) | exact qsn (by rfl) | exact qad (by rfl) | exact qsa (by rfl) | exact qsu (by rfl) | exact QS_bin (by rfl) (by rfl) (by first | exact B_slnil | exact Bq_eql_Msg | exact Bq_neq_Msg | exact Bq_eql_Pair | exact Bq_neq_Pair | exact Bq_eql_Op | exact Bq_neq_Op | exact Bq_eql_Cfg | exact Bq_neq_Cfg)); rfl)
    | refine sst ?_
    | refine VS_nil ?_
    | refine eeq ?_
    | refine ees ?_ (by first | exact es1 (by rfl) | exact esN (by rfl))
    | refine VE_nil ?_
    | refine kyes ?_
    | refine kno ?_
    | refine gyes ?_
    | refine gno ?_
    | refine knoU ?_
    | refine gnoU ?_
    | refine VG_nil ⟨by rfl, ?_⟩
    | refine VG_nil ?_
    | refine dT ?_
    | refine d1 ?_
    | refine dQ ?_
    | refine ctr ?_
    | refine cfa ?_
    | refine kdec (fun hq => ?_) (fun hq => ?_)
    | refine gdec (fun hq => ?_) (fun hq => ?_)
    | refine cco (fun hq => ?_) (fun hq => ?_))
  have e4 : rlR 0 [0, 1] 1 = (0, [1], 1) := by decide
  have c4 : ∀ M', CallX Try.prog 45 [.pointer (some ⟨b, 0, none⟩), .int .i64 0, .int .i64 (1 : Nat)] M' (slOb b g c 2 [.slice none 0 0, .int .i64 0, u3, .int .i64 1] u3 [0, 1]) (SlPost b g c 2 1 [.slice none 0 0, .int .i64 0, u3, .int .i64 1] (0, [1], 1)) := fun M' => by
    rw [← e4]
    exact latch_Release b g c 2 1 [.slice none 0 0, .int .i64 0, u3, .int .i64 1] u3 [0, 1] 0 1 M' (by omega) (by omega) rfl rfl rfl (asc2 0 1 (by omega)) (by decide) h3
  refine VL_callX (own1 := slOb b g c 2 [.slice none 0 0, .int .i64 0, u3, .int .i64 1] u3 [0, 1]) [0, 1, 3] (by rfl) (by rfl) ⟨rfl, rfl, rfl, trivial⟩ (fun M' _ => c4 M') (by rfl) (by rfl) ?_
  rintro _ _ ⟨rfl, u4, h4, rfl⟩
  refine VL_sub [4, 5, 2, 6] ⟨Mem.of w, [.nblk (.pointer (some ⟨b, 0, none⟩)) 154 (tbC g 2 c), .nrow (.slice (some ⟨g, 0, none⟩) 2 c) 160 2 2 [.slice none 0 0, .int .i64 0, u4, .int .i64 1], .nrow (.slice none 0 0) 3 1 0 [], .nrow u4 3 1 1 (ic [1])], [(1, .v (.pointer (some ⟨b, 0, none⟩))), (2, .v (.int .i64 0)), (3, .v (.int .i64 0)), (4, .v (.int .i64 0)), (5, .v (.int .i64 7))]⟩ ⟨rfl, rfl, ⟨rfl, rfl, rfl, rfl, trivial⟩, ⟨rfl, rfl, rfl, rfl, rfl, trivial⟩⟩ ?_
  repeat' (first
    | refine VC_seq ?_
    | refine VC_region ?_
    | refine VL_nil ?_
    | refine VC_ret ?_
    | refine VC_exit ?_
    | refine VC_block ?_
    | refine VC_skip ?_
    | refine kbox ?_
    | refine kall ?_
    | refine kst ?_
    | refine ksN ?_
    | refine klt ?_
    | refine kl1 ?_
    | refine klK ?_
    | refine kap ?_
    | ((first | apply VL_q | apply VG_q | apply VS_q2); (first  | exact qmv (by rfl) | exact qas (by rfl) | exact ql1 (by rfl) | exact qlA (by rfl) | exact qfa (by rfl) | exact qmf (by rfl) | exact qfd (by rfl) | exact qm1 (by rfl) | exact qbd (by rfl) | exact qno (by rfl) | exact qex (by rfl) | exact qln (by rfl) | exact qls (by rfl) | exact qlr (by rfl) | exact qpt (by rfl) | exact qpf (by rfl) | exact qcp (by rfl) | exact qbe (by rfl) | exact qbn (by rfl) | exact qsn (by rfl) | exact qad (by rfl) | exact qsa (by rfl) | exact qsu (by rfl) | exact QS_bin (by rfl) (by rfl) (by first | exact B_slnil | exact Bq_eql_Msg | exact Bq_neq_Msg | exact Bq_eql_Pair | exact Bq_neq_Pair | exact Bq_eql_Op | exact Bq_neq_Op | exact Bq_eql_Cfg | exact Bq_neq_Cfg)); rfl)
    | refine sst ?_
    | refine VS_nil ?_
    | refine eeq ?_
    | refine ees ?_ (by first | exact es1 (by rfl) | exact esN (by rfl))
    | refine VE_nil ?_
    | refine kyes ?_
    | refine kno ?_
    | refine gyes ?_
    | refine gno ?_
    | refine knoU ?_
    | refine gnoU ?_
    | refine VG_nil ⟨by rfl, ?_⟩
    | refine VG_nil ?_
    | refine dT ?_
    | refine d1 ?_
    | refine dQ ?_
    | refine ctr ?_
    | refine cfa ?_
    | refine kdec (fun hq => ?_) (fun hq => ?_)
    | refine gdec (fun hq => ?_) (fun hq => ?_)
    | refine cco (fun hq => ?_) (fun hq => ?_))
  have e5 : tkR 2 [1] 1 2 = (7, [1], 1) := by decide
  have c5 : ∀ M', CallX Try.prog 42 [.pointer (some ⟨b, 0, none⟩), .int .i64 2, .int .i64 (1 : Nat)] M' (slOb b g c 2 [.slice none 0 0, .int .i64 0, u4, .int .i64 1] u4 [1]) (SlPost b g c 2 1 [.slice none 0 0, .int .i64 0, u4, .int .i64 1] (7, [1], 1)) := fun M' => by
    rw [← e5]
    exact latch_Write b g c 2 1 [.slice none 0 0, .int .i64 0, u4, .int .i64 1] u4 [1] 2 1 M' (by omega) (by omega) rfl rfl rfl (asc1 1) (by decide) h4
  refine VL_callX (own1 := slOb b g c 2 [.slice none 0 0, .int .i64 0, u4, .int .i64 1] u4 [1]) [0, 1, 3] (by rfl) (by rfl) ⟨rfl, rfl, rfl, trivial⟩ (fun M' _ => c5 M') (by rfl) (by rfl) ?_
  rintro _ _ ⟨rfl, u5, h5, rfl⟩
  refine VL_sub [4, 5, 2, 6] ⟨Mem.of w, [.nblk (.pointer (some ⟨b, 0, none⟩)) 154 (tbC g 2 c), .nrow (.slice (some ⟨g, 0, none⟩) 2 c) 160 2 2 [.slice none 0 0, .int .i64 0, u5, .int .i64 1], .nrow (.slice none 0 0) 3 1 0 [], .nrow u5 3 1 1 (ic [1])], [(1, .v (.pointer (some ⟨b, 0, none⟩))), (2, .v (.int .i64 0)), (3, .v (.int .i64 0)), (4, .v (.int .i64 0)), (5, .v (.int .i64 7)), (23, .v (.int .i64 7))]⟩ ⟨rfl, rfl, ⟨rfl, rfl, rfl, rfl, trivial⟩, ⟨rfl, rfl, rfl, rfl, rfl, rfl, trivial⟩⟩ ?_
  repeat' (first
    | refine VC_seq ?_
    | refine VC_region ?_
    | refine VL_nil ?_
    | refine VC_ret ?_
    | refine VC_exit ?_
    | refine VC_block ?_
    | refine VC_skip ?_
    | refine kbox ?_
    | refine kall ?_
    | refine kst ?_
    | refine ksN ?_
    | refine klt ?_
    | refine kl1 ?_
    | refine klK ?_
    | refine kap ?_
    | ((first | apply VL_q | apply VG_q | apply VS_q2); (first  | exact qmv (by rfl) | exact qas (by rfl) | exact ql1 (by rfl) | exact qlA (by rfl) | exact qfa (by rfl) | exact qmf (by rfl) | exact qfd (by rfl) | exact qm1 (by rfl) | exact qbd (by rfl) | exact qno (by rfl) | exact qex (by rfl) | exact qln (by rfl) | exact qls (by rfl) | exact qlr (by rfl) | exact qpt (by rfl) | exact qpf (by rfl) | exact qcp (by rfl) | exact qbe (by rfl) | exact qbn (by rfl) | exact qsn (by rfl) | exact qad (by rfl) | exact qsa (by rfl) | exact qsu (by rfl) | exact QS_bin (by rfl) (by rfl) (by first | exact B_slnil | exact Bq_eql_Msg | exact Bq_neq_Msg | exact Bq_eql_Pair | exact Bq_neq_Pair | exact Bq_eql_Op | exact Bq_neq_Op | exact Bq_eql_Cfg | exact Bq_neq_Cfg)); rfl)
    | refine sst ?_
    | refine VS_nil ?_
    | refine eeq ?_
    | refine ees ?_ (by first | exact es1 (by rfl) | exact esN (by rfl))
    | refine VE_nil ?_
    | refine kyes ?_
    | refine kno ?_
    | refine gyes ?_
    | refine gno ?_
    | refine knoU ?_
    | refine gnoU ?_
    | refine VG_nil ⟨by rfl, ?_⟩
    | refine VG_nil ?_
    | refine dT ?_
    | refine d1 ?_
    | refine dQ ?_
    | refine ctr ?_
    | refine cfa ?_
    | refine kdec (fun hq => ?_) (fun hq => ?_)
    | refine gdec (fun hq => ?_) (fun hq => ?_)
    | refine cco (fun hq => ?_) (fun hq => ?_))
  have e6 : rlR 1 [1] 1 = (0, [], 0) := by decide
  have c6 : ∀ M', CallX Try.prog 45 [.pointer (some ⟨b, 0, none⟩), .int .i64 1, .int .i64 (1 : Nat)] M' (slOb b g c 2 [.slice none 0 0, .int .i64 0, u5, .int .i64 1] u5 [1]) (SlPost b g c 2 1 [.slice none 0 0, .int .i64 0, u5, .int .i64 1] (0, [], 0)) := fun M' => by
    rw [← e6]
    exact latch_Release b g c 2 1 [.slice none 0 0, .int .i64 0, u5, .int .i64 1] u5 [1] 1 1 M' (by omega) (by omega) rfl rfl rfl (asc1 1) (by decide) h5
  refine VL_callX (own1 := slOb b g c 2 [.slice none 0 0, .int .i64 0, u5, .int .i64 1] u5 [1]) [0, 1, 3] (by rfl) (by rfl) ⟨rfl, rfl, rfl, trivial⟩ (fun M' _ => c6 M') (by rfl) (by rfl) ?_
  rintro _ _ ⟨rfl, u6, h6, rfl⟩
  refine VL_sub [4, 5, 2, 6] ⟨Mem.of w, [.nblk (.pointer (some ⟨b, 0, none⟩)) 154 (tbC g 2 c), .nrow (.slice (some ⟨g, 0, none⟩) 2 c) 160 2 2 [.slice none 0 0, .int .i64 0, u6, .int .i64 0], .nrow (.slice none 0 0) 3 1 0 [], .nrow u6 3 1 0 (ic [])], [(1, .v (.pointer (some ⟨b, 0, none⟩))), (2, .v (.int .i64 0)), (3, .v (.int .i64 0)), (4, .v (.int .i64 0)), (5, .v (.int .i64 7)), (6, .v (.int .i64 7))]⟩ ⟨rfl, rfl, ⟨rfl, rfl, rfl, rfl, trivial⟩, ⟨rfl, rfl, rfl, rfl, rfl, rfl, trivial⟩⟩ ?_
  repeat' (first
    | refine VC_seq ?_
    | refine VC_region ?_
    | refine VL_nil ?_
    | refine VC_ret ?_
    | refine VC_exit ?_
    | refine VC_block ?_
    | refine VC_skip ?_
    | refine kbox ?_
    | refine kall ?_
    | refine kst ?_
    | refine ksN ?_
    | refine klt ?_
    | refine kl1 ?_
    | refine klK ?_
    | refine kap ?_
    | ((first | apply VL_q | apply VG_q | apply VS_q2); (first  | exact qmv (by rfl) | exact qas (by rfl) | exact ql1 (by rfl) | exact qlA (by rfl) | exact qfa (by rfl) | exact qmf (by rfl) | exact qfd (by rfl) | exact qm1 (by rfl) | exact qbd (by rfl) | exact qno (by rfl) | exact qex (by rfl) | exact qln (by rfl) | exact qls (by rfl) | exact qlr (by rfl) | exact qpt (by rfl) | exact qpf (by rfl) | exact qcp (by rfl) | exact qbe (by rfl) | exact qbn (by rfl) | exact qsn (by rfl) | exact qad (by rfl) | exact qsa (by rfl) | exact qsu (by rfl) | exact QS_bin (by rfl) (by rfl) (by first | exact B_slnil | exact Bq_eql_Msg | exact Bq_neq_Msg | exact Bq_eql_Pair | exact Bq_neq_Pair | exact Bq_eql_Op | exact Bq_neq_Op | exact Bq_eql_Cfg | exact Bq_neq_Cfg)); rfl)
    | refine sst ?_
    | refine VS_nil ?_
    | refine eeq ?_
    | refine ees ?_ (by first | exact es1 (by rfl) | exact esN (by rfl))
    | refine VE_nil ?_
    | refine kyes ?_
    | refine kno ?_
    | refine gyes ?_
    | refine gno ?_
    | refine knoU ?_
    | refine gnoU ?_
    | refine VG_nil ⟨by rfl, ?_⟩
    | refine VG_nil ?_
    | refine dT ?_
    | refine d1 ?_
    | refine dQ ?_
    | refine ctr ?_
    | refine cfa ?_
    | refine kdec (fun hq => ?_) (fun hq => ?_)
    | refine gdec (fun hq => ?_) (fun hq => ?_)
    | refine cco (fun hq => ?_) (fun hq => ?_))
  have e7 : tkR 2 [] 0 2 = (0, [2], 2) := by decide
  have c7 : ∀ M', CallX Try.prog 42 [.pointer (some ⟨b, 0, none⟩), .int .i64 2, .int .i64 (1 : Nat)] M' (slOb b g c 2 [.slice none 0 0, .int .i64 0, u6, .int .i64 0] u6 []) (SlPost b g c 2 1 [.slice none 0 0, .int .i64 0, u6, .int .i64 0] (0, [2], 2)) := fun M' => by
    rw [← e7]
    exact latch_Write b g c 2 1 [.slice none 0 0, .int .i64 0, u6, .int .i64 0] u6 [] 2 0 M' (by omega) (by omega) rfl rfl rfl asc0 (by decide) h6
  refine VL_callX (own1 := slOb b g c 2 [.slice none 0 0, .int .i64 0, u6, .int .i64 0] u6 []) [0, 1, 3] (by rfl) (by rfl) ⟨rfl, rfl, rfl, trivial⟩ (fun M' _ => c7 M') (by rfl) (by rfl) ?_
  rintro _ _ ⟨rfl, u7, h7, rfl⟩
  refine VL_sub [4, 5, 2, 6] ⟨Mem.of w, [.nblk (.pointer (some ⟨b, 0, none⟩)) 154 (tbC g 2 c), .nrow (.slice (some ⟨g, 0, none⟩) 2 c) 160 2 2 [.slice none 0 0, .int .i64 0, u7, .int .i64 2], .nrow (.slice none 0 0) 3 1 0 [], .nrow u7 3 1 1 (ic [2])], [(1, .v (.pointer (some ⟨b, 0, none⟩))), (2, .v (.int .i64 0)), (3, .v (.int .i64 0)), (4, .v (.int .i64 0)), (5, .v (.int .i64 7)), (6, .v (.int .i64 7)), (27, .v (.int .i64 0))]⟩ ⟨rfl, rfl, ⟨rfl, rfl, rfl, rfl, trivial⟩, ⟨rfl, rfl, rfl, rfl, rfl, rfl, rfl, trivial⟩⟩ ?_
  have cH : ∀ (hd : Nat → Value) (W : World) (own : List Ob), (∀ i o, own[i]? = some o → ObOk w.heap.size W (hd i) o) → own[0]? = some (.nblk (.pointer (some ⟨b, 0, none⟩)) 154 (tbC g 2 c)) → own[1]? = some (.nrow (.slice (some ⟨g, 0, none⟩) 2 c) 160 2 2 [.slice none 0 0, .int .i64 0, u7, .int .i64 2]) → own[3]? = some (.nrow u7 3 1 1 (ic [2])) → Calls Try.prog 48 #[.pointer (some ⟨b, 0, none⟩), .int .i64 2, .int .i64 1] W fun e W' => e = .returned (.tuple #[.bool true, .bool true]) ∧ Below W.heap.size W W' := fun hd W own hO h0 h1 h2 => by
    refine latch_Has b 2 2 1 [2] 2 W (Mem.of W) (Mem.le_refl _) ⟨g, c, ?_, fun k' hk' hk2 => ⟨u7, ?_, ?_, ?_⟩⟩ (asc1 2) (by omega) (by decide)
    · have := ob_cell (hO 0 _ h0) (off := 0) (u := .slice (some ⟨g, 0, none⟩) 2 c) rfl
      rw [(hO 0 _ h0).1] at this
      rw [Mem.of_cell]
      exact this
    · obtain rfl : k' = 1 := by omega
      have := ob_cell (hO 1 _ h1) (off := 2) (u := u7) rfl
      rw [(hO 1 _ h1).1] at this
      rw [Mem.of_cell]
      exact this
    · obtain rfl : k' = 1 := by omega
      have := ob_cell (hO 1 _ h1) (off := 3) (u := .int .i64 2) rfl
      rw [(hO 1 _ h1).1] at this
      rw [Mem.of_cell]
      exact this
    · have h3 := hO 3 _ h2
      have h4 := h3.2
      rw [h3.1] at h4
      exact (ic_sl (l := [2]) h4).toM
  have q7 : ((7 : Int) == 7) = true := by decide
  have q6 : ((0 : Int) == 0) = true := by decide
  repeat' (first
    | refine VC_seq ?_
    | refine VC_region ?_
    | refine VL_nil ?_
    | refine VC_ret ?_
    | refine VC_exit ?_
    | refine VC_block ?_
    | refine VC_skip ?_
    | refine kbox ?_
    | refine kall ?_
    | refine kst ?_
    | refine ksN ?_
    | refine klt ?_
    | refine kl1 ?_
    | refine klK ?_
    | refine kap ?_
    | ((first | apply VL_q | apply VG_q | apply VS_q2); (first | (refine QS_callR (r := .tuple #[.bool true, .bool true]) (by rfl) ?_; exact fun hd W hO hW => cH hd W _ hO rfl rfl rfl) | exact qmv (by rfl) | exact qas (by rfl) | exact ql1 (by rfl) | exact qlA (by rfl) | exact qfa (by rfl) | exact qmf (by rfl) | exact qfd (by rfl) | exact qm1 (by rfl) | exact qbd (by rfl) | exact qno (by rfl) | exact qex (by rfl) | exact qln (by rfl) | exact qls (by rfl) | exact qlr (by rfl) | exact qpt (by rfl) | exact qpf (by rfl) | exact qcp (by rfl) | exact qbe (by rfl) | exact qbn (by rfl) | exact qsn (by rfl) | exact qad (by rfl) | exact qsa (by rfl) | exact qsu (by rfl) | exact QS_bin (by rfl) (by rfl) (by first | exact B_slnil | exact Bq_eql_Msg | exact Bq_neq_Msg | exact Bq_eql_Pair | exact Bq_neq_Pair | exact Bq_eql_Op | exact Bq_neq_Op | exact Bq_eql_Cfg | exact Bq_neq_Cfg)); rfl)
    | refine sst ?_
    | refine VS_nil ?_
    | refine eeq ?_
    | refine ees ?_ (by first | exact es1 (by rfl) | exact esN (by rfl))
    | refine VE_nil ?_
    | refine kyes ?_
    | refine kno ?_
    | refine gyes ?_
    | refine gno ?_
    | refine knoU ?_
    | refine gnoU ?_
    | refine VG_nil ⟨by rfl, ?_⟩
    | refine VG_nil ?_
    | refine dT ?_
    | refine d1 ?_
    | refine dQ ?_
    | refine ctr ?_
    | refine cfa ?_
    | refine kdec (fun hq => ?_) (fun hq => ?_)
    | refine gdec (fun hq => ?_) (fun hq => ?_)
    | refine cco (fun hq => ?_) (fun hq => ?_))
  show Res _ _ _ _
  refine Res.one (by rfl) (ResV_tmp (by rfl) ?_)
  rfl
end Go.Proofs.Ytdgcdfngpimmmaa
