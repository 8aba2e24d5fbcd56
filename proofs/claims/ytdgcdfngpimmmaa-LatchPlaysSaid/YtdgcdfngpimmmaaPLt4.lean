/- The latch layer: Read, Write, Release of one slot, New, the table that there isn't: walks by names. -/
import Derived.Test.YtdgcdfngpimmmaaPLt3
namespace Go.Proofs.Ytdgcdfngpimmmaa
open Go Go.RowKit
attribute [local irreducible] Calls
set_option linter.unusedVariables false
set_option maxRecDepth 20000
set_option linter.unusedSimpArgs false
set_option maxHeartbeats 4000000
def SlPost (b g c n k : Nat) (cs : List Value) (r : Int × List Int × Int) (v : Value) (own' : List Ob) : Prop := v = .int .i64 r.1 ∧ ∃ u', NSh u' r.2.1.length ∧ own' = slOb b g c n ((cs.set (k * 2) u').set (k * 2 + 1) (.int .i64 r.2.2)) u' r.2.1
theorem latch_Read (b g c n k : Nat) (cs : List Value) (u : Value) (who : List Int) (thread how : Int) (M : Mem) (hk : k < n) (hn : n ≤ 1000000) (hu : cs[k * 2]? = some u) (hh : cs[k * 2 + 1]? = some (.int .i64 how)) (hcl : cs.length = n * 2) (hasc : Asc who) (hwn : who.length ≤ 1000000) (hus : NSh u who.length) :
    CallX Try.prog 41 [.pointer (some ⟨b, 0, none⟩), .int .i64 thread, .int .i64 k] M (slOb b g c n cs u who) (SlPost b g c n k cs (tkR thread who how 1)) := by
  refine V_x Try.func41 rfl Try.ntmps41 (by rfl) (fun w M0 => ?_)
  repeat' (first
    | refine VC_seq ?_
    | refine VC_region ?_
    | refine VL_nil ?_
    | refine VC_ret ?_
    | refine VC_exit ?_
    | refine VC_block ?_
    | refine VC_skip ?_
    | refine kbox ?_
    | refine kall ?_
    | refine kst ?_
    | refine ksN ?_
    | refine klt ?_
    | refine kl1 ?_
    | refine klK ?_
    | refine kap ?_
    | ((first | apply VL_q | apply VG_q | apply VS_q2); (first  | exact qmv (by rfl) | exact qas (by rfl) | exact ql1 (by rfl) | exact qlA (by rfl) | exact qfa (by rfl) | exact qmf (by rfl) | exact qfd (by rfl) | exact qm1 (by rfl) | exact qbd (by rfl) | exact qno (by rfl) | exact qex (by rfl) | exact qln (by rfl) | exact qls (by rfl) | exact qlr (by rfl) | exact qpt (by rfl) | exact qpf (by rfl) | exact qcp (by rfl) | exact qbe (by rfl) | exact qbn (by rfl) | exact qsn (by rfl) | exact qad (by rfl) | exact qsa (by rfl) | exact qsu (by rfl) | exact QS_bin (by rfl) (by rfl) (by first | exact B_slnil | exact Bq_eql_Msg | exact Bq_neq_Msg | exact Bq_eql_Pair | exact Bq_neq_Pair | exact Bq_eql_Op | exact Bq_neq_Op | exact Bq_eql_Cfg | exact Bq_neq_Cfg)); rfl)
    | refine sst ?_
    | refine VS_nil ?_
    | refine eeq ?_
    | refine ees ?_ (by first | exact es1 (by rfl) | exact esN (by rfl))
    | refine VE_nil ?_
    | refine kyes ?_
    | refine kno ?_
    | refine gyes ?_
    | refine gno ?_
    | refine knoU ?_
    | refine gnoU ?_
    | refine VG_nil ⟨by rfl, ?_⟩
    | refine VG_nil ?_
    | refine dT ?_
    | refine d1 ?_
    | refine dQ ?_
    | refine ctr ?_
    | refine cfa ?_
    | refine kdec (fun hq => ?_) (fun hq => ?_)
    | refine gdec (fun hq => ?_) (fun hq => ?_)
    | refine cco (fun hq => ?_) (fun hq => ?_))
  refine VL_callX (own1 := slOb b g c n cs u who) [0, 1, 2] (by rfl) (by rfl) ⟨rfl, rfl, rfl, trivial⟩ (fun M' _ => latch_take b g c n k cs u who thread how 1 M' hk hn hu hh hcl hasc hwn hus) (by rfl) (by rfl) ?_
  rintro _ _ ⟨rfl, u', h1, rfl⟩
  repeat' (first
    | refine VC_seq ?_
    | refine VC_region ?_
    | refine VL_nil ?_
    | refine VC_ret ?_
    | refine VC_exit ?_
    | refine VC_block ?_
    | refine VC_skip ?_
    | refine kbox ?_
    | refine kall ?_
    | refine kst ?_
    | refine ksN ?_
    | refine klt ?_
    | refine kl1 ?_
    | refine klK ?_
    | refine kap ?_
    | ((first | apply VL_q | apply VG_q | apply VS_q2); (first  | exact qmv (by rfl) | exact qas (by rfl) | exact ql1 (by rfl) | exact qlA (by rfl) | exact qfa (by rfl) | exact qmf (by rfl) | exact qfd (by rfl) | exact qm1 (by rfl) | exact qbd (by rfl) | exact qno (by rfl) | exact qex (by rfl) | exact qln (by rfl) | exact qls (by rfl) | exact qlr (by rfl) | exact qpt (by rfl) | exact qpf (by rfl) | exact qcp (by rfl) | exact qbe (by rfl) | exact qbn (by rfl) | exact qsn (by rfl) | exact qad (by rfl) | exact qsa (by rfl) | exact qsu (by rfl) | exact QS_bin (by rfl) (by rfl) (by first | exact B_slnil | exact Bq_eql_Msg | exact Bq_neq_Msg | exact Bq_eql_Pair | exact Bq_neq_Pair | exact Bq_eql_Op | exact Bq_neq_Op | exact Bq_eql_Cfg | exact Bq_neq_Cfg)); rfl)
    | refine sst ?_
    | refine VS_nil ?_
    | refine eeq ?_
    | refine ees ?_ (by first | exact es1 (by rfl) | exact esN (by rfl))
    | refine VE_nil ?_
    | refine kyes ?_
    | refine kno ?_
    | refine gyes ?_
    | refine gno ?_
    | refine knoU ?_
    | refine gnoU ?_
    | refine VG_nil ⟨by rfl, ?_⟩
    | refine VG_nil ?_
    | refine dT ?_
    | refine d1 ?_
    | refine dQ ?_
    | refine ctr ?_
    | refine cfa ?_
    | refine kdec (fun hq => ?_) (fun hq => ?_)
    | refine gdec (fun hq => ?_) (fun hq => ?_)
    | refine cco (fun hq => ?_) (fun hq => ?_))
  exact ⟨_, [3, 4, 5], slOb b g c n ((cs.set (k * 2) u').set (k * 2 + 1) (.int .i64 (tkR thread who how 1).2.2)) u' (tkR thread who how 1).2.1, Res.one (by rfl) (ResV_tmp (by rfl) rfl), Mem.le_refl _, rfl, ⟨rfl, rfl, rfl, trivial⟩, rfl, u', h1, rfl⟩
theorem latch_Write (b g c n k : Nat) (cs : List Value) (u : Value) (who : List Int) (thread how : Int) (M : Mem) (hk : k < n) (hn : n ≤ 1000000) (hu : cs[k * 2]? = some u) (hh : cs[k * 2 + 1]? = some (.int .i64 how)) (hcl : cs.length = n * 2) (hasc : Asc who) (hwn : who.length ≤ 1000000) (hus : NSh u who.length) :
    CallX Try.prog 42 [.pointer (some ⟨b, 0, none⟩), .int .i64 thread, .int .i64 k] M (slOb b g c n cs u who) (SlPost b g c n k cs (tkR thread who how 2)) := by
  refine V_x Try.func42 rfl Try.ntmps42 (by rfl) (fun w M0 => ?_)
  repeat' (first
    | refine VC_seq ?_
    | refine VC_region ?_
    | refine VL_nil ?_
    | refine VC_ret ?_
    | refine VC_exit ?_
    | refine VC_block ?_
    | refine VC_skip ?_
    | refine kbox ?_
    | refine kall ?_
    | refine kst ?_
    | refine ksN ?_
    | refine klt ?_
    | refine kl1 ?_
    | refine klK ?_
    | refine kap ?_
    | ((first | apply VL_q | apply VG_q | apply VS_q2); (first  | exact qmv (by rfl) | exact qas (by rfl) | exact ql1 (by rfl) | exact qlA (by rfl) | exact qfa (by rfl) | exact qmf (by rfl) | exact qfd (by rfl) | exact qm1 (by rfl) | exact qbd (by rfl) | exact qno (by rfl) | exact qex (by rfl) | exact qln (by rfl) | exact qls (by rfl) | exact qlr (by rfl) | exact qpt (by rfl) | exact qpf (by rfl) | exact qcp (by rfl) | exact qbe (by rfl) | exact qbn (by rfl) | exact qsn (by rfl) | exact qad (by rfl) | exact qsa (by rfl) | exact qsu (by rfl) | exact QS_bin (by rfl) (by rfl) (by first | exact B_slnil | exact Bq_eql_Msg | exact Bq_neq_Msg | exact Bq_eql_Pair | exact Bq_neq_Pair | exact Bq_eql_Op | exact Bq_neq_Op | exact Bq_eql_Cfg | exact Bq_neq_Cfg)); rfl)
    | refine sst ?_
    | refine VS_nil ?_
    | refine eeq ?_
    | refine ees ?_ (by first | exact es1 (by rfl) | exact esN (by rfl))
    | refine VE_nil ?_
    | refine kyes ?_
    | refine kno ?_
    | refine gyes ?_
    | refine gno ?_
    | refine knoU ?_
    | refine gnoU ?_
    | refine VG_nil ⟨by rfl, ?_⟩
    | refine VG_nil ?_
    | refine dT ?_
    | refine d1 ?_
    | refine dQ ?_
    | refine ctr ?_
    | refine cfa ?_
    | refine kdec (fun hq => ?_) (fun hq => ?_)
    | refine gdec (fun hq => ?_) (fun hq => ?_)
    | refine cco (fun hq => ?_) (fun hq => ?_))
  refine VL_callX (own1 := slOb b g c n cs u who) [0, 1, 2] (by rfl) (by rfl) ⟨rfl, rfl, rfl, trivial⟩ (fun M' _ => latch_take b g c n k cs u who thread how 2 M' hk hn hu hh hcl hasc hwn hus) (by rfl) (by rfl) ?_
  rintro _ _ ⟨rfl, u', h1, rfl⟩
  repeat' (first
    | refine VC_seq ?_
    | refine VC_region ?_
    | refine VL_nil ?_
    | refine VC_ret ?_
    | refine VC_exit ?_
    | refine VC_block ?_
    | refine VC_skip ?_
    | refine kbox ?_
    | refine kall ?_
    | refine kst ?_
    | refine ksN ?_
    | refine klt ?_
    | refine kl1 ?_
    | refine klK ?_
    | refine kap ?_
    | ((first | apply VL_q | apply VG_q | apply VS_q2); (first  | exact qmv (by rfl) | exact qas (by rfl) | exact ql1 (by rfl) | exact qlA (by rfl) | exact qfa (by rfl) | exact qmf (by rfl) | exact qfd (by rfl) | exact qm1 (by rfl) | exact qbd (by rfl) | exact qno (by rfl) | exact qex (by rfl) | exact qln (by rfl) | exact qls (by rfl) | exact qlr (by rfl) | exact qpt (by rfl) | exact qpf (by rfl) | exact qcp (by rfl) | exact qbe (by rfl) | exact qbn (by rfl) | exact qsn (by rfl) | exact qad (by rfl) | exact qsa (by rfl) | exact qsu (by rfl) | exact QS_bin (by rfl) (by rfl) (by first | exact B_slnil | exact Bq_eql_Msg | exact Bq_neq_Msg | exact Bq_eql_Pair | exact Bq_neq_Pair | exact Bq_eql_Op | exact Bq_neq_Op | exact Bq_eql_Cfg | exact Bq_neq_Cfg)); rfl)
    | refine sst ?_
    | refine VS_nil ?_
    | refine eeq ?_
    | refine ees ?_ (by first | exact es1 (by rfl) | exact esN (by rfl))
    | refine VE_nil ?_
    | refine kyes ?_
    | refine kno ?_
    | refine gyes ?_
    | refine gno ?_
    | refine knoU ?_
    | refine gnoU ?_
    | refine VG_nil ⟨by rfl, ?_⟩
    | refine VG_nil ?_
    | refine dT ?_
    | refine d1 ?_
    | refine dQ ?_
    | refine ctr ?_
    | refine cfa ?_
    | refine kdec (fun hq => ?_) (fun hq => ?_)
    | refine gdec (fun hq => ?_) (fun hq => ?_)
    | refine cco (fun hq => ?_) (fun hq => ?_))
  exact ⟨_, [3, 4, 5], slOb b g c n ((cs.set (k * 2) u').set (k * 2 + 1) (.int .i64 (tkR thread who how 2).2.2)) u' (tkR thread who how 2).2.1, Res.one (by rfl) (ResV_tmp (by rfl) rfl), Mem.le_refl _, rfl, ⟨rfl, rfl, rfl, trivial⟩, rfl, u', h1, rfl⟩
/-- What letting go does to one slot. -/
def rlR (thread : Int) (who : List Int) (how : Int) : Int × List Int × Int := if thread ∈ who then (0, kpI (fun n => n == thread) who, if (kpI (fun n => n == thread) who).length = 0 then 0 else how) else (8, who, how)
theorem release_fn (x : Int) (b : Nat) (t : Int) (w : World) (M : Mem) (hMw : M.le (Mem.of w)) (hb : M.cell b 0 = some (.int .i64 t)) :
    Calls Try.prog 98 #[.int .i64 x, .pointer (some ⟨b, 0, none⟩)] w fun e w' => e = .returned (.bool (x == t)) ∧ Below w.heap.size w w' := by
  refine V_flat (args := [.int .i64 x, .pointer (some ⟨b, 0, none⟩)]) (M := M) Try.func98 rfl Try.ntmps98 (by rfl) (hMw) ?_
  repeat' (first
    | refine VC_seq ?_
    | refine VC_region ?_
    | refine VL_nil ?_
    | refine VC_ret ?_
    | refine VC_exit ?_
    | refine VC_block ?_
    | refine VC_skip ?_
    | refine kbox ?_
    | refine kall ?_
    | refine kst ?_
    | refine ksN ?_
    | refine klt ?_
    | refine kl1 ?_
    | refine klK ?_
    | refine kap ?_
    | ((first | apply VL_q | apply VG_q | apply VS_q2); (first | exact QS_mload1 (by rfl) hb | exact qmv (by rfl) | exact qas (by rfl) | exact ql1 (by rfl) | exact qlA (by rfl) | exact qfa (by rfl) | exact qmf (by rfl) | exact qfd (by rfl) | exact qm1 (by rfl) | exact qbd (by rfl) | exact qno (by rfl) | exact qex (by rfl) | exact qln (by rfl) | exact qls (by rfl) | exact qlr (by rfl) | exact qpt (by rfl) | exact qpf (by rfl) | exact qcp (by rfl) | exact qbe (by rfl) | exact qbn (by rfl) | exact qsn (by rfl) | exact qad (by rfl) | exact qsa (by rfl) | exact qsu (by rfl) | exact QS_bin (by rfl) (by rfl) (by first | exact B_slnil | exact Bq_eql_Msg | exact Bq_neq_Msg | exact Bq_eql_Pair | exact Bq_neq_Pair | exact Bq_eql_Op | exact Bq_neq_Op | exact Bq_eql_Cfg | exact Bq_neq_Cfg)); rfl)
    | refine sst ?_
    | refine VS_nil ?_
    | refine eeq ?_
    | refine ees ?_ (by first | exact es1 (by rfl) | exact esN (by rfl))
    | refine VE_nil ?_
    | refine kyes ?_
    | refine kno ?_
    | refine gyes ?_
    | refine gno ?_
    | refine knoU ?_
    | refine gnoU ?_
    | refine VG_nil ⟨by rfl, ?_⟩
    | refine VG_nil ?_
    | refine dT ?_
    | refine d1 ?_
    | refine dQ ?_
    | refine ctr ?_
    | refine cfa ?_
    | refine kdec (fun hq => ?_) (fun hq => ?_)
    | refine gdec (fun hq => ?_) (fun hq => ?_)
    | refine cco (fun hq => ?_) (fun hq => ?_))
  show Res _ _ _ _
  refine Res.one (by rfl) (ResV_tmp (by rfl) ?_)
  rfl
theorem latch_Release (b g c n k : Nat) (cs : List Value) (u : Value) (who : List Int) (thread how : Int) (M : Mem) (hk : k < n) (hn : n ≤ 1000000) (hu : cs[k * 2]? = some u) (hh : cs[k * 2 + 1]? = some (.int .i64 how)) (hcl : cs.length = n * 2) (hasc : Asc who) (hwn : who.length ≤ 1000000) (hus : NSh u who.length) :
    CallX Try.prog 45 [.pointer (some ⟨b, 0, none⟩), .int .i64 thread, .int .i64 k] M (slOb b g c n cs u who) (SlPost b g c n k cs (rlR thread who how)) := by
  refine V_x Try.func45 rfl Try.ntmps45 (by rfl) (fun w M0 => ?_)
  have hnp : (some (⟨b, 0, none⟩ : Addr)).isNone = false := rfl
  have hsame : (cs.set (k * 2) u).set (k * 2 + 1) (.int .i64 how) = cs := by rw [set_same hu, set_same hh]
  have hu' : cs[0 + k * 2 + 0]? = some u := by rw [show 0 + k * 2 + 0 = k * 2 by omega]; exact hu
  have hh' : cs[0 + k * 2 + 1]? = some (.int .i64 how) := by rw [show 0 + k * 2 + 1 = k * 2 + 1 by omega]; exact hh
  have hin : inB (k : Int) n = true := by unfold inB; rw [decide_eq_true (by omega), decide_eq_true (by omega)]; rfl
  have cH : ∀ (hd : Nat → Value) (W : World) (own : List Ob), (∀ i o, own[i]? = some o → ObOk w.heap.size W (hd i) o) → own[0]? = some (.nblk (.pointer (some ⟨b, 0, none⟩)) 154 (tbC g n c)) → own[1]? = some (.nrow (.slice (some ⟨g, 0, none⟩) n c) 160 2 n cs) → own[2]? = some (.nrow u 3 1 who.length (ic who)) → Calls Try.prog 48 #[.pointer (some ⟨b, 0, none⟩), .int .i64 thread, .int .i64 k] W fun e W' => e = .returned (.tuple #[.bool (inB (k : Int) n && decide (thread ∈ who)), .bool (inB (k : Int) n && (decide (thread ∈ who) && (how == 2)))]) ∧ Below W.heap.size W W' := fun hd W own hO h0 h1 h2 => by
    refine latch_Has b n thread (k : Int) who how W (Mem.of W) (Mem.le_refl _) ⟨g, c, ?_, fun k' hk' hk2 => ⟨u, ?_, ?_, ?_⟩⟩ hasc hn hwn
    · have := ob_cell (hO 0 _ h0) (off := 0) (u := .slice (some ⟨g, 0, none⟩) n c) rfl
      rw [(hO 0 _ h0).1] at this
      rw [Mem.of_cell]
      exact this
    · obtain rfl : k' = k := by omega
      have := ob_cell (hO 1 _ h1) (off := 0 + k' * 2 + 0) hu'
      rw [(hO 1 _ h1).1] at this
      rw [Mem.of_cell]
      exact this
    · obtain rfl : k' = k := by omega
      have := ob_cell (hO 1 _ h1) (off := 0 + k' * 2 + 1) hh'
      rw [(hO 1 _ h1).1] at this
      rw [Mem.of_cell]
      exact this
    · have h3 := hO 2 _ h2
      have h4 := h3.2
      rw [h3.1] at h4
      exact (ic_sl h4).toM
  rw [hin] at cH
  unfold slOb
  repeat' (first
    | refine VC_seq ?_
    | refine VC_region ?_
    | refine VL_nil ?_
    | refine VC_ret ?_
    | refine VC_exit ?_
    | refine VC_block ?_
    | refine VC_skip ?_
    | refine kbox ?_
    | refine kall ?_
    | refine kst ?_
    | refine ksN ?_
    | refine klt ?_
    | refine kl1 ?_
    | refine klK ?_
    | refine kap ?_
    | ((first | apply VL_q | apply VG_q | apply VS_q2); (first  | exact qmv (by rfl) | exact qas (by rfl) | exact ql1 (by rfl) | exact qlA (by rfl) | exact qfa (by rfl) | exact qmf (by rfl) | exact qfd (by rfl) | exact qm1 (by rfl) | exact qbd (by rfl) | exact qno (by rfl) | exact qex (by rfl) | exact qln (by rfl) | exact qls (by rfl) | exact qlr (by rfl) | exact qpt (by rfl) | exact qpf (by rfl) | exact qcp (by rfl) | exact qbe (by rfl) | exact qbn (by rfl) | exact qsn (by rfl) | exact qad (by rfl) | exact qsa (by rfl) | exact qsu (by rfl) | exact QS_bin (by rfl) (by rfl) (by first | exact B_slnil | exact Bq_eql_Msg | exact Bq_neq_Msg | exact Bq_eql_Pair | exact Bq_neq_Pair | exact Bq_eql_Op | exact Bq_neq_Op | exact Bq_eql_Cfg | exact Bq_neq_Cfg)); rfl)
    | refine sst ?_
    | refine VS_nil ?_
    | refine eeq ?_
    | refine ees ?_ (by first | exact es1 (by rfl) | exact esN (by rfl))
    | refine VE_nil ?_
    | refine kyes ?_
    | refine kno ?_
    | refine gyes ?_
    | refine gno ?_
    | refine knoU ?_
    | refine gnoU ?_
    | refine VG_nil ⟨by rfl, ?_⟩
    | refine VG_nil ?_
    | refine dT ?_
    | refine d1 ?_
    | refine dQ ?_
    | refine ctr ?_
    | refine cfa ?_
    | refine kdec (fun hq => ?_) (fun hq => ?_)
    | refine gdec (fun hq => ?_) (fun hq => ?_)
    | refine cco (fun hq => ?_) (fun hq => ?_))
  refine VL_frzB 3 (by rfl) (fun t M1 hle1 ht => ?_)
  have htc : M1.cell t 0 = some (.int .i64 thread) := Mem.cell_of ht rfl
  by_cases hm : thread ∈ who
  · rw [decide_eq_true hm] at cH
    have hr : rlR thread who how = (0, kpI (fun n => n == thread) who, if (kpI (fun n => n == thread) who).length = 0 then 0 else how) := by unfold rlR; rw [if_pos hm]
    repeat' (first
      | refine VC_seq ?_
      | refine VC_region ?_
      | refine VL_nil ?_
      | refine VC_ret ?_
      | refine VC_exit ?_
      | refine VC_block ?_
      | refine VC_skip ?_
      | refine kbox ?_
      | refine kall ?_
      | refine kst ?_
      | refine ksN ?_
      | refine klt ?_
      | refine kl1 ?_
      | refine klK ?_
      | refine kap ?_
      | ((first | apply VL_q | apply VG_q | apply VS_q2); (first | exact QS_bin (by rfl) (by rfl) B_pnil | exact qni (by rfl) | exact QS_mload1 (by rfl) htc | exact QS_nload1 0 (by rfl) (by rfl) (by rfl) (by rfl) | exact QS_nload1 1 (by rfl) (by rfl) (by rfl) hu' | exact QS_indexAddr k (by rfl) (by rfl) rfl hk | exact QS_mkf (by rfl) | (refine QS_callR (r := .tuple #[.bool (true && true), .bool (true && (true && (how == 2)))]) (by rfl) ?_; exact fun hd W hO hW => cH hd W _ hO rfl rfl rfl) | exact qmv (by rfl) | exact qas (by rfl) | exact ql1 (by rfl) | exact qlA (by rfl) | exact qfa (by rfl) | exact qmf (by rfl) | exact qfd (by rfl) | exact qm1 (by rfl) | exact qbd (by rfl) | exact qno (by rfl) | exact qex (by rfl) | exact qln (by rfl) | exact qls (by rfl) | exact qlr (by rfl) | exact qpt (by rfl) | exact qpf (by rfl) | exact qcp (by rfl) | exact qbe (by rfl) | exact qbn (by rfl) | exact qsn (by rfl) | exact qad (by rfl) | exact qsa (by rfl) | exact qsu (by rfl) | exact QS_bin (by rfl) (by rfl) (by first | exact B_slnil | exact Bq_eql_Msg | exact Bq_neq_Msg | exact Bq_eql_Pair | exact Bq_neq_Pair | exact Bq_eql_Op | exact Bq_neq_Op | exact Bq_eql_Cfg | exact Bq_neq_Cfg)); rfl)
      | refine sst ?_
      | refine VS_nil ?_
      | refine eeq ?_
      | refine ees ?_ (by first | exact es1 (by rfl) | exact esN (by rfl))
      | refine VE_nil ?_
      | refine kyes ?_
      | refine kno ?_
      | refine gyes ?_
      | refine gno ?_
      | refine knoU ?_
      | refine gnoU ?_
      | refine VG_nil ⟨by rfl, ?_⟩
      | refine VG_nil ?_
      | refine dT ?_
      | refine d1 ?_
      | refine dQ ?_
      | refine ctr ?_
      | refine cfa ?_
      | refine kdec (fun hq => ?_) (fun hq => ?_)
      | refine gdec (fun hq => ?_) (fun hq => ?_)
      | refine cco (fun hq => ?_) (fun hq => ?_))
    refine VL_callX (own1 := [.nrow u 3 1 who.length (ic who)]) [2] (by rfl) (by rfl) ⟨rfl, trivial⟩ (fun M' hM' => slices_DeleteFuncI u M' 98 #[.pointer (some ⟨t, 0, none⟩)] (fun n => n == thread) who hwn (fun m _ W hW => release_fn m t thread W M' hW (hM'.cell htc))) (by rfl) (by rfl) ?_
    rintro v _ ⟨hv, rfl⟩
    obtain ⟨Av, cv, rfl⟩ := hv.sl
    by_cases hz : (kpI (fun n => n == thread) who).length = 0
    · have q0 : (((kpI (fun n => n == thread) who).length : Int) == 0) = true := by rw [hz]; rfl
      rw [hr, if_pos hz]
      generalize hkp : kpI (fun n => n == thread) who = kp at *
      repeat' (first
        | refine VL_e _ _ (EF_st (ES_nrow1 1 (by rfl) (by rfl) (by rfl) (by rfl) (by (try simp only [List.length_set]); omega) (by rfl)) (by rfl)) (by rfl) (by rfl) ?_
        | refine VC_seq ?_
        | refine VC_region ?_
        | refine VL_nil ?_
        | refine VC_ret ?_
        | refine VC_exit ?_
        | refine VC_block ?_
        | refine VC_skip ?_
        | refine kbox ?_
        | refine kall ?_
        | refine kst ?_
        | refine ksN ?_
        | refine klt ?_
        | refine kl1 ?_
        | refine klK ?_
        | refine kap ?_
        | ((first | apply VL_q | apply VG_q | apply VS_q2); (first | exact qni (by rfl) | exact QS_nload1 1 (by rfl) (by rfl) (by rfl) (by show (cs.set (0 + k * 2 + 0) _)[0 + k * 2 + 0]? = some _; rw [List.getElem?_set_self (by omega)]) | exact qmv (by rfl) | exact qas (by rfl) | exact ql1 (by rfl) | exact qlA (by rfl) | exact qfa (by rfl) | exact qmf (by rfl) | exact qfd (by rfl) | exact qm1 (by rfl) | exact qbd (by rfl) | exact qno (by rfl) | exact qex (by rfl) | exact qln (by rfl) | exact qls (by rfl) | exact qlr (by rfl) | exact qpt (by rfl) | exact qpf (by rfl) | exact qcp (by rfl) | exact qbe (by rfl) | exact qbn (by rfl) | exact qsn (by rfl) | exact qad (by rfl) | exact qsa (by rfl) | exact qsu (by rfl) | exact QS_bin (by rfl) (by rfl) (by first | exact B_slnil | exact Bq_eql_Msg | exact Bq_neq_Msg | exact Bq_eql_Pair | exact Bq_neq_Pair | exact Bq_eql_Op | exact Bq_neq_Op | exact Bq_eql_Cfg | exact Bq_neq_Cfg)); rfl)
        | refine sst ?_
        | refine VS_nil ?_
        | refine eeq ?_
        | refine ees ?_ (by first | exact es1 (by rfl) | exact esN (by rfl))
        | refine VE_nil ?_
        | refine kyes ?_
        | refine kno ?_
        | refine gyes ?_
        | refine gno ?_
        | refine knoU ?_
        | refine gnoU ?_
        | refine VG_nil ⟨by rfl, ?_⟩
        | refine VG_nil ?_
        | refine dT ?_
        | refine d1 ?_
        | refine dQ ?_
        | refine ctr ?_
        | refine cfa ?_
        | refine kdec (fun hq => ?_) (fun hq => ?_)
        | refine gdec (fun hq => ?_) (fun hq => ?_)
        | refine cco (fun hq => ?_) (fun hq => ?_))
      refine ⟨_, [0, 1, 4], slOb b g c n ((cs.set (k * 2) (.slice Av kp.length cv)).set (k * 2 + 1) (.int .i64 0)) (.slice Av kp.length cv) kp, Res.one (by rfl) (ResV_tmp (by rfl) rfl), hle1, rfl, ⟨rfl, ?_, rfl, trivial⟩, rfl, _, hv, rfl⟩
      show some (Ob.nrow _ _ 2 n ((cs.set (0 + k * 2 + 0) _).set (0 + k * 2 + 1) _)) = _
      rw [show 0 + k * 2 + 0 = k * 2 by omega, show 0 + k * 2 + 1 = k * 2 + 1 by omega]
    · have q0 : (((kpI (fun n => n == thread) who).length : Int) == 0) = false := beq_eq_false_iff_ne.2 (by omega)
      rw [hr, if_neg hz]
      generalize hkp : kpI (fun n => n == thread) who = kp at *
      repeat' (first
        | refine VL_e _ _ (EF_st (ES_nrow1 1 (by rfl) (by rfl) (by rfl) (by rfl) (by (try simp only [List.length_set]); omega) (by rfl)) (by rfl)) (by rfl) (by rfl) ?_
        | refine VC_seq ?_
        | refine VC_region ?_
        | refine VL_nil ?_
        | refine VC_ret ?_
        | refine VC_exit ?_
        | refine VC_block ?_
        | refine VC_skip ?_
        | refine kbox ?_
        | refine kall ?_
        | refine kst ?_
        | refine ksN ?_
        | refine klt ?_
        | refine kl1 ?_
        | refine klK ?_
        | refine kap ?_
        | ((first | apply VL_q | apply VG_q | apply VS_q2); (first | exact qni (by rfl) | exact QS_nload1 1 (by rfl) (by rfl) (by rfl) (by show (cs.set (0 + k * 2 + 0) _)[0 + k * 2 + 0]? = some _; rw [List.getElem?_set_self (by omega)]) | exact qmv (by rfl) | exact qas (by rfl) | exact ql1 (by rfl) | exact qlA (by rfl) | exact qfa (by rfl) | exact qmf (by rfl) | exact qfd (by rfl) | exact qm1 (by rfl) | exact qbd (by rfl) | exact qno (by rfl) | exact qex (by rfl) | exact qln (by rfl) | exact qls (by rfl) | exact qlr (by rfl) | exact qpt (by rfl) | exact qpf (by rfl) | exact qcp (by rfl) | exact qbe (by rfl) | exact qbn (by rfl) | exact qsn (by rfl) | exact qad (by rfl) | exact qsa (by rfl) | exact qsu (by rfl) | exact QS_bin (by rfl) (by rfl) (by first | exact B_slnil | exact Bq_eql_Msg | exact Bq_neq_Msg | exact Bq_eql_Pair | exact Bq_neq_Pair | exact Bq_eql_Op | exact Bq_neq_Op | exact Bq_eql_Cfg | exact Bq_neq_Cfg)); rfl)
        | refine sst ?_
        | refine VS_nil ?_
        | refine eeq ?_
        | refine ees ?_ (by first | exact es1 (by rfl) | exact esN (by rfl))
        | refine VE_nil ?_
        | refine kyes ?_
        | refine kno ?_
        | refine gyes ?_
        | refine gno ?_
        | refine knoU ?_
        | refine gnoU ?_
        | refine VG_nil ⟨by rfl, ?_⟩
        | refine VG_nil ?_
        | refine dT ?_
        | refine d1 ?_
        | refine dQ ?_
        | refine ctr ?_
        | refine cfa ?_
        | refine kdec (fun hq => ?_) (fun hq => ?_)
        | refine gdec (fun hq => ?_) (fun hq => ?_)
        | refine cco (fun hq => ?_) (fun hq => ?_))
      refine ⟨_, [0, 1, 4], slOb b g c n ((cs.set (k * 2) (.slice Av kp.length cv)).set (k * 2 + 1) (.int .i64 how)) (.slice Av kp.length cv) kp, Res.one (by rfl) (ResV_tmp (by rfl) rfl), hle1, rfl, ⟨rfl, ?_, rfl, trivial⟩, rfl, _, hv, rfl⟩
      show some (Ob.nrow _ _ 2 n (cs.set (0 + k * 2 + 0) _)) = _
      rw [show 0 + k * 2 + 0 = k * 2 by omega, set_same (i := k * 2 + 1) (x := .int .i64 how) (by rw [List.getElem?_set_ne (by omega)]; exact hh)]
  · rw [decide_eq_false hm] at cH
    have hr : rlR thread who how = (8, who, how) := by unfold rlR; rw [if_neg hm]
    rw [hr]
    repeat' (first
      | refine VC_seq ?_
      | refine VC_region ?_
      | refine VL_nil ?_
      | refine VC_ret ?_
      | refine VC_exit ?_
      | refine VC_block ?_
      | refine VC_skip ?_
      | refine kbox ?_
      | refine kall ?_
      | refine kst ?_
      | refine ksN ?_
      | refine klt ?_
      | refine kl1 ?_
      | refine klK ?_
      | refine kap ?_
      | ((first | apply VL_q | apply VG_q | apply VS_q2); (first | exact QS_bin (by rfl) (by rfl) B_pnil | exact qni (by rfl) | exact QS_mload1 (by rfl) htc | (refine QS_callR (r := .tuple #[.bool (true && false), .bool (true && (false && (how == 2)))]) (by rfl) ?_; exact fun hd W hO hW => cH hd W _ hO rfl rfl rfl) | exact qmv (by rfl) | exact qas (by rfl) | exact ql1 (by rfl) | exact qlA (by rfl) | exact qfa (by rfl) | exact qmf (by rfl) | exact qfd (by rfl) | exact qm1 (by rfl) | exact qbd (by rfl) | exact qno (by rfl) | exact qex (by rfl) | exact qln (by rfl) | exact qls (by rfl) | exact qlr (by rfl) | exact qpt (by rfl) | exact qpf (by rfl) | exact qcp (by rfl) | exact qbe (by rfl) | exact qbn (by rfl) | exact qsn (by rfl) | exact qad (by rfl) | exact qsa (by rfl) | exact qsu (by rfl) | exact QS_bin (by rfl) (by rfl) (by first | exact B_slnil | exact Bq_eql_Msg | exact Bq_neq_Msg | exact Bq_eql_Pair | exact Bq_neq_Pair | exact Bq_eql_Op | exact Bq_neq_Op | exact Bq_eql_Cfg | exact Bq_neq_Cfg)); rfl)
      | refine sst ?_
      | refine VS_nil ?_
      | refine eeq ?_
      | refine ees ?_ (by first | exact es1 (by rfl) | exact esN (by rfl))
      | refine VE_nil ?_
      | refine kyes ?_
      | refine kno ?_
      | refine gyes ?_
      | refine gno ?_
      | refine knoU ?_
      | refine gnoU ?_
      | refine VG_nil ⟨by rfl, ?_⟩
      | refine VG_nil ?_
      | refine dT ?_
      | refine d1 ?_
      | refine dQ ?_
      | refine ctr ?_
      | refine cfa ?_
      | refine kdec (fun hq => ?_) (fun hq => ?_)
      | refine gdec (fun hq => ?_) (fun hq => ?_)
      | refine cco (fun hq => ?_) (fun hq => ?_))
    exact ⟨_, [0, 1, 2], slOb b g c n cs u who, Res.one (by rfl) (ResV_tmp (by rfl) rfl), hle1, rfl, ⟨rfl, rfl, rfl, trivial⟩, rfl, u, hus, by rw [hsame]⟩
end Go.Proofs.Ytdgcdfngpimmmaa
