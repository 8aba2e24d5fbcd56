/- The latch layer: Has, take, Release of one slot, New: walks by names. -/
import Derived.Test.YtdgcdfngpimmmaaPLt2
import Derived.Test.YtdgcdfngpimmmaaPFe
namespace Go.Proofs.Ytdgcdfngpimmmaa
open Go Go.RowKit
attribute [local irreducible] Calls
set_option linter.unusedVariables false
set_option maxRecDepth 20000
set_option linter.unusedSimpArgs false
set_option maxHeartbeats 4000000
theorem NSh.one {v : Value} {n : Nat} (h : NSh v n) : v.oneCell' = true := by
  rcases h with ⟨rfl, _⟩ | ⟨b, cap, rfl, _⟩ <;> rfl
theorem NSh.sl {v : Value} {n : Nat} (h : NSh v n) : ∃ A c, v = .slice A n c := by
  rcases h with ⟨rfl, rfl⟩ | ⟨b, cap, rfl, _⟩
  · exact ⟨_, _, rfl⟩
  · exact ⟨_, _, rfl⟩
theorem set_same {l : List Value} {i : Nat} {x : Value} (h : l[i]? = some x) : l.set i x = l := by
  apply List.ext_getElem?
  intro j
  by_cases hj : i = j
  · subst hj
    rw [List.getElem?_set_self (List.getElem?_eq_some_iff.1 h).1, h]
  · rw [List.getElem?_set_ne hj]
/-- What memory has of one slot of a table. -/
def HasM (M : Mem) (b n : Nat) (slot : Int) (who : List Int) (how : Int) : Prop := ∃ g c, M.cell b 0 = some (.slice (some ⟨g, 0, none⟩) n c) ∧ ∀ k : Nat, slot = (k : Int) → k < n → ∃ u, M.cell g (0 + k * 2 + 0) = some u ∧ M.cell g (0 + k * 2 + 1) = some (.int .i64 how) ∧ SlM M 1 latK u who
def inB (slot : Int) (n : Nat) : Bool := decide (0 ≤ slot) && decide (slot < (n : Int))
theorem latch_Has (b n : Nat) (thread slot : Int) (who : List Int) (how : Int) (w : World) (M : Mem) (hM : M.le (Mem.of w)) (h : HasM M b n slot who how) (hasc : Asc who) (hn : n ≤ 1000000) (hwn : who.length ≤ 1000000) :
    Calls Try.prog 48 #[.pointer (some ⟨b, 0, none⟩), .int .i64 thread, .int .i64 slot] w fun e w' => e = .returned (.tuple #[.bool (inB slot n && decide (thread ∈ who)), .bool (inB slot n && (decide (thread ∈ who) && (how == 2)))]) ∧ Below w.heap.size w w' := by
  obtain ⟨g, c, hc, hk⟩ := h
  have hnp : (some (⟨b, 0, none⟩ : Addr)).isNone = false := rfl
  unfold inB
  by_cases h0 : slot < 0
  · have d0 : decide (slot < 0) = true := decide_eq_true h0
    have e0 : decide (0 ≤ slot) = false := decide_eq_false (by omega)
    refine V_flat (args := [.pointer (some ⟨b, 0, none⟩), .int .i64 thread, .int .i64 slot]) (M := M) Try.func48 rfl Try.ntmps48 (by rfl) (hM) ?_
    repeat' (first
      | refine VC_seq ?_
      | refine VC_region ?_
      | refine VL_nil ?_
      | refine VC_ret ?_
      | refine VC_exit ?_
      | refine VC_block ?_
      | refine VC_skip ?_
      | refine kbox ?_
      | refine kall ?_
      | refine kst ?_
      | refine ksN ?_
      | refine klt ?_
      | refine kl1 ?_
      | refine klK ?_
      | refine kap ?_
      | ((first | apply VL_q | apply VG_q | apply VS_q2); (first | exact QS_bin (by rfl) (by rfl) B_pnil | exact qni (by rfl) | exact QS_mload1 (by rfl) hc | exact qmv (by rfl) | exact qas (by rfl) | exact ql1 (by rfl) | exact qlA (by rfl) | exact qfa (by rfl) | exact qmf (by rfl) | exact qfd (by rfl) | exact qm1 (by rfl) | exact qbd (by rfl) | exact qno (by rfl) | exact qex (by rfl) | exact qln (by rfl) | exact qls (by rfl) | exact qlr (by rfl) | exact qpt (by rfl) | exact qpf (by rfl) | exact qcp (by rfl) | exact qbe (by rfl) | exact qbn (by rfl) | exact qsn (by rfl) | exact qad (by rfl) | exact qsa (by rfl) | exact qsu (by rfl) | exact QS_bin (by rfl) (by rfl) (by first | exact B_slnil | exact Bq_eql_Msg | exact Bq_neq_Msg | exact Bq_eql_Pair | exact Bq_neq_Pair | exact Bq_eql_Op | exact Bq_neq_Op | exact Bq_eql_Cfg | exact Bq_neq_Cfg)); rfl)
      | refine sst ?_
      | refine VS_nil ?_
      | refine eeq ?_
      | refine ees ?_ (by first | exact es1 (by rfl) | exact esN (by rfl))
      | refine VE_nil ?_
      | refine kyes ?_
      | refine kno ?_
      | refine gyes ?_
      | refine gno ?_
      | refine knoU ?_
      | refine gnoU ?_
      | refine VG_nil ⟨by rfl, ?_⟩
      | refine VG_nil ?_
      | refine dT ?_
      | refine d1 ?_
      | refine dQ ?_
      | refine ctr ?_
      | refine cfa ?_
      | refine kdec (fun hq => ?_) (fun hq => ?_)
      | refine gdec (fun hq => ?_) (fun hq => ?_)
      | refine cco (fun hq => ?_) (fun hq => ?_))
    rw [e0]
    exact Res.two (by rfl) (ResV_tmp (by rfl) rfl) (ResV_tmp (by rfl) rfl)
  have d0 : decide (slot < 0) = false := decide_eq_false h0
  have e0 : decide (0 ≤ slot) = true := decide_eq_true (by omega)
  rw [e0]
  by_cases h1 : slot < (n : Int)
  · have d1 : decide ((n : Int) ≤ slot) = false := decide_eq_false (by omega)
    have e1 : decide (slot < (n : Int)) = true := decide_eq_true h1
    rw [e1]
    obtain ⟨k, rfl⟩ : ∃ k : Nat, slot = (k : Int) := ⟨slot.toNat, by omega⟩
    obtain ⟨u, hu, hh, hs⟩ := hk k rfl (by omega)
    have cB := fun W (hW : M.le (Mem.of W)) => slices_BinarySearchI u who thread W (hs.toSl hW) (by omega) hasc
    have kn : k < n := by omega
    cases hm : decide (thread ∈ who) with
    | true =>
      rw [hm] at cB
      refine V_flat (args := [.pointer (some ⟨b, 0, none⟩), .int .i64 thread, .int .i64 k]) (M := M) Try.func48 rfl Try.ntmps48 (by rfl) (hM) ?_
      repeat' (first
        | refine VC_seq ?_
        | refine VC_region ?_
        | refine VL_nil ?_
        | refine VC_ret ?_
        | refine VC_exit ?_
        | refine VC_block ?_
        | refine VC_skip ?_
        | refine kbox ?_
        | refine kall ?_
        | refine kst ?_
        | refine ksN ?_
        | refine klt ?_
        | refine kl1 ?_
        | refine klK ?_
        | refine kap ?_
        | ((first | apply VL_q | apply VG_q | apply VS_q2); (first | exact QS_bin (by rfl) (by rfl) B_pnil | exact qni (by rfl) | exact QS_mload1 (by rfl) hc | exact QS_mload1 (by rfl) hu | exact QS_mload1 (by rfl) hh | exact QS_indexAddr k (by rfl) (by rfl) rfl kn | exact QS_call (by rfl) cB | exact qmv (by rfl) | exact qas (by rfl) | exact ql1 (by rfl) | exact qlA (by rfl) | exact qfa (by rfl) | exact qmf (by rfl) | exact qfd (by rfl) | exact qm1 (by rfl) | exact qbd (by rfl) | exact qno (by rfl) | exact qex (by rfl) | exact qln (by rfl) | exact qls (by rfl) | exact qlr (by rfl) | exact qpt (by rfl) | exact qpf (by rfl) | exact qcp (by rfl) | exact qbe (by rfl) | exact qbn (by rfl) | exact qsn (by rfl) | exact qad (by rfl) | exact qsa (by rfl) | exact qsu (by rfl) | exact QS_bin (by rfl) (by rfl) (by first | exact B_slnil | exact Bq_eql_Msg | exact Bq_neq_Msg | exact Bq_eql_Pair | exact Bq_neq_Pair | exact Bq_eql_Op | exact Bq_neq_Op | exact Bq_eql_Cfg | exact Bq_neq_Cfg)); rfl)
        | refine sst ?_
        | refine VS_nil ?_
        | refine eeq ?_
        | refine ees ?_ (by first | exact es1 (by rfl) | exact esN (by rfl))
        | refine VE_nil ?_
        | refine kyes ?_
        | refine kno ?_
        | refine gyes ?_
        | refine gno ?_
        | refine knoU ?_
        | refine gnoU ?_
        | refine VG_nil ⟨by rfl, ?_⟩
        | refine VG_nil ?_
        | refine dT ?_
        | refine d1 ?_
        | refine dQ ?_
        | refine ctr ?_
        | refine cfa ?_
        | refine kdec (fun hq => ?_) (fun hq => ?_)
        | refine gdec (fun hq => ?_) (fun hq => ?_)
        | refine cco (fun hq => ?_) (fun hq => ?_))
      exact Res.two (by rfl) (ResV_tmp (by rfl) rfl) (ResV_tmp (by rfl) rfl)
    | false =>
      rw [hm] at cB
      refine V_flat (args := [.pointer (some ⟨b, 0, none⟩), .int .i64 thread, .int .i64 k]) (M := M) Try.func48 rfl Try.ntmps48 (by rfl) (hM) ?_
      repeat' (first
        | refine VC_seq ?_
        | refine VC_region ?_
        | refine VL_nil ?_
        | refine VC_ret ?_
        | refine VC_exit ?_
        | refine VC_block ?_
        | refine VC_skip ?_
        | refine kbox ?_
        | refine kall ?_
        | refine kst ?_
        | refine ksN ?_
        | refine klt ?_
        | refine kl1 ?_
        | refine klK ?_
        | refine kap ?_
        | ((first | apply VL_q | apply VG_q | apply VS_q2); (first | exact QS_bin (by rfl) (by rfl) B_pnil | exact qni (by rfl) | exact QS_mload1 (by rfl) hc | exact QS_mload1 (by rfl) hu | exact QS_mload1 (by rfl) hh | exact QS_indexAddr k (by rfl) (by rfl) rfl kn | exact QS_call (by rfl) cB | exact qmv (by rfl) | exact qas (by rfl) | exact ql1 (by rfl) | exact qlA (by rfl) | exact qfa (by rfl) | exact qmf (by rfl) | exact qfd (by rfl) | exact qm1 (by rfl) | exact qbd (by rfl) | exact qno (by rfl) | exact qex (by rfl) | exact qln (by rfl) | exact qls (by rfl) | exact qlr (by rfl) | exact qpt (by rfl) | exact qpf (by rfl) | exact qcp (by rfl) | exact qbe (by rfl) | exact qbn (by rfl) | exact qsn (by rfl) | exact qad (by rfl) | exact qsa (by rfl) | exact qsu (by rfl) | exact QS_bin (by rfl) (by rfl) (by first | exact B_slnil | exact Bq_eql_Msg | exact Bq_neq_Msg | exact Bq_eql_Pair | exact Bq_neq_Pair | exact Bq_eql_Op | exact Bq_neq_Op | exact Bq_eql_Cfg | exact Bq_neq_Cfg)); rfl)
        | refine sst ?_
        | refine VS_nil ?_
        | refine eeq ?_
        | refine ees ?_ (by first | exact es1 (by rfl) | exact esN (by rfl))
        | refine VE_nil ?_
        | refine kyes ?_
        | refine kno ?_
        | refine gyes ?_
        | refine gno ?_
        | refine knoU ?_
        | refine gnoU ?_
        | refine VG_nil ⟨by rfl, ?_⟩
        | refine VG_nil ?_
        | refine dT ?_
        | refine d1 ?_
        | refine dQ ?_
        | refine ctr ?_
        | refine cfa ?_
        | refine kdec (fun hq => ?_) (fun hq => ?_)
        | refine gdec (fun hq => ?_) (fun hq => ?_)
        | refine cco (fun hq => ?_) (fun hq => ?_))
      exact Res.two (by rfl) (ResV_tmp (by rfl) rfl) (ResV_tmp (by rfl) rfl)
  · have d1 : decide ((n : Int) ≤ slot) = true := decide_eq_true (by omega)
    have e1 : decide (slot < (n : Int)) = false := decide_eq_false h1
    rw [e1]
    refine V_flat (args := [.pointer (some ⟨b, 0, none⟩), .int .i64 thread, .int .i64 slot]) (M := M) Try.func48 rfl Try.ntmps48 (by rfl) (hM) ?_
    repeat' (first
      | refine VC_seq ?_
      | refine VC_region ?_
      | refine VL_nil ?_
      | refine VC_ret ?_
      | refine VC_exit ?_
      | refine VC_block ?_
      | refine VC_skip ?_
      | refine kbox ?_
      | refine kall ?_
      | refine kst ?_
      | refine ksN ?_
      | refine klt ?_
      | refine kl1 ?_
      | refine klK ?_
      | refine kap ?_
      | ((first | apply VL_q | apply VG_q | apply VS_q2); (first | exact QS_bin (by rfl) (by rfl) B_pnil | exact qni (by rfl) | exact QS_mload1 (by rfl) hc | exact qmv (by rfl) | exact qas (by rfl) | exact ql1 (by rfl) | exact qlA (by rfl) | exact qfa (by rfl) | exact qmf (by rfl) | exact qfd (by rfl) | exact qm1 (by rfl) | exact qbd (by rfl) | exact qno (by rfl) | exact qex (by rfl) | exact qln (by rfl) | exact qls (by rfl) | exact qlr (by rfl) | exact qpt (by rfl) | exact qpf (by rfl) | exact qcp (by rfl) | exact qbe (by rfl) | exact qbn (by rfl) | exact qsn (by rfl) | exact qad (by rfl) | exact qsa (by rfl) | exact qsu (by rfl) | exact QS_bin (by rfl) (by rfl) (by first | exact B_slnil | exact Bq_eql_Msg | exact Bq_neq_Msg | exact Bq_eql_Pair | exact Bq_neq_Pair | exact Bq_eql_Op | exact Bq_neq_Op | exact Bq_eql_Cfg | exact Bq_neq_Cfg)); rfl)
      | refine sst ?_
      | refine VS_nil ?_
      | refine eeq ?_
      | refine ees ?_ (by first | exact es1 (by rfl) | exact esN (by rfl))
      | refine VE_nil ?_
      | refine kyes ?_
      | refine kno ?_
      | refine gyes ?_
      | refine gno ?_
      | refine knoU ?_
      | refine gnoU ?_
      | refine VG_nil ⟨by rfl, ?_⟩
      | refine VG_nil ?_
      | refine dT ?_
      | refine d1 ?_
      | refine dQ ?_
      | refine ctr ?_
      | refine cfa ?_
      | refine kdec (fun hq => ?_) (fun hq => ?_)
      | refine gdec (fun hq => ?_) (fun hq => ?_)
      | refine cco (fun hq => ?_) (fun hq => ?_))
    exact Res.two (by rfl) (ResV_tmp (by rfl) rfl) (ResV_tmp (by rfl) rfl)
/-- A number at its place. -/
def insI (l : List Int) (k : Int) : List Int := l.take (loI l k) ++ k :: l.drop (loI l k)
/-- What taking does to one slot. -/
def tkR (thread : Int) (who : List Int) (how hw : Int) : Int × List Int × Int :=
  if thread < 0 ∨ thread ∈ who then (2, who, how) else if how = 2 ∨ (hw = 2 ∧ how ≠ 0) then (7, who, how) else (0, insI who thread, hw)
abbrev tbC (g n c : Nat) : List Value := [.slice (some ⟨g, 0, none⟩) n c]
/-- A table and one of its slots. -/
def slOb (b g c n : Nat) (cs : List Value) (u : Value) (who : List Int) : List Ob := [.nblk (.pointer (some ⟨b, 0, none⟩)) 154 (tbC g n c), .nrow (.slice (some ⟨g, 0, none⟩) n c) 160 2 n cs, .nrow u 3 1 who.length (ic who)]
theorem ins_len (l : List Int) (k : Int) : (insI l k).length = l.length + 1 := by
  have := loI_le l k
  unfold insI
  simp; omega
theorem ins_ic (l : List Int) (k : Int) : (ic l).take (loI l k) ++ .int .i64 k :: (ic l).drop (loI l k) = ic (insI l k) := by
  unfold ic insI
  simp [List.map_take, List.map_drop]
theorem latch_take (b g c n k : Nat) (cs : List Value) (u : Value) (who : List Int) (thread how hw : Int) (M : Mem) (hk : k < n) (hn : n ≤ 1000000) (hu : cs[k * 2]? = some u) (hh : cs[k * 2 + 1]? = some (.int .i64 how)) (hcl : cs.length = n * 2) (hasc : Asc who) (hwn : who.length ≤ 1000000) (hus : NSh u who.length) :
    CallX Try.prog 94 [.pointer (some ⟨b, 0, none⟩), .int .i64 thread, .int .i64 k, .int .i64 hw] M (slOb b g c n cs u who)
      (fun v own' => v = .int .i64 (tkR thread who how hw).1 ∧ ∃ u', NSh u' (tkR thread who how hw).2.1.length ∧ own' = slOb b g c n ((cs.set (k * 2) u').set (k * 2 + 1) (.int .i64 (tkR thread who how hw).2.2)) u' (tkR thread who how hw).2.1) := by
  refine V_x Try.func94 rfl Try.ntmps94 (by rfl) (fun w M0 => ?_)
  have hnp : (some (⟨b, 0, none⟩ : Addr)).isNone = false := rfl
  have d0 : decide ((k : Int) < 0) = false := decide_eq_false (by omega)
  have d1 : decide ((n : Int) ≤ (k : Int)) = false := decide_eq_false (by omega)
  have hsame : (cs.set (k * 2) u).set (k * 2 + 1) (.int .i64 how) = cs := by rw [set_same hu, set_same hh]
  have cB : ∀ (hd : Nat → Value) (W : World), (∀ i o, (slOb b g c n cs u who)[i]? = some o → ObOk w.heap.size W (hd i) o) → Calls Try.prog 99 #[u, .int .i64 thread] W fun e W' => e = .returned (.tuple #[.int .i64 (loI who thread : Nat), .bool (decide (thread ∈ who))]) ∧ Below W.heap.size W W' := fun hd W hO => by
    obtain ⟨h1, h2⟩ := hO 2 _ rfl
    rw [h1] at h2
    exact slices_BinarySearchI u who thread W (ic_sl h2) (by omega) hasc
  have hu' : cs[0 + k * 2 + 0]? = some u := by rw [show 0 + k * 2 + 0 = k * 2 by omega]; exact hu
  have hh' : cs[0 + k * 2 + 1]? = some (.int .i64 how) := by rw [show 0 + k * 2 + 1 = k * 2 + 1 by omega]; exact hh
  by_cases ht : thread < 0
  · have d2 : decide (thread < 0) = true := decide_eq_true ht
    have hr : tkR thread who how hw = (2, who, how) := by unfold tkR; rw [if_pos (.inl ht)]
    rw [hr]
    unfold slOb
    repeat' (first
      | refine VC_seq ?_
      | refine VC_region ?_
      | refine VL_nil ?_
      | refine VC_ret ?_
      | refine VC_exit ?_
      | refine VC_block ?_
      | refine VC_skip ?_
      | refine kbox ?_
      | refine kall ?_
      | refine kst ?_
      | refine ksN ?_
      | refine klt ?_
      | refine kl1 ?_
      | refine klK ?_
      | refine kap ?_
      | ((first | apply VL_q | apply VG_q | apply VS_q2); (first | exact QS_bin (by rfl) (by rfl) B_pnil | exact qni (by rfl) | exact QS_nload1 0 (by rfl) (by rfl) (by rfl) (by rfl) | exact qmv (by rfl) | exact qas (by rfl) | exact ql1 (by rfl) | exact qlA (by rfl) | exact qfa (by rfl) | exact qmf (by rfl) | exact qfd (by rfl) | exact qm1 (by rfl) | exact qbd (by rfl) | exact qno (by rfl) | exact qex (by rfl) | exact qln (by rfl) | exact qls (by rfl) | exact qlr (by rfl) | exact qpt (by rfl) | exact qpf (by rfl) | exact qcp (by rfl) | exact qbe (by rfl) | exact qbn (by rfl) | exact qsn (by rfl) | exact qad (by rfl) | exact qsa (by rfl) | exact qsu (by rfl) | exact QS_bin (by rfl) (by rfl) (by first | exact B_slnil | exact Bq_eql_Msg | exact Bq_neq_Msg | exact Bq_eql_Pair | exact Bq_neq_Pair | exact Bq_eql_Op | exact Bq_neq_Op | exact Bq_eql_Cfg | exact Bq_neq_Cfg)); rfl)
      | refine sst ?_
      | refine VS_nil ?_
      | refine eeq ?_
      | refine ees ?_ (by first | exact es1 (by rfl) | exact esN (by rfl))
      | refine VE_nil ?_
      | refine kyes ?_
      | refine kno ?_
      | refine gyes ?_
      | refine gno ?_
      | refine knoU ?_
      | refine gnoU ?_
      | refine VG_nil ⟨by rfl, ?_⟩
      | refine VG_nil ?_
      | refine dT ?_
      | refine d1 ?_
      | refine dQ ?_
      | refine ctr ?_
      | refine cfa ?_
      | refine kdec (fun hq => ?_) (fun hq => ?_)
      | refine gdec (fun hq => ?_) (fun hq => ?_)
      | refine cco (fun hq => ?_) (fun hq => ?_))
    exact ⟨_, [0, 1, 2], slOb b g c n cs u who, Res.one (by rfl) (ResV_tmp (by rfl) rfl), Mem.le_refl _, rfl, ⟨rfl, rfl, rfl, trivial⟩, rfl, u, hus, by rw [hsame]; rfl⟩
  have d2 : decide (thread < 0) = false := decide_eq_false ht
  by_cases hm : thread ∈ who
  · have hr : tkR thread who how hw = (2, who, how) := by unfold tkR; rw [if_pos (.inr hm)]
    rw [decide_eq_true hm] at cB
    rw [hr]
    unfold slOb at cB ⊢
    repeat' (first
      | refine VC_seq ?_
      | refine VC_region ?_
      | refine VL_nil ?_
      | refine VC_ret ?_
      | refine VC_exit ?_
      | refine VC_block ?_
      | refine VC_skip ?_
      | refine kbox ?_
      | refine kall ?_
      | refine kst ?_
      | refine ksN ?_
      | refine klt ?_
      | refine kl1 ?_
      | refine klK ?_
      | refine kap ?_
      | ((first | apply VL_q | apply VG_q | apply VS_q2); (first | exact QS_bin (by rfl) (by rfl) B_pnil | exact qni (by rfl) | exact QS_nload1 0 (by rfl) (by rfl) (by rfl) (by rfl) | exact QS_nload1 1 (by rfl) (by rfl) (by rfl) hu' | exact QS_indexAddr k (by rfl) (by rfl) rfl hk | (refine QS_callR (r := .tuple #[.int .i64 (loI who thread : Nat), .bool true]) (by rfl) ?_; exact fun hd W hO hW => cB hd W hO) | exact qmv (by rfl) | exact qas (by rfl) | exact ql1 (by rfl) | exact qlA (by rfl) | exact qfa (by rfl) | exact qmf (by rfl) | exact qfd (by rfl) | exact qm1 (by rfl) | exact qbd (by rfl) | exact qno (by rfl) | exact qex (by rfl) | exact qln (by rfl) | exact qls (by rfl) | exact qlr (by rfl) | exact qpt (by rfl) | exact qpf (by rfl) | exact qcp (by rfl) | exact qbe (by rfl) | exact qbn (by rfl) | exact qsn (by rfl) | exact qad (by rfl) | exact qsa (by rfl) | exact qsu (by rfl) | exact QS_bin (by rfl) (by rfl) (by first | exact B_slnil | exact Bq_eql_Msg | exact Bq_neq_Msg | exact Bq_eql_Pair | exact Bq_neq_Pair | exact Bq_eql_Op | exact Bq_neq_Op | exact Bq_eql_Cfg | exact Bq_neq_Cfg)); rfl)
      | refine sst ?_
      | refine VS_nil ?_
      | refine eeq ?_
      | refine ees ?_ (by first | exact es1 (by rfl) | exact esN (by rfl))
      | refine VE_nil ?_
      | refine kyes ?_
      | refine kno ?_
      | refine gyes ?_
      | refine gno ?_
      | refine knoU ?_
      | refine gnoU ?_
      | refine VG_nil ⟨by rfl, ?_⟩
      | refine VG_nil ?_
      | refine dT ?_
      | refine d1 ?_
      | refine dQ ?_
      | refine ctr ?_
      | refine cfa ?_
      | refine kdec (fun hq => ?_) (fun hq => ?_)
      | refine gdec (fun hq => ?_) (fun hq => ?_)
      | refine cco (fun hq => ?_) (fun hq => ?_))
    exact ⟨_, [0, 1, 2], slOb b g c n cs u who, Res.one (by rfl) (ResV_tmp (by rfl) rfl), Mem.le_refl _, rfl, ⟨rfl, rfl, rfl, trivial⟩, rfl, u, hus, by rw [hsame]; rfl⟩
  rw [decide_eq_false hm] at cB
  by_cases h2 : how = 2
  · have q1 : (how == 2) = true := beq_iff_eq.2 h2
    have hr : tkR thread who how hw = (7, who, how) := by unfold tkR; rw [if_neg (by simp [ht, hm]), if_pos (.inl h2)]
    rw [hr]
    unfold slOb at cB ⊢
    repeat' (first
      | refine VC_seq ?_
      | refine VC_region ?_
      | refine VL_nil ?_
      | refine VC_ret ?_
      | refine VC_exit ?_
      | refine VC_block ?_
      | refine VC_skip ?_
      | refine kbox ?_
      | refine kall ?_
      | refine kst ?_
      | refine ksN ?_
      | refine klt ?_
      | refine kl1 ?_
      | refine klK ?_
      | refine kap ?_
      | ((first | apply VL_q | apply VG_q | apply VS_q2); (first | exact QS_bin (by rfl) (by rfl) B_pnil | exact qni (by rfl) | exact QS_nload1 0 (by rfl) (by rfl) (by rfl) (by rfl) | exact QS_nload1 1 (by rfl) (by rfl) (by rfl) hu' | exact QS_nload1 1 (by rfl) (by rfl) (by rfl) hh' | exact QS_indexAddr k (by rfl) (by rfl) rfl hk | (refine QS_callR (r := .tuple #[.int .i64 (loI who thread : Nat), .bool false]) (by rfl) ?_; exact fun hd W hO hW => cB hd W hO) | exact qmv (by rfl) | exact qas (by rfl) | exact ql1 (by rfl) | exact qlA (by rfl) | exact qfa (by rfl) | exact qmf (by rfl) | exact qfd (by rfl) | exact qm1 (by rfl) | exact qbd (by rfl) | exact qno (by rfl) | exact qex (by rfl) | exact qln (by rfl) | exact qls (by rfl) | exact qlr (by rfl) | exact qpt (by rfl) | exact qpf (by rfl) | exact qcp (by rfl) | exact qbe (by rfl) | exact qbn (by rfl) | exact qsn (by rfl) | exact qad (by rfl) | exact qsa (by rfl) | exact qsu (by rfl) | exact QS_bin (by rfl) (by rfl) (by first | exact B_slnil | exact Bq_eql_Msg | exact Bq_neq_Msg | exact Bq_eql_Pair | exact Bq_neq_Pair | exact Bq_eql_Op | exact Bq_neq_Op | exact Bq_eql_Cfg | exact Bq_neq_Cfg)); rfl)
      | refine sst ?_
      | refine VS_nil ?_
      | refine eeq ?_
      | refine ees ?_ (by first | exact es1 (by rfl) | exact esN (by rfl))
      | refine VE_nil ?_
      | refine kyes ?_
      | refine kno ?_
      | refine gyes ?_
      | refine gno ?_
      | refine knoU ?_
      | refine gnoU ?_
      | refine VG_nil ⟨by rfl, ?_⟩
      | refine VG_nil ?_
      | refine dT ?_
      | refine d1 ?_
      | refine dQ ?_
      | refine ctr ?_
      | refine cfa ?_
      | refine kdec (fun hq => ?_) (fun hq => ?_)
      | refine gdec (fun hq => ?_) (fun hq => ?_)
      | refine cco (fun hq => ?_) (fun hq => ?_))
    exact ⟨_, [0, 1, 2], slOb b g c n cs u who, Res.one (by rfl) (ResV_tmp (by rfl) rfl), Mem.le_refl _, rfl, ⟨rfl, rfl, rfl, trivial⟩, rfl, u, hus, by rw [hsame]; rfl⟩
  have q1 : (how == 2) = false := beq_eq_false_iff_ne.2 h2
  by_cases h3 : hw = 2 ∧ how ≠ 0
  · have q2 : (hw == 2) = true := beq_iff_eq.2 h3.1
    have q3 : (how != 0) = true := bne_iff_ne.2 h3.2
    have hr : tkR thread who how hw = (7, who, how) := by unfold tkR; rw [if_neg (by simp [ht, hm]), if_pos (.inr h3)]
    rw [hr]
    unfold slOb at cB ⊢
    repeat' (first
      | refine VC_seq ?_
      | refine VC_region ?_
      | refine VL_nil ?_
      | refine VC_ret ?_
      | refine VC_exit ?_
      | refine VC_block ?_
      | refine VC_skip ?_
      | refine kbox ?_
      | refine kall ?_
      | refine kst ?_
      | refine ksN ?_
      | refine klt ?_
      | refine kl1 ?_
      | refine klK ?_
      | refine kap ?_
      | ((first | apply VL_q | apply VG_q | apply VS_q2); (first | exact QS_bin (by rfl) (by rfl) B_pnil | exact qni (by rfl) | exact QS_nload1 0 (by rfl) (by rfl) (by rfl) (by rfl) | exact QS_nload1 1 (by rfl) (by rfl) (by rfl) hu' | exact QS_nload1 1 (by rfl) (by rfl) (by rfl) hh' | exact QS_indexAddr k (by rfl) (by rfl) rfl hk | (refine QS_callR (r := .tuple #[.int .i64 (loI who thread : Nat), .bool false]) (by rfl) ?_; exact fun hd W hO hW => cB hd W hO) | exact qmv (by rfl) | exact qas (by rfl) | exact ql1 (by rfl) | exact qlA (by rfl) | exact qfa (by rfl) | exact qmf (by rfl) | exact qfd (by rfl) | exact qm1 (by rfl) | exact qbd (by rfl) | exact qno (by rfl) | exact qex (by rfl) | exact qln (by rfl) | exact qls (by rfl) | exact qlr (by rfl) | exact qpt (by rfl) | exact qpf (by rfl) | exact qcp (by rfl) | exact qbe (by rfl) | exact qbn (by rfl) | exact qsn (by rfl) | exact qad (by rfl) | exact qsa (by rfl) | exact qsu (by rfl) | exact QS_bin (by rfl) (by rfl) (by first | exact B_slnil | exact Bq_eql_Msg | exact Bq_neq_Msg | exact Bq_eql_Pair | exact Bq_neq_Pair | exact Bq_eql_Op | exact Bq_neq_Op | exact Bq_eql_Cfg | exact Bq_neq_Cfg)); rfl)
      | refine sst ?_
      | refine VS_nil ?_
      | refine eeq ?_
      | refine ees ?_ (by first | exact es1 (by rfl) | exact esN (by rfl))
      | refine VE_nil ?_
      | refine kyes ?_
      | refine kno ?_
      | refine gyes ?_
      | refine gno ?_
      | refine knoU ?_
      | refine gnoU ?_
      | refine VG_nil ⟨by rfl, ?_⟩
      | refine VG_nil ?_
      | refine dT ?_
      | refine d1 ?_
      | refine dQ ?_
      | refine ctr ?_
      | refine cfa ?_
      | refine kdec (fun hq => ?_) (fun hq => ?_)
      | refine gdec (fun hq => ?_) (fun hq => ?_)
      | refine cco (fun hq => ?_) (fun hq => ?_))
    exact ⟨_, [0, 1, 2], slOb b g c n cs u who, Res.one (by rfl) (ResV_tmp (by rfl) rfl), Mem.le_refl _, rfl, ⟨rfl, rfl, rfl, trivial⟩, rfl, u, hus, by rw [hsame]; rfl⟩
  have hr : tkR thread who how hw = (0, insI who thread, hw) := by unfold tkR; rw [if_neg (by simp [ht, hm]), if_neg (by simp only [not_or]; exact ⟨h2, h3⟩)]
  rw [hr]
  have hil := ins_len who thread
  have hii := ins_ic who thread
  have hll := loI_le who thread
  by_cases h4 : hw = 2
  · have h5 : how = 0 := by
      rcases Decidable.em (how = 0) with h | h
      · exact h
      · exact absurd ⟨h4, h⟩ h3
    have q2 : (hw == 2) = true := beq_iff_eq.2 h4
    have q3 : (how != 0) = false := by rw [h5]; rfl
    unfold slOb at cB ⊢
    repeat' (first
      | refine VC_seq ?_
      | refine VC_region ?_
      | refine VL_nil ?_
      | refine VC_ret ?_
      | refine VC_exit ?_
      | refine VC_block ?_
      | refine VC_skip ?_
      | refine kbox ?_
      | refine kall ?_
      | refine kst ?_
      | refine ksN ?_
      | refine klt ?_
      | refine kl1 ?_
      | refine klK ?_
      | refine kap ?_
      | ((first | apply VL_q | apply VG_q | apply VS_q2); (first | exact QS_bin (by rfl) (by rfl) B_pnil | exact qni (by rfl) | exact QS_nload1 0 (by rfl) (by rfl) (by rfl) (by rfl) | exact QS_nload1 1 (by rfl) (by rfl) (by rfl) hu' | exact QS_nload1 1 (by rfl) (by rfl) (by rfl) hh' | exact QS_indexAddr k (by rfl) (by rfl) rfl hk | (refine QS_callR (r := .tuple #[.int .i64 (loI who thread : Nat), .bool false]) (by rfl) ?_; exact fun hd W hO hW => cB hd W hO) | exact qmv (by rfl) | exact qas (by rfl) | exact ql1 (by rfl) | exact qlA (by rfl) | exact qfa (by rfl) | exact qmf (by rfl) | exact qfd (by rfl) | exact qm1 (by rfl) | exact qbd (by rfl) | exact qno (by rfl) | exact qex (by rfl) | exact qln (by rfl) | exact qls (by rfl) | exact qlr (by rfl) | exact qpt (by rfl) | exact qpf (by rfl) | exact qcp (by rfl) | exact qbe (by rfl) | exact qbn (by rfl) | exact qsn (by rfl) | exact qad (by rfl) | exact qsa (by rfl) | exact qsu (by rfl) | exact QS_bin (by rfl) (by rfl) (by first | exact B_slnil | exact Bq_eql_Msg | exact Bq_neq_Msg | exact Bq_eql_Pair | exact Bq_neq_Pair | exact Bq_eql_Op | exact Bq_neq_Op | exact Bq_eql_Cfg | exact Bq_neq_Cfg)); rfl)
      | refine sst ?_
      | refine VS_nil ?_
      | refine eeq ?_
      | refine ees ?_ (by first | exact es1 (by rfl) | exact esN (by rfl))
      | refine VE_nil ?_
      | refine kyes ?_
      | refine kno ?_
      | refine gyes ?_
      | refine gno ?_
      | refine knoU ?_
      | refine gnoU ?_
      | refine VG_nil ⟨by rfl, ?_⟩
      | refine VG_nil ?_
      | refine dT ?_
      | refine d1 ?_
      | refine dQ ?_
      | refine ctr ?_
      | refine cfa ?_
      | refine kdec (fun hq => ?_) (fun hq => ?_)
      | refine gdec (fun hq => ?_) (fun hq => ?_)
      | refine cco (fun hq => ?_) (fun hq => ?_))
    refine VL_nameR 3 (by rfl) (fun lv hlv => ?_)
    refine VL_callX (own1 := [.nrow u 3 1 who.length (ic who), .nrow lv 3 1 1 [.int .i64 thread]]) [2, 3] (by rfl) (by rfl) ⟨rfl, rfl, trivial⟩ (fun M' _ => ins_x u lv (.int .i64 thread) (loI who thread) who.length (ic who) M' hll hwn rfl (ic_one who)) (by rfl) (by rfl) ?_
    rintro v _ ⟨hv, rfl⟩
    repeat' (first
      | refine VL_e _ _ (EF_st (ES_nrow1 1 (by rfl) (by rfl) (by rfl) (by rfl) (by (try simp only [List.length_set]); omega) (by first | exact hv.one | rfl)) (by rfl)) (by rfl) (by rfl) ?_
      | refine VC_seq ?_
      | refine VC_region ?_
      | refine VL_nil ?_
      | refine VC_ret ?_
      | refine VC_exit ?_
      | refine VC_block ?_
      | refine VC_skip ?_
      | refine kbox ?_
      | refine kall ?_
      | refine kst ?_
      | refine ksN ?_
      | refine klt ?_
      | refine kl1 ?_
      | refine klK ?_
      | refine kap ?_
      | ((first | apply VL_q | apply VG_q | apply VS_q2); (first | exact qni (by rfl) | exact qmv (by rfl) | exact qas (by rfl) | exact ql1 (by rfl) | exact qlA (by rfl) | exact qfa (by rfl) | exact qmf (by rfl) | exact qfd (by rfl) | exact qm1 (by rfl) | exact qbd (by rfl) | exact qno (by rfl) | exact qex (by rfl) | exact qln (by rfl) | exact qls (by rfl) | exact qlr (by rfl) | exact qpt (by rfl) | exact qpf (by rfl) | exact qcp (by rfl) | exact qbe (by rfl) | exact qbn (by rfl) | exact qsn (by rfl) | exact qad (by rfl) | exact qsa (by rfl) | exact qsu (by rfl) | exact QS_bin (by rfl) (by rfl) (by first | exact B_slnil | exact Bq_eql_Msg | exact Bq_neq_Msg | exact Bq_eql_Pair | exact Bq_neq_Pair | exact Bq_eql_Op | exact Bq_neq_Op | exact Bq_eql_Cfg | exact Bq_neq_Cfg)); rfl)
      | refine sst ?_
      | refine VS_nil ?_
      | refine eeq ?_
      | refine ees ?_ (by first | exact es1 (by rfl) | exact esN (by rfl))
      | refine VE_nil ?_
      | refine kyes ?_
      | refine kno ?_
      | refine gyes ?_
      | refine gno ?_
      | refine knoU ?_
      | refine gnoU ?_
      | refine VG_nil ⟨by rfl, ?_⟩
      | refine VG_nil ?_
      | refine dT ?_
      | refine d1 ?_
      | refine dQ ?_
      | refine ctr ?_
      | refine cfa ?_
      | refine kdec (fun hq => ?_) (fun hq => ?_)
      | refine gdec (fun hq => ?_) (fun hq => ?_)
      | refine cco (fun hq => ?_) (fun hq => ?_))
    refine ⟨_, [0, 1, 4], slOb b g c n ((cs.set (k * 2) v).set (k * 2 + 1) (.int .i64 hw)) v (insI who thread), Res.one (by rfl) (ResV_tmp (by rfl) rfl), Mem.le_refl _, rfl, ⟨rfl, ?_, ?_, trivial⟩, rfl, v, by rw [hil]; exact hv, rfl⟩
    · show some (Ob.nrow _ _ 2 n ((cs.set (0 + k * 2 + 0) v).set (0 + k * 2 + 1) _)) = _
      rw [show 0 + k * 2 + 0 = k * 2 by omega, show 0 + k * 2 + 1 = k * 2 + 1 by omega]
    · show some (Ob.nrow v _ 1 (who.length + 1) _) = _
      rw [hii, ← hil]
  · have q2 : (hw == 2) = false := beq_eq_false_iff_ne.2 h4
    unfold slOb at cB ⊢
    repeat' (first
      | refine VC_seq ?_
      | refine VC_region ?_
      | refine VL_nil ?_
      | refine VC_ret ?_
      | refine VC_exit ?_
      | refine VC_block ?_
      | refine VC_skip ?_
      | refine kbox ?_
      | refine kall ?_
      | refine kst ?_
      | refine ksN ?_
      | refine klt ?_
      | refine kl1 ?_
      | refine klK ?_
      | refine kap ?_
      | ((first | apply VL_q | apply VG_q | apply VS_q2); (first | exact QS_bin (by rfl) (by rfl) B_pnil | exact qni (by rfl) | exact QS_nload1 0 (by rfl) (by rfl) (by rfl) (by rfl) | exact QS_nload1 1 (by rfl) (by rfl) (by rfl) hu' | exact QS_nload1 1 (by rfl) (by rfl) (by rfl) hh' | exact QS_indexAddr k (by rfl) (by rfl) rfl hk | (refine QS_callR (r := .tuple #[.int .i64 (loI who thread : Nat), .bool false]) (by rfl) ?_; exact fun hd W hO hW => cB hd W hO) | exact qmv (by rfl) | exact qas (by rfl) | exact ql1 (by rfl) | exact qlA (by rfl) | exact qfa (by rfl) | exact qmf (by rfl) | exact qfd (by rfl) | exact qm1 (by rfl) | exact qbd (by rfl) | exact qno (by rfl) | exact qex (by rfl) | exact qln (by rfl) | exact qls (by rfl) | exact qlr (by rfl) | exact qpt (by rfl) | exact qpf (by rfl) | exact qcp (by rfl) | exact qbe (by rfl) | exact qbn (by rfl) | exact qsn (by rfl) | exact qad (by rfl) | exact qsa (by rfl) | exact qsu (by rfl) | exact QS_bin (by rfl) (by rfl) (by first | exact B_slnil | exact Bq_eql_Msg | exact Bq_neq_Msg | exact Bq_eql_Pair | exact Bq_neq_Pair | exact Bq_eql_Op | exact Bq_neq_Op | exact Bq_eql_Cfg | exact Bq_neq_Cfg)); rfl)
      | refine sst ?_
      | refine VS_nil ?_
      | refine eeq ?_
      | refine ees ?_ (by first | exact es1 (by rfl) | exact esN (by rfl))
      | refine VE_nil ?_
      | refine kyes ?_
      | refine kno ?_
      | refine gyes ?_
      | refine gno ?_
      | refine knoU ?_
      | refine gnoU ?_
      | refine VG_nil ⟨by rfl, ?_⟩
      | refine VG_nil ?_
      | refine dT ?_
      | refine d1 ?_
      | refine dQ ?_
      | refine ctr ?_
      | refine cfa ?_
      | refine kdec (fun hq => ?_) (fun hq => ?_)
      | refine gdec (fun hq => ?_) (fun hq => ?_)
      | refine cco (fun hq => ?_) (fun hq => ?_))
    refine VL_nameR 3 (by rfl) (fun lv hlv => ?_)
    refine VL_callX (own1 := [.nrow u 3 1 who.length (ic who), .nrow lv 3 1 1 [.int .i64 thread]]) [2, 3] (by rfl) (by rfl) ⟨rfl, rfl, trivial⟩ (fun M' _ => ins_x u lv (.int .i64 thread) (loI who thread) who.length (ic who) M' hll hwn rfl (ic_one who)) (by rfl) (by rfl) ?_
    rintro v _ ⟨hv, rfl⟩
    repeat' (first
      | refine VL_e _ _ (EF_st (ES_nrow1 1 (by rfl) (by rfl) (by rfl) (by rfl) (by (try simp only [List.length_set]); omega) (by first | exact hv.one | rfl)) (by rfl)) (by rfl) (by rfl) ?_
      | refine VC_seq ?_
      | refine VC_region ?_
      | refine VL_nil ?_
      | refine VC_ret ?_
      | refine VC_exit ?_
      | refine VC_block ?_
      | refine VC_skip ?_
      | refine kbox ?_
      | refine kall ?_
      | refine kst ?_
      | refine ksN ?_
      | refine klt ?_
      | refine kl1 ?_
      | refine klK ?_
      | refine kap ?_
      | ((first | apply VL_q | apply VG_q | apply VS_q2); (first | exact qni (by rfl) | exact qmv (by rfl) | exact qas (by rfl) | exact ql1 (by rfl) | exact qlA (by rfl) | exact qfa (by rfl) | exact qmf (by rfl) | exact qfd (by rfl) | exact qm1 (by rfl) | exact qbd (by rfl) | exact qno (by rfl) | exact qex (by rfl) | exact qln (by rfl) | exact qls (by rfl) | exact qlr (by rfl) | exact qpt (by rfl) | exact qpf (by rfl) | exact qcp (by rfl) | exact qbe (by rfl) | exact qbn (by rfl) | exact qsn (by rfl) | exact qad (by rfl) | exact qsa (by rfl) | exact qsu (by rfl) | exact QS_bin (by rfl) (by rfl) (by first | exact B_slnil | exact Bq_eql_Msg | exact Bq_neq_Msg | exact Bq_eql_Pair | exact Bq_neq_Pair | exact Bq_eql_Op | exact Bq_neq_Op | exact Bq_eql_Cfg | exact Bq_neq_Cfg)); rfl)
      | refine sst ?_
      | refine VS_nil ?_
      | refine eeq ?_
      | refine ees ?_ (by first | exact es1 (by rfl) | exact esN (by rfl))
      | refine VE_nil ?_
      | refine kyes ?_
      | refine kno ?_
      | refine gyes ?_
      | refine gno ?_
      | refine knoU ?_
      | refine gnoU ?_
      | refine VG_nil ⟨by rfl, ?_⟩
      | refine VG_nil ?_
      | refine dT ?_
      | refine d1 ?_
      | refine dQ ?_
      | refine ctr ?_
      | refine cfa ?_
      | refine kdec (fun hq => ?_) (fun hq => ?_)
      | refine gdec (fun hq => ?_) (fun hq => ?_)
      | refine cco (fun hq => ?_) (fun hq => ?_))
    refine ⟨_, [0, 1, 4], slOb b g c n ((cs.set (k * 2) v).set (k * 2 + 1) (.int .i64 hw)) v (insI who thread), Res.one (by rfl) (ResV_tmp (by rfl) rfl), Mem.le_refl _, rfl, ⟨rfl, ?_, ?_, trivial⟩, rfl, v, by rw [hil]; exact hv, rfl⟩
    · show some (Ob.nrow _ _ 2 n ((cs.set (0 + k * 2 + 0) v).set (0 + k * 2 + 1) _)) = _
      rw [show 0 + k * 2 + 0 = k * 2 by omega, show 0 + k * 2 + 1 = k * 2 + 1 by omega]
    · show some (Ob.nrow v _ 1 (who.length + 1) _) = _
      rw [hii, ← hil]
end Go.Proofs.Ytdgcdfngpimmmaa
