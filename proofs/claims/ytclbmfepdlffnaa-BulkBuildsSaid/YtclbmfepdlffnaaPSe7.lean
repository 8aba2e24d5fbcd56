/- The document's Sound. -/
import Derived.Test.YtclbmfepdlffnaaPSe6
namespace Go.Proofs.Ytclbmfepdlffnaa
open Go Go.RowKit
attribute [local irreducible] Calls
set_option linter.unusedVariables false
set_option maxRecDepth 20000
set_option linter.unusedSimpArgs false
set_option maxHeartbeats 8000000
theorem bfs_len {l : List Nd} : ∀ (f i : Nat) (out r : List Sq), bfs l f i out = some r → (out.length ≤ l.length ∨ i < out.length) → r.length ≤ l.length
  | 0, _, _, _, h, _ => by cases h
  | f + 1, i, out, r, h, ho => by
    rw [bfs] at h
    cases hx : out[i]? with
    | none =>
      rw [hx] at h
      have hr : out = r := Option.some.inj h
      have := List.getElem?_eq_none_iff.1 hx
      rcases ho with ho | ho
      · rw [← hr]; exact ho
      · omega
    | some x =>
      rw [hx] at h
      dsimp only at h
      split at h
      · cases h
      · rename_i hl
        split at h
        · refine bfs_len f (i + 1) _ r h ?_
          have hi := (List.getElem?_eq_some_iff.1 hx).1
          rcases Nat.eq_zero_or_pos (kidsL l x).length with h0 | h0
          · left; rw [List.length_append]; omega
          · right; rw [List.length_append]; omega
        · cases h
theorem seats_len {l : List Nd} {ss : List Sq} (h : seatsL l = some ss) : ss.length ≤ l.length := by
  unfold seatsL at h
  split at h
  · exact bfs_len _ _ _ _ h (.inr (by simp))
  · cases h
theorem ref_Sound (c : Cfg) (v : Value) (l : List Nd) (w : World) (M : Mem) (hMw : M.le (Mem.of w)) (hl : SlM M 10 ndCells v l) (hN : NdsOk M l) :
    Calls Try.prog 47 #[.agg #[.int .i64 c.fanout, .int .i64 c.leaf, .int .i64 c.budget, .int .i64 c.slots, .int .i64 c.restarts], v] w fun e w' => e = .returned (.bool (soundR c l)) ∧ Below w.heap.size w w' := by
  obtain ⟨A, c0, rfl, hc1, hc2, _⟩ := id hl
  unfold maxLen at hc2
  have hlen := hN.len
  refine V_flat (args := [.agg #[.int .i64 c.fanout, .int .i64 c.leaf, .int .i64 c.budget, .int .i64 c.slots, .int .i64 c.restarts], .slice A l.length c0]) (M := M) Try.func47 rfl Try.ntmps47 (by rfl) (hMw) ?_
  repeat' (first | refine VC_seq ?_ | refine VC_region ?_ | refine VL_nil ?_ | refine kbox ?_ | ((apply VL_q); (first | exact qmv (by rfl) | exact qas (by rfl)); rfl))
  refine VL_callM (by rfl) (fun W hW => ref_Seats _ l W M hW hl hN) (by rfl) (fun u M1 hle1 ⟨xv, b, hu, ht, hf⟩ => ?_)
  subst hu
  unfold soundR
  cases b with
  | false =>
    rw [hf rfl]
    repeat' (first | refine VC_seq ?_ | refine VC_region ?_ | refine VL_nil ?_ | refine VC_ret ?_ | ((apply VL_q); (first | exact qmv (by rfl) | exact qas (by rfl) | exact qno (by rfl) | exact qex (by rfl) | exact qpt (by rfl)); rfl) | refine kno ?_ | refine ctr ?_)
    show Res _ _ _ _
    refine Res.one (by rfl) (ResV_tmp (by rfl) ?_)
    rfl
  | true =>
    obtain ⟨X, hX, hs, hXo⟩ := ht rfl
    rw [hs]
    dsimp only
    obtain ⟨B, d, rfl, hd1, hd2, _⟩ := id hX
    unfold maxLen at hd2
    have hXn : X.length ≤ 1000000000 := by have := seats_len hs; rw [List.length_map] at this; omega
    have cO := fun W (hW : M1.le (Mem.of W)) => ref_Once _ _ l X W M1 hW (hl.mono hle1) hX hXn
    have cL := fun W (hW : M1.le (Mem.of W)) => ref_linkedQ _ X W M1 hW hX hXn
    cases h1 : onceR l (X.map (·.1)) with
    | false =>
      rw [h1] at cO
      repeat' (first | refine VC_seq ?_ | refine VC_region ?_ | refine VL_nil ?_ | refine VC_ret ?_ | ((apply VL_q); (first | exact QS_call (by rfl) cO | exact qmv (by rfl) | exact qas (by rfl) | exact qno (by rfl) | exact qex (by rfl) | exact qpt (by rfl) | exact qpf (by rfl)); rfl) | refine kyes ?_ | refine kno ?_ | refine ctr ?_)
      show Res _ _ _ _
      refine Res.one (by rfl) (ResV_tmp (by rfl) ?_)
      simp
    | true =>
      rw [h1] at cO
      cases h2 : linkedF (X.map (·.1)) with
      | false =>
        rw [h2] at cL
        repeat' (first | refine VC_seq ?_ | refine VC_region ?_ | refine VL_nil ?_ | refine VC_ret ?_ | ((apply VL_q); (first | exact QS_call (by rfl) cO | exact QS_call (by rfl) cL | exact qmv (by rfl) | exact qas (by rfl) | exact qno (by rfl) | exact qex (by rfl) | exact qpt (by rfl) | exact qpf (by rfl)); rfl) | refine kyes ?_ | refine kno ?_ | refine ctr ?_)
        show Res _ _ _ _
        refine Res.one (by rfl) (ResV_tmp (by rfl) ?_)
        simp
      | true =>
        rw [h2] at cL
        cases h3 : decide (c.slots < (l.length : Int)) with
        | true =>
          repeat' (first | refine VC_seq ?_ | refine VC_region ?_ | refine VL_nil ?_ | refine VC_ret ?_ | ((apply VL_q); (first | exact QS_call (by rfl) cO | exact QS_call (by rfl) cL | exact qmv (by rfl) | exact qas (by rfl) | exact ql1 (by rfl) | exact qfa (by rfl) | exact qno (by rfl) | exact qex (by rfl) | exact qln (by rfl) | exact qpf (by rfl) | exact qcp (by rfl)); rfl) | refine kyes ?_ | refine ctr ?_)
          show Res _ _ _ _
          refine Res.one (by rfl) (ResV_tmp (by rfl) ?_)
          simp
        | false =>
          repeat' (first | refine VC_seq ?_ | refine VC_region ?_ | refine VL_nil ?_ | refine VC_block ?_ | refine VC_skip ?_ | ((apply VL_q); (first | exact QS_call (by rfl) cO | exact QS_call (by rfl) cL | exact qmv (by rfl) | exact qas (by rfl) | exact ql1 (by rfl) | exact qfa (by rfl) | exact qno (by rfl) | exact qex (by rfl) | exact qln (by rfl) | exact qpf (by rfl) | exact qcp (by rfl)); rfl) | refine kyes ?_ | refine cfa ?_)
          refine VC_for (fun k : Nat => ⟨M1, [.blk 74 [.int .i64 c.fanout, .int .i64 c.leaf, .int .i64 c.budget, .int .i64 c.slots, .int .i64 c.restarts]], [(2, .p 0 0), (5, .v (.slice B X.length d)), (7, .v (.int .i64 k))]⟩) (fun k => k ≤ X.length ∧ ((X.map (·.1)).take k).all (fun x => seatB c x && younQ x) = true) (fun k => X.length - k) [0] 0 ⟨rfl, rfl, ⟨rfl, trivial⟩, ⟨rfl, rfl, rfl, trivial⟩⟩ ⟨by omega, rfl⟩ ?_
          rintro k ⟨hk, hr⟩
          rcases Nat.lt_or_ge k X.length with hlt | hge
          · have hd := dlt hlt
            have hx := hXo X[k] (List.getElem_mem hlt)
            obtain ⟨b, off, rfl, hcA⟩ := hX.get hlt
            have hone := sq_one hx
            have hlm : k < (X.map (·.1)).length := by simpa using hlt
            have hsb : ∀ x : Sq, (seatB c x && younQ x) = ((rightN c x.n && placedQ x && !decide (c.slots ≤ x.n.slot)) && younQ x) := fun x => rfl
            have stp : (seatB c X[k].1 && younQ X[k].1) = false → (X.map (·.1)).all (fun x => seatB c x && younQ x) = false := fun h => allG_stop hlm (p := fun x => seatB c x && younQ x) (by rw [List.getElem_map]; exact h)
            have stn := allG_step hlm (fun x => seatB c x && younQ x)
            rw [List.getElem_map] at stn
            have cR := fun W (hW : M1.le (Mem.of W)) => ref_RightN c X[k].1.n W (hx.ok.mono hW) hx.big
            have cP := fun W (hW : M1.le (Mem.of W)) => ref_PlacedQ X[k] W M1 hW hx
            generalize X[k] = x at *
            cases q1 : rightN c x.1.n with
            | false =>
              rw [q1] at cR
              repeat' (first | refine ksN ?_ (hu := hone) | refine VC_seq ?_ | refine VC_region ?_ | refine VL_nil ?_ | refine VC_ret ?_ | refine VC_block ?_ | refine VC_skip ?_ | refine kall ?_ | ((apply VL_q); (first | exact QS_indexAddr (k) (by rfl) (by rfl) (by omega) (by omega) | exact QS_mloadN _ (by rfl) hcA _ (by rfl) | exact qlN (by rfl) | exact QS_call (by rfl) cR | exact qmv (by rfl) | exact qas (by rfl) | exact qfa (by rfl) | exact qno (by rfl) | exact qln (by rfl) | exact qpt (by rfl) | exact qcp (by rfl)); rfl) | refine kno ?_ | refine ctr ?_)
              show Res _ _ _ _
              refine Res.one (by rfl) (ResV_tmp (by rfl) ?_)
              rw [stp (by rw [hsb, q1]; rfl)]; simp
            | true =>
              rw [q1] at cR
              cases q2 : placedQ x.1 with
              | false =>
                rw [q2] at cP
                repeat' (first | refine ksN ?_ (hu := hone) | refine VC_seq ?_ | refine VC_region ?_ | refine VL_nil ?_ | refine VC_ret ?_ | refine VC_block ?_ | refine VC_skip ?_ | refine kall ?_ | ((apply VL_q); (first | exact QS_indexAddr (k) (by rfl) (by rfl) (by omega) (by omega) | exact QS_mloadN _ (by rfl) hcA _ (by rfl) | exact qlN (by rfl) | exact QS_call (by rfl) cR | exact QS_call (by rfl) cP | exact qmv (by rfl) | exact qas (by rfl) | exact qfa (by rfl) | exact qno (by rfl) | exact qln (by rfl) | exact qpt (by rfl) | exact qpf (by rfl) | exact qcp (by rfl)); rfl) | refine kyes ?_ | refine kno ?_ | refine ctr ?_)
                show Res _ _ _ _
                refine Res.one (by rfl) (ResV_tmp (by rfl) ?_)
                rw [stp (by rw [hsb, q1, q2]; rfl)]; simp
              | true =>
                rw [q2] at cP
                cases q3 : decide (c.slots ≤ x.1.n.slot) with
                | true =>
                  repeat' (first | refine ksN ?_ (hu := hone) | refine VC_seq ?_ | refine VC_region ?_ | refine VL_nil ?_ | refine VC_ret ?_ | refine VC_block ?_ | refine VC_skip ?_ | refine kall ?_ | ((apply VL_q); (first | exact QS_indexAddr (k) (by rfl) (by rfl) (by omega) (by omega) | exact QS_mloadN _ (by rfl) hcA _ (by rfl) | exact qlN (by rfl) | exact QS_call (by rfl) cR | exact QS_call (by rfl) cP | exact qmv (by rfl) | exact qas (by rfl) | exact ql1 (by rfl) | exact qfa (by rfl) | exact qno (by rfl) | exact qln (by rfl) | exact qpf (by rfl) | exact qcp (by rfl)); rfl) | refine kyes ?_ | refine ctr ?_)
                  show Res _ _ _ _
                  refine Res.one (by rfl) (ResV_tmp (by rfl) ?_)
                  rw [stp (by rw [hsb, q1, q2, q3]; rfl)]; simp
                | false =>
                  repeat' (first | refine ksN ?_ (hu := hone) | refine VC_seq ?_ | refine VC_region ?_ | refine VL_nil ?_ | refine VC_block ?_ | refine VC_skip ?_ | refine kall ?_ | ((apply VL_q); (first | exact QS_indexAddr (k) (by rfl) (by rfl) (by omega) (by omega) | exact QS_mloadN _ (by rfl) hcA _ (by rfl) | exact qlN (by rfl) | exact QS_call (by rfl) cR | exact QS_call (by rfl) cP | exact qmv (by rfl) | exact qas (by rfl) | exact ql1 (by rfl) | exact qfa (by rfl) | exact qno (by rfl) | exact qln (by rfl) | exact qpf (by rfl) | exact qcp (by rfl)); rfl) | refine kyes ?_ | refine ctr ?_ | refine cfa ?_)
                  obtain ⟨V, e, hqv, he1, he2, _⟩ := id hx.ms
                  unfold maxLen at he2
                  have hms : SlM M1 6 msgCells (.slice V x.1.ms.length e) x.1.ms := by rw [← hqv]; exact hx.ms
                  have hxc : sqCells x = [.int .i64 x.1.n.slot, .int .i64 x.1.n.level, x.1.n.pv, x.1.n.kv, .string x.1.n.high, .bool x.1.n.top, .int .i64 x.1.n.right, .int .i64 x.1.n.seen, x.1.n.mv, x.1.n.rv, .string x.1.s.lo, .string x.1.s.hi, .bool x.1.s.opn, .slice V x.1.ms.length e] := by unfold sqCells; rw [hqv]
                  refine VC_for (fun j : Nat => ⟨M1, [.blk 74 [.int .i64 c.fanout, .int .i64 c.leaf, .int .i64 c.budget, .int .i64 c.slots, .int .i64 c.restarts], .blk 98 [.int .i64 x.1.n.slot, .int .i64 x.1.n.level, x.1.n.pv, x.1.n.kv, .string x.1.n.high, .bool x.1.n.top, .int .i64 x.1.n.right, .int .i64 x.1.n.seen, x.1.n.mv, x.1.n.rv, .string x.1.s.lo, .string x.1.s.hi, .bool x.1.s.opn, .slice V x.1.ms.length e]], [(2, .p 0 0), (5, .v (.slice (some ⟨b, off, none⟩) X.length d)), (7, .v (.int .i64 k)), (8, .p 1 0), (9, .v (.int .i64 j))]⟩)
                    (fun j => j ≤ x.1.ms.length ∧ (x.1.ms.take j).all (fun m => decide (x.1.n.seen < m.stamp)) = true) (fun j => x.1.ms.length - j) [0, 1] 0 ⟨rfl, rfl, ⟨rfl, by show some (Ob.blk _ (sqCells x)) = _; rw [hxc], trivial⟩, ⟨rfl, rfl, rfl, rfl, rfl, trivial⟩⟩ ⟨by omega, rfl⟩ ?_
                  rintro j ⟨hj, hrj⟩
                  rcases Nat.lt_or_ge j x.1.ms.length with hlj | hgj
                  · have hdj := dlt hlj
                    obtain ⟨b2, off2, rfl, hcB⟩ := hms.get hlj
                    have stp2 := fun h => allG_stop hlj (p := fun m => decide (x.1.n.seen < m.stamp)) h
                    have stn2 := allG_step hlj (fun m => decide (x.1.n.seen < m.stamp))
                    generalize x.1.ms[j] = m at *
                    by_cases q4 : x.1.n.seen < m.stamp
                    · have d4 : decide (m.stamp ≤ x.1.n.seen) = false := decide_eq_false (by omega)
                      repeat' (first | refine VC_seq ?_ | refine VC_region ?_ | refine VL_nil ?_ | refine VC_block ?_ | refine VC_skip ?_ | ((first | apply VL_q | apply VG_q); (first | exact QS_indexAddr (j) (by rfl) (by rfl) (by omega) (by omega) | exact QS_mload1 (by rfl) (hcB 0 _ (by rfl)) | exact qmv (by rfl) | exact qas (by rfl) | exact ql1 (by rfl) | exact qfa (by rfl) | exact qmf (by rfl) | exact qln (by rfl) | exact qcp (by rfl) | exact qad (by rfl)); rfl) | refine VG_nil ?_ | refine dQ ?_ | refine ctr ?_ | refine cfa ?_)
                      exact forQ_next (Q := fun _ _ => True) [0, 1] (j + 1) ⟨rfl, rfl, ⟨rfl, rfl, trivial⟩, ⟨rfl, rfl, rfl, rfl, rfl, trivial⟩⟩ ⟨by omega, by rw [stn2, hrj, decide_eq_true q4]; rfl⟩ (by omega)
                    · have d4 : decide (m.stamp ≤ x.1.n.seen) = true := decide_eq_true (by omega)
                      repeat' (first | refine VC_seq ?_ | refine VC_region ?_ | refine VL_nil ?_ | refine VC_ret ?_ | refine VC_block ?_ | refine VC_skip ?_ | ((first | apply VL_q | apply VG_q); (first | exact QS_indexAddr (j) (by rfl) (by rfl) (by omega) (by omega) | exact QS_mload1 (by rfl) (hcB 0 _ (by rfl)) | exact qmv (by rfl) | exact qas (by rfl) | exact ql1 (by rfl) | exact qfa (by rfl) | exact qmf (by rfl) | exact qln (by rfl) | exact qcp (by rfl)); rfl) | refine VG_nil ?_ | refine dQ ?_ | refine ctr ?_)
                      show Res _ _ _ _
                      refine Res.one (by rfl) (ResV_tmp (by rfl) ?_)
                      rw [stp (by rw [hsb, q1, q2, q3]; unfold younQ; rw [stp2 (decide_eq_false q4)]; rfl)]; simp
                  · have hdj := dge hgj
                    rw [List.take_of_length_le hgj] at hrj
                    repeat' (first | refine VC_seq ?_ | refine VC_region ?_ | refine VL_nil ?_ | refine VC_exit ?_ | ((apply VL_q); (first | exact qmv (by rfl) | exact qas (by rfl) | exact ql1 (by rfl) | exact qfa (by rfl) | exact qln (by rfl) | exact qcp (by rfl) | exact qad (by rfl)); rfl) | refine cfa ?_)
                    exact forQ_next (Q := fun _ _ => True) [0] (k + 1) ⟨rfl, rfl, ⟨rfl, trivial⟩, ⟨rfl, rfl, rfl, trivial⟩⟩ ⟨by omega, by rw [stn, hr, hsb, q1, q2, q3]; unfold younQ; rw [hrj]; rfl⟩ (by omega)
          · have hd := dge hge
            rw [List.take_of_length_le (by simpa using hge)] at hr
            repeat' (first | refine VC_seq ?_ | refine VC_region ?_ | refine VL_nil ?_ | refine VC_ret ?_ | refine VC_exit ?_ | ((apply VL_q); (first | exact qmv (by rfl) | exact qas (by rfl) | exact qln (by rfl) | exact qcp (by rfl)); rfl) | refine cfa ?_)
            show Res _ _ _ _
            refine Res.one (by rfl) (ResV_tmp (by rfl) ?_)
            rw [hr]; rfl
end Go.Proofs.Ytclbmfepdlffnaa
