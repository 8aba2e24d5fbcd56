/- The walk of ScriptEncodes. -/
import Derived.Test.YtdgcdfngpimmmaaPSc14
namespace Go.Proofs.Ytdgcdfngpimmmaa.lawScriptEncodes
open Go Go.RowKit
set_option linter.unusedVariables false
set_option maxRecDepth 20000
set_option linter.unusedSimpArgs false
set_option maxHeartbeats 16000000
attribute [local irreducible] Calls takeT ofO textR encR bodyE bodyX rightE
theorem walk (v : Value) (l : List Ent) (w : World) (hl : SlM (Mem.of w) 9 enCells v l) (hok : ∀ e ∈ l, e.Ok (Mem.of w)) : Calls Try.prog 7 #[v] w fun e w' => e = .returned (.bool true) ∧ Below w.heap.size w w' := by
  have cA := fun W => script_awake W
  have cS := fun W hW => ref_Small v l 60 300 W (Mem.of w) hW hl hok
  obtain ⟨A, c, rfl, hc1, hc2, _⟩ := id hl
  unfold maxLen at hc2
  cases hs : (decide ((l.length : Int) ≤ 60) && l.all (smallE 300)) with
  | false =>
    rw [hs] at cS
    refine V_flat (args := [.slice A l.length c]) (M := Mem.of w) Try.func7 rfl Try.ntmps7 (by rfl) (Mem.le_refl _) ?_
    repeat' (first
      | refine VC_seq ?_
      | refine VC_region ?_
      | refine VL_nil ?_
      | refine VC_ret ?_
      | refine VC_exit ?_
      | refine VC_block ?_
      | refine VC_skip ?_
      | refine kbox ?_
      | refine kall ?_
      | refine kst ?_
      | refine ksN ?_
      | refine klt ?_
      | refine kl1 ?_
      | refine klK ?_
      | refine kap ?_
      | ((first | apply VL_q | apply VG_q | apply VS_q2); (first | exact QS_call (by rfl) (fun W _ => cA W) | exact QS_call (by rfl) cS | exact qmv (by rfl) | exact qas (by rfl) | exact ql1 (by rfl) | exact qlA (by rfl) | exact qfa (by rfl) | exact qmf (by rfl) | exact qfd (by rfl) | exact qm1 (by rfl) | exact qbd (by rfl) | exact qno (by rfl) | exact qex (by rfl) | exact qln (by rfl) | exact qls (by rfl) | exact qlr (by rfl) | exact qpt (by rfl) | exact qpf (by rfl) | exact qcp (by rfl) | exact qbe (by rfl) | exact qbn (by rfl) | exact qsn (by rfl) | exact qad (by rfl) | exact qsa (by rfl) | exact qsu (by rfl) | exact QS_bin (by rfl) (by rfl) (by first | exact B_slnil | exact Bq_eql_Pair | exact Bq_neq_Pair | exact Bq_eql_Op | exact Bq_neq_Op | exact Bq_eql_Cfg | exact Bq_neq_Cfg)); rfl)
      | refine sst ?_
      | refine VS_nil ?_
      | refine eeq ?_
      | refine ees ?_ (by first | exact es1 (by rfl) | exact esN (by rfl))
      | refine VE_nil ?_
      | refine kyes ?_
      | refine kno ?_
      | refine gyes ?_
      | refine gno ?_
      | refine knoU ?_
      | refine gnoU ?_
      | refine VG_nil ⟨by rfl, ?_⟩
      | refine VG_nil ?_
      | refine dT ?_
      | refine d1 ?_
      | refine dQ ?_
      | refine ctr ?_
      | refine cfa ?_
      | refine kdec (fun hq => ?_) (fun hq => ?_)
      | refine gdec (fun hq => ?_) (fun hq => ?_)
      | refine cco (fun hq => ?_) (fun hq => ?_))
    show Res _ _ _ _
    refine Res.one (by rfl) (ResV_tmp (by rfl) ?_)
    rfl
  | true =>
    rw [hs] at cS
    simp only [Bool.and_eq_true, decide_eq_true_eq] at hs
    obtain ⟨hn, hsm⟩ := hs
    rw [List.all_eq_true] at hsm
    have hz : ∀ e ∈ l, e.o.key.size ≤ 300 ∧ e.o.hi.size ≤ 300 ∧ e.o.val.size ≤ 300 ∧ e.ps.length ≤ 300 := fun e he => by
      have := hsm e he
      unfold smallE longO at this
      simp only [Bool.and_eq_true, decide_eq_true_eq] at this
      omega
    have hz1 : ∀ e ∈ l, e.o.key.size ≤ 1000000 ∧ e.o.hi.size ≤ 1000000 ∧ e.o.val.size ≤ 1000000 ∧ e.ps.length ≤ 1000000 := fun e he => by have := hz e he; omega
    refine V_flat (args := [.slice A l.length c]) (M := Mem.of w) Try.func7 rfl Try.ntmps7 (by rfl) (Mem.le_refl _) ?_
    repeat' (first
      | refine VC_seq ?_
      | refine VC_region ?_
      | refine VL_nil ?_
      | refine VC_ret ?_
      | refine VC_exit ?_
      | refine VC_block ?_
      | refine VC_skip ?_
      | refine kbox ?_
      | refine kall ?_
      | refine kst ?_
      | refine ksN ?_
      | refine klt ?_
      | refine kl1 ?_
      | refine klK ?_
      | refine kap ?_
      | ((first | apply VL_q | apply VG_q | apply VS_q2); (first | exact QS_call (by rfl) cS | exact qmv (by rfl) | exact qas (by rfl) | exact ql1 (by rfl) | exact qlA (by rfl) | exact qfa (by rfl) | exact qmf (by rfl) | exact qfd (by rfl) | exact qm1 (by rfl) | exact qbd (by rfl) | exact qno (by rfl) | exact qex (by rfl) | exact qln (by rfl) | exact qls (by rfl) | exact qlr (by rfl) | exact qpt (by rfl) | exact qpf (by rfl) | exact qcp (by rfl) | exact qbe (by rfl) | exact qbn (by rfl) | exact qsn (by rfl) | exact qad (by rfl) | exact qsa (by rfl) | exact qsu (by rfl) | exact QS_bin (by rfl) (by rfl) (by first | exact B_slnil | exact Bq_eql_Pair | exact Bq_neq_Pair | exact Bq_eql_Op | exact Bq_neq_Op | exact Bq_eql_Cfg | exact Bq_neq_Cfg)); rfl)
      | refine sst ?_
      | refine VS_nil ?_
      | refine eeq ?_
      | refine ees ?_ (by first | exact es1 (by rfl) | exact esN (by rfl))
      | refine VE_nil ?_
      | refine kyes ?_
      | refine kno ?_
      | refine gyes ?_
      | refine gno ?_
      | refine knoU ?_
      | refine gnoU ?_
      | refine VG_nil ⟨by rfl, ?_⟩
      | refine VG_nil ?_
      | refine dT ?_
      | refine d1 ?_
      | refine dQ ?_
      | refine ctr ?_
      | refine cfa ?_
      | refine kdec (fun hq => ?_) (fun hq => ?_)
      | refine gdec (fun hq => ?_) (fun hq => ?_)
      | refine cco (fun hq => ?_) (fun hq => ?_))
    refine VC_for (fun k : Nat => ⟨Mem.of w, [], [(0, .v (.slice A l.length c)), (3, .v (.int .i64 (cntE isOp (l.take k)))), (4, .v (.int .i64 (cntE isWr (l.take k)))), (13, .v (.slice A l.length c)), (14, .v (.int .i64 l.length)), (15, .v (.int .i64 k))]⟩) (fun k => k ≤ l.length) (fun k => l.length - k) [] 0 ⟨rfl, rfl, trivial, ⟨rfl, rfl, rfl, rfl, rfl, rfl, trivial⟩⟩ (by omega) ?_
    intro k hk
    have g1 := cntE_le isOp (l.take k)
    have g2 := cntE_le isWr (l.take k)
    rw [List.length_take] at g1 g2
    rcases Nat.lt_or_ge k l.length with hlt | hge
    · have hd := dlt hlt
      obtain ⟨b, off, rfl, hcA⟩ := hl.get hlt
      have hx := hok _ (List.getElem_mem hlt)
      obtain ⟨y1, y2, y3, y4⟩ := hz1 _ (List.getElem_mem hlt)
      have s1 := cntE_step hlt isOp
      have s2 := cntE_step hlt isWr
      generalize l[k] = e at *
      have cR := fun W hW => script_Right e W (Mem.of w) hW hx y4 y1
      have cQ := fun W hW => ref_RightE e W (Mem.of w) hW hx y1 y2
      generalize rightE e = re at *
      have f3 : (!(re == re)) = false := by simp
      obtain ⟨kind, client, o, pv, ps⟩ := e
      obtain ⟨A3, c3, hpv, _⟩ := id hx
      dsimp only at hpv
      subst hpv
      have s1 : cntE isOp (l.take (k + 1)) = cntE isOp (l.take k) + (if (kind == 1) = true then 1 else 0) := s1
      have s2 : cntE isWr (l.take (k + 1)) = cntE isWr (l.take k) + (if (kind == 1 && (decide (1 ≤ o.kind) && decide (o.kind ≤ 4))) = true then 1 else 0) := s2
      cases q1 : (kind == 1)
      all_goals cases q2 : decide (1 ≤ o.kind)
      all_goals cases q3 : decide (o.kind ≤ 4)
      all_goals
        rw [q1] at s1
        rw [q1, q2, q3] at s2
        repeat' (first
          | refine VC_seq ?_
          | refine VC_region ?_
          | refine VL_nil ?_
          | refine VC_ret ?_
          | refine VC_exit ?_
          | refine VC_block ?_
          | refine VC_skip ?_
          | refine kbox ?_
          | refine kall ?_
          | refine kst ?_
          | refine ksN ?_
          | refine klt ?_
          | refine kl1 ?_
          | refine klK ?_
          | refine kap ?_
          | ((first | apply VL_q | apply VG_q | apply VS_q2); (first | exact QS_indexAddr (k) (by rfl) (by rfl) (by omega) (by omega) | exact QS_mload1 (by rfl) (hcA 0 _ (by rfl)) | exact QS_mload1 (by rfl) (hcA _ _ (by rfl)) | exact QS_mloadN _ (by rfl) hcA _ (by rfl) | exact qlN (by rfl) | exact QS_call (by rfl) cR | exact QS_call (by rfl) cQ | exact qmv (by rfl) | exact qas (by rfl) | exact ql1 (by rfl) | exact qlA (by rfl) | exact qfa (by rfl) | exact qmf (by rfl) | exact qfd (by rfl) | exact qm1 (by rfl) | exact qbd (by rfl) | exact qno (by rfl) | exact qex (by rfl) | exact qln (by rfl) | exact qls (by rfl) | exact qlr (by rfl) | exact qpt (by rfl) | exact qpf (by rfl) | exact qcp (by rfl) | exact qbe (by rfl) | exact qbn (by rfl) | exact qsn (by rfl) | exact qad (by rfl) | exact qsa (by rfl) | exact qsu (by rfl) | exact QS_bin (by rfl) (by rfl) (by first | exact B_slnil | exact Bq_eql_Pair | exact Bq_neq_Pair | exact Bq_eql_Op | exact Bq_neq_Op | exact Bq_eql_Cfg | exact Bq_neq_Cfg)); rfl)
          | refine sst ?_
          | refine VS_nil ?_
          | refine eeq ?_
          | refine ees ?_ (by first | exact es1 (by rfl) | exact esN (by rfl))
          | refine VE_nil ?_
          | refine kyes ?_
          | refine kno ?_
          | refine gyes ?_
          | refine gno ?_
          | refine knoU ?_
          | refine gnoU ?_
          | refine VG_nil ⟨by rfl, ?_⟩
          | refine VG_nil ?_
          | refine dT ?_
          | refine d1 ?_
          | refine dQ ?_
          | refine ctr ?_
          | refine cfa ?_
          | refine kdec (fun hq => ?_) (fun hq => ?_)
          | refine gdec (fun hq => ?_) (fun hq => ?_)
          | refine cco (fun hq => ?_) (fun hq => ?_))
        exact forQ_next (Q := fun _ _ => True) [] (k + 1) ⟨rfl, rfl, trivial, ⟨rfl, by rw [s1]; first | rfl | simp, by rw [s2]; first | rfl | simp, rfl, rfl, rfl, trivial⟩⟩ (by omega) (by omega)
    · have hd := dge hge
      obtain rfl : k = l.length := by omega
      rw [List.take_length]
      have cE := fun W hW => script_Encode _ l W (Mem.of w) hW hl hok (fun e he => ⟨(hz1 e he).1, (hz1 e he).2.2.2⟩) (by omega)
      have cO := fun W hW => script_Ops _ l W (Mem.of w) hW hl hok
      have cW := fun W hW => script_Writes _ l W (Mem.of w) hW hl hok
      have cL := fun W hW => ref_AllE _ l W (Mem.of w) hW hl hok hz1
      have f1 : (cntE isOp l != cntE isOp l) = false := by simp
      have f2 : (cntE isWr l != cntE isWr l) = false := by simp
      cases hall : l.all rightE with
      | false =>
        have he : encP l = (em, false) := by unfold encP; rw [if_neg (by rw [hall]; simp)]
        rw [he] at cE
        rw [hall] at cL
        have f4 : decide (em = ⟨#[]⟩) = true := rfl
        repeat' (first
          | refine VC_seq ?_
          | refine VC_region ?_
          | refine VL_nil ?_
          | refine VC_ret ?_
          | refine VC_exit ?_
          | refine VC_block ?_
          | refine VC_skip ?_
          | refine kbox ?_
          | refine kall ?_
          | refine kst ?_
          | refine ksN ?_
          | refine klt ?_
          | refine kl1 ?_
          | refine klK ?_
          | refine kap ?_
          | ((first | apply VL_q | apply VG_q | apply VS_q2); (first | exact QS_call (by rfl) (fun W _ => cA W) | exact QS_call (by rfl) cE | exact QS_call (by rfl) cO | exact QS_call (by rfl) cW | exact QS_call (by rfl) cL | exact qmv (by rfl) | exact qas (by rfl) | exact ql1 (by rfl) | exact qlA (by rfl) | exact qfa (by rfl) | exact qmf (by rfl) | exact qfd (by rfl) | exact qm1 (by rfl) | exact qbd (by rfl) | exact qno (by rfl) | exact qex (by rfl) | exact qln (by rfl) | exact qls (by rfl) | exact qlr (by rfl) | exact qpt (by rfl) | exact qpf (by rfl) | exact qcp (by rfl) | exact qbe (by rfl) | exact qbn (by rfl) | exact qsn (by rfl) | exact qad (by rfl) | exact qsa (by rfl) | exact qsu (by rfl) | exact QS_bin (by rfl) (by rfl) (by first | exact B_slnil | exact Bq_eql_Pair | exact Bq_neq_Pair | exact Bq_eql_Op | exact Bq_neq_Op | exact Bq_eql_Cfg | exact Bq_neq_Cfg)); rfl)
          | refine sst ?_
          | refine VS_nil ?_
          | refine eeq ?_
          | refine ees ?_ (by first | exact es1 (by rfl) | exact esN (by rfl))
          | refine VE_nil ?_
          | refine kyes ?_
          | refine kno ?_
          | refine gyes ?_
          | refine gno ?_
          | refine knoU ?_
          | refine gnoU ?_
          | refine VG_nil ⟨by rfl, ?_⟩
          | refine VG_nil ?_
          | refine dT ?_
          | refine d1 ?_
          | refine dQ ?_
          | refine ctr ?_
          | refine cfa ?_
          | refine kdec (fun hq => ?_) (fun hq => ?_)
          | refine gdec (fun hq => ?_) (fun hq => ?_)
          | refine cco (fun hq => ?_) (fun hq => ?_))
        show Res _ _ _ _
        refine Res.one (by rfl) (ResV_tmp (by rfl) ?_)
        rfl
      | true =>
        have he : encP l = (encR l, true) := by unfold encP; rw [if_pos hall]
        rw [he] at cE
        rw [hall] at cL
        have hb : ∀ e ∈ l, (bodyE e).size ≤ 255 := fun e h => bodyE_size (List.all_eq_true.1 hall e h)
        have hsz := size_encR l 255 hb
        have hdec := decode_enc hall
        have cF := fun W hW => ref_EncodeE _ l W (Mem.of w) hW hl hok hz1 hb (by omega)
        have f4 : decide (encR l = encR l) = true := decide_eq_true rfl
        generalize encR l = s at *
        repeat' (first
          | refine VC_seq ?_
          | refine VC_region ?_
          | refine VL_nil ?_
          | refine VC_ret ?_
          | refine VC_exit ?_
          | refine VC_block ?_
          | refine VC_skip ?_
          | refine kbox ?_
          | refine kall ?_
          | refine kst ?_
          | refine ksN ?_
          | refine klt ?_
          | refine kl1 ?_
          | refine klK ?_
          | refine kap ?_
          | ((first | apply VL_q | apply VG_q | apply VS_q2); (first | exact QS_call (by rfl) cE | exact QS_call (by rfl) cO | exact QS_call (by rfl) cW | exact QS_call (by rfl) cL | exact QS_call (by rfl) cF | exact qmv (by rfl) | exact qas (by rfl) | exact ql1 (by rfl) | exact qlA (by rfl) | exact qfa (by rfl) | exact qmf (by rfl) | exact qfd (by rfl) | exact qm1 (by rfl) | exact qbd (by rfl) | exact qno (by rfl) | exact qex (by rfl) | exact qln (by rfl) | exact qls (by rfl) | exact qlr (by rfl) | exact qpt (by rfl) | exact qpf (by rfl) | exact qcp (by rfl) | exact qbe (by rfl) | exact qbn (by rfl) | exact qsn (by rfl) | exact qad (by rfl) | exact qsa (by rfl) | exact qsu (by rfl) | exact QS_bin (by rfl) (by rfl) (by first | exact B_slnil | exact Bq_eql_Pair | exact Bq_neq_Pair | exact Bq_eql_Op | exact Bq_neq_Op | exact Bq_eql_Cfg | exact Bq_neq_Cfg)); rfl)
          | refine sst ?_
          | refine VS_nil ?_
          | refine eeq ?_
          | refine ees ?_ (by first | exact es1 (by rfl) | exact esN (by rfl))
          | refine VE_nil ?_
          | refine kyes ?_
          | refine kno ?_
          | refine gyes ?_
          | refine gno ?_
          | refine knoU ?_
          | refine gnoU ?_
          | refine VG_nil ⟨by rfl, ?_⟩
          | refine VG_nil ?_
          | refine dT ?_
          | refine d1 ?_
          | refine dQ ?_
          | refine ctr ?_
          | refine cfa ?_
          | refine kdec (fun hq => ?_) (fun hq => ?_)
          | refine gdec (fun hq => ?_) (fun hq => ?_)
          | refine cco (fun hq => ?_) (fun hq => ?_))
        refine VL_callM (by rfl) (fun W hW => script_Decode s W (Mem.of w) hW (by omega)) (by rfl) (fun v2 M2 hle2 hv2 => ?_)
        obtain ⟨l2, hl2, hok2, hm2⟩ := hv2
        have cQ : ∀ W, M2.le (Mem.of W) → Calls Try.prog 14 #[v2, .slice A l.length c] W fun r w' => r = .returned (.bool true) ∧ Below W.heap.size W w' := fun W hW => by
          have := ref_SameE v2 _ l2 l W M2 hW hl2 (hl.mono hle2) hok2 (fun e h => (hok e h).mono hle2)
          rwa [decide_eq_true (by rw [hm2, hdec])] at this
        repeat' (first
          | refine VC_seq ?_
          | refine VC_region ?_
          | refine VL_nil ?_
          | refine VC_ret ?_
          | refine VC_exit ?_
          | refine VC_block ?_
          | refine VC_skip ?_
          | refine kbox ?_
          | refine kall ?_
          | refine kst ?_
          | refine ksN ?_
          | refine klt ?_
          | refine kl1 ?_
          | refine klK ?_
          | refine kap ?_
          | ((first | apply VL_q | apply VG_q | apply VS_q2); (first | exact QS_call (by rfl) (fun W _ => cA W) | exact QS_call (by rfl) cQ | exact qmv (by rfl) | exact qas (by rfl) | exact ql1 (by rfl) | exact qlA (by rfl) | exact qfa (by rfl) | exact qmf (by rfl) | exact qfd (by rfl) | exact qm1 (by rfl) | exact qbd (by rfl) | exact qno (by rfl) | exact qex (by rfl) | exact qln (by rfl) | exact qls (by rfl) | exact qlr (by rfl) | exact qpt (by rfl) | exact qpf (by rfl) | exact qcp (by rfl) | exact qbe (by rfl) | exact qbn (by rfl) | exact qsn (by rfl) | exact qad (by rfl) | exact qsa (by rfl) | exact qsu (by rfl) | exact QS_bin (by rfl) (by rfl) (by first | exact B_slnil | exact Bq_eql_Pair | exact Bq_neq_Pair | exact Bq_eql_Op | exact Bq_neq_Op | exact Bq_eql_Cfg | exact Bq_neq_Cfg)); rfl)
          | refine sst ?_
          | refine VS_nil ?_
          | refine eeq ?_
          | refine ees ?_ (by first | exact es1 (by rfl) | exact esN (by rfl))
          | refine VE_nil ?_
          | refine kyes ?_
          | refine kno ?_
          | refine gyes ?_
          | refine gno ?_
          | refine knoU ?_
          | refine gnoU ?_
          | refine VG_nil ⟨by rfl, ?_⟩
          | refine VG_nil ?_
          | refine dT ?_
          | refine d1 ?_
          | refine dQ ?_
          | refine ctr ?_
          | refine cfa ?_
          | refine kdec (fun hq => ?_) (fun hq => ?_)
          | refine gdec (fun hq => ?_) (fun hq => ?_)
          | refine cco (fun hq => ?_) (fun hq => ?_))
        show Res _ _ _ _
        refine Res.one (by rfl) (ResV_tmp (by rfl) ?_)
        rfl
end Go.Proofs.Ytdgcdfngpimmmaa.lawScriptEncodes
