/- What is read of an image. Its first rows are printed by wip/gen_read.py. -/
import Derived.Test.YtlapnbklbpeddaaGreatPIm20
import Derived.Test.YtlapnbklbpeddaaGreatPIm21
namespace Go.Proofs.YtlapnbklbpeddaaGreat
open Go Go.RowKit
attribute [local irreducible] Calls
set_option linter.unusedVariables false
set_option maxRecDepth 20000
set_option linter.unusedSimpArgs false
set_option maxHeartbeats 8000000
def cfg0 : Cfg := ⟨0, 0, 0, 0, 0⟩
def ReadPost (s : ByteArray) (u : Value) (M' : Mem) : Prop :=
  (rdB s = true ∧ ∃ (X : List Nd) (v : Value), u = .tuple #[.agg #[.int .i64 (rdC s).1.fanout, .int .i64 (rdC s).1.leaf, .int .i64 (rdC s).1.budget, .int .i64 (rdC s).1.slots, .int .i64 (rdC s).1.restarts], v, .int .i64 0] ∧ SlM M' 10 ndCells v X ∧ X.map strip = (rdL s).1 ∧ NdsOk M' X) ∨ (rdB s = false ∧ u = .tuple #[.agg #[.int .i64 cfg0.fanout, .int .i64 cfg0.leaf, .int .i64 cfg0.budget, .int .i64 cfg0.slots, .int .i64 cfg0.restarts], .slice none 0 0, .int .i64 5])
theorem big_strip {a b : Nd} (h : strip a = strip b) (hb : b.Big ∧ b.In) : a.Big ∧ a.In := by
  obtain ⟨⟨c1, c2, c3, c4, c5, c6, c7, c8, c9⟩, ⟨d1, d2, d3, d4, d5, d6, d7, d8, d9⟩⟩ := hb
  unfold strip at h
  simp only [Nd.mk.injEq] at h
  obtain ⟨h1, h2, -, h4, -, h6, h7, h8, h9, h10, -, h12, -, h14⟩ := h
  rw [← h1] at d1
  rw [← h2] at d2
  rw [← h9] at d3
  rw [← h10] at d4
  rw [← h7] at d5 c1
  rw [← h4] at d6 c2 c3
  rw [← h6] at d7 c4
  rw [← h12] at d8 c5 c6 c9
  rw [← h14] at d9 c7 c8
  exact ⟨⟨c1, c2, c3, c4, c5, c6, c7, c8, c9⟩, ⟨d1, d2, d3, d4, d5, d6, d7, d8, d9⟩⟩
theorem strip_strip (a : Nd) : strip (strip a) = strip a := rfl
theorem image_Read (s : ByteArray) (w : World) (M : Mem) (hMw : M.le (Mem.of w)) (hs : s.size ≤ 100000000) (H : ∀ a ∈ (rdL s).1, a.Big ∧ a.In) (hlen : (rdL s).1.length ≤ 100000) :
    Calls Tryz.prog 11 #[.string s] w (RetM M w (ReadPost s)) := by
  refine V_ret (args := [.string s]) (M := M) Tryz.func11 rfl Tryz.ntmps11 (by rfl) hMw _ ?_
  have cCut : ∀ W, Calls Tryz.prog 28 #[.string s, .string markB] W fun e w' => e = .returned (.tuple #[.string (rd0 s).1, .bool (rd0 s).2]) ∧ Below W.heap.size W w' := fun W => strings_CutPrefix s markB W
  have z0 := rd0_sz s
  have hG0 : rdC s = eG (rd0 s) := rfl
  have hN0 : rdN s = eC (rdC s).2 := rfl
  have hNz := rdN_sz s
  have hT0 := eTail_zero s
  generalize hr0 : rd0 s = e0 at *
  repeat' (first | refine VC_seq ?_ | refine VC_region ?_ | refine VL_nil ?_ | refine kbox ?_ | refine kall ?_ | ((apply VL_q); (first | exact QS_call (by rfl) (fun W _ => cCut W) | exact qmv (by rfl) | exact qas (by rfl) | exact qbd (by rfl) | exact qex (by rfl)); rfl))
  refine VL_nameB 1 (by rfl) (fun b => ?_)
  refine VL_callX (own1 := [eO b e0]) [1] (by rfl) (by rfl) ⟨rfl, trivial⟩ (fun M' _ => eyeN b e0 M') (by rfl) (by rfl) ?_
  rintro _ _ ⟨rfl, rfl⟩
  have z1 := eN_sz e0
  generalize a1h : eN e0 = a1 at *
  obtain ⟨n1, e1⟩ := a1
  dsimp only at *
  repeat' (((apply VL_q); (exact qmv (by rfl)); rfl))
  refine VL_callX (own1 := [eO b e1]) [2] (by rfl) (by rfl) ⟨rfl, trivial⟩ (fun M' _ => eyeN b e1 M') (by rfl) (by rfl) ?_
  rintro _ _ ⟨rfl, rfl⟩
  have z2 := eN_sz e1
  generalize a2h : eN e1 = a2 at *
  obtain ⟨n2, e2⟩ := a2
  dsimp only at *
  repeat' (((apply VL_q); (exact qmv (by rfl)); rfl))
  refine VL_callX (own1 := [eO b e2]) [3] (by rfl) (by rfl) ⟨rfl, trivial⟩ (fun M' _ => eyeN b e2 M') (by rfl) (by rfl) ?_
  rintro _ _ ⟨rfl, rfl⟩
  have z3 := eN_sz e2
  generalize a3h : eN e2 = a3 at *
  obtain ⟨n3, e3⟩ := a3
  dsimp only at *
  repeat' (((apply VL_q); (exact qmv (by rfl)); rfl))
  refine VL_callX (own1 := [eO b e3]) [4] (by rfl) (by rfl) ⟨rfl, trivial⟩ (fun M' _ => eyeN b e3 M') (by rfl) (by rfl) ?_
  rintro _ _ ⟨rfl, rfl⟩
  have z4 := eN_sz e3
  generalize a4h : eN e3 = a4 at *
  obtain ⟨n4, e4⟩ := a4
  dsimp only at *
  repeat' (((apply VL_q); (exact qmv (by rfl)); rfl))
  refine VL_callX (own1 := [eO b e4]) [5] (by rfl) (by rfl) ⟨rfl, trivial⟩ (fun M' _ => eyeN b e4 M') (by rfl) (by rfl) ?_
  rintro _ _ ⟨rfl, rfl⟩
  have z5 := eN_sz e4
  generalize a5h : eN e4 = a5 at *
  obtain ⟨n5, e5⟩ := a5
  dsimp only at *
  have hG : rdC s = (⟨n1, n2, n3, n4, n5⟩, e5) := by
    rw [hG0]
    unfold eG
    dsimp only
    rw [a1h]; dsimp only; rw [a2h]; dsimp only; rw [a3h]; dsimp only; rw [a4h]; dsimp only; rw [a5h]
  rw [hG] at hN0
  dsimp only at hN0
  refine VL_sub [0, 6] ⟨M, [.blk 23 [.int .i64 0, .int .i64 0, .int .i64 0, .int .i64 0, .int .i64 0], eO b e5], [(0, .v (.string s)), (2, .p 0 0), (7, .v (eyP b)), (23, .v (.int .i64 n1)), (25, .v (.int .i64 n2)), (27, .v (.int .i64 n3)), (29, .v (.int .i64 n4)), (31, .v (.int .i64 n5))]⟩ ⟨rfl, rfl, ⟨rfl, rfl, trivial⟩, ⟨rfl, rfl, rfl, rfl, rfl, rfl, rfl, rfl, trivial⟩⟩ ?_
  apply VL_q
  · exact qbd (by rfl)
  · rfl
  refine kall ?_
  refine ksN ?_
  refine VL_nil ?_
  refine VC_seq ?_
  refine VC_region ?_
  apply VL_q
  · exact qas (by rfl)
  · rfl
  refine VL_nil ?_
  refine VC_sub [0, 1, 2] ⟨M, [.blk 23 [.int .i64 0, .int .i64 0, .int .i64 0, .int .i64 0, .int .i64 0], eO b e5, .blk 23 [.int .i64 n1, .int .i64 n2, .int .i64 n3, .int .i64 n4, .int .i64 n5]], [(0, .v (.string s)), (2, .p 0 0), (7, .v (eyP b)), (8, .p 2 0), (9, .v (.slice none 0 0))]⟩ ⟨rfl, rfl, ⟨rfl, rfl, rfl, trivial⟩, ⟨rfl, rfl, rfl, rfl, rfl, trivial⟩⟩ ?_
  refine VC_cut (fun s' => ∃ (X : List Nd) (Mx : Mem) (e : Ey) (ρ : List Nat), M.le Mx ∧ (∀ a ∈ X, a.Ok Mx) ∧ X.map strip = (rdL s).1 ∧ e = (rdL s).2 ∧ Sub ρ s' ⟨Mx, [.blk 23 [.int .i64 0, .int .i64 0, .int .i64 0, .int .i64 0, .int .i64 0], eO b e, .blk 23 [.int .i64 n1, .int .i64 n2, .int .i64 n3, .int .i64 n4, .int .i64 n5], .row 35 10 X.length (X.flatMap ndCells)], [(0, .v (.string s)), (2, .p 0 0), (7, .v (eyP b)), (8, .p 2 0), (9, .r 3)]⟩) ?_ ?_
  · skip
    repeat' (first | refine VC_seq ?_ | refine VC_region ?_ | ((apply VL_q); (exact qmv (by rfl)); rfl))
    refine VL_callX (own1 := [eO b e5]) [1] (by rfl) (by rfl) ⟨rfl, trivial⟩ (fun M' _ => eyeC b e5 M') (by rfl) (by rfl) ?_
    rintro _ _ ⟨rfl, rfl⟩
    rw [← hN0]
    have hTa := fun (X : List Nd) (e : Ey) (h : eTail s X e) (hge : (rdN s).1 ≤ X.length) => eTail_all h hge
    have hTs := fun (X : List Nd) (e e' : Ey) (n : Nd) (pv kv mv rv : Value) (h : eTail s X e) (hlt : X.length < (rdN s).1) (hk : e.2 = true) (hn : eA X.length e pv kv mv rv = (n, e')) => eTail_step h hlt hk hn
    have hNz1 := hNz.1
    generalize hT0e : (rdN s).2 = r0 at *
    have hr0z : r0.1.size ≤ s.size := hNz.2
    clear hNz hN0
    generalize (rdN s).1 = cnt at *
    repeat' (first | refine VL_nil ?_ | refine VC_block ?_ | ((apply VL_q); (exact qmv (by rfl)); rfl))
    refine VC_nilR 9 35 10 (by rfl) (by rfl) ?_
    refine VC_for (fun x : List Nd × Mem × Ey => ⟨x.2.1, [.blk 23 [.int .i64 0, .int .i64 0, .int .i64 0, .int .i64 0, .int .i64 0], eO b x.2.2, .blk 23 [.int .i64 n1, .int .i64 n2, .int .i64 n3, .int .i64 n4, .int .i64 n5], .row 35 10 x.1.length (x.1.flatMap ndCells)], [(0, .v (.string s)), (2, .p 0 0), (7, .v (eyP b)), (8, .p 2 0), (9, .r 3), (34, .v (.int .i64 (cnt : Nat))), (35, .v (.int .i64 (x.1.length : Nat)))]⟩)
      (fun x => M.le x.2.1 ∧ x.1.length ≤ cnt ∧ (∀ a ∈ x.1, a.Ok x.2.1) ∧ x.2.2.1.size ≤ s.size ∧ eTail s x.1 x.2.2) (fun x => cnt - x.1.length) [0, 3, 2, 4] ([], M, r0) ⟨rfl, rfl, ⟨rfl, rfl, rfl, rfl, trivial⟩, ⟨rfl, rfl, rfl, rfl, rfl, rfl, rfl, trivial⟩⟩ ⟨Mem.le_refl _, Nat.zero_le _, fun a ha => (by cases ha), hr0z, hT0⟩ ?_
    rintro ⟨X, Mx, e⟩ ⟨hMx, hXn, hXok, hez, hT⟩
    dsimp only at hMx hXn hXok hez hT ⊢
    rcases Nat.lt_or_ge X.length cnt with hlt | hge
    · have hd := dlt hlt
      cases hk : e.2 with
      | false =>
        obtain ⟨t1, t2⟩ := eTail_stop hT hk
        obtain ⟨es, ek⟩ := e
        dsimp only at hk
        subst hk
        repeat' (first | refine VC_seq ?_ | refine VC_region ?_ | refine VL_nil ?_ | refine VC_exit ?_ | refine VC_block ?_ | refine VC_skip ?_ | ((apply VL_q); (first | exact qni (by rfl) | exact QS_nload1 1 (by rfl) (by rfl) (by rfl) (by rfl) | exact qmv (by rfl) | exact qas (by rfl) | exact qmf (by rfl) | exact qno (by rfl) | exact qcp (by rfl)); rfl) | refine ctr ?_)
        exact ⟨rfl, X, Mx, (es, false), [0, 1, 2, 3], hMx, hXok, t1, t2, ⟨rfl, rfl, ⟨rfl, rfl, rfl, rfl, trivial⟩, ⟨rfl, rfl, rfl, rfl, rfl, trivial⟩⟩⟩
      | true =>
        have hstep := fun n e' pv kv mv rv hn => hTs X e e' n pv kv mv rv hT hlt hk hn
        have hfit : ∀ n e' pv kv mv rv, eA (X.length : Int) e pv kv mv rv = (n, e') → e'.1.size ≤ s.size := fun n e' pv kv mv rv h => by
          have h1 := eA_sz (X.length : Int) e pv kv mv rv
          rw [h] at h1
          exact Nat.le_trans h1 hez
        have hey := fun M' => eye_node b e (X.length : Int) M' (by omega)
        have hXl : X.length ≤ 100000000 := by omega
        obtain ⟨es, ek⟩ := e
        dsimp only at hk hez
        subst hk
        repeat' (first | refine VC_seq ?_ | refine VC_region ?_ | refine VL_nil ?_ | refine VC_block ?_ | refine VC_skip ?_ | ((apply VL_q); (first | exact qni (by rfl) | exact QS_nload1 1 (by rfl) (by rfl) (by rfl) (by rfl) | exact qmv (by rfl) | exact qas (by rfl) | exact qmf (by rfl) | exact qno (by rfl) | exact qcp (by rfl)); rfl) | refine ctr ?_ | refine cfa ?_)
        refine VL_callX (own1 := [eO b (es, true)]) [1] (by rfl) (by rfl) ⟨rfl, trivial⟩ (fun M' _ => hey M') (by rfl) (by rfl) ?_
        rintro _ _ ⟨pv, kv, mv, rv, n, e', hA, rfl, rfl⟩
        have hT' := hstep n e' pv kv mv rv hA
        have hz' := hfit n e' pv kv mv rv hA
        have hvs : n.pv = pv ∧ n.kv = kv ∧ n.mv = mv ∧ n.rv = rv := by
          have h1 : (eA (X.length : Int) (es, true) pv kv mv rv).1.pv = pv ∧ (eA (X.length : Int) (es, true) pv kv mv rv).1.kv = kv ∧ (eA (X.length : Int) (es, true) pv kv mv rv).1.mv = mv ∧ (eA (X.length : Int) (es, true) pv kv mv rv).1.rv = rv := ⟨rfl, rfl, rfl, rfl⟩
          rw [hA] at h1
          exact h1
        clear hstep hfit hey hA
        refine VL_frzN 5 (by rfl) (fun M1 hl1 hr1 => ?_)
        refine VL_frzN 6 (by rfl) (fun M2 hl2 hr2 => ?_)
        refine VL_frzN 7 (by rfl) (fun M3 hl3 hr3 => ?_)
        refine VL_frzN 8 (by rfl) (fun M4 hl4 hr4 => ?_)
        have hok : n.Ok M4 := by
          obtain ⟨g1, g2, g3, g4⟩ := hvs
          have k1 : SlM M1 1 strCells pv n.ps := hr1.slM (fun _ _ => rfl)
          have k2 : SlM M2 1 intCells kv n.ks := hr2.slM (fun _ _ => rfl)
          have k3 : SlM M3 6 msgCells mv n.ms := hr3.slM (fun _ _ => rfl)
          have k4 : SlM M4 2 pairCells rv n.rs := hr4.slM (fun _ _ => rfl)
          exact ⟨by rw [g1]; exact ((k1.mono hl2).mono hl3).mono hl4, by rw [g2]; exact (k2.mono hl3).mono hl4, by rw [g3]; exact k3.mono hl4, by rw [g4]; exact k4⟩
        have hone := nd_one hok
        have hM4 : Mx.le M4 := ((hl1.trans hl2).trans hl3).trans hl4
        have hXok4 : ∀ a ∈ X ++ [n], a.Ok M4 := fun a ha => by
          rcases List.mem_append.1 ha with h | h
          · exact (hXok a h).mono hM4
          · rw [List.mem_singleton.1 h]; exact hok
        have hfl : (X ++ [n]).flatMap ndCells = X.flatMap ndCells ++ ndCells n := by rw [List.flatMap_append]; simp
        have hln : (X ++ [n]).length = X.length + 1 := by rw [List.length_append]; rfl
        clear hr1 hr2 hr3 hr4 hvs
        refine VL_sub [0, 4, 2, 3] ⟨M4, [.blk 23 [.int .i64 0, .int .i64 0, .int .i64 0, .int .i64 0, .int .i64 0], eO b e', .blk 23 [.int .i64 n1, .int .i64 n2, .int .i64 n3, .int .i64 n4, .int .i64 n5], .row 35 10 X.length (X.flatMap ndCells)], [(0, .v (.string s)), (2, .p 0 0), (7, .v (eyP b)), (8, .p 2 0), (9, .r 3), (34, .v (.int .i64 (cnt : Nat))), (35, .v (.int .i64 (X.length : Nat))), (43, .r 3), (46, .v (.agg #[.int .i64 n.slot, .int .i64 n.level, n.pv, n.kv, .string n.high, .bool n.top, .int .i64 n.right, .int .i64 n.seen, n.mv, n.rv]))]⟩ ⟨rfl, rfl, ⟨rfl, rfl, rfl, rfl, trivial⟩, ⟨rfl, rfl, rfl, rfl, rfl, rfl, rfl, rfl, rfl, trivial⟩⟩ ?_
        refine kl1 ?_
        refine kap ?_ (h1 := hone)
        repeat' (first | refine VC_region ?_ | refine VL_nil ?_ | ((apply VL_q); (first | exact qmv (by rfl) | exact qas (by rfl) | exact qad (by rfl)); rfl))
        refine forQ_next (Q := fun _ _ => True) [0, 1, 2, 5] (X ++ [n], M4, e') ⟨rfl, rfl, ⟨rfl, rfl, rfl, ?_, trivial⟩, ⟨rfl, rfl, rfl, rfl, rfl, rfl, ?_, trivial⟩⟩ ⟨hMx.trans hM4, by show (X ++ [n]).length ≤ _; omega, hXok4, hz', hT'⟩ (by show cnt - (X ++ [n]).length < cnt - X.length; omega)
        · show _ = some (Ob.row 35 10 (X ++ [n]).length ((X ++ [n]).flatMap ndCells))
          rw [hfl, hln]; rfl
        · show _ = some (SV.v (.int .i64 (((X ++ [n]).length : Nat) : Int)))
          rw [hln]; rfl
    · have hd := dge hge
      obtain ⟨t1, t2⟩ := hTa X e hT hge
      repeat' (first | refine VC_seq ?_ | refine VC_region ?_ | refine VL_nil ?_ | refine VC_exit ?_ | ((apply VL_q); (exact qcp (by rfl)); rfl) | refine cfa ?_)
      exact ⟨rfl, X, Mx, e, [0, 1, 2, 3], hMx, hXok, t1, t2, ⟨rfl, rfl, ⟨rfl, rfl, rfl, rfl, trivial⟩, ⟨rfl, rfl, rfl, rfl, rfl, trivial⟩⟩⟩
  · rintro s' ⟨X, Mx, e, ρ, hMx, hXok, t1, t2, hsub⟩
    refine VC_sub ρ _ hsub ?_
    clear hsub
    have hXl : X.length = (rdL s).1.length := by rw [← t1, List.length_map]
    have hXb : ∀ a ∈ X, a.Big ∧ a.In := fun a ha => by
      have h1 : strip a ∈ (rdL s).1 := by rw [← t1]; exact List.mem_map_of_mem ha
      exact big_strip (b := strip a) (strip_strip a).symm (H _ h1)
    refine VC_frz 3 (by rfl) (fun u M5 hle5 hrow => ?_)
    have hS : SlM M5 10 ndCells u X := hrow.slM (fun _ _ => rfl)
    have hNds : NdsOk M5 X := ⟨fun a ha => (hXok a ha).mono hle5, fun a ha => (hXb a ha).1, fun a ha => (hXb a ha).2, by omega⟩
    have cB := fun W (hW : M5.le (Mem.of W)) => image_Bytes ⟨n1, n2, n3, n4, n5⟩ u X W M5 hW hS hNds
    have hpl : placedB (rdL s).1 = placedB X := by rw [← t1, placedB_strip]
    have hsd : soundR ⟨n1, n2, n3, n4, n5⟩ (rdL s).1 = soundR ⟨n1, n2, n3, n4, n5⟩ X := by rw [← t1, soundR_strip]
    have him : imgB ⟨n1, n2, n3, n4, n5⟩ (rdL s).1 = imgB ⟨n1, n2, n3, n4, n5⟩ X := by rw [← t1, imgB_strip]
    have hrd : Unit → rdB s = (e.2 && okC ⟨n1, n2, n3, n4, n5⟩ && placedB X && soundR ⟨n1, n2, n3, n4, n5⟩ X && decide (imgB ⟨n1, n2, n3, n4, n5⟩ X = s)) := fun _ => by
      unfold rdB
      rw [hG, ← t2, hpl, hsd, him]
    obtain ⟨A, ca, hAu, _⟩ := id hS
    subst hAu
    obtain ⟨es, ek⟩ := e
    by_cases hq : okC ⟨n1, n2, n3, n4, n5⟩ = true ∧ placedB X = true ∧ soundR ⟨n1, n2, n3, n4, n5⟩ X = true
    · obtain ⟨q1, q2, q3⟩ := hq
      have hb := bytes_ok q1 q2 q3
      rw [hb] at cB
      rw [q1, q2, q3] at hrd
      clear q1 q2 q3 hpl hsd him hb
      generalize imgB ⟨n1, n2, n3, n4, n5⟩ X = ib at *
      cases ek with
      | false =>
        repeat' (first | refine VC_seq ?_ | refine VC_region ?_ | refine VL_nil ?_ | refine VC_ret ?_ | refine ksN ?_ | ((apply VL_q); (first | exact qni (by rfl) | exact QS_nload1 1 (by rfl) (by rfl) (by rfl) (by rfl) | exact QS_call (by rfl) cB | exact qmv (by rfl) | exact qas (by rfl) | exact qlA (by rfl) | exact qmf (by rfl) | exact qbd (by rfl) | exact qno (by rfl) | exact qex (by rfl) | exact qpt (by rfl)); rfl) | refine kno ?_ | refine ctr ?_)
        exact ⟨_, Res.three (by rfl) (ResV_agg (by rfl) (by rfl) _ (by rfl) rfl) (ResV_tmp (by rfl) rfl) (ResV_tmp (by rfl) rfl), .inr ⟨by rw [hrd ()]; rfl, rfl⟩⟩
      | true =>
        by_cases hi : ib = s
        · have hi2 : (!decide (ib = s)) = false := by rw [decide_eq_true hi]; rfl
          repeat' (first | refine VC_seq ?_ | refine VC_region ?_ | refine VL_nil ?_ | refine VC_ret ?_ | refine VC_skip ?_ | refine ksN ?_ | ((apply VL_q); (first | exact qni (by rfl) | exact QS_nload1 1 (by rfl) (by rfl) (by rfl) (by rfl) | exact QS_call (by rfl) cB | exact qmv (by rfl) | exact qas (by rfl) | exact qlA (by rfl) | exact qmf (by rfl) | exact qno (by rfl) | exact qex (by rfl) | exact qpf (by rfl) | exact qcp (by rfl)); rfl) | refine kyes ?_ | refine cfa ?_)
          exact ⟨_, Res.three (by rfl) (ResV_agg (by rfl) (by rfl) _ (by rfl) rfl) (ResV_tmp (by rfl) rfl) (ResV_tmp (by rfl) rfl), .inl ⟨by rw [hrd (), decide_eq_true hi]; rfl, X, _, by rw [hG]; rfl, hS, t1, hNds⟩⟩
        · have hi2 : (!decide (ib = s)) = true := by rw [decide_eq_false hi]; rfl
          repeat' (first | refine VC_seq ?_ | refine VC_region ?_ | refine VL_nil ?_ | refine VC_ret ?_ | refine ksN ?_ | ((apply VL_q); (first | exact qni (by rfl) | exact QS_nload1 1 (by rfl) (by rfl) (by rfl) (by rfl) | exact QS_call (by rfl) cB | exact qmv (by rfl) | exact qas (by rfl) | exact qlA (by rfl) | exact qmf (by rfl) | exact qbd (by rfl) | exact qno (by rfl) | exact qex (by rfl) | exact qpf (by rfl) | exact qcp (by rfl)); rfl) | refine kyes ?_ | refine ctr ?_)
          exact ⟨_, Res.three (by rfl) (ResV_agg (by rfl) (by rfl) _ (by rfl) rfl) (ResV_tmp (by rfl) rfl) (ResV_tmp (by rfl) rfl), .inr ⟨by rw [hrd (), decide_eq_false hi]; rfl, rfl⟩⟩
    · have hrd' : Unit → rdB s = false := fun _ => by
        rw [hrd ()]
        cases h : okC ⟨n1, n2, n3, n4, n5⟩ <;> cases h2 : placedB X <;> cases h3 : soundR ⟨n1, n2, n3, n4, n5⟩ X <;> simp_all
      have hb : (bytesV ⟨n1, n2, n3, n4, n5⟩ X = (em, 2) ∨ bytesV ⟨n1, n2, n3, n4, n5⟩ X = (em, 3)) := by
        unfold bytesV
        split
        · split
          · rename_i g1 g2; exact absurd ⟨g1.1, g1.2, g2⟩ hq
          · exact .inr rfl
        · exact .inl rfl
      clear hq hrd hpl hsd him
      rcases hb with hb | hb
      all_goals
        rw [hb] at cB
        cases ek
        all_goals
          repeat' (first | refine VC_seq ?_ | refine VC_region ?_ | refine VL_nil ?_ | refine VC_ret ?_ | refine ksN ?_ | ((apply VL_q); (first | exact qni (by rfl) | exact QS_nload1 1 (by rfl) (by rfl) (by rfl) (by rfl) | exact QS_call (by rfl) cB | exact qmv (by rfl) | exact qas (by rfl) | exact qlA (by rfl) | exact qmf (by rfl) | exact qbd (by rfl) | exact qno (by rfl) | exact qex (by rfl) | exact qpt (by rfl) | exact qpf (by rfl) | exact qcp (by rfl)); rfl) | refine kyes ?_ | refine kno ?_ | refine ctr ?_)
          exact ⟨_, Res.three (by rfl) (ResV_agg (by rfl) (by rfl) _ (by rfl) rfl) (ResV_tmp (by rfl) rfl) (ResV_tmp (by rfl) rfl), .inr ⟨hrd' (), rfl⟩⟩
end Go.Proofs.YtlapnbklbpeddaaGreat
