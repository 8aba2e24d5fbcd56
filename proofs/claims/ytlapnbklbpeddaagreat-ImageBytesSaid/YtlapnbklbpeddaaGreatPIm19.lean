/- A pen writes a node. Its rows are printed by wip/gen_pen.py. -/
import Derived.Test.YtlapnbklbpeddaaGreatPIm17
import Derived.Test.YtlapnbklbpeddaaGreatPIm18
namespace Go.Proofs.YtlapnbklbpeddaaGreat
open Go Go.RowKit
attribute [local irreducible] Calls
set_option linter.unusedVariables false
set_option maxRecDepth 20000
set_option linter.unusedSimpArgs false
set_option maxHeartbeats 8000000
theorem pen_node (b : Nat) (p0 u0 : Value) (b0 : ByteArray) (n : Nd) (Mb : Mem) (hp0 : PnOk b p0 u0 b0) (hn : n.Ok Mb) (hf : NdFit n) (hb : b0.size ≤ 900000000) :
    CallX Tryz.prog 21 [sbP b, .agg #[.int .i64 n.slot, .int .i64 n.level, n.pv, n.kv, .string n.high, .bool n.top, .int .i64 n.right, .int .i64 n.seen, n.mv, n.rv]] Mb (pnL b p0 u0 b0) (fun r o => r = .tuple #[] ∧ PnPost b (b0 ++ nodeB n) o) := by
  obtain ⟨f1, f2, f3, f4, f5, f6, f7, f8, f9, f10, f11, f12⟩ := hf
  obtain ⟨hp, hk, hm, hr⟩ := hn
  obtain ⟨slot, level, pv, ps, kv, ks, high, top, right, seen, mv, ms, rv, rs⟩ := n
  dsimp only at *
  have q1 := catB_le textR (n := 17) ps (fun s hs => by have := f5 s hs; rw [size_textR]; omega)
  have q2 := catB_le numB (n := 8) ks (fun s hs => by rw [numB_size]; omega)
  have q3 := catB_le msgB (n := 68) ms (fun m hm => msgB_le (f9 m hm))
  have q4 := catB_le pairB (n := 34) rs (fun m hm => pairB_le (f11 m hm))
  obtain ⟨A1, c1, rfl, hc1, _⟩ := id hp
  obtain ⟨A2, c2, rfl, hc2, _⟩ := id hk
  obtain ⟨A3, c3, rfl, hc3, _⟩ := id hm
  obtain ⟨A4, c4, rfl, hc4, _⟩ := id hr
  have hnode : b0 ++ nodeB ⟨slot, level, .slice A1 ps.length c1, ps, .slice A2 ks.length c2, ks, high, top, right, seen, .slice A3 ms.length c3, ms, .slice A4 rs.length c4, rs⟩ = b0 ++ catB numB [level, seen, right + 1] ++ flgB top ++ catB textR [high] ++ catB numB [(ps.length : Int)] ++ catB textR ps ++ catB numB [(ks.length : Int)] ++ catB numB ks ++ catB numB [(ms.length : Int)] ++ catB msgB ms ++ catB numB [(rs.length : Int)] ++ catB pairB rs := by
    unfold nodeB headB
    simp only [catB, ba_nil, ba_assoc]
  rw [hnode]
  clear hnode
  refine V_x Tryz.func21 rfl Tryz.ntmps21 (by rfl) (fun w M0x => ?_)
  obtain ⟨M0, hM0⟩ : ∃ M', M' = Mb := ⟨_, rfl⟩
  have hL0 : Mb.le M0 := by rw [hM0]; exact Mem.le_refl _
  conv in (⟨Mb, _, _⟩ : St) => rw [← hM0]
  repeat' (first | refine VC_seq ?_ | refine VC_region ?_ | refine VL_nil ?_ | refine kbox ?_ | refine klt ?_ | ((apply VL_q); (first | exact qmv (by rfl) | exact ql1 (by rfl) | exact qfa (by rfl) | exact qad (by rfl)); rfl))
  refine VL_frz 3 (by rfl) (fun uv M1 hle1 hrow => ?_)
  have hsl : SlM M1 1 intCells uv [level, seen, right + 1] := RowM.slM (l := [level, seen, right + 1]) (fun _ _ => rfl) hrow
  clear hrow
  have hg1 : (catB numB [level, seen, right + 1]).size ≤ 24 := by simp only [catB, size_app, numB_size, size_textR]; have : em.size = 0 := rfl; omega
  refine VL_callX (own1 := pnL b p0 u0 b0) [0, 1] (by rfl) (by rfl) ⟨rfl, rfl, trivial⟩ (fun M' hM' => pen_nums b p0 u0 b0 uv [level, seen, right + 1] M' hp0 (hsl.mono hM') (by omega) (by simp)) (by rfl) (by rfl) ?_
  clear hsl
  rintro _ _ ⟨rfl, p1, u1, hp1, rfl⟩
  have hz1 : (b0 ++ catB numB [level, seen, right + 1]).size ≤ b0.size + 24 := by rw [size_app]; omega
  generalize hb1 : b0 ++ catB numB [level, seen, right + 1] = b1 at *
  have hL1 := hL0.trans hle1
  refine VL_sub [4, 5, 2] ⟨M1, pnL b p1 u1 b1 ++ [Ob.blk 35 [.int .i64 slot, .int .i64 level, .slice A1 ps.length c1, .slice A2 ks.length c2, .string high, .bool top, .int .i64 right, .int .i64 seen, .slice A3 ms.length c3, .slice A4 rs.length c4]], [(0, .v (sbP b)), (3, .p 2 0)]⟩ ⟨rfl, rfl, ⟨rfl, rfl, rfl, trivial⟩, ⟨rfl, rfl, trivial⟩⟩ ?_
  repeat' (first | refine VC_seq ?_ | refine VL_nil ?_)
  have cF2 := fun W => image_flag top W
  have hg2 := flgB_size top
  have o1 : 0 < (flgB top).size := by omega
  have o2 : b1.size + (flgB top).size ≤ 1000000000 := by omega
  refine VC_drawG [0, 1] [6] (by decide +kernel) (by rfl) (by rfl) ?_
  repeat' (first | refine VQm_nil ?_ | refine VQm_e (by rfl) ?_ | refine VQm_q (by rfl) _ (by exact wno (by first | exact qni (by rfl) | exact QS_call (by rfl) (fun W _ => cF2 W) | exact qmv (by rfl) | exact ql1 (by rfl) | exact qfa (by rfl) | exact qmf (by rfl))) (by rfl) (by rfl) ?_ | refine VF_step ?_ | exact VFs_nil | refine VFs_x _ _ _ _ (by rfl) (EX_callX (own1 := pnL b p1 u1 b1) [0, 1] (by rfl) (by rfl) ⟨rfl, rfl, trivial⟩ (fun M2 _ => pen_write b p1 u1 b1 (flgB top) M2 hp1 o1 o2)) (by rfl) ?_ ?_)
  rintro ⟨⟨vF, oF⟩, hvF, p2, u2, hp2, hoF⟩
  refine ⟨Mem.le_refl _, by rfl, ?_⟩
  refine VF_done ?_
  dsimp only at hp2 hoF ⊢
  subst hoF
  have hz2 : (b1 ++ flgB top).size ≤ b1.size + 1 := by rw [size_app]; omega
  generalize hb2 : b1 ++ flgB top = b2 at *
  obtain ⟨M2, hM2⟩ : ∃ M', M' = M1 := ⟨_, rfl⟩
  rw [← hM2]
  have hL2 : Mb.le M2 := by rw [hM2]; exact hL1
  repeat' (first | refine VC_seq ?_ | refine VC_region ?_ | refine klt ?_ | ((apply VL_q); (first | exact qmv (by rfl) | exact ql1 (by rfl) | exact qfa (by rfl)); rfl))
  refine VL_frz 5 (by rfl) (fun uv M3 hle3 hrow => ?_)
  have hsl : SlM M3 1 strCells uv [high] := RowM.slM (l := [high]) (fun _ _ => rfl) hrow
  clear hrow
  have hg3 : (catB textR [high]).size ≤ 17 := by simp only [catB, size_app, numB_size, size_textR]; have : em.size = 0 := rfl; omega
  refine VL_callX (own1 := pnL b p2 u2 b2) [3, 4] (by rfl) (by rfl) ⟨rfl, rfl, trivial⟩ (fun M' hM' => pen_texts b p2 u2 b2 uv [high] M' hp2 (hsl.mono hM') (by intro s hs; rw [List.mem_singleton.1 hs]; omega) (by omega) (by simp)) (by rfl) (by rfl) ?_
  clear hsl
  rintro _ _ ⟨rfl, p3, u3, hp3, rfl⟩
  have hz3 : (b2 ++ catB textR [high]).size ≤ b2.size + 17 := by rw [size_app]; omega
  generalize hb3 : b2 ++ catB textR [high] = b3 at *
  have hL3 := hL2.trans hle3
  refine VL_sub [6, 7, 2] ⟨M3, pnL b p3 u3 b3 ++ [Ob.blk 35 [.int .i64 slot, .int .i64 level, .slice A1 ps.length c1, .slice A2 ks.length c2, .string high, .bool top, .int .i64 right, .int .i64 seen, .slice A3 ms.length c3, .slice A4 rs.length c4]], [(0, .v (sbP b)), (3, .p 2 0)]⟩ ⟨rfl, rfl, ⟨rfl, rfl, rfl, trivial⟩, ⟨rfl, rfl, trivial⟩⟩ ?_
  repeat' (first | refine VC_seq ?_ | refine VC_region ?_ | refine VL_nil ?_ | refine klt ?_ | ((apply VL_q); (first | exact qmv (by rfl) | exact ql1 (by rfl) | exact qfa (by rfl) | exact qln (by rfl)); rfl))
  refine VL_frz 3 (by rfl) (fun uv M4 hle4 hrow => ?_)
  have hsl : SlM M4 1 intCells uv [(ps.length : Int)] := RowM.slM (l := [(ps.length : Int)]) (fun _ _ => rfl) hrow
  clear hrow
  have hg4 : (catB numB [(ps.length : Int)]).size ≤ 8 := by simp only [catB, size_app, numB_size, size_textR]; have : em.size = 0 := rfl; omega
  refine VL_callX (own1 := pnL b p3 u3 b3) [0, 1] (by rfl) (by rfl) ⟨rfl, rfl, trivial⟩ (fun M' hM' => pen_nums b p3 u3 b3 uv [(ps.length : Int)] M' hp3 (hsl.mono hM') (by omega) (by simp)) (by rfl) (by rfl) ?_
  clear hsl
  rintro _ _ ⟨rfl, p4, u4, hp4, rfl⟩
  have hz4 : (b3 ++ catB numB [(ps.length : Int)]).size ≤ b3.size + 8 := by rw [size_app]; omega
  generalize hb4 : b3 ++ catB numB [(ps.length : Int)] = b4 at *
  have hL4 := hL3.trans hle4
  refine VL_sub [4, 5, 2] ⟨M4, pnL b p4 u4 b4 ++ [Ob.blk 35 [.int .i64 slot, .int .i64 level, .slice A1 ps.length c1, .slice A2 ks.length c2, .string high, .bool top, .int .i64 right, .int .i64 seen, .slice A3 ms.length c3, .slice A4 rs.length c4]], [(0, .v (sbP b)), (3, .p 2 0)]⟩ ⟨rfl, rfl, ⟨rfl, rfl, rfl, trivial⟩, ⟨rfl, rfl, trivial⟩⟩ ?_
  repeat' (first | refine VC_seq ?_ | refine VC_region ?_ | refine VL_nil ?_ | ((apply VL_q); (first | exact qmv (by rfl) | exact ql1 (by rfl) | exact qfa (by rfl)); rfl))
  have hle5 := Mem.le_refl M4
  obtain ⟨M5, hM5⟩ : ∃ M', M' = M4 := ⟨_, rfl⟩
  rw [← hM5] at hle5 ⊢
  refine VL_callX (own1 := pnL b p4 u4 b4) [0, 1] (by rfl) (by rfl) ⟨rfl, rfl, trivial⟩ (fun M' hM' => pen_texts b p4 u4 b4 _ ps M' hp4 ((hp.mono (by rw [hM5]; exact hL4)).mono hM') (by intro s hs; have := f5 s hs; omega) (by omega) (by omega)) (by rfl) (by rfl) ?_
  rintro _ _ ⟨rfl, p5, u5, hp5, rfl⟩
  have hz5 : (b4 ++ catB textR ps).size ≤ b4.size + (ps.length * 17) := by rw [size_app]; omega
  generalize hb5 : b4 ++ catB textR ps = b5 at *
  have hL5 : Mb.le M5 := by rw [hM5]; exact hL4
  refine VL_sub [3, 4, 2] ⟨M5, pnL b p5 u5 b5 ++ [Ob.blk 35 [.int .i64 slot, .int .i64 level, .slice A1 ps.length c1, .slice A2 ks.length c2, .string high, .bool top, .int .i64 right, .int .i64 seen, .slice A3 ms.length c3, .slice A4 rs.length c4]], [(0, .v (sbP b)), (3, .p 2 0)]⟩ ⟨rfl, rfl, ⟨rfl, rfl, rfl, trivial⟩, ⟨rfl, rfl, trivial⟩⟩ ?_
  repeat' (first | refine VC_seq ?_ | refine VC_region ?_ | refine VL_nil ?_ | refine klt ?_ | ((apply VL_q); (first | exact qmv (by rfl) | exact ql1 (by rfl) | exact qfa (by rfl) | exact qln (by rfl)); rfl))
  refine VL_frz 3 (by rfl) (fun uv M6 hle6 hrow => ?_)
  have hsl : SlM M6 1 intCells uv [(ks.length : Int)] := RowM.slM (l := [(ks.length : Int)]) (fun _ _ => rfl) hrow
  clear hrow
  have hg6 : (catB numB [(ks.length : Int)]).size ≤ 8 := by simp only [catB, size_app, numB_size, size_textR]; have : em.size = 0 := rfl; omega
  refine VL_callX (own1 := pnL b p5 u5 b5) [0, 1] (by rfl) (by rfl) ⟨rfl, rfl, trivial⟩ (fun M' hM' => pen_nums b p5 u5 b5 uv [(ks.length : Int)] M' hp5 (hsl.mono hM') (by omega) (by simp)) (by rfl) (by rfl) ?_
  clear hsl
  rintro _ _ ⟨rfl, p6, u6, hp6, rfl⟩
  have hz6 : (b5 ++ catB numB [(ks.length : Int)]).size ≤ b5.size + 8 := by rw [size_app]; omega
  generalize hb6 : b5 ++ catB numB [(ks.length : Int)] = b6 at *
  have hL6 := hL5.trans hle6
  refine VL_sub [4, 5, 2] ⟨M6, pnL b p6 u6 b6 ++ [Ob.blk 35 [.int .i64 slot, .int .i64 level, .slice A1 ps.length c1, .slice A2 ks.length c2, .string high, .bool top, .int .i64 right, .int .i64 seen, .slice A3 ms.length c3, .slice A4 rs.length c4]], [(0, .v (sbP b)), (3, .p 2 0)]⟩ ⟨rfl, rfl, ⟨rfl, rfl, rfl, trivial⟩, ⟨rfl, rfl, trivial⟩⟩ ?_
  repeat' (first | refine VC_seq ?_ | refine VC_region ?_ | refine VL_nil ?_ | ((apply VL_q); (first | exact qmv (by rfl) | exact ql1 (by rfl) | exact qfa (by rfl)); rfl))
  have hle7 := Mem.le_refl M6
  obtain ⟨M7, hM7⟩ : ∃ M', M' = M6 := ⟨_, rfl⟩
  rw [← hM7] at hle7 ⊢
  refine VL_callX (own1 := pnL b p6 u6 b6) [0, 1] (by rfl) (by rfl) ⟨rfl, rfl, trivial⟩ (fun M' hM' => pen_nums b p6 u6 b6 _ ks M' hp6 ((hk.mono (by rw [hM7]; exact hL6)).mono hM') (by omega) (by omega)) (by rfl) (by rfl) ?_
  rintro _ _ ⟨rfl, p7, u7, hp7, rfl⟩
  have hz7 : (b6 ++ catB numB ks).size ≤ b6.size + (ks.length * 8) := by rw [size_app]; omega
  generalize hb7 : b6 ++ catB numB ks = b7 at *
  have hL7 : Mb.le M7 := by rw [hM7]; exact hL6
  refine VL_sub [3, 4, 2] ⟨M7, pnL b p7 u7 b7 ++ [Ob.blk 35 [.int .i64 slot, .int .i64 level, .slice A1 ps.length c1, .slice A2 ks.length c2, .string high, .bool top, .int .i64 right, .int .i64 seen, .slice A3 ms.length c3, .slice A4 rs.length c4]], [(0, .v (sbP b)), (3, .p 2 0)]⟩ ⟨rfl, rfl, ⟨rfl, rfl, rfl, trivial⟩, ⟨rfl, rfl, trivial⟩⟩ ?_
  repeat' (first | refine VC_seq ?_ | refine VC_region ?_ | refine VL_nil ?_ | refine klt ?_ | ((apply VL_q); (first | exact qmv (by rfl) | exact ql1 (by rfl) | exact qfa (by rfl) | exact qln (by rfl)); rfl))
  refine VL_frz 3 (by rfl) (fun uv M8 hle8 hrow => ?_)
  have hsl : SlM M8 1 intCells uv [(ms.length : Int)] := RowM.slM (l := [(ms.length : Int)]) (fun _ _ => rfl) hrow
  clear hrow
  have hg8 : (catB numB [(ms.length : Int)]).size ≤ 8 := by simp only [catB, size_app, numB_size, size_textR]; have : em.size = 0 := rfl; omega
  refine VL_callX (own1 := pnL b p7 u7 b7) [0, 1] (by rfl) (by rfl) ⟨rfl, rfl, trivial⟩ (fun M' hM' => pen_nums b p7 u7 b7 uv [(ms.length : Int)] M' hp7 (hsl.mono hM') (by omega) (by simp)) (by rfl) (by rfl) ?_
  clear hsl
  rintro _ _ ⟨rfl, p8, u8, hp8, rfl⟩
  have hz8 : (b7 ++ catB numB [(ms.length : Int)]).size ≤ b7.size + 8 := by rw [size_app]; omega
  generalize hb8 : b7 ++ catB numB [(ms.length : Int)] = b8 at *
  have hL8 := hL7.trans hle8
  refine VL_sub [4, 5, 2] ⟨M8, pnL b p8 u8 b8 ++ [Ob.blk 35 [.int .i64 slot, .int .i64 level, .slice A1 ps.length c1, .slice A2 ks.length c2, .string high, .bool top, .int .i64 right, .int .i64 seen, .slice A3 ms.length c3, .slice A4 rs.length c4]], [(0, .v (sbP b)), (3, .p 2 0)]⟩ ⟨rfl, rfl, ⟨rfl, rfl, rfl, trivial⟩, ⟨rfl, rfl, trivial⟩⟩ ?_
  repeat' (first | refine VC_seq ?_ | refine VC_region ?_ | refine VL_nil ?_ | refine VC_block ?_ | ((apply VL_q); (first | exact qmv (by rfl) | exact ql1 (by rfl) | exact qfa (by rfl) | exact qln (by rfl)); rfl))
  refine VC_for (fun x : Nat × Mem × Value × Value => ⟨x.2.1, pnL b x.2.2.1 x.2.2.2 (b8 ++ catB msgB (ms.take x.1)) ++ [Ob.blk 35 [.int .i64 slot, .int .i64 level, .slice A1 ps.length c1, .slice A2 ks.length c2, .string high, .bool top, .int .i64 right, .int .i64 seen, .slice A3 ms.length c3, .slice A4 rs.length c4]], [(0, .v (sbP b)), (3, .p 2 0), (57, .v (.slice A3 ms.length c3)), (58, .v (.int .i64 ms.length)), (59, .v (.int .i64 x.1))]⟩)
    (fun x => x.1 ≤ ms.length ∧ Mb.le x.2.1 ∧ PnOk b x.2.2.1 x.2.2.2 (b8 ++ catB msgB (ms.take x.1))) (fun x => ms.length - x.1) [0, 1, 2] (0, M8, p8, u8) ⟨rfl, rfl, ⟨rfl, (by show some (Ob.nrow u8 _ 1 b8.size (bcells b8)) = some (Ob.nrow u8 _ 1 (b8 ++ em).size (bcells (b8 ++ em))); rw [ba_nil]), rfl, trivial⟩, ⟨rfl, rfl, rfl, rfl, rfl, trivial⟩⟩ ⟨Nat.zero_le _, hL8, (by show PnOk b p8 u8 (b8 ++ em); rw [ba_nil]; exact hp8)⟩ ?_
  rintro ⟨k, M9, p9, u9⟩ ⟨hkk, hL9, hp9⟩
  dsimp only at hkk hL9 hp9 ⊢
  have hz9 : (b8 ++ catB msgB (ms.take k)).size ≤ b8.size + ms.length * 68 := by have := catB_take_le msgB ms k; rw [size_app]; omega
  rcases Nat.lt_or_ge k ms.length with hlt | hge
  · have hd := dlt hlt
    have hnx := cat_next msgB hlt b8
    obtain ⟨bb, off, rfl, hcA⟩ := (hm.mono hL9).get hlt
    have hfit := f9 _ (List.getElem_mem hlt)
    obtain ⟨g1, g2, g3, g4, g5⟩ := hfit
    generalize hb9 : b8 ++ catB msgB (ms.take k) = b9 at *
    repeat' (first | refine VC_seq ?_ | refine VC_region ?_ | refine VL_nil ?_ | refine VC_block ?_ | refine VC_skip ?_ | refine kall ?_ | refine ksN ?_ | refine klt ?_ | ((apply VL_q); (first | exact QS_indexAddr (k) (by rfl) (by rfl) (by omega) (by omega) | exact QS_mloadN _ (by rfl) hcA _ (by rfl) | exact qmv (by rfl) | exact ql1 (by rfl) | exact qfa (by rfl) | exact qcp (by rfl)); rfl) | refine ctr ?_)
    refine VL_frz 4 (by rfl) (fun uv M10 hle10 hrow => ?_)
    have hsl : SlM M10 1 intCells uv [ms[k].stamp, ms[k].kind] := RowM.slM (l := [ms[k].stamp, ms[k].kind]) (fun _ _ => rfl) hrow
    clear hrow
    have hg10 : (catB numB [ms[k].stamp, ms[k].kind]).size ≤ 16 := by simp only [catB, size_app, numB_size, size_textR]; have : em.size = 0 := rfl; omega
    refine VL_callX (own1 := pnL b p9 u9 b9) [0, 1] (by rfl) (by rfl) ⟨rfl, rfl, trivial⟩ (fun M' hM' => pen_nums b p9 u9 b9 uv [ms[k].stamp, ms[k].kind] M' hp9 (hsl.mono hM') (by omega) (by simp)) (by rfl) (by rfl) ?_
    clear hsl
    rintro _ _ ⟨rfl, p10, u10, hp10, rfl⟩
    have hz10 : (b9 ++ catB numB [ms[k].stamp, ms[k].kind]).size ≤ b9.size + 16 := by rw [size_app]; omega
    generalize hb10 : b9 ++ catB numB [ms[k].stamp, ms[k].kind] = b10 at *
    have hL10 := hL9.trans hle10
    refine VL_sub [5, 6, 2, 3] ⟨M10, pnL b p10 u10 b10 ++ [Ob.blk 35 [.int .i64 slot, .int .i64 level, .slice A1 ps.length c1, .slice A2 ks.length c2, .string high, .bool top, .int .i64 right, .int .i64 seen, .slice (some ⟨bb, off, none⟩) ms.length c3, .slice A4 rs.length c4], Ob.blk 73 (msgCells ms[k])], [(0, .v (sbP b)), (3, .p 2 0), (57, .v (.slice (some ⟨bb, off, none⟩) ms.length c3)), (58, .v (.int .i64 ms.length)), (59, .v (.int .i64 k)), (5, .p 3 0)]⟩ ⟨rfl, rfl, ⟨rfl, rfl, rfl, rfl, trivial⟩, ⟨rfl, rfl, rfl, rfl, rfl, rfl, trivial⟩⟩ ?_
    repeat' (first | refine VC_seq ?_ | refine VC_region ?_ | refine VL_nil ?_ | refine klt ?_ | ((apply VL_q); (first | exact qmv (by rfl) | exact ql1 (by rfl) | exact qfa (by rfl)); rfl))
    refine VL_frz 4 (by rfl) (fun uv M11 hle11 hrow => ?_)
    have hsl : SlM M11 1 strCells uv [ms[k].key] := RowM.slM (l := [ms[k].key]) (fun _ _ => rfl) hrow
    clear hrow
    have hg11 : (catB textR [ms[k].key]).size ≤ 17 := by simp only [catB, size_app, numB_size, size_textR]; have : em.size = 0 := rfl; omega
    refine VL_callX (own1 := pnL b p10 u10 b10) [0, 1] (by rfl) (by rfl) ⟨rfl, rfl, trivial⟩ (fun M' hM' => pen_texts b p10 u10 b10 uv [ms[k].key] M' hp10 (hsl.mono hM') (by intro s hs; rw [List.mem_singleton.1 hs]; omega) (by omega) (by simp)) (by rfl) (by rfl) ?_
    clear hsl
    rintro _ _ ⟨rfl, p11, u11, hp11, rfl⟩
    have hz11 : (b10 ++ catB textR [ms[k].key]).size ≤ b10.size + 17 := by rw [size_app]; omega
    generalize hb11 : b10 ++ catB textR [ms[k].key] = b11 at *
    have hL11 := hL10.trans hle11
    refine VL_sub [5, 6, 2, 3] ⟨M11, pnL b p11 u11 b11 ++ [Ob.blk 35 [.int .i64 slot, .int .i64 level, .slice A1 ps.length c1, .slice A2 ks.length c2, .string high, .bool top, .int .i64 right, .int .i64 seen, .slice (some ⟨bb, off, none⟩) ms.length c3, .slice A4 rs.length c4], Ob.blk 73 (msgCells ms[k])], [(0, .v (sbP b)), (3, .p 2 0), (57, .v (.slice (some ⟨bb, off, none⟩) ms.length c3)), (58, .v (.int .i64 ms.length)), (59, .v (.int .i64 k)), (5, .p 3 0)]⟩ ⟨rfl, rfl, ⟨rfl, rfl, rfl, rfl, trivial⟩, ⟨rfl, rfl, rfl, rfl, rfl, rfl, trivial⟩⟩ ?_
    repeat' (first | refine VC_seq ?_ | refine VL_nil ?_)
    have cF12 := fun W => image_flag ms[k].opn W
    have hg12 := flgB_size ms[k].opn
    have o1 : 0 < (flgB ms[k].opn).size := by omega
    have o2 : b11.size + (flgB ms[k].opn).size ≤ 1000000000 := by omega
    refine VC_drawG [0, 1] [6] (by decide +kernel) (by rfl) (by rfl) ?_
    repeat' (first | refine VQm_nil ?_ | refine VQm_e (by rfl) ?_ | refine VQm_q (by rfl) _ (by exact wno (by first | exact qni (by rfl) | exact QS_call (by rfl) (fun W _ => cF12 W) | exact qmv (by rfl) | exact ql1 (by rfl) | exact qfa (by rfl) | exact qmf (by rfl))) (by rfl) (by rfl) ?_ | refine VF_step ?_ | exact VFs_nil | refine VFs_x _ _ _ _ (by rfl) (EX_callX (own1 := pnL b p11 u11 b11) [0, 1] (by rfl) (by rfl) ⟨rfl, rfl, trivial⟩ (fun M2 _ => pen_write b p11 u11 b11 (flgB ms[k].opn) M2 hp11 o1 o2)) (by rfl) ?_ ?_)
    rintro ⟨⟨vF, oF⟩, hvF, p12, u12, hp12, hoF⟩
    refine ⟨Mem.le_refl _, by rfl, ?_⟩
    refine VF_done ?_
    dsimp only at hp12 hoF ⊢
    subst hoF
    have hz12 : (b11 ++ flgB ms[k].opn).size ≤ b11.size + 1 := by rw [size_app]; omega
    generalize hb12 : b11 ++ flgB ms[k].opn = b12 at *
    obtain ⟨M12, hM12⟩ : ∃ M', M' = M11 := ⟨_, rfl⟩
    rw [← hM12]
    have hL12 : Mb.le M12 := by rw [hM12]; exact hL11
    repeat' (first | refine VC_region ?_ | refine klt ?_ | ((apply VL_q); (first | exact qmv (by rfl) | exact ql1 (by rfl) | exact qfa (by rfl)); rfl))
    refine VL_frz 6 (by rfl) (fun uv M13 hle13 hrow => ?_)
    have hsl : SlM M13 1 strCells uv [ms[k].hi, ms[k].val] := RowM.slM (l := [ms[k].hi, ms[k].val]) (fun _ _ => rfl) hrow
    clear hrow
    have hg13 : (catB textR [ms[k].hi, ms[k].val]).size ≤ 34 := by simp only [catB, size_app, numB_size, size_textR]; have : em.size = 0 := rfl; omega
    refine VL_callX (own1 := pnL b p12 u12 b12) [4, 5] (by rfl) (by rfl) ⟨rfl, rfl, trivial⟩ (fun M' hM' => pen_texts b p12 u12 b12 uv [ms[k].hi, ms[k].val] M' hp12 (hsl.mono hM') (by intro s hs; simp only [List.mem_cons, List.not_mem_nil, or_false] at hs; rcases hs with rfl | rfl <;> omega) (by omega) (by simp)) (by rfl) (by rfl) ?_
    clear hsl
    rintro _ _ ⟨rfl, p13, u13, hp13, rfl⟩
    have hz13 : (b12 ++ catB textR [ms[k].hi, ms[k].val]).size ≤ b12.size + 34 := by rw [size_app]; omega
    generalize hb13 : b12 ++ catB textR [ms[k].hi, ms[k].val] = b13 at *
    have hL13 := hL12.trans hle13
    refine VL_sub [7, 8, 2] ⟨M13, pnL b p13 u13 b13 ++ [Ob.blk 35 [.int .i64 slot, .int .i64 level, .slice A1 ps.length c1, .slice A2 ks.length c2, .string high, .bool top, .int .i64 right, .int .i64 seen, .slice (some ⟨bb, off, none⟩) ms.length c3, .slice A4 rs.length c4]], [(0, .v (sbP b)), (3, .p 2 0), (57, .v (.slice (some ⟨bb, off, none⟩) ms.length c3)), (58, .v (.int .i64 ms.length)), (59, .v (.int .i64 k))]⟩ ⟨rfl, rfl, ⟨rfl, rfl, rfl, trivial⟩, ⟨rfl, rfl, rfl, rfl, rfl, trivial⟩⟩ ?_
    have hend : b9 ++ msgB ms[k] = b13 := by unfold msgB; rw [← hb13, ← hb12, ← hb11, ← hb10]; simp only [catB, ba_nil, ba_assoc]
    repeat' (first | refine VC_region ?_ | refine VL_nil ?_ | ((apply VL_q); (first | exact qmv (by rfl) | exact qad (by rfl)); rfl))
    refine forQ_next (Q := fun _ _ => True) [0, 1, 2] (k + 1, M13, p13, u13) ⟨rfl, rfl, ⟨rfl, ?_, rfl, trivial⟩, ⟨rfl, rfl, rfl, rfl, rfl, trivial⟩⟩ ⟨Nat.succ_le_of_lt hlt, hL13, ?_⟩ (by show ms.length - (k + 1) < ms.length - k; omega)
    · show _ = some (Ob.nrow u13 _ 1 (b8 ++ catB msgB (ms.take (k + 1))).size (bcells (b8 ++ catB msgB (ms.take (k + 1)))))
      rw [← hnx, hend]; rfl
    · show PnOk b p13 u13 (b8 ++ catB msgB (ms.take (k + 1)))
      rw [← hnx, hend]; exact hp13
  have hdm := dge hge
  obtain rfl : k = ms.length := by omega
  rw [List.take_length] at hz9 hp9 ⊢
  obtain ⟨M14, hM14⟩ : ∃ M', M' = M9 := ⟨_, rfl⟩
  have hL14 : Mb.le M14 := by rw [hM14]; exact hL9
  rw [← hM14]
  generalize hb14 : b8 ++ catB msgB ms = b14 at *
  have hp14 := hp9
  obtain ⟨p14, hpp14⟩ : ∃ q, q = p9 := ⟨_, rfl⟩
  obtain ⟨u14, huu14⟩ : ∃ q, q = u9 := ⟨_, rfl⟩
  rw [← hpp14, ← huu14] at hp14 ⊢
  repeat' (first | refine VC_seq ?_ | refine VC_region ?_ | refine VL_nil ?_ | refine VC_exit ?_ | refine klt ?_ | ((apply VL_q); (first | exact qmv (by rfl) | exact ql1 (by rfl) | exact qfa (by rfl) | exact qln (by rfl) | exact qcp (by rfl)); rfl) | refine cfa ?_)
  refine VL_frz 3 (by rfl) (fun uv M15 hle15 hrow => ?_)
  have hsl : SlM M15 1 intCells uv [(rs.length : Int)] := RowM.slM (l := [(rs.length : Int)]) (fun _ _ => rfl) hrow
  clear hrow
  have hg15 : (catB numB [(rs.length : Int)]).size ≤ 8 := by simp only [catB, size_app, numB_size, size_textR]; have : em.size = 0 := rfl; omega
  refine VL_callX (own1 := pnL b p14 u14 b14) [0, 1] (by rfl) (by rfl) ⟨rfl, rfl, trivial⟩ (fun M' hM' => pen_nums b p14 u14 b14 uv [(rs.length : Int)] M' hp14 (hsl.mono hM') (by omega) (by simp)) (by rfl) (by rfl) ?_
  clear hsl
  rintro _ _ ⟨rfl, p15, u15, hp15, rfl⟩
  have hz15 : (b14 ++ catB numB [(rs.length : Int)]).size ≤ b14.size + 8 := by rw [size_app]; omega
  generalize hb15 : b14 ++ catB numB [(rs.length : Int)] = b15 at *
  have hL15 := hL14.trans hle15
  refine VL_sub [4, 5, 2] ⟨M15, pnL b p15 u15 b15 ++ [Ob.blk 35 [.int .i64 slot, .int .i64 level, .slice A1 ps.length c1, .slice A2 ks.length c2, .string high, .bool top, .int .i64 right, .int .i64 seen, .slice A3 ms.length c3, .slice A4 rs.length c4]], [(0, .v (sbP b)), (3, .p 2 0)]⟩ ⟨rfl, rfl, ⟨rfl, rfl, rfl, trivial⟩, ⟨rfl, rfl, trivial⟩⟩ ?_
  repeat' (first | refine VC_seq ?_ | refine VC_region ?_ | refine VL_nil ?_ | refine VC_block ?_ | ((apply VL_q); (first | exact qmv (by rfl) | exact ql1 (by rfl) | exact qfa (by rfl) | exact qln (by rfl)); rfl))
  refine VC_for (fun x : Nat × Mem × Value × Value => ⟨x.2.1, pnL b x.2.2.1 x.2.2.2 (b15 ++ catB pairB (rs.take x.1)) ++ [Ob.blk 35 [.int .i64 slot, .int .i64 level, .slice A1 ps.length c1, .slice A2 ks.length c2, .string high, .bool top, .int .i64 right, .int .i64 seen, .slice A3 ms.length c3, .slice A4 rs.length c4]], [(0, .v (sbP b)), (3, .p 2 0), (97, .v (.slice A4 rs.length c4)), (98, .v (.int .i64 rs.length)), (99, .v (.int .i64 x.1))]⟩)
    (fun x => x.1 ≤ rs.length ∧ Mb.le x.2.1 ∧ PnOk b x.2.2.1 x.2.2.2 (b15 ++ catB pairB (rs.take x.1))) (fun x => rs.length - x.1) [0, 1, 2] (0, M15, p15, u15) ⟨rfl, rfl, ⟨rfl, (by show some (Ob.nrow u15 _ 1 b15.size (bcells b15)) = some (Ob.nrow u15 _ 1 (b15 ++ em).size (bcells (b15 ++ em))); rw [ba_nil]), rfl, trivial⟩, ⟨rfl, rfl, rfl, rfl, rfl, trivial⟩⟩ ⟨Nat.zero_le _, hL15, (by show PnOk b p15 u15 (b15 ++ em); rw [ba_nil]; exact hp15)⟩ ?_
  rintro ⟨k, M16, p16, u16⟩ ⟨hkk, hL16, hp16⟩
  dsimp only at hkk hL16 hp16 ⊢
  have hz16 : (b15 ++ catB pairB (rs.take k)).size ≤ b15.size + rs.length * 34 := by have := catB_take_le pairB rs k; rw [size_app]; omega
  rcases Nat.lt_or_ge k rs.length with hlt | hge
  · have hd := dlt hlt
    have hnx := cat_next pairB hlt b15
    obtain ⟨bb, off, rfl, hcA⟩ := (hr.mono hL16).get hlt
    have hfit := f11 _ (List.getElem_mem hlt)
    obtain ⟨g1, g2⟩ := hfit
    generalize hb16 : b15 ++ catB pairB (rs.take k) = b16 at *
    repeat' (first | refine VC_seq ?_ | refine VC_region ?_ | refine VL_nil ?_ | refine VC_block ?_ | refine VC_skip ?_ | refine kall ?_ | refine ksN ?_ | refine klt ?_ | ((apply VL_q); (first | exact QS_indexAddr (k) (by rfl) (by rfl) (by omega) (by omega) | exact QS_mloadN _ (by rfl) hcA _ (by rfl) | exact qmv (by rfl) | exact ql1 (by rfl) | exact qfa (by rfl) | exact qcp (by rfl)); rfl) | refine ctr ?_)
    refine VL_frz 4 (by rfl) (fun uv M17 hle17 hrow => ?_)
    have hsl : SlM M17 1 strCells uv [rs[k].key, rs[k].val] := RowM.slM (l := [rs[k].key, rs[k].val]) (fun _ _ => rfl) hrow
    clear hrow
    have hg17 : (catB textR [rs[k].key, rs[k].val]).size ≤ 34 := by simp only [catB, size_app, numB_size, size_textR]; have : em.size = 0 := rfl; omega
    refine VL_callX (own1 := pnL b p16 u16 b16) [0, 1] (by rfl) (by rfl) ⟨rfl, rfl, trivial⟩ (fun M' hM' => pen_texts b p16 u16 b16 uv [rs[k].key, rs[k].val] M' hp16 (hsl.mono hM') (by intro s hs; simp only [List.mem_cons, List.not_mem_nil, or_false] at hs; rcases hs with rfl | rfl <;> omega) (by omega) (by simp)) (by rfl) (by rfl) ?_
    clear hsl
    rintro _ _ ⟨rfl, p17, u17, hp17, rfl⟩
    have hz17 : (b16 ++ catB textR [rs[k].key, rs[k].val]).size ≤ b16.size + 34 := by rw [size_app]; omega
    generalize hb17 : b16 ++ catB textR [rs[k].key, rs[k].val] = b17 at *
    have hL17 := hL16.trans hle17
    refine VL_sub [5, 6, 2] ⟨M17, pnL b p17 u17 b17 ++ [Ob.blk 35 [.int .i64 slot, .int .i64 level, .slice A1 ps.length c1, .slice A2 ks.length c2, .string high, .bool top, .int .i64 right, .int .i64 seen, .slice A3 ms.length c3, .slice (some ⟨bb, off, none⟩) rs.length c4]], [(0, .v (sbP b)), (3, .p 2 0), (97, .v (.slice (some ⟨bb, off, none⟩) rs.length c4)), (98, .v (.int .i64 rs.length)), (99, .v (.int .i64 k))]⟩ ⟨rfl, rfl, ⟨rfl, rfl, rfl, trivial⟩, ⟨rfl, rfl, rfl, rfl, rfl, trivial⟩⟩ ?_
    have hend : b16 ++ pairB rs[k] = b17 := by unfold pairB; rw [← hb17]; simp only [catB, ba_nil, ba_assoc]
    repeat' (first | refine VC_region ?_ | refine VL_nil ?_ | ((apply VL_q); (first | exact qmv (by rfl) | exact qad (by rfl)); rfl))
    refine forQ_next (Q := fun _ _ => True) [0, 1, 2] (k + 1, M17, p17, u17) ⟨rfl, rfl, ⟨rfl, ?_, rfl, trivial⟩, ⟨rfl, rfl, rfl, rfl, rfl, trivial⟩⟩ ⟨Nat.succ_le_of_lt hlt, hL17, ?_⟩ (by show rs.length - (k + 1) < rs.length - k; omega)
    · show _ = some (Ob.nrow u17 _ 1 (b15 ++ catB pairB (rs.take (k + 1))).size (bcells (b15 ++ catB pairB (rs.take (k + 1)))))
      rw [← hnx, hend]; rfl
    · show PnOk b p17 u17 (b15 ++ catB pairB (rs.take (k + 1)))
      rw [← hnx, hend]; exact hp17
  have hdp := dge hge
  obtain rfl : k = rs.length := by omega
  rw [List.take_length] at hz16 hp16 ⊢
  obtain ⟨M18, hM18⟩ : ∃ M', M' = M16 := ⟨_, rfl⟩
  have hL18 : Mb.le M18 := by rw [hM18]; exact hL16
  rw [← hM18]
  generalize hb18 : b15 ++ catB pairB rs = b18 at *
  have hp18 := hp16
  obtain ⟨p18, hpp18⟩ : ∃ q, q = p16 := ⟨_, rfl⟩
  obtain ⟨u18, huu18⟩ : ∃ q, q = u16 := ⟨_, rfl⟩
  rw [← hpp18, ← huu18] at hp18 ⊢
  repeat' (first | refine VC_seq ?_ | refine VC_region ?_ | refine VL_nil ?_ | refine VC_exit ?_ | ((apply VL_q); (exact qcp (by rfl)); rfl) | refine cfa ?_)
  exact ⟨_, [0, 1], pnL b p18 u18 b18, .inr (.inr (.inr ⟨by rfl, rfl⟩)), hL18, rfl, ⟨rfl, rfl, trivial⟩, rfl, p18, u18, hp18, rfl⟩
end Go.Proofs.YtlapnbklbpeddaaGreat
