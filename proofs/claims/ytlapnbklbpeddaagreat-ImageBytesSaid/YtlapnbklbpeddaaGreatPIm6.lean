/- An eye reads a node. -/
import Derived.Test.YtlapnbklbpeddaaGreatPIm5
namespace Go.Proofs.YtlapnbklbpeddaaGreat
open Go Go.RowKit
attribute [local irreducible] Calls
set_option linter.unusedVariables false
set_option maxRecDepth 20000
set_option linter.unusedSimpArgs false
set_option maxHeartbeats 4000000
section
variable {P : Program} {w : World} {M0 M : Mem} {N : Nat} {own : List Ob} {env : Env}
/-- A call that is handed named objects and whose answer is known, as one of some effects. -/
theorem EX_callE {ops : Array Oper} {dst : Option Tmp} {ty : TypeId} {pos : String} {aft : Array Edge} {f : FuncId} {xs : Array Operand} {ats : Array TypeId} {vs : List Value} {own1 : List Ob} {v0 : Value} {own0 : List Ob} (ρ : List Nat) [hf : CalT P f] (hv : env.vals xs.toList = some vs) (hnd : nodupB ρ = true) (hsub : OwnSub own1 ρ own) (hc : ∀ M', M.le M' → CallX P f vs M' own1 (fun v o => v = v0 ∧ o = own0)) :
    EX P w M0 N ops ⟨dst, .call ⟨.value (.func f), xs, ats⟩, ty, pos, aft, none⟩ ⟨M, own, env⟩ Unit (fun _ => M) (fun _ => goneAt ρ own ++ own0) (fun _ => .v v0) := ⟨fun hd a W hR => by
  rw [if_pos (by simp [Region.wanted])]
  rw [exec_call (s := ⟨M, own, env⟩) hR.2 hf.h hv]
  simp only [EffRun]
  obtain ⟨M', h1, h2, h3⟩ := lend_wd hR.1 hnd hsub
  refine (hc M' h1 w M0 _ W h2).mono fun e W' ⟨v, hd', own', he, hWd, hp1, hp2⟩ => ?_
  subst hp1 hp2
  refine ⟨v, he, (), _, fun i hi => ?_, h3 hd' own' W' hWd, rfl⟩
  show (if i < own.length then hd i else hd' (i - own.length)) = hd i
  rw [if_pos hi], fun x => by show own.length ≤ (goneAt ρ own ++ own0).length; rw [List.length_append, len_goneAt]; omega, fun _ => rfl⟩
end
/-- A node that is read: its slices by the values pv, kv, mv, rv. -/
def eA (slot : Int) (e : Ey) (pv kv mv rv : Value) : Nd × Ey :=
  let lv := eN e; let se := eN lv.2; let ri := eN se.2; let tp := eF ri.2; let hi := eT tp.2
  let c1 := eC hi.2; let p := eR eT c1.1 c1.2; let c2 := eC p.2; let k := eR eN c2.1 c2.2; let c3 := eC k.2; let m := eR eM c3.1 c3.2; let c4 := eC m.2; let r := eR eP c4.1 c4.2
  (⟨slot, lv.1, pv, p.1, kv, k.1, hi.1, tp.1, IntKind.i64.wrap (ri.1 - 1), se.1, mv, m.1, rv, r.1⟩, r.2)
abbrev nil0 : Value := .slice none 0 0
abbrev ndB (slot lv : Int) (pv kv : Value) (hi : ByteArray) (tp : Bool) (ri se : Int) (mv rv : Value) : Ob := .blk 35 [.int .i64 slot, .int .i64 lv, pv, kv, .string hi, .bool tp, .int .i64 ri, .int .i64 se, mv, rv]
abbrev ndB0 : Ob := ndB 0 0 nil0 nil0 ⟨#[]⟩ false 0 0 nil0 nil0
theorem eye_node (b : Nat) (e : Ey) (slot : Int) (M : Mem) (hs : e.1.size ≤ 100000000) : CallX Tryz.prog 31 [eyP b, .int .i64 slot] M [eO b e]
    (fun v own' => ∃ pv kv mv rv : Value, ∃ n : Nd, ∃ e' : Ey, eA slot e pv kv mv rv = (n, e') ∧ v = .agg #[.int .i64 n.slot, .int .i64 n.level, n.pv, n.kv, .string n.high, .bool n.top, .int .i64 n.right, .int .i64 n.seen, n.mv, n.rv] ∧ own' = [eO b e', .nrow pv 9 1 n.ps.length (n.ps.flatMap strCells), .nrow kv 3 1 n.ks.length (n.ks.flatMap intCells), .nrow mv 73 6 n.ms.length (n.ms.flatMap msgCells), .nrow rv 85 2 n.rs.length (n.rs.flatMap pairCells)]) := by
  refine V_x Tryz.func31 rfl Tryz.ntmps31 (by rfl) (fun w M0 => ?_)
  unfold eA
  dsimp only
  repeat' (first | refine VC_seq ?_ | refine VC_region ?_ | refine VL_nil ?_ | refine kall ?_ | ((apply VL_q); (exact qmv (by rfl)); rfl))
  refine VL_callX (own1 := [eO b e]) [0] (by rfl) (by rfl) ⟨rfl, trivial⟩ (fun M' _ => eyeN b e M') (by rfl) (by rfl) ?_
  rintro _ _ ⟨rfl, rfl⟩
  have a1z := eN_sz e
  generalize a1h : eN e = a1a at *
  obtain ⟨lv, e1⟩ := a1a
  dsimp only at *
  repeat' (((apply VL_q); (exact qmv (by rfl)); rfl))
  refine VL_callX (own1 := [eO b e1]) [2] (by rfl) (by rfl) ⟨rfl, trivial⟩ (fun M' _ => eyeN b e1 M') (by rfl) (by rfl) ?_
  rintro _ _ ⟨rfl, rfl⟩
  have a2z := eN_sz e1
  generalize a2h : eN e1 = a2a at *
  obtain ⟨se, e2⟩ := a2a
  dsimp only at *
  repeat' (((apply VL_q); (exact qmv (by rfl)); rfl))
  refine VL_callX (own1 := [eO b e2]) [3] (by rfl) (by rfl) ⟨rfl, trivial⟩ (fun M' _ => eyeN b e2 M') (by rfl) (by rfl) ?_
  rintro _ _ ⟨rfl, rfl⟩
  have a3z := eN_sz e2
  generalize a3h : eN e2 = a3a at *
  obtain ⟨ri, e3⟩ := a3a
  dsimp only at *
  repeat' (((apply VL_q); (first | exact QS_bin (by rfl) (by rfl) B_subw | exact qmv (by rfl)); rfl))
  refine VL_callX (own1 := [eO b e3]) [4] (by rfl) (by rfl) ⟨rfl, trivial⟩ (fun M' _ => eyeF b e3 M') (by rfl) (by rfl) ?_
  rintro _ _ ⟨rfl, rfl⟩
  have a4z := eF_sz e3
  generalize a4h : eF e3 = a4a at *
  obtain ⟨tp, e4⟩ := a4a
  dsimp only at *
  repeat' (((apply VL_q); (exact qmv (by rfl)); rfl))
  refine VL_callX (own1 := [eO b e4]) [5] (by rfl) (by rfl) ⟨rfl, trivial⟩ (fun M' _ => eyeT b e4 M' (by omega)) (by rfl) (by rfl) ?_
  rintro _ _ ⟨rfl, rfl⟩
  have a5z := eT_sz e4
  generalize a5h : eT e4 = a5a at *
  obtain ⟨hi, e5⟩ := a5a
  dsimp only at *
  repeat' (first | refine VC_seq ?_ | refine VC_region ?_ | refine VL_nil ?_ | refine kall ?_ | refine ksN ?_ | ((apply VL_q); (first | exact qmv (by rfl) | exact qbd (by rfl)); rfl))
  generalize hri : IntKind.i64.wrap (ri - 1) = ri1 at *
  refine VL_sub [6, 1, 7] ⟨M, [eO b e5, ndB0, ndB slot lv nil0 nil0 hi tp ri1 se nil0 nil0], [(0, .v (eyP b)), (4, .p 1 0), (5, .p 2 0), (21, .v (eyP b))]⟩ ⟨rfl, rfl, ⟨rfl, rfl, rfl, trivial⟩, ⟨rfl, rfl, rfl, rfl, trivial⟩⟩ ?_
  refine VL_callX (own1 := [eO b e5]) [0] (by rfl) (by rfl) ⟨rfl, trivial⟩ (fun M' _ => eyeC b e5 M') (by rfl) (by rfl) ?_
  rintro _ _ ⟨rfl, rfl⟩
  have b1z := eC_sz e5
  have b1n := eC_le e5
  generalize b1h : eC e5 = b1a at *
  obtain ⟨n1, f1⟩ := b1a
  dsimp only at *
  have b1s : n1 ≤ 100000000 := by omega
  generalize hP : eR eT n1 f1 = rP at *
  repeat' (first | refine VL_nil ?_ | refine VC_block ?_ | ((apply VL_q); (exact qmv (by rfl)); rfl))
  refine VC_nil0 9 1 (by rfl) ?_
  refine VC_for (fun x : Nat × Value => ⟨M, [eO b (eR eT x.1 f1).2, ndB0, ndB slot lv x.2 nil0 hi tp ri1 se nil0 nil0, .nrow x.2 9 1 x.1 ((eR eT x.1 f1).1.flatMap strCells)], [(0, .v (eyP b)), (4, .p 1 0), (5, .p 2 0), (22, .v (.int .i64 n1)), (23, .v (.int .i64 x.1))]⟩)
    (fun x => x.1 ≤ n1 ∧ ∃ A c, x.2 = .slice A x.1 c) (fun x => n1 - x.1) [3, 1, 2, 4] (0, .slice none 0 0) ⟨rfl, rfl, ⟨rfl, rfl, rfl, rfl, trivial⟩, ⟨rfl, rfl, rfl, rfl, rfl, trivial⟩⟩ ⟨Nat.zero_le _, none, 0, rfl⟩ ?_
  · rintro ⟨i, u⟩ ⟨hii, A, c, hu⟩
    dsimp only at hii hu ⊢
    subst hu
    have hsz := eR_sz eT_sz i f1
    have hsn := eR_snoc eT i f1
    have hfl : ((eR eT i f1).1.flatMap strCells ++ [Value.string (eT (eR eT i f1).2).1]) = (eR eT (i + 1) f1).1.flatMap strCells := by rw [hsn, List.flatMap_append]; rfl
    rcases Nat.lt_or_ge i n1 with hlt | hge
    · have hd := dlt hlt
      have hs2 : (eR eT (i + 1) f1).2 = (eT (eR eT i f1).2).2 := by rw [hsn]
      generalize hg : (eR eT i f1).2 = g at *
      generalize (eR eT i f1).1.flatMap strCells = cs at *
      have hgs : g.1.size ≤ 100000000 := by omega
      repeat' (first | refine VC_seq ?_ | refine VC_region ?_ | refine VL_nil ?_ | refine VC_block ?_ | refine VC_skip ?_ | ((apply VL_q); (exact qcp (by rfl)); rfl) | refine ctr ?_)
      refine VC_drawG [0, 2, 3] [1, 3, 4, 5, 7] (by decide +kernel) (by rfl) (by rfl) ?_
      repeat' (first | refine VQm_nil ?_ | refine VQm_e (by rfl) ?_ | refine VQm_q (by rfl) _ (by exact wno (by first | exact qmv (by rfl) | exact qfa (by rfl))) (by rfl) (by rfl) ?_ | refine VF_done ?_ | refine VF_step ?_ | exact VFs_nil | refine VFs_x _ _ _ _ (by rfl) (EX_callE (own1 := [eO b g]) [0] (by rfl) (by rfl) ⟨rfl, trivial⟩ (fun M2 _ => eyeT b g M2 hgs)) (by rfl) (fun _ => ⟨Mem.le_refl _, by rfl, ?_⟩) ?_ | refine VFs_x _ _ _ _ (by rfl) (EX_appendN (i := 3) (j := 5) (bytes := 16) (by rfl) (by rfl) (by rfl) (by rfl) (by decide) (by omega) rfl (by unfold maxLen; omega) (by omega)) (by rfl) (fun ⟨gP, kP⟩ => ⟨Mem.le_refl _, by rfl, ?_⟩) ?_ | refine VFs_e (by rfl) _ _ (by exact fno (by first | exact elt (by rfl) | exact fst1 (by rfl) | exact fq (by exact ql1 (by rfl)))) (by rfl) (by rfl) ?_ ?_)
      all_goals
        repeat' (first | refine VC_region ?_ | refine VL_nil ?_ | ((apply VL_q); (first | exact qmv (by rfl) | exact qad (by rfl)); rfl))
        refine forQ_next (Q := fun _ _ => True) [4, 1, 2, 6] (i + 1, .slice (some ⟨gP, 0, none⟩) (i + 1) kP) ⟨rfl, rfl, ⟨?_, rfl, rfl, ?_, trivial⟩, ⟨rfl, rfl, rfl, rfl, rfl, trivial⟩⟩ ⟨Nat.succ_le_of_lt hlt, _, _, rfl⟩ (by show n1 - (i + 1) < n1 - i; omega)
        · show _ = some (eO b (eR eT (i + 1) f1).2)
          rw [hs2]; rfl
        · show _ = some (Ob.nrow (.slice (some ⟨gP, 0, none⟩) (i + 1) kP) _ 1 (i + 1) ((eR eT (i + 1) f1).1.flatMap strCells))
          rw [← hfl]; rfl
    · have hd := dge hge
      obtain rfl : i = n1 := by omega
      rw [hP] at hsz ⊢
      obtain ⟨ps, e6⟩ := rP
      dsimp only at *
      have opv : (Value.slice A i c).oneCell' = true := rfl
      have lps : ps.length = i := by have := eR_len eT i f1; rw [hP] at this; exact this
      generalize Value.slice A i c = pv at *
      clear hfl hsn
      repeat' (first | refine VC_seq ?_ | refine VC_region ?_ | refine VL_nil ?_ | refine VC_exit ?_ | ((apply VL_q); (first | exact qmv (by rfl) | exact qcp (by rfl)); rfl) | refine cfa ?_)
      refine VL_callX (own1 := [eO b e6]) [0] (by rfl) (by rfl) ⟨rfl, trivial⟩ (fun M' _ => eyeC b e6 M') (by rfl) (by rfl) ?_
      rintro _ _ ⟨rfl, rfl⟩
      have b2z := eC_sz e6
      have b2n := eC_le e6
      generalize b2h : eC e6 = b2a at *
      obtain ⟨n2, f2⟩ := b2a
      dsimp only at *
      have b2s : n2 ≤ 100000000 := by omega
      generalize hK : eR eN n2 f2 = rK at *
      repeat' (first | refine VL_nil ?_ | refine VC_block ?_ | ((apply VL_q); (exact qmv (by rfl)); rfl))
      refine VC_nil0 3 1 (by rfl) ?_
      refine VC_for (fun x : Nat × Value => ⟨M, [eO b (eR eN x.1 f2).2, ndB0, ndB slot lv pv x.2 hi tp ri1 se nil0 nil0, .nrow pv 9 1 i (ps.flatMap strCells), .nrow x.2 3 1 x.1 ((eR eN x.1 f2).1.flatMap intCells)], [(0, .v (eyP b)), (4, .p 1 0), (5, .p 2 0), (34, .v (.int .i64 n2)), (35, .v (.int .i64 x.1))]⟩)
        (fun x => x.1 ≤ n2 ∧ ∃ A c, x.2 = .slice A x.1 c) (fun x => n2 - x.1) [4, 1, 2, 3, 5] (0, .slice none 0 0) ⟨rfl, rfl, ⟨rfl, rfl, rfl, rfl, rfl, trivial⟩, ⟨rfl, rfl, rfl, rfl, rfl, trivial⟩⟩ ⟨Nat.zero_le _, none, 0, rfl⟩ ?_
      rintro ⟨j, u⟩ ⟨hj, A, c, hu⟩
      dsimp only at hj hu ⊢
      subst hu
      have hsz2 := eR_sz eN_sz j f2
      have hsn := eR_snoc eN j f2
      have hfl : ((eR eN j f2).1.flatMap intCells ++ [Value.int .i64 (eN (eR eN j f2).2).1]) = (eR eN (j + 1) f2).1.flatMap intCells := by rw [hsn, List.flatMap_append]; rfl
      rcases Nat.lt_or_ge j n2 with hlt | hge
      · have hd := dlt hlt
        have hs2 : (eR eN (j + 1) f2).2 = (eN (eR eN j f2).2).2 := by rw [hsn]
        generalize hg : (eR eN j f2).2 = g at *
        generalize (eR eN j f2).1.flatMap intCells = cs at *
        repeat' (first | refine VC_seq ?_ | refine VC_region ?_ | refine VL_nil ?_ | refine VC_block ?_ | refine VC_skip ?_ | ((apply VL_q); (exact qcp (by rfl)); rfl) | refine ctr ?_)
        refine VC_drawG [0, 2, 4] [1, 3, 4, 5, 7] (by decide +kernel) (by rfl) (by rfl) ?_
        repeat' (first | refine VQm_nil ?_ | refine VQm_e (by rfl) ?_ | refine VQm_q (by rfl) _ (by exact wno (by first | exact qmv (by rfl) | exact qfa (by rfl))) (by rfl) (by rfl) ?_ | refine VF_done ?_ | refine VF_step ?_ | exact VFs_nil | refine VFs_x _ _ _ _ (by rfl) (EX_callE (own1 := [eO b g]) [0] (by rfl) (by rfl) ⟨rfl, trivial⟩ (fun M2 _ => eyeN b g M2)) (by rfl) (fun _ => ⟨Mem.le_refl _, by rfl, ?_⟩) ?_ | refine VFs_x _ _ _ _ (by rfl) (EX_appendN (i := 4) (j := 6) (bytes := 8) (by rfl) (by rfl) (by rfl) (by rfl) (by decide) (by omega) rfl (by unfold maxLen; omega) (by omega)) (by rfl) (fun ⟨gP, kP⟩ => ⟨Mem.le_refl _, by rfl, ?_⟩) ?_ | refine VFs_e (by rfl) _ _ (by exact fno (by first | exact elt (by rfl) | exact fst1 (by rfl) | exact fq (by exact ql1 (by rfl)))) (by rfl) (by rfl) ?_ ?_)
        all_goals
          repeat' (first | refine VC_region ?_ | refine VL_nil ?_ | ((apply VL_q); (first | exact qmv (by rfl) | exact qad (by rfl)); rfl))
          refine forQ_next (Q := fun _ _ => True) [5, 1, 2, 3, 7] (j + 1, .slice (some ⟨gP, 0, none⟩) (j + 1) kP) ⟨rfl, rfl, ⟨?_, rfl, rfl, rfl, ?_, trivial⟩, ⟨rfl, rfl, rfl, rfl, rfl, trivial⟩⟩ ⟨Nat.succ_le_of_lt hlt, _, _, rfl⟩ (by show n2 - (j + 1) < n2 - j; omega)
          · show _ = some (eO b (eR eN (j + 1) f2).2)
            rw [hs2]; rfl
          · show _ = some (Ob.nrow (.slice (some ⟨gP, 0, none⟩) (j + 1) kP) _ 1 (j + 1) ((eR eN (j + 1) f2).1.flatMap intCells))
            rw [← hfl]; rfl
      · have hd := dge hge
        obtain rfl : j = n2 := by omega
        rw [hK] at hsz2 ⊢
        obtain ⟨ks, e7⟩ := rK
        dsimp only at *
        have okv : (Value.slice A j c).oneCell' = true := rfl
        have lks : ks.length = j := by have := eR_len eN j f2; rw [hK] at this; exact this
        generalize Value.slice A j c = kv at *
        clear hfl hsn
        repeat' (first | refine VC_seq ?_ | refine VC_region ?_ | refine VL_nil ?_ | refine VC_exit ?_ | ((apply VL_q); (first | exact qmv (by rfl) | exact qcp (by rfl)); rfl) | refine cfa ?_)
        refine VL_callX (own1 := [eO b e7]) [0] (by rfl) (by rfl) ⟨rfl, trivial⟩ (fun M' _ => eyeC b e7 M') (by rfl) (by rfl) ?_
        rintro _ _ ⟨rfl, rfl⟩
        have b3z := eC_sz e7
        have b3n := eC_le e7
        generalize b3h : eC e7 = b3a at *
        obtain ⟨n3, f3⟩ := b3a
        dsimp only at *
        have b3s : n3 ≤ 100000000 := by omega
        generalize hMm : eR eM n3 f3 = rM at *
        repeat' (first | refine VL_nil ?_ | refine VC_block ?_ | ((apply VL_q); (exact qmv (by rfl)); rfl))
        refine VC_nil0 73 6 (by rfl) ?_
        refine VC_for (fun x : Nat × Value => ⟨M, [eO b (eR eM x.1 f3).2, ndB0, ndB slot lv pv kv hi tp ri1 se x.2 nil0, .nrow pv 9 1 i (ps.flatMap strCells), .nrow kv 3 1 j (ks.flatMap intCells), .nrow x.2 73 6 x.1 ((eR eM x.1 f3).1.flatMap msgCells)], [(0, .v (eyP b)), (4, .p 1 0), (5, .p 2 0), (46, .v (.int .i64 n3)), (47, .v (.int .i64 x.1))]⟩)
          (fun x => x.1 ≤ n3 ∧ ∃ A c, x.2 = .slice A x.1 c) (fun x => n3 - x.1) [5, 1, 2, 3, 4, 6] (0, .slice none 0 0) ⟨rfl, rfl, ⟨rfl, rfl, rfl, rfl, rfl, rfl, trivial⟩, ⟨rfl, rfl, rfl, rfl, rfl, trivial⟩⟩ ⟨Nat.zero_le _, none, 0, rfl⟩ ?_
        rintro ⟨q, u⟩ ⟨hq, A, c, hu⟩
        dsimp only at hq hu ⊢
        subst hu
        have hsz3 := eR_sz eM_sz q f3
        have hsn := eR_snoc eM q f3
        rcases Nat.lt_or_ge q n3 with hlt | hge
        · have hd := dlt hlt
          generalize hg : (eR eM q f3) = gg at *
          obtain ⟨gl, g⟩ := gg
          dsimp only at *
          have hgs : g.1.size ≤ 100000000 := by omega
          clear hg
          repeat' (first | refine VC_seq ?_ | refine VC_region ?_ | refine VL_nil ?_ | refine VC_block ?_ | refine VC_skip ?_ | ((apply VL_q); (first | exact qmv (by rfl) | exact qcp (by rfl)); rfl) | refine ctr ?_)
          refine VL_callX (own1 := [eO b g]) [0] (by rfl) (by rfl) ⟨rfl, trivial⟩ (fun M' _ => eyeN b g M') (by rfl) (by rfl) ?_
          rintro _ _ ⟨rfl, rfl⟩
          have m1z := eN_sz g
          generalize m1h : eN g = ma at *
          obtain ⟨m1, g1⟩ := ma
          dsimp only at *
          repeat' (((apply VL_q); (exact qmv (by rfl)); rfl))
          refine VL_callX (own1 := [eO b g1]) [6] (by rfl) (by rfl) ⟨rfl, trivial⟩ (fun M' _ => eyeN b g1 M') (by rfl) (by rfl) ?_
          rintro _ _ ⟨rfl, rfl⟩
          have m2z := eN_sz g1
          generalize m2h : eN g1 = ma at *
          obtain ⟨m2, g2⟩ := ma
          dsimp only at *
          repeat' (((apply VL_q); (exact qmv (by rfl)); rfl))
          refine VL_callX (own1 := [eO b g2]) [7] (by rfl) (by rfl) ⟨rfl, trivial⟩ (fun M' _ => eyeT b g2 M' (by omega)) (by rfl) (by rfl) ?_
          rintro _ _ ⟨rfl, rfl⟩
          have m3z := eT_sz g2
          generalize m3h : eT g2 = ma at *
          obtain ⟨m3, g3⟩ := ma
          dsimp only at *
          repeat' (((apply VL_q); (exact qmv (by rfl)); rfl))
          refine VL_callX (own1 := [eO b g3]) [8] (by rfl) (by rfl) ⟨rfl, trivial⟩ (fun M' _ => eyeF b g3 M') (by rfl) (by rfl) ?_
          rintro _ _ ⟨rfl, rfl⟩
          have m4z := eF_sz g3
          generalize m4h : eF g3 = ma at *
          obtain ⟨m4, g4⟩ := ma
          dsimp only at *
          obtain ⟨cs, hcs⟩ : ∃ cs, cs = gl.flatMap msgCells := ⟨_, rfl⟩
          rw [← hcs]
          refine VL_sub [9, 1, 2, 3, 4, 5] ⟨M, [eO b g4, ndB0, ndB slot lv pv kv hi tp ri1 se (.slice A q c) nil0, .nrow pv 9 1 i (ps.flatMap strCells), .nrow kv 3 1 j (ks.flatMap intCells), .nrow (.slice A q c) 73 6 q cs], [(0, .v (eyP b)), (4, .p 1 0), (5, .p 2 0), (46, .v (.int .i64 n3)), (47, .v (.int .i64 q)), (50, .v (.int .i64 m1)), (52, .v (.int .i64 m2)), (54, .v (.string m3)), (56, .v (.bool m4))]⟩ ⟨rfl, rfl, ⟨rfl, rfl, rfl, rfl, rfl, rfl, trivial⟩, ⟨rfl, rfl, rfl, rfl, rfl, rfl, rfl, rfl, rfl, trivial⟩⟩ ?_
          repeat' (first | refine VC_seq ?_ | refine VC_region ?_ | refine VL_nil ?_ | refine kall ?_ | refine ksN ?_ | ((apply VL_q); (first | exact qmv (by rfl) | exact qbd (by rfl)); rfl))
          refine VL_callX (own1 := [eO b g4]) [0] (by rfl) (by rfl) ⟨rfl, trivial⟩ (fun M' _ => eyeT b g4 M' (by omega)) (by rfl) (by rfl) ?_
          rintro _ _ ⟨rfl, rfl⟩
          have m5z := eT_sz g4
          generalize m5h : eT g4 = ma at *
          obtain ⟨m5, g5⟩ := ma
          dsimp only at *
          repeat' (((apply VL_q); (exact qmv (by rfl)); rfl))
          refine VL_callX (own1 := [eO b g5]) [7] (by rfl) (by rfl) ⟨rfl, trivial⟩ (fun M' _ => eyeT b g5 M' (by omega)) (by rfl) (by rfl) ?_
          rintro _ _ ⟨rfl, rfl⟩
          have m6z := eT_sz g5
          generalize m6h : eT g5 = ma at *
          obtain ⟨m6, g6⟩ := ma
          dsimp only at *
          refine VL_sub [8, 1, 2, 3, 4, 5, 6] ⟨M, [eO b g6, ndB0, ndB slot lv pv kv hi tp ri1 se (.slice A q c) nil0, .nrow pv 9 1 i (ps.flatMap strCells), .nrow kv 3 1 j (ks.flatMap intCells), .nrow (.slice A q c) 73 6 q cs, .blk 73 [.int .i64 m1, .int .i64 m2, .string m3, .string ⟨#[]⟩, .bool m4, .string ⟨#[]⟩]], [(0, .v (eyP b)), (4, .p 1 0), (5, .p 2 0), (6, .p 6 0), (46, .v (.int .i64 n3)), (47, .v (.int .i64 q)), (59, .v (.string m5)), (61, .v (.string m6))]⟩ ⟨rfl, rfl, ⟨rfl, rfl, rfl, rfl, rfl, rfl, rfl, trivial⟩, ⟨rfl, rfl, rfl, rfl, rfl, rfl, rfl, rfl, trivial⟩⟩ ?_
          have hMe : eM g = (⟨m1, m2, m3, m5, m4, m6⟩, g6) := by unfold eM; dsimp only; rw [m1h]; dsimp only; rw [m2h]; dsimp only; rw [m3h]; dsimp only; rw [m4h]; dsimp only; rw [m5h]; dsimp only; rw [m6h]
          rw [hMe] at hsn
          dsimp only at hsn
          have hfl : (cs ++ msgCells ⟨m1, m2, m3, m5, m4, m6⟩) = (eR eM (q + 1) f3).1.flatMap msgCells := by rw [hsn, hcs, List.flatMap_append]; rfl
          have hs2 : (eR eM (q + 1) f3).2 = g6 := by rw [hsn]
          clear hcs
          repeat' (first | refine VC_region ?_ | refine VL_nil ?_ | refine kst ?_ | refine kl1 ?_ | ((apply VL_q); (first | exact ql1 (by rfl) | exact qlA (by rfl) | exact qfa (by rfl)); rfl))
          refine VL_unname 5 65 (by rfl) (by rfl) ?_
          repeat' (first | refine kap ?_ | ((apply VL_q); (exact qfa (by rfl)); rfl))
          refine VL_nameR 8 (by rfl) (fun u' hu' => ?_)
          obtain ⟨gP, kP, rfl⟩ := hu'.some (by omega)
          repeat' (first | refine VC_region ?_ | refine VL_nil ?_ | refine kst ?_ | ((apply VL_q); (first | exact qmv (by rfl) | exact qad (by rfl)); rfl))
          refine forQ_next (Q := fun _ _ => True) [0, 1, 2, 3, 4, 8] (q + 1, .slice (some ⟨gP, 0, none⟩) (q + 1) kP) ⟨rfl, rfl, ⟨?_, rfl, rfl, rfl, rfl, ?_, trivial⟩, ⟨rfl, rfl, rfl, rfl, rfl, trivial⟩⟩ ⟨Nat.succ_le_of_lt hlt, _, _, rfl⟩ (by show n3 - (q + 1) < n3 - q; omega)
          · show _ = some (eO b (eR eM (q + 1) f3).2)
            rw [hs2]; rfl
          · show _ = some (Ob.nrow (.slice (some ⟨gP, 0, none⟩) (q + 1) kP) _ 6 (q + 1) ((eR eM (q + 1) f3).1.flatMap msgCells))
            rw [← hfl]; rfl
        · have hd := dge hge
          obtain rfl : q = n3 := by omega
          rw [hMm] at hsz3 ⊢
          obtain ⟨ms, e8⟩ := rM
          dsimp only at *
          have omv : (Value.slice A q c).oneCell' = true := rfl
          have lms : ms.length = q := by have := eR_len eM q f3; rw [hMm] at this; exact this
          generalize Value.slice A q c = mv at *
          clear hsn
          repeat' (first | refine VC_seq ?_ | refine VC_region ?_ | refine VL_nil ?_ | refine VC_exit ?_ | ((apply VL_q); (first | exact qmv (by rfl) | exact qcp (by rfl)); rfl) | refine cfa ?_)
          refine VL_callX (own1 := [eO b e8]) [0] (by rfl) (by rfl) ⟨rfl, trivial⟩ (fun M' _ => eyeC b e8 M') (by rfl) (by rfl) ?_
          rintro _ _ ⟨rfl, rfl⟩
          have b4z := eC_sz e8
          have b4n := eC_le e8
          generalize b4h : eC e8 = b4a at *
          obtain ⟨n4, f4⟩ := b4a
          dsimp only at *
          have b4s : n4 ≤ 100000000 := by omega
          generalize hRr : eR eP n4 f4 = rR at *
          repeat' (first | refine VL_nil ?_ | refine VC_block ?_ | ((apply VL_q); (exact qmv (by rfl)); rfl))
          refine VC_nil0 85 2 (by rfl) ?_
          refine VC_for (fun x : Nat × Value => ⟨M, [eO b (eR eP x.1 f4).2, ndB0, ndB slot lv pv kv hi tp ri1 se mv x.2, .nrow pv 9 1 i (ps.flatMap strCells), .nrow kv 3 1 j (ks.flatMap intCells), .nrow mv 73 6 q (ms.flatMap msgCells), .nrow x.2 85 2 x.1 ((eR eP x.1 f4).1.flatMap pairCells)], [(0, .v (eyP b)), (4, .p 1 0), (5, .p 2 0), (72, .v (.int .i64 n4)), (73, .v (.int .i64 x.1))]⟩)
            (fun x => x.1 ≤ n4 ∧ ∃ A c, x.2 = .slice A x.1 c) (fun x => n4 - x.1) [6, 1, 2, 3, 4, 5, 7] (0, .slice none 0 0) ⟨rfl, rfl, ⟨rfl, rfl, rfl, rfl, rfl, rfl, rfl, trivial⟩, ⟨rfl, rfl, rfl, rfl, rfl, trivial⟩⟩ ⟨Nat.zero_le _, none, 0, rfl⟩ ?_
          rintro ⟨r, u⟩ ⟨hr, A, c, hu⟩
          dsimp only at hr hu ⊢
          subst hu
          have hsz4 := eR_sz eP_sz r f4
          have hsn := eR_snoc eP r f4
          rcases Nat.lt_or_ge r n4 with hlt | hge
          · have hd := dlt hlt
            generalize hg : (eR eP r f4) = gg at *
            obtain ⟨gl, g⟩ := gg
            dsimp only at *
            have hgs : g.1.size ≤ 100000000 := by omega
            clear hg
            repeat' (first | refine VC_seq ?_ | refine VC_region ?_ | refine VL_nil ?_ | refine VC_block ?_ | refine VC_skip ?_ | ((apply VL_q); (first | exact qmv (by rfl) | exact qcp (by rfl)); rfl) | refine ctr ?_)
            refine VL_callX (own1 := [eO b g]) [0] (by rfl) (by rfl) ⟨rfl, trivial⟩ (fun M' _ => eyeT b g M' (by omega)) (by rfl) (by rfl) ?_
            rintro _ _ ⟨rfl, rfl⟩
            have m1z := eT_sz g
            generalize m1h : eT g = ma at *
            obtain ⟨m1, g1⟩ := ma
            dsimp only at *
            obtain ⟨cs, hcs⟩ : ∃ cs, cs = gl.flatMap pairCells := ⟨_, rfl⟩
            rw [← hcs]
            repeat' (first | refine VC_seq ?_ | refine VC_region ?_ | refine VL_nil ?_ | refine kall ?_ | refine ksN ?_ | ((apply VL_q); (first | exact qmv (by rfl) | exact qbd (by rfl)); rfl))
            refine VL_callX (own1 := [eO b g1]) [7] (by rfl) (by rfl) ⟨rfl, trivial⟩ (fun M' _ => eyeT b g1 M' (by omega)) (by rfl) (by rfl) ?_
            rintro _ _ ⟨rfl, rfl⟩
            have m2z := eT_sz g1
            generalize m2h : eT g1 = ma at *
            obtain ⟨m2, g2⟩ := ma
            dsimp only at *
            refine VL_sub [9, 1, 2, 3, 4, 5, 6, 8] ⟨M, [eO b g2, ndB0, ndB slot lv pv kv hi tp ri1 se mv (.slice A r c), .nrow pv 9 1 i (ps.flatMap strCells), .nrow kv 3 1 j (ks.flatMap intCells), .nrow mv 73 6 q (ms.flatMap msgCells), .nrow (.slice A r c) 85 2 r cs, .blk 85 [.string m1, .string ⟨#[]⟩]], [(0, .v (eyP b)), (4, .p 1 0), (5, .p 2 0), (7, .p 7 0), (72, .v (.int .i64 n4)), (73, .v (.int .i64 r)), (79, .v (.string m2))]⟩ ⟨rfl, rfl, ⟨rfl, rfl, rfl, rfl, rfl, rfl, rfl, rfl, trivial⟩, ⟨rfl, rfl, rfl, rfl, rfl, rfl, rfl, trivial⟩⟩ ?_
            have hPe : eP g = (⟨m1, m2⟩, g2) := by unfold eP; dsimp only; rw [m1h]; dsimp only; rw [m2h]
            rw [hPe] at hsn
            dsimp only at hsn
            have hfl : (cs ++ pairCells ⟨m1, m2⟩) = (eR eP (r + 1) f4).1.flatMap pairCells := by rw [hsn, hcs, List.flatMap_append]; rfl
            have hs2 : (eR eP (r + 1) f4).2 = g2 := by rw [hsn]
            clear hcs
            repeat' (first | refine VC_region ?_ | refine VL_nil ?_ | refine kst ?_ | refine kl1 ?_ | ((apply VL_q); (first | exact ql1 (by rfl) | exact qlA (by rfl) | exact qfa (by rfl)); rfl))
            refine VL_unname 6 82 (by rfl) (by rfl) ?_
            repeat' (first | refine kap ?_ | ((apply VL_q); (exact qfa (by rfl)); rfl))
            refine VL_nameR 9 (by rfl) (fun u' hu' => ?_)
            obtain ⟨gP, kP, rfl⟩ := hu'.some (by omega)
            repeat' (first | refine VC_region ?_ | refine VL_nil ?_ | refine kst ?_ | ((apply VL_q); (first | exact qmv (by rfl) | exact qad (by rfl)); rfl))
            refine forQ_next (Q := fun _ _ => True) [0, 1, 2, 3, 4, 5, 9] (r + 1, .slice (some ⟨gP, 0, none⟩) (r + 1) kP) ⟨rfl, rfl, ⟨?_, rfl, rfl, rfl, rfl, rfl, ?_, trivial⟩, ⟨rfl, rfl, rfl, rfl, rfl, trivial⟩⟩ ⟨Nat.succ_le_of_lt hlt, _, _, rfl⟩ (by show n4 - (r + 1) < n4 - r; omega)
            · show _ = some (eO b (eR eP (r + 1) f4).2)
              rw [hs2]; rfl
            · show _ = some (Ob.nrow (.slice (some ⟨gP, 0, none⟩) (r + 1) kP) _ 2 (r + 1) ((eR eP (r + 1) f4).1.flatMap pairCells))
              rw [← hfl]; rfl
          · have hd := dge hge
            obtain rfl : r = n4 := by omega
            rw [hRr] at hsz4 ⊢
            obtain ⟨rs, e9⟩ := rR
            dsimp only at *
            have orv : (Value.slice A r c).oneCell' = true := rfl
            have lrs : rs.length = r := by have := eR_len eP r f4; rw [hRr] at this; exact this
            generalize Value.slice A r c = rv at *
            clear hsn
            have h1 : ((#[.int .i64 slot, .int .i64 lv, pv, kv, .string hi, .bool tp, .int .i64 ri1, .int .i64 se, mv, rv] : Array Value).toList.all (·.oneCell')) = true := by
              simp only [List.all_cons, List.all_nil, opv, okv, omv, orv, Bool.and_true]; rfl
            repeat' (first | refine ksN ?_ (hu := h1) | refine VC_seq ?_ | refine VC_region ?_ | refine VL_nil ?_ | refine VC_ret ?_ | refine VC_exit ?_ | ((apply VL_q); (first | exact qlN (by rfl) | exact qcp (by rfl)); rfl) | refine cfa ?_)
            refine ⟨_, [0, 3, 4, 5, 6], [eO b e9, .nrow pv 9 1 i (ps.flatMap strCells), .nrow kv 3 1 j (ks.flatMap intCells), .nrow mv 73 6 q (ms.flatMap msgCells), .nrow rv 85 2 r (rs.flatMap pairCells)], Res.one (by rfl) (ResV_agg (by rfl) (by rfl) _ (by rfl) rfl), Mem.le_refl _, rfl, ⟨rfl, rfl, rfl, rfl, rfl, trivial⟩, pv, kv, mv, rv, ⟨slot, lv, pv, ps, kv, ks, hi, tp, ri1, se, mv, ms, rv, rs⟩, e9, rfl, rfl, ?_⟩
            dsimp only
            rw [lps, lks, lms, lrs]
end Go.Proofs.YtlapnbklbpeddaaGreat
