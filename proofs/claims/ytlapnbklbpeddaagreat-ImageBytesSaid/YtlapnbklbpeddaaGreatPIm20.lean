/- A tree's image by the code, and how long it is. -/
import Derived.Test.YtlapnbklbpeddaaGreatPIm19
namespace Go.Proofs.YtlapnbklbpeddaaGreat
open Go Go.RowKit
attribute [local irreducible] Calls
set_option linter.unusedVariables false
set_option maxRecDepth 20000
set_option linter.unusedSimpArgs false
set_option maxHeartbeats 4000000
theorem VL_nil0 {P : Program} {w : World} {M0 : Mem} {N : Nat} {M : Mem} {own : List Ob} {env : Env} {ops : Array Oper} {l : List Oper} {Q : Post} (e : TypeId) (k : Nat) (hold : envB env own.length = true) (h : VL P w M0 N ops l ⟨M, own ++ [.nrow (.slice none 0 0) e k 0 []], env⟩ Q) : VL P w M0 N ops l ⟨M, own, env⟩ Q := .mk fun hd a W hR => by
  have hadd := hR.1.add (o' := .nrow (.slice none 0 0) e k 0 []) (v' := .slice none 0 0) ⟨rfl, World.ownsRow_nil W _ e k⟩ (fun b hb => by cases hb)
  exact h.go _ a W ⟨hadd, env_new (own := own) hR.2 hold (.slice none 0 0)⟩
/-- What Bytes yields: 2 is ErrArg, 3 ErrBad. -/
def bytesV (c : Cfg) (l : List Nd) : ByteArray × Int := if okC c = true ∧ placedB l = true then (if soundR c l = true then (imgB c l, 0) else (em, 3)) else (em, 2)
theorem bytes_no {c : Cfg} {l : List Nd} (h : okC c = false ∨ placedB l = false) : bytesV c l = (em, 2) := by
  unfold bytesV
  rw [if_neg]
  rintro ⟨h1, h2⟩
  rcases h with h | h
  · rw [h] at h1; cases h1
  · rw [h] at h2; cases h2
theorem bytes_bad {c : Cfg} {l : List Nd} (h1 : okC c = true) (h2 : placedB l = true) (h3 : soundR c l = false) : bytesV c l = (em, 3) := by
  unfold bytesV
  rw [if_pos ⟨h1, h2⟩, if_neg (by rw [h3]; simp)]
theorem bytes_ok {c : Cfg} {l : List Nd} (h1 : okC c = true) (h2 : placedB l = true) (h3 : soundR c l = true) : bytesV c l = (imgB c l, 0) := by
  unfold bytesV
  rw [if_pos ⟨h1, h2⟩, if_pos h3]
theorem placed_no {l : List Nd} {k : Nat} (h : k < l.length) (hs : (l[k].slot != (k : Int)) = true) : placedB l = false := by
  unfold placedB
  refine decide_eq_false fun hh => ?_
  have := hh k h
  simp [this] at hs
theorem image_Bytes (c : Cfg) (v : Value) (l : List Nd) (w : World) (M : Mem) (hMw : M.le (Mem.of w)) (hl : SlM M 10 ndCells v l) (hN : NdsOk M l) :
    Calls Tryz.prog 7 #[.agg #[.int .i64 c.fanout, .int .i64 c.leaf, .int .i64 c.budget, .int .i64 c.slots, .int .i64 c.restarts], v] w fun e w' => e = .returned (.tuple #[.string (bytesV c l).1, .int .i64 (bytesV c l).2]) ∧ Below w.heap.size w w' := by
  obtain ⟨A, ca, rfl, hc1, hc2, _⟩ := id hl
  have hlen := hN.len
  have cR := fun W => store_RightC c W
  cases hc : okC c with
  | false =>
    rw [hc] at cR
    rw [bytes_no (.inl hc)]
    refine V_flat (args := [.agg #[.int .i64 c.fanout, .int .i64 c.leaf, .int .i64 c.budget, .int .i64 c.slots, .int .i64 c.restarts], .slice A l.length ca]) (M := M) Tryz.func7 rfl Tryz.ntmps7 (by rfl) (hMw) ?_
    repeat' (first | refine VC_seq ?_ | refine VC_region ?_ | refine VL_nil ?_ | refine VC_ret ?_ | refine kbox ?_ | ((apply VL_q); (first | exact QS_call (by rfl) (fun W _ => cR W) | exact qas (by rfl) | exact qlA (by rfl) | exact qno (by rfl)); rfl) | refine ctr ?_)
    show Res _ _ _ _
    refine Res.two (by rfl) (ResV_tmp (by rfl) ?_) (ResV_tmp (by rfl) ?_)
    all_goals rfl
  | true =>
  rw [hc] at cR
  have cS := fun W (hW : M.le (Mem.of W)) => sound_Check c _ l W M hW hl hN
  rw [sound_eq] at cS
  refine V_flat (args := [.agg #[.int .i64 c.fanout, .int .i64 c.leaf, .int .i64 c.budget, .int .i64 c.slots, .int .i64 c.restarts], .slice A l.length ca]) (M := M) Tryz.func7 rfl Tryz.ntmps7 (by rfl) (hMw) ?_
  repeat' (first | refine VC_seq ?_ | refine VC_region ?_ | refine VL_nil ?_ | refine VC_block ?_ | refine VC_skip ?_ | refine kbox ?_ | ((apply VL_q); (first | exact QS_call (by rfl) (fun W _ => cR W) | exact qmv (by rfl) | exact qas (by rfl) | exact qlA (by rfl) | exact qno (by rfl) | exact qln (by rfl)); rfl) | refine cfa ?_)
  refine VC_for (fun k : Nat => ⟨M, [.blk 23 [.int .i64 c.fanout, .int .i64 c.leaf, .int .i64 c.budget, .int .i64 c.slots, .int .i64 c.restarts]], [(1, .v (.slice A l.length ca)), (2, .p 0 0), (14, .v (.slice A l.length ca)), (15, .v (.int .i64 l.length)), (16, .v (.int .i64 k))]⟩) (fun k => k ≤ l.length ∧ ∀ i (h : i < l.length), i < k → l[i].slot = (i : Int)) (fun k => l.length - k) [0] 0 ⟨rfl, rfl, ⟨rfl, trivial⟩, ⟨rfl, rfl, rfl, rfl, rfl, trivial⟩⟩ ⟨Nat.zero_le _, fun i _ h => absurd h (by omega)⟩ ?_
  rintro k ⟨hk, hpl⟩
  rcases Nat.lt_or_ge k l.length with hlt | hge
  · have hd := dlt hlt
    obtain ⟨b, off, rfl, hcA⟩ := hl.get hlt
    have h1 := nd_one (hN.ok _ (List.getElem_mem hlt))
    have hno := placed_no hlt
    have hyes : (l[k].slot != (k : Int)) = false → l[k].slot = (k : Int) := fun h => by simpa using h
    have hnx : l[k].slot = (k : Int) → ∀ i (h : i < l.length), i < k + 1 → l[i].slot = (i : Int) := fun he i hi hik => by
      rcases Nat.lt_or_ge i k with h | h
      · exact hpl i hi h
      · obtain rfl : i = k := by omega
        exact he
    generalize l[k] = nk at *
    repeat' (first | refine ksN ?_ (hu := h1) | refine VC_seq ?_ | refine VC_region ?_ | refine VL_nil ?_ | refine VC_ret ?_ | refine VC_block ?_ | refine VC_skip ?_ | refine kall ?_ | ((apply VL_q); (first | exact QS_indexAddr (k) (by rfl) (by rfl) (by omega) (by omega) | exact QS_mloadN _ (by rfl) hcA _ (by rfl) | exact qmv (by rfl) | exact qas (by rfl) | exact ql1 (by rfl) | exact qfa (by rfl) | exact qcp (by rfl) | exact qad (by rfl)); rfl) | refine ctr ?_ | refine cco (fun hq => ?_) (fun hq => ?_))
    · have hq' : (nk.slot != (k : Int)) = true := hq
      rw [bytes_no (.inr (hno hq'))]
      show Res _ _ _ _
      refine Res.two (by rfl) (ResV_tmp (by rfl) ?_) (ResV_tmp (by rfl) ?_)
      all_goals rfl
    · have hq' : (nk.slot != (k : Int)) = false := hq
      exact forQ_next (Q := fun _ _ => True) [0] (k + 1) ⟨rfl, rfl, ⟨rfl, trivial⟩, ⟨rfl, rfl, rfl, rfl, rfl, trivial⟩⟩ ⟨by omega, hnx (hyes hq')⟩ (by omega)
  have hd := dge hge
  have hplaced : placedB l = true := by
    unfold placedB
    exact decide_eq_true fun i hi => hpl i hi (by omega)
  cases hs : soundR c l with
  | false =>
    rw [hs] at cS
    rw [bytes_bad hc hplaced hs]
    repeat' (first | refine VC_seq ?_ | refine VC_region ?_ | refine VL_nil ?_ | refine VC_ret ?_ | refine VC_exit ?_ | ((apply VL_q); (first | exact QS_call (by rfl) cS | exact qmv (by rfl) | exact qas (by rfl) | exact qlA (by rfl) | exact qno (by rfl) | exact qcp (by rfl)); rfl) | refine ctr ?_ | refine cfa ?_)
    show Res _ _ _ _
    refine Res.two (by rfl) (ResV_tmp (by rfl) ?_) (ResV_tmp (by rfl) ?_)
    all_goals rfl
  | true =>
  rw [hs] at cS
  obtain ⟨hn4, hfit⟩ := sound_fit hc hN.inn hs
  have hbc := okC_bounds hc
  have a1 := catB_le nodeB (n := 80000) l (fun a ha => nodeB_le (hfit a ha))
  have hmk : markB.size = 4 := rfl
  rw [bytes_ok hc hplaced hs]
  clear hpl
  repeat' (first | refine VC_seq ?_ | refine VC_region ?_ | refine VL_nil ?_ | refine VC_exit ?_ | refine VC_skip ?_ | refine kbox ?_ | ((apply VL_q); (first | exact QS_call (by rfl) cS | exact qbk (by rfl) | exact qnp (by rfl) | exact qmv (by rfl) | exact qas (by rfl) | exact qlA (by rfl) | exact qfa (by rfl) | exact qno (by rfl) | exact qcp (by rfl)); rfl) | refine cfa ?_)
  refine VL_nameB 1 (by rfl) (fun b => ?_)
  refine VL_nil0 5 1 (by rfl) ?_
  have hp0 : PnOk b (.pointer none) (.slice none 0 0) em := ⟨.inl rfl, .inl ⟨rfl, rfl⟩⟩
  refine VL_callX (own1 := pnL b (.pointer none) (.slice none 0 0) em) [1, 2] (by rfl) (by rfl) ⟨rfl, rfl, trivial⟩ (fun M2 _ => pen_write b _ _ em markB M2 hp0 (by rw [hmk]; omega) (by rw [hmk]; decide)) (by rfl) (by rfl) ?_
  rintro _ _ ⟨rfl, p1, u1, hp1, rfl⟩
  rw [nil_ba] at hp1
  rw [nil_ba]
  refine VL_sub [0, 3, 4] ⟨M, [Ob.blk 23 [.int .i64 c.fanout, .int .i64 c.leaf, .int .i64 c.budget, .int .i64 c.slots, .int .i64 c.restarts]] ++ pnL b p1 u1 markB, [(1, .v (.slice A l.length ca)), (2, .p 0 0), (8, .v (sbP b))]⟩ ⟨rfl, rfl, ⟨rfl, rfl, rfl, trivial⟩, ⟨rfl, rfl, rfl, trivial⟩⟩ ?_
  repeat' (first | refine VC_seq ?_ | refine VC_region ?_ | refine VL_nil ?_ | refine klt ?_ | ((apply VL_q); (first | exact qmv (by rfl) | exact ql1 (by rfl) | exact qfa (by rfl) | exact qln (by rfl)); rfl))
  refine VL_frz 3 (by rfl) (fun uv M2 hle2 hrow => ?_)
  have hsl : SlM M2 1 intCells uv [c.fanout, c.leaf, c.budget, c.slots, c.restarts, (l.length : Int)] := RowM.slM (l := [c.fanout, c.leaf, c.budget, c.slots, c.restarts, (l.length : Int)]) (fun _ _ => rfl) hrow
  have hcz : (catB numB [c.fanout, c.leaf, c.budget, c.slots, c.restarts, (l.length : Int)]).size = 48 := by simp only [catB, size_app, numB_size]; rfl
  refine VL_callX (own1 := pnL b p1 u1 markB) [1, 2] (by rfl) (by rfl) ⟨rfl, rfl, trivial⟩ (fun M' hM' => pen_nums b p1 u1 markB uv [c.fanout, c.leaf, c.budget, c.slots, c.restarts, (l.length : Int)] M' hp1 (hsl.mono hM') (by rw [hmk, hcz]; decide) (by show 6 ≤ _; omega)) (by rfl) (by rfl) ?_
  rintro _ _ ⟨rfl, p2, u2, hp2, rfl⟩
  have hhd : markB ++ catB numB [c.fanout, c.leaf, c.budget, c.slots, c.restarts, (l.length : Int)] = markB ++ cfgB c l.length := by unfold cfgB; simp only [catB, ba_nil, ba_assoc]
  have hz0 : (markB ++ cfgB c l.length).size = 52 := by rw [← hhd, size_app, hcz, hmk]
  rw [hhd] at hp2
  rw [hhd]
  have himg : imgB c l = markB ++ cfgB c l.length ++ catB nodeB l := rfl
  rw [himg]
  generalize markB ++ cfgB c l.length = s0 at *
  refine VL_sub [0, 4, 5] ⟨M2, [Ob.blk 23 [.int .i64 c.fanout, .int .i64 c.leaf, .int .i64 c.budget, .int .i64 c.slots, .int .i64 c.restarts]] ++ pnL b p2 u2 s0, [(1, .v (.slice A l.length ca)), (2, .p 0 0), (8, .v (sbP b))]⟩ ⟨rfl, rfl, ⟨rfl, rfl, rfl, trivial⟩, ⟨rfl, rfl, rfl, trivial⟩⟩ ?_
  have hl2 := hl.mono hle2
  repeat' (first | refine VC_seq ?_ | refine VC_region ?_ | refine VL_nil ?_ | refine VC_block ?_ | ((apply VL_q); (first | exact qmv (by rfl) | exact qln (by rfl)); rfl))
  refine VC_for (fun x : Nat × Mem × Value × Value => ⟨x.2.1, [Ob.blk 23 [.int .i64 c.fanout, .int .i64 c.leaf, .int .i64 c.budget, .int .i64 c.slots, .int .i64 c.restarts]] ++ pnL b x.2.2.1 x.2.2.2 (s0 ++ catB nodeB (l.take x.1)), [(1, .v (.slice A l.length ca)), (2, .p 0 0), (8, .v (sbP b)), (51, .v (.slice A l.length ca)), (52, .v (.int .i64 l.length)), (53, .v (.int .i64 x.1))]⟩)
    (fun x => x.1 ≤ l.length ∧ M.le x.2.1 ∧ PnOk b x.2.2.1 x.2.2.2 (s0 ++ catB nodeB (l.take x.1))) (fun x => l.length - x.1) [0, 1, 2] (0, M2, p2, u2) ⟨rfl, rfl, ⟨rfl, rfl, (by show some (Ob.nrow u2 _ 1 s0.size (bcells s0)) = some (Ob.nrow u2 _ 1 (s0 ++ em).size (bcells (s0 ++ em))); rw [ba_nil]), trivial⟩, ⟨rfl, rfl, rfl, rfl, rfl, rfl, trivial⟩⟩ ⟨Nat.zero_le _, hle2, (by show PnOk b p2 u2 (s0 ++ em); rw [ba_nil]; exact hp2)⟩ ?_
  rintro ⟨k, M3, p3, u3⟩ ⟨hk3, hle3, hp3⟩
  dsimp only at hk3 hle3 hp3 ⊢
  have hz3 : (s0 ++ catB nodeB (l.take k)).size ≤ 52 + l.length * 80000 := by have := catB_take_le nodeB l k; rw [size_app]; omega
  rcases Nat.lt_or_ge k l.length with hlt | hge3
  · have hd3 := dlt hlt
    have hnx := cat_next nodeB hlt s0
    obtain ⟨bb, off, rfl, hcA⟩ := (hl.mono hle3).get hlt
    have hmem := List.getElem_mem hlt
    have h1 := nd_one (hN.ok _ hmem)
    have hok := (hN.ok _ hmem).mono hle3
    have hft := hfit _ hmem
    generalize l[k] = nk at *
    generalize hs1 : s0 ++ catB nodeB (l.take k) = s1 at *
    repeat' (first | refine ksN ?_ (hu := h1) | refine VC_seq ?_ | refine VC_region ?_ | refine VL_nil ?_ | refine VC_block ?_ | refine VC_skip ?_ | refine kall ?_ | ((apply VL_q); (first | exact QS_indexAddr (k) (by rfl) (by rfl) (by omega) (by omega) | exact QS_mloadN _ (by rfl) hcA _ (by rfl) | exact qmv (by rfl) | exact qlA (by rfl) | exact qcp (by rfl)); rfl) | refine ctr ?_)
    refine VL_callX (own1 := pnL b p3 u3 s1) [1, 2] (by rfl) (by rfl) ⟨rfl, rfl, trivial⟩ (fun M' hM' => pen_node b p3 u3 s1 nk M' hp3 (hok.mono hM') hft (by omega)) (by rfl) (by rfl) ?_
    rintro _ _ ⟨rfl, p4, u4, hp4, rfl⟩
    repeat' (first | refine VC_region ?_ | refine VL_nil ?_ | ((apply VL_q); (first | exact qmv (by rfl) | exact qad (by rfl)); rfl))
    refine forQ_next (Q := fun _ _ => True) [0, 4, 5] (k + 1, M3, p4, u4) ⟨rfl, rfl, ⟨rfl, rfl, ?_, trivial⟩, ⟨rfl, rfl, rfl, rfl, rfl, rfl, trivial⟩⟩ ⟨Nat.succ_le_of_lt hlt, hle3, ?_⟩ (by show l.length - (k + 1) < l.length - k; omega)
    · show _ = some (Ob.nrow u4 _ 1 (s0 ++ catB nodeB (l.take (k + 1))).size (bcells (s0 ++ catB nodeB (l.take (k + 1)))))
      rw [← hnx]; rfl
    · show PnOk b p4 u4 (s0 ++ catB nodeB (l.take (k + 1)))
      rw [← hnx]; exact hp4
  have hd3 := dge hge3
  obtain rfl : k = l.length := by omega
  rw [List.take_length] at hp3 ⊢
  have hz9 : 0 < (s0 ++ catB nodeB l).size := by rw [size_app]; omega
  generalize s0 ++ catB nodeB l = s9 at *
  obtain ⟨hpp, huu⟩ := hp3
  rcases huu with ⟨_, h0⟩ | ⟨gb, cap, rfl, hcap⟩
  · omega
  repeat' (first | refine VC_seq ?_ | refine VC_region ?_ | refine VL_nil ?_ | refine VC_exit ?_ | ((apply VL_q); (first | exact qni (by rfl) | exact qmv (by rfl) | exact qmf (by rfl) | exact qcp (by rfl)); rfl) | refine cfa ?_)
  refine VL_callX (own1 := pnL b p3 (.slice (some ⟨gb, 0, none⟩) s9.size cap) s9) [1, 2] (by rfl) (by rfl) ⟨rfl, rfl, trivial⟩ (fun M' hM' => sb_String b p3 gb s9.size cap s9 M' hz9 hcap) (by rfl) (by rfl) ?_
  rintro _ _ ⟨rfl, rfl⟩
  repeat' (first | refine VL_nil ?_ | refine VC_ret ?_ | ((apply VL_q); (exact qas (by rfl)); rfl))
  show Res _ _ _ _
  refine Res.two (by rfl) (ResV_tmp (by rfl) ?_) (ResV_tmp (by rfl) ?_)
  all_goals rfl
theorem image_Size (c : Cfg) (v : Value) (l : List Nd) (w : World) (M : Mem) (hMw : M.le (Mem.of w)) (hl : SlM M 10 ndCells v l) (hN : NdsOk M l) :
    Calls Tryz.prog 9 #[.agg #[.int .i64 c.fanout, .int .i64 c.leaf, .int .i64 c.budget, .int .i64 c.slots, .int .i64 c.restarts], v] w fun e w' => e = .returned (.int .i64 ((bytesV c l).1.size : Nat)) ∧ Below w.heap.size w w' := by
  have cB := fun W (hW : M.le (Mem.of W)) => image_Bytes c v l W M hW hl hN
  obtain ⟨A, ca, rfl, hc1, hc2, _⟩ := id hl
  generalize bytesV c l = r at *
  obtain ⟨s, e⟩ := r
  refine V_flat (args := [.agg #[.int .i64 c.fanout, .int .i64 c.leaf, .int .i64 c.budget, .int .i64 c.slots, .int .i64 c.restarts], .slice A l.length ca]) (M := M) Tryz.func9 rfl Tryz.ntmps9 (by rfl) (hMw) ?_
  repeat' (first | refine VC_seq ?_ | refine VC_region ?_ | refine VL_nil ?_ | refine VC_ret ?_ | refine kbox ?_ | ((apply VL_q); (first | exact QS_call (by rfl) cB | exact qmv (by rfl) | exact qas (by rfl) | exact qlA (by rfl) | exact qex (by rfl) | exact qls (by rfl)); rfl))
  show Res _ _ _ _
  refine Res.one (by rfl) (ResV_tmp (by rfl) ?_)
  rfl
end Go.Proofs.YtlapnbklbpeddaaGreat
