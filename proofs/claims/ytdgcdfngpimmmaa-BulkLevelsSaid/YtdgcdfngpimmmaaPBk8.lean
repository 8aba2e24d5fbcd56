/- The bulk layer: the chapter's example. -/
import Derived.Test.YtdgcdfngpimmmaaPBk7
namespace Go.Proofs.Ytdgcdfngpimmmaa
open Go Go.RowKit
attribute [local irreducible] Calls
set_option linter.unusedVariables false
set_option maxRecDepth 20000
set_option linter.unusedSimpArgs false
set_option maxHeartbeats 8000000
def c51 : Cfg := ⟨4, 2, 36, 9, 0⟩
def l51 : List Pair := [⟨⟨#[97]⟩, ⟨#[]⟩⟩, ⟨⟨#[98]⟩, ⟨#[]⟩⟩, ⟨⟨#[99]⟩, ⟨#[]⟩⟩, ⟨⟨#[100]⟩, ⟨#[]⟩⟩, ⟨⟨#[101]⟩, ⟨#[]⟩⟩]
theorem lv51 : levelsC c51 ((l51.length : Nat) : Int) = [3, 1] := by
  unfold levelsC
  rw [if_neg (by decide)]
  show lvlL 4 (fewN 5 2) = [3, 1]
  rw [show fewN 5 2 = 3 by decide, lvlL_more (by omega) (by omega), show fewN 3 4 = 1 by decide, lvlL_one (by omega)]
theorem lt51 (a b : UInt8) (h : a.toNat < b.toNat) : lt ⟨#[a]⟩ ⟨#[b]⟩ = true := by
  rw [lt_bl]
  show Op.bytesLess [a] [b] = true
  rw [bls_cons, decide_eq_true h]; rfl
theorem right51 : rightP l51 = true := by
  have h : ∀ i, i < 5 → rowP l51 i = true := fun i hi => by
    have : i = 0 ∨ i = 1 ∨ i = 2 ∨ i = 3 ∨ i = 4 := by omega
    rcases this with rfl | rfl | rfl | rfl | rfl
    · rw [rowP_zero (by decide)]; rfl
    · rw [rowP_pos (by decide) (by decide)]; show (true && true && lt ⟨#[97]⟩ ⟨#[98]⟩) = true; rw [lt51 _ _ (by decide)]; rfl
    · rw [rowP_pos (by decide) (by decide)]; show (true && true && lt ⟨#[98]⟩ ⟨#[99]⟩) = true; rw [lt51 _ _ (by decide)]; rfl
    · rw [rowP_pos (by decide) (by decide)]; show (true && true && lt ⟨#[99]⟩ ⟨#[100]⟩) = true; rw [lt51 _ _ (by decide)]; rfl
    · rw [rowP_pos (by decide) (by decide)]; show (true && true && lt ⟨#[100]⟩ ⟨#[101]⟩) = true; rw [lt51 _ _ (by decide)]; rfl
  exact List.all_eq_true.2 fun i hi => h i (List.mem_range.1 hi)
theorem bulk_awake (w : World) : Calls Try.prog 18 #[] w fun e w' => e = .returned (.bool true) ∧ Below w.heap.size w w' := by
  refine V_flat (args := []) (M := Mem.of w) Try.func18 rfl Try.ntmps18 (by rfl) (Mem.le_refl _) ?_
  repeat' (first
    | refine VC_seq ?_
    | refine VC_region ?_
    | refine VL_nil ?_
    | refine VC_ret ?_
    | refine VC_exit ?_
    | refine VC_block ?_
    | refine VC_skip ?_
    | refine kbox ?_
    | refine kall ?_
    | refine kst ?_
    | refine ksN ?_
    | refine klt ?_
    | refine kl1 ?_
    | refine klK ?_
    | refine kap ?_
    | ((first | apply VL_q | apply VG_q | apply VS_q2); (first  | exact qmv (by rfl) | exact qas (by rfl) | exact ql1 (by rfl) | exact qlA (by rfl) | exact qfa (by rfl) | exact qmf (by rfl) | exact qfd (by rfl) | exact qm1 (by rfl) | exact qbd (by rfl) | exact qno (by rfl) | exact qex (by rfl) | exact qln (by rfl) | exact qls (by rfl) | exact qlr (by rfl) | exact qpt (by rfl) | exact qpf (by rfl) | exact qcp (by rfl) | exact qbe (by rfl) | exact qbn (by rfl) | exact qsn (by rfl) | exact qad (by rfl) | exact qsa (by rfl) | exact qsu (by rfl) | exact QS_bin (by rfl) (by rfl) (by first | exact B_slnil | exact Bq_eql_Msg | exact Bq_neq_Msg | exact Bq_eql_Pair | exact Bq_neq_Pair | exact Bq_eql_Op | exact Bq_neq_Op | exact Bq_eql_Cfg | exact Bq_neq_Cfg)); rfl)
    | refine sst ?_
    | refine VS_nil ?_
    | refine eeq ?_
    | refine ees ?_ (by first | exact es1 (by rfl) | exact esN (by rfl))
    | refine VE_nil ?_
    | refine kyes ?_
    | refine kno ?_
    | refine gyes ?_
    | refine gno ?_
    | refine knoU ?_
    | refine gnoU ?_
    | refine VG_nil ⟨by rfl, ?_⟩
    | refine VG_nil ?_
    | refine dT ?_
    | refine d1 ?_
    | refine dQ ?_
    | refine ctr ?_
    | refine cfa ?_
    | refine kdec (fun hq => ?_) (fun hq => ?_)
    | refine gdec (fun hq => ?_) (fun hq => ?_)
    | refine cco (fun hq => ?_) (fun hq => ?_))
  refine VL_frz 0 (by rfl) (fun u M1 hle1 hu => ?_)
  have hS : SlM M1 2 pairCells u l51 := RowM.slM (l := l51) (fun _ _ => rfl) hu
  have cB : ∀ W, M1.le (Mem.of W) → Calls Try.prog 24 #[.agg #[.int .i64 c51.fanout, .int .i64 c51.leaf, .int .i64 c51.budget, .int .i64 c51.slots, .int .i64 c51.restarts], u] W (RetM M1 W (BuildPost l51.length [3, 1])) := fun W hW =>
    bulk_Build c51 u l51 [3, 1] W M1 hW hS lv51 (by decide) (by decide) (by decide) (by decide) (fun i hi => by
      have : i = 0 ∨ i = 1 := by simp at hi; omega
      rcases this with rfl | rfl <;> decide) (fun i hi => by
      have : i = 0 := by simp at hi; omega
      subst this; decide) right51 (fun p hp => by
      have : p.val.size = 0 := by
        unfold l51 at hp
        simp at hp
        rcases hp with rfl | rfl | rfl | rfl | rfl <;> rfl
      omega) (by decide) (by decide)
  refine VL_callM (by rfl) cB (by rfl) (fun v M2 hle2 hp => ?_)
  obtain ⟨x, rfl, rows, hx, hl, hr⟩ := hp
  obtain ⟨r0, r1, rfl⟩ : ∃ r0 r1, rows = [r0, r1] := by
    match rows, hl with
    | [a, b], _ => exact ⟨a, b, rfl⟩
  have h0 := hr 0 r0 rfl
  have h1 := hr 1 r1 rfl
  obtain ⟨hl0, hq0⟩ := h0
  obtain ⟨hl1, hq1⟩ := h1
  obtain ⟨a, b, c, rfl⟩ : ∃ a b c, r0 = [a, b, c] := by
    match r0, hl0 with
    | [a, b, c], _ => exact ⟨a, b, c, rfl⟩
  obtain ⟨d, rfl⟩ : ∃ d, r1 = [d] := by
    match r1, hl1 with
    | [d], _ => exact ⟨d, rfl⟩
  have hd : d.Cnt 3 0 := hq1 0 d rfl
  have ha : a.Cnt 0 2 := hq0 0 a rfl
  have hc : c.Cnt 0 1 := hq0 2 c rfl
  have hx' : SlM M2 10 ndK x [d, a, b, c] := hx
  obtain ⟨A, cp, rfl, _⟩ := id hx'
  obtain ⟨⟨A1, n1, hd1⟩, _⟩ := hd
  obtain ⟨_, ⟨A2, n2, ha1⟩, _⟩ := ha
  obtain ⟨_, ⟨A3, n3, hc1⟩, _⟩ := hc
  obtain ⟨b1, o1, rfl, g0⟩ := hx'.get (i := 0) (by simp)
  obtain ⟨_, _, e1, g1⟩ := hx'.get (i := 1) (by simp)
  injection e1 with e1
  injection e1 with e2 e3
  subst e2 e3
  obtain ⟨_, _, e1, g3⟩ := hx'.get (i := 3) (by simp)
  injection e1 with e1
  injection e1 with e2 e3
  subst e2 e3
  have k0 : M2.cell b1 (o1 + 0 * 10 + 3) = some (.slice A1 3 n1) := g0 3 _ (by show some d.kv = _; rw [hd1])
  have k1 : M2.cell b1 (o1 + 1 * 10 + 9) = some (.slice A2 2 n2) := g1 9 _ (by show some a.rv = _; rw [ha1])
  have k3 : M2.cell b1 (o1 + 3 * 10 + 9) = some (.slice A3 1 n3) := g3 9 _ (by show some c.rv = _; rw [hc1])
  have q1 : ((0 : Int) == 0) = true := by decide
  have q2 : (((4 : Nat) : Int) == 4) = true := by decide
  have q3 : (((3 : Nat) : Int) == 3) = true := by decide
  have q4 : (((2 : Nat) : Int) == 2) = true := by decide
  have q5 : (((1 : Nat) : Int) == 1) = true := by decide
  repeat' (first
    | refine VC_seq ?_
    | refine VC_region ?_
    | refine VL_nil ?_
    | refine VC_ret ?_
    | refine VC_exit ?_
    | refine VC_block ?_
    | refine VC_skip ?_
    | refine kbox ?_
    | refine kall ?_
    | refine kst ?_
    | refine ksN ?_
    | refine klt ?_
    | refine kl1 ?_
    | refine klK ?_
    | refine kap ?_
    | ((first | apply VL_q | apply VG_q | apply VS_q2); (first | exact QS_indexAddr 0 (by rfl) (by rfl) (by omega) (by simp) | exact QS_indexAddr 1 (by rfl) (by rfl) (by omega) (by simp) | exact QS_indexAddr 3 (by rfl) (by rfl) (by omega) (by simp) | exact QS_mload1 (by rfl) k0 | exact QS_mload1 (by rfl) k1 | exact QS_mload1 (by rfl) k3 | exact qmv (by rfl) | exact qas (by rfl) | exact ql1 (by rfl) | exact qlA (by rfl) | exact qfa (by rfl) | exact qmf (by rfl) | exact qfd (by rfl) | exact qm1 (by rfl) | exact qbd (by rfl) | exact qno (by rfl) | exact qex (by rfl) | exact qln (by rfl) | exact qls (by rfl) | exact qlr (by rfl) | exact qpt (by rfl) | exact qpf (by rfl) | exact qcp (by rfl) | exact qbe (by rfl) | exact qbn (by rfl) | exact qsn (by rfl) | exact qad (by rfl) | exact qsa (by rfl) | exact qsu (by rfl) | exact QS_bin (by rfl) (by rfl) (by first | exact B_slnil | exact Bq_eql_Msg | exact Bq_neq_Msg | exact Bq_eql_Pair | exact Bq_neq_Pair | exact Bq_eql_Op | exact Bq_neq_Op | exact Bq_eql_Cfg | exact Bq_neq_Cfg)); rfl)
    | refine sst ?_
    | refine VS_nil ?_
    | refine eeq ?_
    | refine ees ?_ (by first | exact es1 (by rfl) | exact esN (by rfl))
    | refine VE_nil ?_
    | refine kyes ?_
    | refine kno ?_
    | refine gyes ?_
    | refine gno ?_
    | refine knoU ?_
    | refine gnoU ?_
    | refine VG_nil ⟨by rfl, ?_⟩
    | refine VG_nil ?_
    | refine dT ?_
    | refine d1 ?_
    | refine dQ ?_
    | refine ctr ?_
    | refine cfa ?_
    | refine kdec (fun hq => ?_) (fun hq => ?_)
    | refine gdec (fun hq => ?_) (fun hq => ?_)
    | refine cco (fun hq => ?_) (fun hq => ?_))
  show Res _ _ _ _
  refine Res.one (by rfl) (ResV_tmp (by rfl) ?_)
  rfl
end Go.Proofs.Ytdgcdfngpimmmaa
