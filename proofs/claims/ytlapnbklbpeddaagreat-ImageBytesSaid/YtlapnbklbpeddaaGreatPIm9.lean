/- strings.Builder as a part of a pen. -/
import Derived.Test.YtlapnbklbpeddaaGreatPIm8
namespace Go.Proofs.YtlapnbklbpeddaaGreat
open Go Go.RowKit
attribute [local irreducible] Calls
set_option linter.unusedVariables false
set_option maxRecDepth 20000
set_option linter.unusedSimpArgs false
set_option maxHeartbeats 4000000
section
variable {P : Program} {w : World} {M0 : Mem} {N : Nat} {dst : Option Tmp} {ty : TypeId} {pos : String} {aft : Array Edge} {g : Option (Nat × Bool)}
/-- A te lies at the head of a block of type tb. -/
class LieT2 (P : Program) (tb te : TypeId) (n : outParam Nat) : Prop where
  h : liesAt P P.depth tb (n / P.cellsOf tb) 0 te 1 = true
theorem QS_toU2 {src dt te tb : TypeId} {x : Operand} {bb : Nat} {cs : List Value} {s : St} [hp : PtrT P src te] [hu : UnsT P dt] (i : Nat) (hx : s.env.op x = some (.v (.pointer (some ⟨bb, 0, none⟩)))) (hi : s.own[i]? = some (.nblk (.pointer (some ⟨bb, 0, none⟩)) tb cs)) (h0 : 0 < cs.length) : QS P w M0 N ⟨dst, .convert src dt x, ty, pos, aft, g⟩ s (.v (.pointer (some ⟨bb, 0, none⟩))) := QS_run fun hd A W hR => by
  have hvx := hR.2.eval hx
  simp only [SV.den] at hvx
  obtain ⟨h1, j, h2, h3⟩ := hp.parts
  have hsh := nblk_shape (own := s.own) (hR.1.own i _ hi)
  simp only [execOp, hvx, Sem.run_bind]
  rw [Lib.run_to_unsafe W ⟨bb, 0, none⟩ h1 hu.u h2 h3 hsh h0]; rfl
theorem QS_fromU2 {src dt te tb : TypeId} {x : Operand} {bb n : Nat} {cs : List Value} {s : St} [hu : UnsT P src] [hp : PtrT P dt te] [hl : LieT2 P tb te n] (i : Nat) (hx : s.env.op x = some (.v (.pointer (some ⟨bb, 0, none⟩)))) (hi : s.own[i]? = some (.nblk (.pointer (some ⟨bb, 0, none⟩)) tb cs)) (h0 : cs.length = n) : QS P w M0 N ⟨dst, .convert src dt x, ty, pos, aft, g⟩ s (.v (.pointer (some ⟨bb, 0, none⟩))) := QS_run fun hd A W hR => by
  have hvx := hR.2.eval hx
  simp only [SV.den] at hvx
  obtain ⟨h1, j, h2, h3⟩ := hp.parts
  have hsh := nblk_shape (own := s.own) (hR.1.own i _ hi)
  simp only [execOp, hvx, Sem.run_bind]
  rw [h0] at hsh
  rw [Lib.run_from_unsafe W ⟨bb, 0, none⟩ hu.u h1 h2 hsh hl.h]; rfl
end
instance : LieT2 Tryz.prog 53 51 2 := ⟨by kernel_rfl⟩
abbrev sbP (b : Nat) : Value := .pointer (some ⟨b, 0, none⟩)
theorem sb_check (b : Nat) (p u : Value) (M : Mem) (hp : p = .pointer none ∨ p = sbP b) : CallX Tryz.prog 42 [sbP b] M [.nblk (sbP b) 53 [p, u]] (fun v own' => v = .tuple #[] ∧ own' = [.nblk (sbP b) 53 [sbP b, u]]) := by
  refine V_x Tryz.func42 rfl Tryz.ntmps42 (by rfl) (fun w M0 => ?_)
  rcases hp with rfl | rfl
  · skip
    repeat' (first | refine knb 0 ?_ | refine VC_seq ?_ | refine VC_region ?_ | refine VL_nil ?_ | ((apply VL_q); (first | exact qni (by rfl) | exact QS_nload1 0 (by rfl) (by rfl) (by rfl) (by rfl) | exact QS_bin (by rfl) (by rfl) B_pnil | exact QS_toU2 0 (by rfl) (by rfl) (by show 0 < 2; omega) | exact QS_noe (by rfl) | exact QS_fromU2 0 (by rfl) (by rfl) (by rfl) | exact qmv (by rfl) | exact qmf (by rfl)); rfl) | refine ctr ?_)
    exact ⟨_, [0], [.nblk (sbP b) 53 [sbP b, u]], .inr (.inr (.inr ⟨by rfl, rfl⟩)), Mem.le_refl _, rfl, ⟨rfl, trivial⟩, rfl, rfl⟩
  · skip
    repeat' (first | refine VC_seq ?_ | refine VC_region ?_ | refine VL_nil ?_ | refine VC_skip ?_ | ((apply VL_q); (first | exact qni (by rfl) | exact QS_nload1 0 (by rfl) (by rfl) (by rfl) (by rfl) | exact QS_bin (by rfl) (by rfl) B_pnil | exact QS_bin (by rfl) (by rfl) B_pne | exact qmv (by rfl) | exact qmf (by rfl)); rfl) | refine cfa ?_)
    exact ⟨_, [0], [.nblk (sbP b) 53 [sbP b, u]], .inr (.inr (.inr ⟨by rfl, rfl⟩)), Mem.le_refl _, rfl, ⟨rfl, trivial⟩, rfl, rfl⟩
theorem nsh_cap {v : Value} {n : Nat} (h : NSh v n) (hn : 0 < n) : ∃ b cap, v = .slice (some ⟨b, 0, none⟩) n cap ∧ 0 < cap := by
  rcases h with ⟨_, h⟩ | ⟨b, cap, h, h2, _⟩
  · omega
  · exact ⟨b, cap, h, by omega⟩
theorem sb_WriteString (b : Nat) (p u : Value) (s : ByteArray) (n : Nat) (xs : List Value) (M : Mem) (hp : p = .pointer none ∨ p = sbP b) (h0 : 0 < s.size) (hn : n + s.size ≤ 1000000000) :
    CallX Tryz.prog 19 [sbP b, .string s] M [.nblk (sbP b) 53 [p, u], .nrow u 5 1 n xs]
      (fun v own' => v = .tuple #[.int .i64 s.size, .nilIface] ∧ ∃ gb cap, 0 < cap ∧ own' = [.nblk (sbP b) 53 [sbP b, .slice (some ⟨gb, 0, none⟩) (n + s.size) cap], .nrow (.slice (some ⟨gb, 0, none⟩) (n + s.size) cap) 5 1 (n + s.size) (xs ++ bcells s)]) := by
  refine V_x Tryz.func19 rfl Tryz.ntmps19 (by rfl) (fun w M0 => ?_)
  repeat' (first | refine VC_seq ?_ | refine VC_region ?_ | refine VL_nil ?_ | ((apply VL_q); (first | exact qmv (by rfl) | exact qas (by rfl)); rfl))
  refine VL_callX (own1 := [.nblk (sbP b) 53 [p, u]]) [0] (by rfl) (by rfl) ⟨rfl, trivial⟩ (fun M' _ => sb_check b p u M' hp) (by rfl) (by rfl) ?_
  rintro _ _ ⟨rfl, rfl⟩
  repeat' (first | refine VC_seq ?_ | refine VC_region ?_ | refine VL_nil ?_ | ((apply VL_q); (first | exact qni (by rfl) | exact QS_nload1 2 (by rfl) (by rfl) (by rfl) (by rfl) | exact qmv (by rfl) | exact qmf (by rfl)); rfl))
  refine VL_unname 1 12 (by rfl) (by rfl) ?_
  skip
  refine VL_e _ _ (EF_appendS (by rfl) (by rfl) (by rfl) hn) (by rfl) (by rfl) ?_
  refine VL_nameR 3 (by rfl) (fun u' hu' => ?_)
  obtain ⟨gb, cap, rfl, hcap⟩ := nsh_cap hu' (by omega)
  repeat' (first | refine knb 2 ?_ | refine VC_seq ?_ | refine VC_region ?_ | refine VL_nil ?_ | refine VC_ret ?_ | ((apply VL_q); (first | exact qni (by rfl) | exact qmv (by rfl) | exact qas (by rfl) | exact qmf (by rfl) | exact qls (by rfl)); rfl))
  exact ⟨_, [2, 3], [.nblk (sbP b) 53 [sbP b, .slice (some ⟨gb, 0, none⟩) (n + s.size) cap], .nrow (.slice (some ⟨gb, 0, none⟩) (n + s.size) cap) 5 1 (n + s.size) (xs ++ bcells s)], Res.two (by rfl) (ResV_tmp (by rfl) rfl) (ResV_tmp (by rfl) rfl), Mem.le_refl _, rfl, ⟨rfl, rfl, trivial⟩, rfl, gb, cap, hcap, rfl⟩
theorem sb_String (b : Nat) (p : Value) (gb n cap : Nat) (s : ByteArray) (M : Mem) (hn : 0 < n) (hc : 0 < cap) :
    CallX Tryz.prog 22 [sbP b] M [.nblk (sbP b) 53 [p, .slice (some ⟨gb, 0, none⟩) n cap], .nrow (.slice (some ⟨gb, 0, none⟩) n cap) 5 1 n (bcells s)] (fun v own' => v = .string s ∧ own' = []) := by
  refine V_x Tryz.func22 rfl Tryz.ntmps22 (by rfl) (fun w M0 => ?_)
  refine VC_seq ?_
  refine VC_region ?_
  apply VL_q
  · exact qas (by rfl)
  · rfl
  refine VL_nil ?_
  refine VC_seq ?_
  refine VC_drawG [1] [10, 11] (by decide +kernel) (by rfl) (by rfl) ?_
  repeat' (first | refine VQm_nil ?_ | refine VQm_e (by rfl) ?_ | refine VQm_q (by rfl) _ (by exact wno (by first | exact qni (by rfl) | exact QS_nload1 0 (by rfl) (by rfl) (by rfl) (by rfl) | exact QS_sdata (by rfl) (by omega) | exact qmv (by rfl) | exact qmf (by rfl) | exact qln (by rfl))) (by rfl) (by rfl) ?_ | refine VF_done ?_ | refine VF_step ?_ | exact VFs_nil | refine VFs_e (by rfl) _ _ (by exact fno (by first | exact EF_ustr (i := 1) (by rfl) (by rfl) (by rfl) (by rfl) hn | exact fq (by exact qas (by rfl)))) (by rfl) (by rfl) ?_ ?_)
  all_goals
    repeat' (refine VC_ret ?_)
    exact ⟨_, [], [], Res.one (by rfl) (ResV_tmp (by rfl) rfl), Mem.le_refl _, rfl, trivial, rfl, rfl⟩
end Go.Proofs.YtlapnbklbpeddaaGreat
