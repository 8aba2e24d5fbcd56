/- A pen writes numbers, texts. -/
import Derived.Test.YtlapnbklbpeddaaGreatPIm13
import Derived.Test.YtlapnbklbpeddaaGreatPIm16
namespace Go.Proofs.YtlapnbklbpeddaaGreat
open Go Go.RowKit
attribute [local irreducible] Calls
set_option linter.unusedVariables false
set_option maxRecDepth 20000
set_option linter.unusedSimpArgs false
set_option maxHeartbeats 4000000
theorem CallX.mono {P : Program} {f : FuncId} {args : List Value} {M : Mem} {own1 : List Ob} {Q Q' : Value → List Ob → Prop} (h : CallX P f args M own1 Q) (hq : ∀ v o, Q v o → Q' v o) : CallX P f args M own1 Q' := fun w M0 hd W hW =>
  (h w M0 hd W hW).mono fun e W' ⟨v, hd', o, h1, h2, h3⟩ => ⟨v, hd', o, h1, h2, hq v o h3⟩
theorem bcells_app (a b : ByteArray) : bcells (a ++ b) = bcells a ++ bcells b := by
  unfold bcells
  rw [ByteArray.data_append, Array.toList_append, List.map_append]
/-- A pen's two fields once bytes bs are written. -/
structure PnOk (b : Nat) (p u : Value) (bs : ByteArray) : Prop where
  p : p = .pointer none ∨ p = sbP b
  u : (u = .slice none 0 0 ∧ bs.size = 0) ∨ ∃ gb cap, u = .slice (some ⟨gb, 0, none⟩) bs.size cap ∧ 0 < cap
abbrev pnL (b : Nat) (p u : Value) (bs : ByteArray) : List Ob := [.nblk (sbP b) 53 [p, u], .nrow u 5 1 bs.size (bcells bs)]
/-- What a call leaves of a pen. -/
def PnPost (b : Nat) (bs : ByteArray) (o : List Ob) : Prop := ∃ p u, PnOk b p u bs ∧ o = pnL b p u bs
theorem pen_write (b : Nat) (p u : Value) (bs s : ByteArray) (M : Mem) (h : PnOk b p u bs) (h0 : 0 < s.size) (hn : bs.size + s.size ≤ 1000000000) :
    CallX Tryz.prog 19 [sbP b, .string s] M (pnL b p u bs) (fun v o => v = .tuple #[.int .i64 s.size, .nilIface] ∧ PnPost b (bs ++ s) o) :=
  (sb_WriteString b p u s bs.size (bcells bs) M h.p h0 hn).mono fun v o ⟨h1, gb, cap, h2, h3⟩ => ⟨h1, sbP b, .slice (some ⟨gb, 0, none⟩) (bs ++ s).size cap, ⟨.inr rfl, .inr ⟨gb, cap, rfl, h2⟩⟩, by rw [h3]; unfold pnL; rw [size_app, bcells_app]⟩
theorem pen_nums (b : Nat) (p u : Value) (bs : ByteArray) (v : Value) (l : List Int) (M : Mem) (h : PnOk b p u bs) (hl : SlM M 1 intCells v l) (hn : bs.size + (catB numB l).size ≤ 1000000000) (hc : l.length ≤ 1000000000) :
    CallX Tryz.prog 20 [sbP b, v] M (pnL b p u bs) (fun r o => r = .tuple #[] ∧ PnPost b (bs ++ catB numB l) o) := by
  obtain ⟨A, c, rfl, hc1, hc2, _⟩ := id hl
  refine V_x Tryz.func20 rfl Tryz.ntmps20 (by rfl) (fun w M0 => ?_)
  repeat' (first | refine VC_seq ?_ | refine VC_region ?_ | refine VL_nil ?_ | refine VC_block ?_ | ((apply VL_q); (first | exact qmv (by rfl) | exact qln (by rfl)); rfl))
  refine VC_for (fun x : Nat × Value × Value => ⟨M, pnL b x.2.1 x.2.2 (bs ++ catB numB (l.take x.1)), [(0, .v (sbP b)), (6, .v (.slice A l.length c)), (7, .v (.int .i64 l.length)), (8, .v (.int .i64 x.1))]⟩)
    (fun x => x.1 ≤ l.length ∧ PnOk b x.2.1 x.2.2 (bs ++ catB numB (l.take x.1))) (fun x => l.length - x.1) [0, 1] (0, p, u) ⟨rfl, rfl, ⟨rfl, (by show some (Ob.nrow u _ 1 bs.size (bcells bs)) = some (Ob.nrow u _ 1 (bs ++ em).size (bcells (bs ++ em))); rw [ba_nil]), trivial⟩, ⟨rfl, rfl, rfl, rfl, trivial⟩⟩ ⟨Nat.zero_le _, (by show PnOk b p u (bs ++ em); rw [ba_nil]; exact h)⟩ ?_
  rintro ⟨k, p1, u1⟩ ⟨hk, hp⟩
  dsimp only at hk hp ⊢
  rcases Nat.lt_or_ge k l.length with hlt | hge
  · have hd := dlt hlt
    obtain ⟨b2, off2, rfl, hcA⟩ := hl.get hlt
    have hst := catB_step numB hlt
    have hle := catB_take_le numB l (k + 1)
    have hz := numB_size l[k]
    rw [hst] at hle
    rw [size_app] at hle
    have hs2 : bs ++ catB numB (l.take (k + 1)) = bs ++ catB numB (l.take k) ++ numB l[k] := by rw [hst, ba_assoc]
    have cN := fun W => image_number l[k] W
    generalize numB l[k] = nb at *
    have hsz : (bs ++ catB numB (l.take k)).size + nb.size ≤ 1000000000 := by rw [size_app]; omega
    generalize hb1 : bs ++ catB numB (l.take k) = b1 at *
    repeat' (first | refine VC_seq ?_ | refine VC_region ?_ | refine VL_nil ?_ | refine VC_block ?_ | refine VC_skip ?_ | ((apply VL_q); (first | exact QS_indexAddr (k) (by rfl) (by rfl) (by omega) (by omega) | exact QS_mload1 (by rfl) (hcA 0 _ (by rfl)) | exact qas (by rfl) | exact qcp (by rfl)); rfl) | refine ctr ?_)
    refine VC_drawG [0, 1] [5] (by decide +kernel) (by rfl) (by rfl) ?_
    repeat' (first | refine VQm_nil ?_ | refine VQm_e (by rfl) ?_ | refine VQm_q (by rfl) _ (by exact wno (by first | exact qni (by rfl) | exact QS_call (by rfl) (fun W _ => cN W) | exact qmv (by rfl) | exact qmf (by rfl))) (by rfl) (by rfl) ?_ | refine VF_done ?_ | refine VF_step ?_ | exact VFs_nil | refine VFs_x _ _ _ _ (by rfl) (EX_callX (own1 := pnL b p1 u1 b1) [0, 1] (by rfl) (by rfl) ⟨rfl, rfl, trivial⟩ (fun M2 _ => pen_write b p1 u1 b1 nb M2 hp (by omega) hsz)) (by rfl) (fun ⟨⟨v2, o2⟩, hv2, p2, u2, hp2, ho2⟩ => ⟨Mem.le_refl _, by rfl, ?_⟩) ?_)
    dsimp only at hp2 ho2 ⊢
    subst ho2
    repeat' (first | refine VC_region ?_ | refine VL_nil ?_ | ((apply VL_q); (first | exact qmv (by rfl) | exact qad (by rfl)); rfl))
    refine forQ_next (Q := fun _ _ => True) [2, 3] (k + 1, p2, u2) ⟨rfl, rfl, ⟨rfl, ?_, trivial⟩, ⟨rfl, rfl, rfl, rfl, trivial⟩⟩ ⟨Nat.succ_le_of_lt hlt, ?_⟩ (by show l.length - (k + 1) < l.length - k; omega)
    · show _ = some (Ob.nrow u2 _ 1 (bs ++ catB numB (l.take (k + 1))).size (bcells (bs ++ catB numB (l.take (k + 1)))))
      rw [hs2]; rfl
    · show PnOk b p2 u2 (bs ++ catB numB (l.take (k + 1)))
      rw [hs2]; exact hp2
  · have hd := dge hge
    obtain rfl : k = l.length := by omega
    rw [List.take_length] at hp ⊢
    repeat' (first | refine VC_seq ?_ | refine VC_region ?_ | refine VL_nil ?_ | refine VC_exit ?_ | ((apply VL_q); (exact qcp (by rfl)); rfl) | refine cfa ?_)
    exact ⟨_, [0, 1], pnL b p1 u1 (bs ++ catB numB l), .inr (.inr (.inr ⟨by rfl, rfl⟩)), Mem.le_refl _, rfl, ⟨rfl, rfl, trivial⟩, rfl, p1, u1, hp, rfl⟩
theorem pen_texts (b : Nat) (p u : Value) (bs : ByteArray) (v : Value) (l : List ByteArray) (M : Mem) (h : PnOk b p u bs) (hl : SlM M 1 strCells v l) (hs : ∀ s ∈ l, s.size ≤ 255) (hn : bs.size + (catB textR l).size ≤ 1000000000) (hc : l.length ≤ 1000000000) :
    CallX Tryz.prog 45 [sbP b, v] M (pnL b p u bs) (fun r o => r = .tuple #[] ∧ PnPost b (bs ++ catB textR l) o) := by
  obtain ⟨A, c, rfl, hc1, hc2, _⟩ := id hl
  refine V_x Tryz.func45 rfl Tryz.ntmps45 (by rfl) (fun w M0 => ?_)
  repeat' (first | refine VC_seq ?_ | refine VC_region ?_ | refine VL_nil ?_ | refine VC_block ?_ | ((apply VL_q); (first | exact qmv (by rfl) | exact qln (by rfl)); rfl))
  refine VC_for (fun x : Nat × Value × Value => ⟨M, pnL b x.2.1 x.2.2 (bs ++ catB textR (l.take x.1)), [(0, .v (sbP b)), (8, .v (.slice A l.length c)), (9, .v (.int .i64 l.length)), (10, .v (.int .i64 x.1))]⟩)
    (fun x => x.1 ≤ l.length ∧ PnOk b x.2.1 x.2.2 (bs ++ catB textR (l.take x.1))) (fun x => l.length - x.1) [0, 1] (0, p, u) ⟨rfl, rfl, ⟨rfl, (by show some (Ob.nrow u _ 1 bs.size (bcells bs)) = some (Ob.nrow u _ 1 (bs ++ em).size (bcells (bs ++ em))); rw [ba_nil]), trivial⟩, ⟨rfl, rfl, rfl, rfl, trivial⟩⟩ ⟨Nat.zero_le _, (by show PnOk b p u (bs ++ em); rw [ba_nil]; exact h)⟩ ?_
  rintro ⟨k, p1, u1⟩ ⟨hk, hp⟩
  dsimp only at hk hp ⊢
  rcases Nat.lt_or_ge k l.length with hlt | hge
  · have hd := dlt hlt
    obtain ⟨b2, off2, rfl, hcA⟩ := hl.get hlt
    have hst := catB_step textR hlt
    have hle := catB_take_le textR l (k + 1)
    have hz := size_textR l[k]
    rw [hst] at hle
    rw [size_app] at hle
    have hs2 : bs ++ catB textR (l.take (k + 1)) = bs ++ catB textR (l.take k) ++ textR l[k] := by rw [hst, ba_assoc]
    have cN := fun W => pack_TextS l[k] W (hs _ (List.getElem_mem hlt))
    generalize textR l[k] = nb at *
    have hsz : (bs ++ catB textR (l.take k)).size + nb.size ≤ 1000000000 := by rw [size_app]; omega
    generalize hb1 : bs ++ catB textR (l.take k) = b1 at *
    repeat' (first | refine VC_seq ?_ | refine VC_region ?_ | refine VL_nil ?_ | refine VC_block ?_ | refine VC_skip ?_ | ((apply VL_q); (first | exact qni (by rfl) | exact QS_indexAddr (k) (by rfl) (by rfl) (by omega) (by omega) | exact QS_mload1 (by rfl) (hcA 0 _ (by rfl)) | exact QS_call (by rfl) (fun W _ => cN W) | exact qmv (by rfl) | exact qas (by rfl) | exact qmf (by rfl) | exact qex (by rfl) | exact qcp (by rfl)); rfl) | refine ctr ?_)
    refine VL_callX (own1 := pnL b p1 u1 b1) [0, 1] (by rfl) (by rfl) ⟨rfl, rfl, trivial⟩ (fun M2 _ => pen_write b p1 u1 b1 nb M2 hp (by omega) hsz) (by rfl) (by rfl) ?_
    rintro _ _ ⟨rfl, p2, u2, hp2, rfl⟩
    repeat' (first | refine VC_region ?_ | refine VL_nil ?_ | ((apply VL_q); (first | exact qmv (by rfl) | exact qad (by rfl)); rfl))
    refine forQ_next (Q := fun _ _ => True) [2, 3] (k + 1, p2, u2) ⟨rfl, rfl, ⟨rfl, ?_, trivial⟩, ⟨rfl, rfl, rfl, rfl, trivial⟩⟩ ⟨Nat.succ_le_of_lt hlt, ?_⟩ (by show l.length - (k + 1) < l.length - k; omega)
    · show _ = some (Ob.nrow u2 _ 1 (bs ++ catB textR (l.take (k + 1))).size (bcells (bs ++ catB textR (l.take (k + 1)))))
      rw [hs2]; rfl
    · show PnOk b p2 u2 (bs ++ catB textR (l.take (k + 1)))
      rw [hs2]; exact hp2
  · have hd := dge hge
    obtain rfl : k = l.length := by omega
    rw [List.take_length] at hp ⊢
    repeat' (first | refine VC_seq ?_ | refine VC_region ?_ | refine VL_nil ?_ | refine VC_exit ?_ | ((apply VL_q); (exact qcp (by rfl)); rfl) | refine cfa ?_)
    exact ⟨_, [0, 1], pnL b p1 u1 (bs ++ catB textR l), .inr (.inr (.inr ⟨by rfl, rfl⟩)), Mem.le_refl _, rfl, ⟨rfl, rfl, trivial⟩, rfl, p1, u1, hp, rfl⟩
end Go.Proofs.YtlapnbklbpeddaaGreat
