/- The document's table of latches: Take, Without: walks by names. -/
import Derived.Test.YtdgcdfngpimmmaaPLr1
namespace Go.Proofs.Ytdgcdfngpimmmaa
open Go Go.RowKit
attribute [local irreducible] Calls
set_option linter.unusedVariables false
set_option maxRecDepth 20000
set_option linter.unusedSimpArgs false
set_option maxHeartbeats 4000000
def rfOb (b : Nat) (N : Int) (u : Value) (L : List Hld) : List Ob := [.nblk (.pointer (some ⟨b, 0, none⟩)) 94 [.int .i64 N, u], .nrow u 90 3 L.length (L.flatMap holdK)]
theorem rf_wd {w : World} {hd : Nat → Value} {W : World} {own : List Ob} {b : Nat} {N : Int} {u : Value} {L : List Hld} (i j : Nat) (hO : ∀ i o, own[i]? = some o → ObOk w.heap.size W (hd i) o) (h0 : own[i]? = some (.nblk (.pointer (some ⟨b, 0, none⟩)) 94 [.int .i64 N, u])) (h1 : own[j]? = some (.nrow u 90 3 L.length (L.flatMap holdK))) : RefM (Mem.of W) b N u L := by
  refine ⟨?_, ?_, ?_⟩
  · have := ob_cell (hO i _ h0) (off := 0) (u := .int .i64 N) rfl
    rw [(hO i _ h0).1] at this
    rw [Mem.of_cell]
    exact this
  · have := ob_cell (hO i _ h0) (off := 1) (u := u) rfl
    rw [(hO i _ h0).1] at this
    rw [Mem.of_cell]
    exact this
  · have h2 := (hO j _ h1).2
    rw [(hO j _ h1).1] at h2
    exact (ObOk.sl (base := w.heap.size) (e := 90) (n := L.length) (cs := L.flatMap holdK) L h2 rfl (fun _ _ => rfl) rfl).toM
theorem flat_getH {L : List Hld} {k : Nat} (h : k < L.length) : (L.flatMap holdK)[k * 3]? = some (.int .i64 L[k].thread) ∧ (L.flatMap holdK)[k * 3 + 1]? = some (.int .i64 L[k].slot) ∧ (L.flatMap holdK)[k * 3 + 2]? = some (.bool L[k].write) :=
  ⟨by have := flat_get (k := 3) (cells := holdK) L k 0 h (fun _ _ => rfl) (by omega); exact this, flat_get (k := 3) (cells := holdK) L k 1 h (fun _ _ => rfl) (by omega), flat_get (k := 3) (cells := holdK) L k 2 h (fun _ _ => rfl) (by omega)⟩
def clashH (sl : Int) (wr : Bool) (h : Hld) : Bool := (h.slot == sl) && (wr || h.write)
def takeL (N : Int) (L : List Hld) (th sl : Int) (wr : Bool) : Int × List Hld :=
  if th < 0 ∨ sl < 0 ∨ N ≤ sl ∨ (hasL L th sl).1 = true then (2, L) else if L.any (clashH sl wr) = true then (7, L) else (0, L ++ [⟨th, sl, wr⟩])
def RfPost (b : Nat) (N : Int) (r : Int × List Hld) (v : Value) (own' : List Ob) : Prop := v = .int .i64 r.1 ∧ ∃ u', NSh u' r.2.length ∧ own' = rfOb b N u' r.2
theorem any_step {α : Type} {l : List α} {k : Nat} (h : k < l.length) {p : α → Bool} (h1 : (l.take k).any p = false) (h2 : p l[k] = false) : (l.take (k + 1)).any p = false := by
  rw [List.take_succ_eq_append_getElem h, List.any_append, h1]; simp [h2]
theorem any_at {α : Type} {l : List α} {k : Nat} (h : k < l.length) {p : α → Bool} (h2 : p l[k] = true) : l.any p = true := List.any_eq_true.2 ⟨_, List.getElem_mem h, h2⟩
theorem ref_TakeX (b : Nat) (N : Int) (u : Value) (L : List Hld) (th sl : Int) (wr : Bool) (M : Mem) (hu : NSh u L.length) (hn : L.length ≤ 1000000) :
    CallX Try.prog 44 [.pointer (some ⟨b, 0, none⟩), .int .i64 th, .int .i64 sl, .bool wr] M (rfOb b N u L) (RfPost b N (takeL N L th sl wr)) := by
  refine V_x Try.func44 rfl Try.ntmps44 (by rfl) (fun w M0 => ?_)
  have cH : ∀ (hd : Nat → Value) (W : World), (∀ i o, (rfOb b N u L)[i]? = some o → ObOk w.heap.size W (hd i) o) → Calls Try.prog 49 #[.pointer (some ⟨b, 0, none⟩), .int .i64 th, .int .i64 sl] W fun e W' => e = .returned (.tuple #[.bool (hasL L th sl).1, .bool (hasL L th sl).2]) ∧ Below W.heap.size W W' := fun hd W hO =>
    ref_HasL b N u L th sl W (Mem.of W) (Mem.le_refl _) (rf_wd 0 1 hO rfl rfl)
  unfold rfOb at cH ⊢
  have same : ∀ (s : St) (x : Int) (h : (takeL N L th sl wr) = (x, L)), s.own = rfOb b N u L → M.le s.M → Res Try.prog Try.f44 s (.int .i64 x) → ∃ v ρ own', Res Try.prog Try.f44 s v ∧ M.le s.M ∧ nodupB ρ = true ∧ OwnSub own' ρ s.own ∧ RfPost b N (takeL N L th sl wr) v own' := fun s x h ho hm hr => by
    refine ⟨_, [0, 1], rfOb b N u L, hr, hm, rfl, ?_, by rw [h]; exact ⟨rfl, u, hu, rfl⟩⟩
    rw [ho]
    exact ⟨rfl, rfl, trivial⟩
  cases e1 : decide (th < 0) with
  | true =>
    have hr : takeL N L th sl wr = (2, L) := by unfold takeL; rw [if_pos (.inl (of_decide_eq_true e1))]
    repeat' (first
      | refine VC_seq ?_
      | refine VC_region ?_
      | refine VL_nil ?_
      | refine VC_ret ?_
      | refine VC_exit ?_
      | refine VC_block ?_
      | refine VC_skip ?_
      | refine kbox ?_
      | refine kall ?_
      | refine kst ?_
      | refine ksN ?_
      | refine klt ?_
      | refine kl1 ?_
      | refine klK ?_
      | refine kap ?_
      | ((first | apply VL_q | apply VG_q | apply VS_q2); (first | exact qni (by rfl) | exact QS_nload1 0 (by rfl) (by rfl) (by rfl) (by rfl) | (refine QS_callR (r := .tuple #[.bool (hasL L th sl).1, .bool (hasL L th sl).2]) (by rfl) ?_; exact fun hd W hO hW => cH hd W hO) | exact qmv (by rfl) | exact qas (by rfl) | exact ql1 (by rfl) | exact qlA (by rfl) | exact qfa (by rfl) | exact qmf (by rfl) | exact qfd (by rfl) | exact qm1 (by rfl) | exact qbd (by rfl) | exact qno (by rfl) | exact qex (by rfl) | exact qln (by rfl) | exact qls (by rfl) | exact qlr (by rfl) | exact qpt (by rfl) | exact qpf (by rfl) | exact qcp (by rfl) | exact qbe (by rfl) | exact qbn (by rfl) | exact qsn (by rfl) | exact qad (by rfl) | exact qsa (by rfl) | exact qsu (by rfl) | exact QS_bin (by rfl) (by rfl) (by first | exact B_slnil | exact Bq_eql_Msg | exact Bq_neq_Msg | exact Bq_eql_Pair | exact Bq_neq_Pair | exact Bq_eql_Op | exact Bq_neq_Op | exact Bq_eql_Cfg | exact Bq_neq_Cfg)); rfl)
      | refine sst ?_
      | refine VS_nil ?_
      | refine eeq ?_
      | refine ees ?_ (by first | exact es1 (by rfl) | exact esN (by rfl))
      | refine VE_nil ?_
      | refine kyes ?_
      | refine kno ?_
      | refine gyes ?_
      | refine gno ?_
      | refine knoU ?_
      | refine gnoU ?_
      | refine VG_nil ⟨by rfl, ?_⟩
      | refine VG_nil ?_
      | refine dT ?_
      | refine d1 ?_
      | refine dQ ?_
      | refine ctr ?_
      | refine cfa ?_
      | refine kdec (fun hq => ?_) (fun hq => ?_)
      | refine gdec (fun hq => ?_) (fun hq => ?_)
      | refine cco (fun hq => ?_) (fun hq => ?_))
    exact same _ 2 hr rfl (Mem.le_refl _) (Res.one (by rfl) (ResV_tmp (by rfl) rfl))
  | false =>
  have f1 : ¬ th < 0 := of_decide_eq_false e1
  cases e2 : decide (sl < 0) with
  | true =>
    have hr : takeL N L th sl wr = (2, L) := by unfold takeL; rw [if_pos (.inr (.inl (of_decide_eq_true e2)))]
    repeat' (first
      | refine VC_seq ?_
      | refine VC_region ?_
      | refine VL_nil ?_
      | refine VC_ret ?_
      | refine VC_exit ?_
      | refine VC_block ?_
      | refine VC_skip ?_
      | refine kbox ?_
      | refine kall ?_
      | refine kst ?_
      | refine ksN ?_
      | refine klt ?_
      | refine kl1 ?_
      | refine klK ?_
      | refine kap ?_
      | ((first | apply VL_q | apply VG_q | apply VS_q2); (first | exact qni (by rfl) | exact QS_nload1 0 (by rfl) (by rfl) (by rfl) (by rfl) | (refine QS_callR (r := .tuple #[.bool (hasL L th sl).1, .bool (hasL L th sl).2]) (by rfl) ?_; exact fun hd W hO hW => cH hd W hO) | exact qmv (by rfl) | exact qas (by rfl) | exact ql1 (by rfl) | exact qlA (by rfl) | exact qfa (by rfl) | exact qmf (by rfl) | exact qfd (by rfl) | exact qm1 (by rfl) | exact qbd (by rfl) | exact qno (by rfl) | exact qex (by rfl) | exact qln (by rfl) | exact qls (by rfl) | exact qlr (by rfl) | exact qpt (by rfl) | exact qpf (by rfl) | exact qcp (by rfl) | exact qbe (by rfl) | exact qbn (by rfl) | exact qsn (by rfl) | exact qad (by rfl) | exact qsa (by rfl) | exact qsu (by rfl) | exact QS_bin (by rfl) (by rfl) (by first | exact B_slnil | exact Bq_eql_Msg | exact Bq_neq_Msg | exact Bq_eql_Pair | exact Bq_neq_Pair | exact Bq_eql_Op | exact Bq_neq_Op | exact Bq_eql_Cfg | exact Bq_neq_Cfg)); rfl)
      | refine sst ?_
      | refine VS_nil ?_
      | refine eeq ?_
      | refine ees ?_ (by first | exact es1 (by rfl) | exact esN (by rfl))
      | refine VE_nil ?_
      | refine kyes ?_
      | refine kno ?_
      | refine gyes ?_
      | refine gno ?_
      | refine knoU ?_
      | refine gnoU ?_
      | refine VG_nil ⟨by rfl, ?_⟩
      | refine VG_nil ?_
      | refine dT ?_
      | refine d1 ?_
      | refine dQ ?_
      | refine ctr ?_
      | refine cfa ?_
      | refine kdec (fun hq => ?_) (fun hq => ?_)
      | refine gdec (fun hq => ?_) (fun hq => ?_)
      | refine cco (fun hq => ?_) (fun hq => ?_))
    exact same _ 2 hr rfl (Mem.le_refl _) (Res.one (by rfl) (ResV_tmp (by rfl) rfl))
  | false =>
  have f2 : ¬ sl < 0 := of_decide_eq_false e2
  cases e3 : decide (N ≤ sl) with
  | true =>
    have hr : takeL N L th sl wr = (2, L) := by unfold takeL; rw [if_pos (.inr (.inr (.inl (of_decide_eq_true e3))))]
    repeat' (first
      | refine VC_seq ?_
      | refine VC_region ?_
      | refine VL_nil ?_
      | refine VC_ret ?_
      | refine VC_exit ?_
      | refine VC_block ?_
      | refine VC_skip ?_
      | refine kbox ?_
      | refine kall ?_
      | refine kst ?_
      | refine ksN ?_
      | refine klt ?_
      | refine kl1 ?_
      | refine klK ?_
      | refine kap ?_
      | ((first | apply VL_q | apply VG_q | apply VS_q2); (first | exact qni (by rfl) | exact QS_nload1 0 (by rfl) (by rfl) (by rfl) (by rfl) | (refine QS_callR (r := .tuple #[.bool (hasL L th sl).1, .bool (hasL L th sl).2]) (by rfl) ?_; exact fun hd W hO hW => cH hd W hO) | exact qmv (by rfl) | exact qas (by rfl) | exact ql1 (by rfl) | exact qlA (by rfl) | exact qfa (by rfl) | exact qmf (by rfl) | exact qfd (by rfl) | exact qm1 (by rfl) | exact qbd (by rfl) | exact qno (by rfl) | exact qex (by rfl) | exact qln (by rfl) | exact qls (by rfl) | exact qlr (by rfl) | exact qpt (by rfl) | exact qpf (by rfl) | exact qcp (by rfl) | exact qbe (by rfl) | exact qbn (by rfl) | exact qsn (by rfl) | exact qad (by rfl) | exact qsa (by rfl) | exact qsu (by rfl) | exact QS_bin (by rfl) (by rfl) (by first | exact B_slnil | exact Bq_eql_Msg | exact Bq_neq_Msg | exact Bq_eql_Pair | exact Bq_neq_Pair | exact Bq_eql_Op | exact Bq_neq_Op | exact Bq_eql_Cfg | exact Bq_neq_Cfg)); rfl)
      | refine sst ?_
      | refine VS_nil ?_
      | refine eeq ?_
      | refine ees ?_ (by first | exact es1 (by rfl) | exact esN (by rfl))
      | refine VE_nil ?_
      | refine kyes ?_
      | refine kno ?_
      | refine gyes ?_
      | refine gno ?_
      | refine knoU ?_
      | refine gnoU ?_
      | refine VG_nil ⟨by rfl, ?_⟩
      | refine VG_nil ?_
      | refine dT ?_
      | refine d1 ?_
      | refine dQ ?_
      | refine ctr ?_
      | refine cfa ?_
      | refine kdec (fun hq => ?_) (fun hq => ?_)
      | refine gdec (fun hq => ?_) (fun hq => ?_)
      | refine cco (fun hq => ?_) (fun hq => ?_))
    exact same _ 2 hr rfl (Mem.le_refl _) (Res.one (by rfl) (ResV_tmp (by rfl) rfl))
  | false =>
  have f3 : ¬ N ≤ sl := of_decide_eq_false e3
  cases e4 : (hasL L th sl).1 with
  | true =>
    rw [e4] at cH
    have hr : takeL N L th sl wr = (2, L) := by unfold takeL; rw [if_pos (.inr (.inr (.inr e4)))]
    repeat' (first
      | refine VC_seq ?_
      | refine VC_region ?_
      | refine VL_nil ?_
      | refine VC_ret ?_
      | refine VC_exit ?_
      | refine VC_block ?_
      | refine VC_skip ?_
      | refine kbox ?_
      | refine kall ?_
      | refine kst ?_
      | refine ksN ?_
      | refine klt ?_
      | refine kl1 ?_
      | refine klK ?_
      | refine kap ?_
      | ((first | apply VL_q | apply VG_q | apply VS_q2); (first | exact qni (by rfl) | exact QS_nload1 0 (by rfl) (by rfl) (by rfl) (by rfl) | (refine QS_callR (r := .tuple #[.bool true, .bool (hasL L th sl).2]) (by rfl) ?_; exact fun hd W hO hW => cH hd W hO) | exact qmv (by rfl) | exact qas (by rfl) | exact ql1 (by rfl) | exact qlA (by rfl) | exact qfa (by rfl) | exact qmf (by rfl) | exact qfd (by rfl) | exact qm1 (by rfl) | exact qbd (by rfl) | exact qno (by rfl) | exact qex (by rfl) | exact qln (by rfl) | exact qls (by rfl) | exact qlr (by rfl) | exact qpt (by rfl) | exact qpf (by rfl) | exact qcp (by rfl) | exact qbe (by rfl) | exact qbn (by rfl) | exact qsn (by rfl) | exact qad (by rfl) | exact qsa (by rfl) | exact qsu (by rfl) | exact QS_bin (by rfl) (by rfl) (by first | exact B_slnil | exact Bq_eql_Msg | exact Bq_neq_Msg | exact Bq_eql_Pair | exact Bq_neq_Pair | exact Bq_eql_Op | exact Bq_neq_Op | exact Bq_eql_Cfg | exact Bq_neq_Cfg)); rfl)
      | refine sst ?_
      | refine VS_nil ?_
      | refine eeq ?_
      | refine ees ?_ (by first | exact es1 (by rfl) | exact esN (by rfl))
      | refine VE_nil ?_
      | refine kyes ?_
      | refine kno ?_
      | refine gyes ?_
      | refine gno ?_
      | refine knoU ?_
      | refine gnoU ?_
      | refine VG_nil ⟨by rfl, ?_⟩
      | refine VG_nil ?_
      | refine dT ?_
      | refine d1 ?_
      | refine dQ ?_
      | refine ctr ?_
      | refine cfa ?_
      | refine kdec (fun hq => ?_) (fun hq => ?_)
      | refine gdec (fun hq => ?_) (fun hq => ?_)
      | refine cco (fun hq => ?_) (fun hq => ?_))
    exact same _ 2 hr rfl (Mem.le_refl _) (Res.one (by rfl) (ResV_tmp (by rfl) rfl))
  | false =>
  rw [e4] at cH
  have hc0 : ¬ (th < 0 ∨ sl < 0 ∨ N ≤ sl ∨ (hasL L th sl).1 = true) := by rw [e4]; simp; omega
  obtain ⟨Au, cu, rfl⟩ := hu.sl
  repeat' (first
    | refine VC_seq ?_
    | refine VC_region ?_
    | refine VL_nil ?_
    | refine VC_ret ?_
    | refine VC_exit ?_
    | refine VC_block ?_
    | refine VC_skip ?_
    | refine kbox ?_
    | refine kall ?_
    | refine kst ?_
    | refine ksN ?_
    | refine klt ?_
    | refine kl1 ?_
    | refine klK ?_
    | refine kap ?_
    | ((first | apply VL_q | apply VG_q | apply VS_q2); (first | exact qni (by rfl) | exact QS_nload1 0 (by rfl) (by rfl) (by rfl) (by rfl) | (refine QS_callR (r := .tuple #[.bool false, .bool (hasL L th sl).2]) (by rfl) ?_; exact fun hd W hO hW => cH hd W hO) | exact qmv (by rfl) | exact qas (by rfl) | exact ql1 (by rfl) | exact qlA (by rfl) | exact qfa (by rfl) | exact qmf (by rfl) | exact qfd (by rfl) | exact qm1 (by rfl) | exact qbd (by rfl) | exact qno (by rfl) | exact qex (by rfl) | exact qln (by rfl) | exact qls (by rfl) | exact qlr (by rfl) | exact qpt (by rfl) | exact qpf (by rfl) | exact qcp (by rfl) | exact qbe (by rfl) | exact qbn (by rfl) | exact qsn (by rfl) | exact qad (by rfl) | exact qsa (by rfl) | exact qsu (by rfl) | exact QS_bin (by rfl) (by rfl) (by first | exact B_slnil | exact Bq_eql_Msg | exact Bq_neq_Msg | exact Bq_eql_Pair | exact Bq_neq_Pair | exact Bq_eql_Op | exact Bq_neq_Op | exact Bq_eql_Cfg | exact Bq_neq_Cfg)); rfl)
    | refine sst ?_
    | refine VS_nil ?_
    | refine eeq ?_
    | refine ees ?_ (by first | exact es1 (by rfl) | exact esN (by rfl))
    | refine VE_nil ?_
    | refine kyes ?_
    | refine kno ?_
    | refine gyes ?_
    | refine gno ?_
    | refine knoU ?_
    | refine gnoU ?_
    | refine VG_nil ⟨by rfl, ?_⟩
    | refine VG_nil ?_
    | refine dT ?_
    | refine d1 ?_
    | refine dQ ?_
    | refine ctr ?_
    | refine cfa ?_
    | refine kdec (fun hq => ?_) (fun hq => ?_)
    | refine gdec (fun hq => ?_) (fun hq => ?_)
    | refine cco (fun hq => ?_) (fun hq => ?_))
  refine VC_for (fun k : Nat => ⟨M, rfOb b N (.slice Au L.length cu) L, [(0, .v (.pointer (some ⟨b, 0, none⟩))), (1, .v (.int .i64 th)), (2, .v (.int .i64 sl)), (3, .v (.bool wr)), (11, .v (.int .i64 k))]⟩) (fun k => k ≤ L.length ∧ (L.take k).any (clashH sl wr) = false) (fun k => L.length - k) [0, 1] 0 ⟨rfl, rfl, ⟨rfl, rfl, trivial⟩, ⟨rfl, rfl, rfl, rfl, rfl, trivial⟩⟩ ⟨by omega, by simp⟩ ?_
  rintro k ⟨hk, hr⟩
  unfold rfOb
  rcases Nat.lt_or_ge k L.length with hlt | hge
  · have hd := dlt hlt
    obtain ⟨gb, cap, hus⟩ := hu.some (by omega)
    injection hus with hus _ hus2
    subst hus hus2
    obtain ⟨g1, g2, g3⟩ := flat_getH hlt
    have k2 : (L.flatMap holdK)[0 + k * 3 + 1]? = some (.int .i64 L[k].slot) := by rw [Nat.zero_add]; exact g2
    have k3 : (L.flatMap holdK)[0 + k * 3 + 2]? = some (.bool L[k].write) := by rw [Nat.zero_add]; exact g3
    have hcl : clashH sl wr L[k] = ((L[k].slot == sl) && (wr || L[k].write)) := rfl
    have next : clashH sl wr L[k] = false → forQ (fun k : Nat => (⟨M, rfOb b N (.slice (some ⟨gb, 0, none⟩) L.length cu) L, [(0, .v (.pointer (some ⟨b, 0, none⟩))), (1, .v (.int .i64 th)), (2, .v (.int .i64 sl)), (3, .v (.bool wr)), (11, .v (.int .i64 k))]⟩ : St)) (fun k => k ≤ L.length ∧ (L.take k).any (clashH sl wr) = false) (fun k => L.length - k) (L.length - k) (fun _ _ => True) .normal ⟨M, rfOb b N (.slice (some ⟨gb, 0, none⟩) L.length cu) L, [(0, .v (.pointer (some ⟨b, 0, none⟩))), (1, .v (.int .i64 th)), (2, .v (.int .i64 sl)), (3, .v (.bool wr)), (11, .v (.int .i64 ((k + 1 : Nat) : Int)))]⟩ := fun hf =>
      forQ_next (Q := fun _ _ => True) [0, 1] (k + 1) ⟨rfl, rfl, ⟨rfl, rfl, trivial⟩, ⟨rfl, rfl, rfl, rfl, rfl, trivial⟩⟩ ⟨by omega, any_step hlt hr hf⟩ (by omega)
    cases c1 : (L[k].slot == sl) with
    | false =>
      rw [c1, Bool.false_and] at hcl
      repeat' (first
        | refine VC_seq ?_
        | refine VC_region ?_
        | refine VL_nil ?_
        | refine VC_ret ?_
        | refine VC_exit ?_
        | refine VC_block ?_
        | refine VC_skip ?_
        | refine kbox ?_
        | refine kall ?_
        | refine kst ?_
        | refine ksN ?_
        | refine klt ?_
        | refine kl1 ?_
        | refine klK ?_
        | refine kap ?_
        | ((first | apply VL_q | apply VG_q | apply VS_q2); (first | exact qni (by rfl) | exact QS_indexAddr k (by rfl) (by rfl) rfl hlt | exact QS_nload1 0 (by rfl) (by rfl) (by rfl) (by rfl) | exact QS_nload1 1 (by rfl) (by rfl) (by rfl) k2 | exact QS_nload1 1 (by rfl) (by rfl) (by rfl) k3 | exact qmv (by rfl) | exact qas (by rfl) | exact ql1 (by rfl) | exact qlA (by rfl) | exact qfa (by rfl) | exact qmf (by rfl) | exact qfd (by rfl) | exact qm1 (by rfl) | exact qbd (by rfl) | exact qno (by rfl) | exact qex (by rfl) | exact qln (by rfl) | exact qls (by rfl) | exact qlr (by rfl) | exact qpt (by rfl) | exact qpf (by rfl) | exact qcp (by rfl) | exact qbe (by rfl) | exact qbn (by rfl) | exact qsn (by rfl) | exact qad (by rfl) | exact qsa (by rfl) | exact qsu (by rfl) | exact QS_bin (by rfl) (by rfl) (by first | exact B_slnil | exact Bq_eql_Msg | exact Bq_neq_Msg | exact Bq_eql_Pair | exact Bq_neq_Pair | exact Bq_eql_Op | exact Bq_neq_Op | exact Bq_eql_Cfg | exact Bq_neq_Cfg)); rfl)
        | refine sst ?_
        | refine VS_nil ?_
        | refine eeq ?_
        | refine ees ?_ (by first | exact es1 (by rfl) | exact esN (by rfl))
        | refine VE_nil ?_
        | refine kyes ?_
        | refine kno ?_
        | refine gyes ?_
        | refine gno ?_
        | refine knoU ?_
        | refine gnoU ?_
        | refine VG_nil ⟨by rfl, ?_⟩
        | refine VG_nil ?_
        | refine dT ?_
        | refine d1 ?_
        | refine dQ ?_
        | refine ctr ?_
        | refine cfa ?_
        | refine kdec (fun hq => ?_) (fun hq => ?_)
        | refine gdec (fun hq => ?_) (fun hq => ?_)
        | refine cco (fun hq => ?_) (fun hq => ?_))
      exact forQ_next (Q := fun _ _ => True) [0, 1] (k + 1) ⟨rfl, rfl, ⟨rfl, rfl, trivial⟩, ⟨rfl, rfl, rfl, rfl, rfl, trivial⟩⟩ ⟨by omega, any_step hlt hr hcl⟩ (by omega)
    | true =>
      cases wr with
      | true =>
        rw [c1] at hcl
        have hr2 : takeL N L th sl true = (7, L) := by unfold takeL; rw [if_neg hc0, if_pos (any_at hlt hcl)]
        repeat' (first
          | refine VC_seq ?_
          | refine VC_region ?_
          | refine VL_nil ?_
          | refine VC_ret ?_
          | refine VC_exit ?_
          | refine VC_block ?_
          | refine VC_skip ?_
          | refine kbox ?_
          | refine kall ?_
          | refine kst ?_
          | refine ksN ?_
          | refine klt ?_
          | refine kl1 ?_
          | refine klK ?_
          | refine kap ?_
          | ((first | apply VL_q | apply VG_q | apply VS_q2); (first | exact qni (by rfl) | exact QS_indexAddr k (by rfl) (by rfl) rfl hlt | exact QS_nload1 0 (by rfl) (by rfl) (by rfl) (by rfl) | exact QS_nload1 1 (by rfl) (by rfl) (by rfl) k2 | exact QS_nload1 1 (by rfl) (by rfl) (by rfl) k3 | exact qmv (by rfl) | exact qas (by rfl) | exact ql1 (by rfl) | exact qlA (by rfl) | exact qfa (by rfl) | exact qmf (by rfl) | exact qfd (by rfl) | exact qm1 (by rfl) | exact qbd (by rfl) | exact qno (by rfl) | exact qex (by rfl) | exact qln (by rfl) | exact qls (by rfl) | exact qlr (by rfl) | exact qpt (by rfl) | exact qpf (by rfl) | exact qcp (by rfl) | exact qbe (by rfl) | exact qbn (by rfl) | exact qsn (by rfl) | exact qad (by rfl) | exact qsa (by rfl) | exact qsu (by rfl) | exact QS_bin (by rfl) (by rfl) (by first | exact B_slnil | exact Bq_eql_Msg | exact Bq_neq_Msg | exact Bq_eql_Pair | exact Bq_neq_Pair | exact Bq_eql_Op | exact Bq_neq_Op | exact Bq_eql_Cfg | exact Bq_neq_Cfg)); rfl)
          | refine sst ?_
          | refine VS_nil ?_
          | refine eeq ?_
          | refine ees ?_ (by first | exact es1 (by rfl) | exact esN (by rfl))
          | refine VE_nil ?_
          | refine kyes ?_
          | refine kno ?_
          | refine gyes ?_
          | refine gno ?_
          | refine knoU ?_
          | refine gnoU ?_
          | refine VG_nil ⟨by rfl, ?_⟩
          | refine VG_nil ?_
          | refine dT ?_
          | refine d1 ?_
          | refine dQ ?_
          | refine ctr ?_
          | refine cfa ?_
          | refine kdec (fun hq => ?_) (fun hq => ?_)
          | refine gdec (fun hq => ?_) (fun hq => ?_)
          | refine cco (fun hq => ?_) (fun hq => ?_))
        exact same _ 7 hr2 rfl (Mem.le_refl _) (Res.one (by rfl) (ResV_tmp (by rfl) rfl))
      | false =>
        cases c2 : L[k].write with
        | true =>
          rw [c2] at k3
          rw [c1, c2] at hcl
          have hr2 : takeL N L th sl false = (7, L) := by unfold takeL; rw [if_neg hc0, if_pos (any_at hlt hcl)]
          repeat' (first
            | refine VC_seq ?_
            | refine VC_region ?_
            | refine VL_nil ?_
            | refine VC_ret ?_
            | refine VC_exit ?_
            | refine VC_block ?_
            | refine VC_skip ?_
            | refine kbox ?_
            | refine kall ?_
            | refine kst ?_
            | refine ksN ?_
            | refine klt ?_
            | refine kl1 ?_
            | refine klK ?_
            | refine kap ?_
            | ((first | apply VL_q | apply VG_q | apply VS_q2); (first | exact qni (by rfl) | exact QS_indexAddr k (by rfl) (by rfl) rfl hlt | exact QS_nload1 0 (by rfl) (by rfl) (by rfl) (by rfl) | exact QS_nload1 1 (by rfl) (by rfl) (by rfl) k2 | exact QS_nload1 1 (by rfl) (by rfl) (by rfl) k3 | exact qmv (by rfl) | exact qas (by rfl) | exact ql1 (by rfl) | exact qlA (by rfl) | exact qfa (by rfl) | exact qmf (by rfl) | exact qfd (by rfl) | exact qm1 (by rfl) | exact qbd (by rfl) | exact qno (by rfl) | exact qex (by rfl) | exact qln (by rfl) | exact qls (by rfl) | exact qlr (by rfl) | exact qpt (by rfl) | exact qpf (by rfl) | exact qcp (by rfl) | exact qbe (by rfl) | exact qbn (by rfl) | exact qsn (by rfl) | exact qad (by rfl) | exact qsa (by rfl) | exact qsu (by rfl) | exact QS_bin (by rfl) (by rfl) (by first | exact B_slnil | exact Bq_eql_Msg | exact Bq_neq_Msg | exact Bq_eql_Pair | exact Bq_neq_Pair | exact Bq_eql_Op | exact Bq_neq_Op | exact Bq_eql_Cfg | exact Bq_neq_Cfg)); rfl)
            | refine sst ?_
            | refine VS_nil ?_
            | refine eeq ?_
            | refine ees ?_ (by first | exact es1 (by rfl) | exact esN (by rfl))
            | refine VE_nil ?_
            | refine kyes ?_
            | refine kno ?_
            | refine gyes ?_
            | refine gno ?_
            | refine knoU ?_
            | refine gnoU ?_
            | refine VG_nil ⟨by rfl, ?_⟩
            | refine VG_nil ?_
            | refine dT ?_
            | refine d1 ?_
            | refine dQ ?_
            | refine ctr ?_
            | refine cfa ?_
            | refine kdec (fun hq => ?_) (fun hq => ?_)
            | refine gdec (fun hq => ?_) (fun hq => ?_)
            | refine cco (fun hq => ?_) (fun hq => ?_))
          exact same _ 7 hr2 rfl (Mem.le_refl _) (Res.one (by rfl) (ResV_tmp (by rfl) rfl))
        | false =>
          rw [c2] at k3
          rw [c1, c2] at hcl
          repeat' (first
            | refine VC_seq ?_
            | refine VC_region ?_
            | refine VL_nil ?_
            | refine VC_ret ?_
            | refine VC_exit ?_
            | refine VC_block ?_
            | refine VC_skip ?_
            | refine kbox ?_
            | refine kall ?_
            | refine kst ?_
            | refine ksN ?_
            | refine klt ?_
            | refine kl1 ?_
            | refine klK ?_
            | refine kap ?_
            | ((first | apply VL_q | apply VG_q | apply VS_q2); (first | exact qni (by rfl) | exact QS_indexAddr k (by rfl) (by rfl) rfl hlt | exact QS_nload1 0 (by rfl) (by rfl) (by rfl) (by rfl) | exact QS_nload1 1 (by rfl) (by rfl) (by rfl) k2 | exact QS_nload1 1 (by rfl) (by rfl) (by rfl) k3 | exact qmv (by rfl) | exact qas (by rfl) | exact ql1 (by rfl) | exact qlA (by rfl) | exact qfa (by rfl) | exact qmf (by rfl) | exact qfd (by rfl) | exact qm1 (by rfl) | exact qbd (by rfl) | exact qno (by rfl) | exact qex (by rfl) | exact qln (by rfl) | exact qls (by rfl) | exact qlr (by rfl) | exact qpt (by rfl) | exact qpf (by rfl) | exact qcp (by rfl) | exact qbe (by rfl) | exact qbn (by rfl) | exact qsn (by rfl) | exact qad (by rfl) | exact qsa (by rfl) | exact qsu (by rfl) | exact QS_bin (by rfl) (by rfl) (by first | exact B_slnil | exact Bq_eql_Msg | exact Bq_neq_Msg | exact Bq_eql_Pair | exact Bq_neq_Pair | exact Bq_eql_Op | exact Bq_neq_Op | exact Bq_eql_Cfg | exact Bq_neq_Cfg)); rfl)
            | refine sst ?_
            | refine VS_nil ?_
            | refine eeq ?_
            | refine ees ?_ (by first | exact es1 (by rfl) | exact esN (by rfl))
            | refine VE_nil ?_
            | refine kyes ?_
            | refine kno ?_
            | refine gyes ?_
            | refine gno ?_
            | refine knoU ?_
            | refine gnoU ?_
            | refine VG_nil ⟨by rfl, ?_⟩
            | refine VG_nil ?_
            | refine dT ?_
            | refine d1 ?_
            | refine dQ ?_
            | refine ctr ?_
            | refine cfa ?_
            | refine kdec (fun hq => ?_) (fun hq => ?_)
            | refine gdec (fun hq => ?_) (fun hq => ?_)
            | refine cco (fun hq => ?_) (fun hq => ?_))
          exact forQ_next (Q := fun _ _ => True) [0, 1] (k + 1) ⟨rfl, rfl, ⟨rfl, rfl, trivial⟩, ⟨rfl, rfl, rfl, rfl, rfl, trivial⟩⟩ ⟨by omega, any_step hlt hr hcl⟩ (by omega)
  · have hd := dge hge
    obtain rfl : k = L.length := by omega
    rw [List.take_length] at hr
    have hr2 : takeL N L th sl wr = (0, L ++ [⟨th, sl, wr⟩]) := by unfold takeL; rw [if_neg hc0, if_neg (by rw [hr]; simp)]
    have hlen : (L ++ [(⟨th, sl, wr⟩ : Hld)]).length = L.length + 1 := by rw [List.length_append]; rfl
    repeat' (first
      | refine VC_seq ?_
      | refine VC_region ?_
      | refine VL_nil ?_
      | refine VC_ret ?_
      | refine VC_exit ?_
      | refine VC_block ?_
      | refine VC_skip ?_
      | refine kbox ?_
      | refine kall ?_
      | refine kst ?_
      | refine ksN ?_
      | refine klt ?_
      | refine kl1 ?_
      | refine klK ?_
      | refine kap ?_
      | ((first | apply VL_q | apply VG_q | apply VS_q2); (first | exact qni (by rfl) | exact QS_nload1 0 (by rfl) (by rfl) (by rfl) (by rfl) | exact qmv (by rfl) | exact qas (by rfl) | exact ql1 (by rfl) | exact qlA (by rfl) | exact qfa (by rfl) | exact qmf (by rfl) | exact qfd (by rfl) | exact qm1 (by rfl) | exact qbd (by rfl) | exact qno (by rfl) | exact qex (by rfl) | exact qln (by rfl) | exact qls (by rfl) | exact qlr (by rfl) | exact qpt (by rfl) | exact qpf (by rfl) | exact qcp (by rfl) | exact qbe (by rfl) | exact qbn (by rfl) | exact qsn (by rfl) | exact qad (by rfl) | exact qsa (by rfl) | exact qsu (by rfl) | exact QS_bin (by rfl) (by rfl) (by first | exact B_slnil | exact Bq_eql_Msg | exact Bq_neq_Msg | exact Bq_eql_Pair | exact Bq_neq_Pair | exact Bq_eql_Op | exact Bq_neq_Op | exact Bq_eql_Cfg | exact Bq_neq_Cfg)); rfl)
      | refine sst ?_
      | refine VS_nil ?_
      | refine eeq ?_
      | refine ees ?_ (by first | exact es1 (by rfl) | exact esN (by rfl))
      | refine VE_nil ?_
      | refine kyes ?_
      | refine kno ?_
      | refine gyes ?_
      | refine gno ?_
      | refine knoU ?_
      | refine gnoU ?_
      | refine VG_nil ⟨by rfl, ?_⟩
      | refine VG_nil ?_
      | refine dT ?_
      | refine d1 ?_
      | refine dQ ?_
      | refine ctr ?_
      | refine cfa ?_
      | refine kdec (fun hq => ?_) (fun hq => ?_)
      | refine gdec (fun hq => ?_) (fun hq => ?_)
      | refine cco (fun hq => ?_) (fun hq => ?_))
    refine VL_unname 1 72 (by rfl) (by rfl) ?_
    repeat' (first
      | refine VC_seq ?_
      | refine VC_region ?_
      | refine VL_nil ?_
      | refine VC_ret ?_
      | refine VC_exit ?_
      | refine VC_block ?_
      | refine VC_skip ?_
      | refine kbox ?_
      | refine kall ?_
      | refine kst ?_
      | refine ksN ?_
      | refine klt ?_
      | refine kl1 ?_
      | refine klK ?_
      | refine kap ?_
      | ((first | apply VL_q | apply VG_q | apply VS_q2); (first  | exact qmv (by rfl) | exact qas (by rfl) | exact ql1 (by rfl) | exact qlA (by rfl) | exact qfa (by rfl) | exact qmf (by rfl) | exact qfd (by rfl) | exact qm1 (by rfl) | exact qbd (by rfl) | exact qno (by rfl) | exact qex (by rfl) | exact qln (by rfl) | exact qls (by rfl) | exact qlr (by rfl) | exact qpt (by rfl) | exact qpf (by rfl) | exact qcp (by rfl) | exact qbe (by rfl) | exact qbn (by rfl) | exact qsn (by rfl) | exact qad (by rfl) | exact qsa (by rfl) | exact qsu (by rfl) | exact QS_bin (by rfl) (by rfl) (by first | exact B_slnil | exact Bq_eql_Msg | exact Bq_neq_Msg | exact Bq_eql_Pair | exact Bq_neq_Pair | exact Bq_eql_Op | exact Bq_neq_Op | exact Bq_eql_Cfg | exact Bq_neq_Cfg)); rfl)
      | refine sst ?_
      | refine VS_nil ?_
      | refine eeq ?_
      | refine ees ?_ (by first | exact es1 (by rfl) | exact esN (by rfl))
      | refine VE_nil ?_
      | refine kyes ?_
      | refine kno ?_
      | refine gyes ?_
      | refine gno ?_
      | refine knoU ?_
      | refine gnoU ?_
      | refine VG_nil ⟨by rfl, ?_⟩
      | refine VG_nil ?_
      | refine dT ?_
      | refine d1 ?_
      | refine dQ ?_
      | refine ctr ?_
      | refine cfa ?_
      | refine kdec (fun hq => ?_) (fun hq => ?_)
      | refine gdec (fun hq => ?_) (fun hq => ?_)
      | refine cco (fun hq => ?_) (fun hq => ?_))
    refine VL_nameR 3 (by rfl) (fun v hv => ?_)
    have hvo := hv.one
    repeat' (first
      | refine knb 0 ?_ (hu := hvo)
      | refine VC_seq ?_
      | refine VC_region ?_
      | refine VL_nil ?_
      | refine VC_ret ?_
      | refine VC_exit ?_
      | refine VC_block ?_
      | refine VC_skip ?_
      | refine kbox ?_
      | refine kall ?_
      | refine kst ?_
      | refine ksN ?_
      | refine klt ?_
      | refine kl1 ?_
      | refine klK ?_
      | refine kap ?_
      | ((first | apply VL_q | apply VG_q | apply VS_q2); (first | exact qni (by rfl) | exact qmv (by rfl) | exact qas (by rfl) | exact ql1 (by rfl) | exact qlA (by rfl) | exact qfa (by rfl) | exact qmf (by rfl) | exact qfd (by rfl) | exact qm1 (by rfl) | exact qbd (by rfl) | exact qno (by rfl) | exact qex (by rfl) | exact qln (by rfl) | exact qls (by rfl) | exact qlr (by rfl) | exact qpt (by rfl) | exact qpf (by rfl) | exact qcp (by rfl) | exact qbe (by rfl) | exact qbn (by rfl) | exact qsn (by rfl) | exact qad (by rfl) | exact qsa (by rfl) | exact qsu (by rfl) | exact QS_bin (by rfl) (by rfl) (by first | exact B_slnil | exact Bq_eql_Msg | exact Bq_neq_Msg | exact Bq_eql_Pair | exact Bq_neq_Pair | exact Bq_eql_Op | exact Bq_neq_Op | exact Bq_eql_Cfg | exact Bq_neq_Cfg)); rfl)
      | refine sst ?_
      | refine VS_nil ?_
      | refine eeq ?_
      | refine ees ?_ (by first | exact es1 (by rfl) | exact esN (by rfl))
      | refine VE_nil ?_
      | refine kyes ?_
      | refine kno ?_
      | refine gyes ?_
      | refine gno ?_
      | refine knoU ?_
      | refine gnoU ?_
      | refine VG_nil ⟨by rfl, ?_⟩
      | refine VG_nil ?_
      | refine dT ?_
      | refine d1 ?_
      | refine dQ ?_
      | refine ctr ?_
      | refine cfa ?_
      | refine kdec (fun hq => ?_) (fun hq => ?_)
      | refine gdec (fun hq => ?_) (fun hq => ?_)
      | refine cco (fun hq => ?_) (fun hq => ?_))
    refine ⟨_, [0, 3], rfOb b N v (L ++ [⟨th, sl, wr⟩]), Res.one (by rfl) (ResV_tmp (by rfl) rfl), Mem.le_refl _, rfl, ⟨rfl, ?_, trivial⟩, by rw [hr2]; exact ⟨rfl, v, by rw [hlen]; exact hv, rfl⟩⟩
    show some (Ob.nrow v _ 3 (L.length + 1) (L.flatMap holdK ++ _)) = some (Ob.nrow v _ 3 (L ++ [_]).length ((L ++ [_]).flatMap holdK))
    rw [hlen, List.flatMap_append]; rfl
end Go.Proofs.Ytdgcdfngpimmmaa
