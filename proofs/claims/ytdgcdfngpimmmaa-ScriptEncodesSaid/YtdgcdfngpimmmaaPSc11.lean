/- The bytes of an operation and of an entry, and whether an entry may be: the walks of op.Bytes, script.body, script.Right. -/
import Derived.Test.YtdgcdfngpimmmaaPSc10
import Derived.Test.YtdgcdfngpimmmaaPSb
namespace Go.Proofs.Ytdgcdfngpimmmaa
open Go Go.RowKit
attribute [local irreducible] Calls takeT ofO textR
set_option linter.unusedVariables false
set_option maxRecDepth 20000
set_option linter.unusedSimpArgs false
set_option maxHeartbeats 4000000
theorem pack_Text (s : ByteArray) (w : World) (hs : s.size ≤ 1000000) : Calls Try.prog 85 #[.string s] w fun e w' => e = .returned (.tuple #[.string (if s.size ≤ 255 then textR s else em), .bool (decide (s.size ≤ 255))]) ∧ Below w.heap.size w w' := by
  by_cases h : s.size ≤ 255
  · have d : decide ((255 : Int) < (s.size : Int)) = false := decide_eq_false (by omega)
    rw [if_pos h, decide_eq_true h]
    have ht : textR s = (⟨#[b8 s.size]⟩ : ByteArray) ++ s := by unfold textR; rfl
    rw [ht]
    refine V_flat (args := [.string s]) (M := Mem.no) Try.func85 rfl Try.ntmps85 (by rfl) (Mem.no_le _) ?_
    repeat' (first
      | refine VC_seq ?_
      | refine VC_region ?_
      | refine VL_nil ?_
      | refine VC_ret ?_
      | refine VC_exit ?_
      | refine VC_block ?_
      | refine VC_skip ?_
      | refine kbox ?_
      | refine kall ?_
      | refine kst ?_
      | refine ksN ?_
      | refine klt ?_
      | refine kl1 ?_
      | refine klK ?_
      | refine kap ?_
      | ((first | apply VL_q | apply VG_q | apply VS_q2); (first | exact qi0 (by rfl) | exact qi1 (by rfl) | exact qwd (by rfl) | exact qnr (by rfl) | exact qni (by rfl) | exact qb1 (by rfl) | exact qsz (by rfl) | exact qmv (by rfl) | exact qas (by rfl) | exact ql1 (by rfl) | exact qlA (by rfl) | exact qfa (by rfl) | exact qmf (by rfl) | exact qfd (by rfl) | exact qm1 (by rfl) | exact qbd (by rfl) | exact qno (by rfl) | exact qex (by rfl) | exact qln (by rfl) | exact qls (by rfl) | exact qlr (by rfl) | exact qpt (by rfl) | exact qpf (by rfl) | exact qcp (by rfl) | exact qbe (by rfl) | exact qbn (by rfl) | exact qsn (by rfl) | exact qad (by rfl) | exact qsa (by rfl) | exact qsu (by rfl) | exact QS_bin (by rfl) (by rfl) (by first | exact B_slnil | exact Bq_eql_Pair | exact Bq_neq_Pair | exact Bq_eql_Op | exact Bq_neq_Op | exact Bq_eql_Cfg | exact Bq_neq_Cfg)); rfl)
      | refine sst ?_
      | refine VS_nil ?_
      | refine eeq ?_
      | refine ees ?_ (by first | exact es1 (by rfl) | exact esN (by rfl))
      | refine VE_nil ?_
      | refine kyes ?_
      | refine kno ?_
      | refine gyes ?_
      | refine gno ?_
      | refine knoU ?_
      | refine gnoU ?_
      | refine VG_nil ⟨by rfl, ?_⟩
      | refine VG_nil ?_
      | refine dT ?_
      | refine d1 ?_
      | refine dQ ?_
      | refine ctr ?_
      | refine cfa ?_
      | refine kdec (fun hq => ?_) (fun hq => ?_)
      | refine gdec (fun hq => ?_) (fun hq => ?_)
      | refine cco (fun hq => ?_) (fun hq => ?_))
    exact Res.two (by rfl) (ResV_tmp (by rfl) rfl) (ResV_tmp (by rfl) rfl)
  · have d : decide ((255 : Int) < (s.size : Int)) = true := decide_eq_true (by omega)
    rw [if_neg h, decide_eq_false h]
    refine V_flat (args := [.string s]) (M := Mem.no) Try.func85 rfl Try.ntmps85 (by rfl) (Mem.no_le _) ?_
    repeat' (first
      | refine VC_seq ?_
      | refine VC_region ?_
      | refine VL_nil ?_
      | refine VC_ret ?_
      | refine VC_exit ?_
      | refine VC_block ?_
      | refine VC_skip ?_
      | refine kbox ?_
      | refine kall ?_
      | refine kst ?_
      | refine ksN ?_
      | refine klt ?_
      | refine kl1 ?_
      | refine klK ?_
      | refine kap ?_
      | ((first | apply VL_q | apply VG_q | apply VS_q2); (first | exact qi0 (by rfl) | exact qi1 (by rfl) | exact qwd (by rfl) | exact qnr (by rfl) | exact qni (by rfl) | exact qmv (by rfl) | exact qas (by rfl) | exact ql1 (by rfl) | exact qlA (by rfl) | exact qfa (by rfl) | exact qmf (by rfl) | exact qfd (by rfl) | exact qm1 (by rfl) | exact qbd (by rfl) | exact qno (by rfl) | exact qex (by rfl) | exact qln (by rfl) | exact qls (by rfl) | exact qlr (by rfl) | exact qpt (by rfl) | exact qpf (by rfl) | exact qcp (by rfl) | exact qbe (by rfl) | exact qbn (by rfl) | exact qsn (by rfl) | exact qad (by rfl) | exact qsa (by rfl) | exact qsu (by rfl) | exact QS_bin (by rfl) (by rfl) (by first | exact B_slnil | exact Bq_eql_Pair | exact Bq_neq_Pair | exact Bq_eql_Op | exact Bq_neq_Op | exact Bq_eql_Cfg | exact Bq_neq_Cfg)); rfl)
      | refine sst ?_
      | refine VS_nil ?_
      | refine eeq ?_
      | refine ees ?_ (by first | exact es1 (by rfl) | exact esN (by rfl))
      | refine VE_nil ?_
      | refine kyes ?_
      | refine kno ?_
      | refine gyes ?_
      | refine gno ?_
      | refine knoU ?_
      | refine gnoU ?_
      | refine VG_nil ⟨by rfl, ?_⟩
      | refine VG_nil ?_
      | refine dT ?_
      | refine d1 ?_
      | refine dQ ?_
      | refine ctr ?_
      | refine cfa ?_
      | refine kdec (fun hq => ?_) (fun hq => ?_)
      | refine gdec (fun hq => ?_) (fun hq => ?_)
      | refine cco (fun hq => ?_) (fun hq => ?_))
    exact Res.two (by rfl) (ResV_tmp (by rfl) rfl) (ResV_tmp (by rfl) rfl)
theorem pack_TextS (s : ByteArray) (w : World) (hs : s.size ≤ 255) : Calls Try.prog 85 #[.string s] w fun e w' => e = .returned (.tuple #[.string (textR s), .bool true]) ∧ Below w.heap.size w w' := by
  have := pack_Text s w (by omega)
  rwa [if_pos hs, decide_eq_true hs] at this
theorem op_lay (b : Nat) (s acc : ByteArray) (M : Mem) (hs : s.size ≤ 255) (ha : acc.size ≤ 1000000) : CallX Try.prog 133 [.string s, sbP b] M [.nblk (sbP b) 9 [.string acc]] (fun v own' => v = .tuple #[] ∧ own' = [.nblk (sbP b) 9 [.string (acc ++ textR s)]]) := by
  refine V_x Try.func133 rfl Try.ntmps133 (by rfl) (fun w M0 => ?_)
  repeat' (first
    | refine knb 0 ?_
    | refine VC_seq ?_
    | refine VC_region ?_
    | refine VL_nil ?_
    | refine VC_ret ?_
    | refine VC_exit ?_
    | refine VC_block ?_
    | refine VC_skip ?_
    | refine kbox ?_
    | refine kall ?_
    | refine kst ?_
    | refine ksN ?_
    | refine klt ?_
    | refine kl1 ?_
    | refine klK ?_
    | refine kap ?_
    | ((first | apply VL_q | apply VG_q | apply VS_q2); (first | exact qi0 (by rfl) | exact qi1 (by rfl) | exact qwd (by rfl) | exact qnr (by rfl) | exact qni (by rfl) | exact QS_nload1 0 (by rfl) (by rfl) (by rfl) (by rfl) | exact QS_call (by rfl) (fun W _ => pack_TextS s W hs) | exact qsz (by rfl) | exact qmv (by rfl) | exact qas (by rfl) | exact ql1 (by rfl) | exact qlA (by rfl) | exact qfa (by rfl) | exact qmf (by rfl) | exact qfd (by rfl) | exact qm1 (by rfl) | exact qbd (by rfl) | exact qno (by rfl) | exact qex (by rfl) | exact qln (by rfl) | exact qls (by rfl) | exact qlr (by rfl) | exact qpt (by rfl) | exact qpf (by rfl) | exact qcp (by rfl) | exact qbe (by rfl) | exact qbn (by rfl) | exact qsn (by rfl) | exact qad (by rfl) | exact qsa (by rfl) | exact qsu (by rfl) | exact QS_bin (by rfl) (by rfl) (by first | exact B_slnil | exact Bq_eql_Pair | exact Bq_neq_Pair | exact Bq_eql_Op | exact Bq_neq_Op | exact Bq_eql_Cfg | exact Bq_neq_Cfg)); rfl)
    | refine sst ?_
    | refine VS_nil ?_
    | refine eeq ?_
    | refine ees ?_ (by first | exact es1 (by rfl) | exact esN (by rfl))
    | refine VE_nil ?_
    | refine kyes ?_
    | refine kno ?_
    | refine gyes ?_
    | refine gno ?_
    | refine knoU ?_
    | refine gnoU ?_
    | refine VG_nil ⟨by rfl, ?_⟩
    | refine VG_nil ?_
    | refine dT ?_
    | refine d1 ?_
    | refine dQ ?_
    | refine ctr ?_
    | refine cfa ?_
    | refine kdec (fun hq => ?_) (fun hq => ?_)
    | refine gdec (fun hq => ?_) (fun hq => ?_)
    | refine cco (fun hq => ?_) (fun hq => ?_))
  exact ⟨_, [0], [.nblk (sbP b) 9 [.string (acc ++ textR s)]], .inr (.inr (.inr ⟨by rfl, rfl⟩)), Mem.le_refl _, rfl, ⟨rfl, trivial⟩, rfl, rfl⟩
def bytesX (o : Op) : ByteArray := if rightO o = true then bytesO o else em
theorem op_Bytes (o : Op) (w : World) (hk : o.key.size ≤ 1000000) : Calls Try.prog 122 #[.agg #[.int .i64 o.kind, .string o.key, .string o.hi, .bool o.opn, .string o.val, .int .i64 o.limit]] w fun e w' => e = .returned (.tuple #[.string (bytesX o), .bool (rightO o)]) ∧ Below w.heap.size w w' := by
  have cR := fun W => op_RightB o W hk
  cases hr : rightO o with
  | false =>
    have cR2 := fun W => op_RightB o W hk _ hr
    have hx : bytesX o = em := by unfold bytesX; rw [hr]; rfl
    rw [hx]
    refine V_flat (args := [.agg #[.int .i64 o.kind, .string o.key, .string o.hi, .bool o.opn, .string o.val, .int .i64 o.limit]]) (M := Mem.no) Try.func122 rfl Try.ntmps122 (by rfl) (Mem.no_le _) ?_
    repeat' (first
      | refine VC_seq ?_
      | refine VC_region ?_
      | refine VL_nil ?_
      | refine VC_ret ?_
      | refine VC_exit ?_
      | refine VC_block ?_
      | refine VC_skip ?_
      | refine kbox ?_
      | refine kall ?_
      | refine kst ?_
      | refine ksN ?_
      | refine klt ?_
      | refine kl1 ?_
      | refine klK ?_
      | refine kap ?_
      | ((first | apply VL_q | apply VG_q | apply VS_q2); (first | exact qi0 (by rfl) | exact qi1 (by rfl) | exact qwd (by rfl) | exact qnr (by rfl) | exact qni (by rfl) | exact QS_call (by rfl) (fun W _ => cR2 W) | exact qmv (by rfl) | exact qas (by rfl) | exact ql1 (by rfl) | exact qlA (by rfl) | exact qfa (by rfl) | exact qmf (by rfl) | exact qfd (by rfl) | exact qm1 (by rfl) | exact qbd (by rfl) | exact qno (by rfl) | exact qex (by rfl) | exact qln (by rfl) | exact qls (by rfl) | exact qlr (by rfl) | exact qpt (by rfl) | exact qpf (by rfl) | exact qcp (by rfl) | exact qbe (by rfl) | exact qbn (by rfl) | exact qsn (by rfl) | exact qad (by rfl) | exact qsa (by rfl) | exact qsu (by rfl) | exact QS_bin (by rfl) (by rfl) (by first | exact B_slnil | exact Bq_eql_Pair | exact Bq_neq_Pair | exact Bq_eql_Op | exact Bq_neq_Op | exact Bq_eql_Cfg | exact Bq_neq_Cfg)); rfl)
      | refine sst ?_
      | refine VS_nil ?_
      | refine eeq ?_
      | refine ees ?_ (by first | exact es1 (by rfl) | exact esN (by rfl))
      | refine VE_nil ?_
      | refine kyes ?_
      | refine kno ?_
      | refine gyes ?_
      | refine gno ?_
      | refine knoU ?_
      | refine gnoU ?_
      | refine VG_nil ⟨by rfl, ?_⟩
      | refine VG_nil ?_
      | refine dT ?_
      | refine d1 ?_
      | refine dQ ?_
      | refine ctr ?_
      | refine cfa ?_
      | refine kdec (fun hq => ?_) (fun hq => ?_)
      | refine gdec (fun hq => ?_) (fun hq => ?_)
      | refine cco (fun hq => ?_) (fun hq => ?_))
    exact Res.two (by rfl) (ResV_tmp (by rfl) rfl) (ResV_tmp (by rfl) rfl)
  | true =>
    have cR2 := fun W => op_RightB o W hk _ hr
    have hx : bytesX o = bytesO o := by unfold bytesX; rw [hr]; rfl
    rw [hx]
    obtain ⟨z1, z2, z3, k1, k6⟩ := rightO_small hr
    have cV := fun W => op_valued o W
    have cG := fun W => op_ranged o W
    obtain ⟨kind, key, hi, opn, val, limit⟩ := o
    dsimp only at *
    cases hv : valuedO ⟨kind, key, hi, opn, val, limit⟩ with
    | true =>
      have hkk : kind = 1 ∨ kind = 2 := by
        unfold valuedO at hv
        simpa using hv
      have hg : rangedO ⟨kind, key, hi, opn, val, limit⟩ = false := by
        unfold rangedO
        rcases hkk with h | h <;> rw [h] <;> rfl
      have h6 : (kind == 6) = false := by rcases hkk with h | h <;> rw [h] <;> rfl
      rw [hv] at cV
      rw [hg] at cG
      refine V_flat (args := [.agg #[.int .i64 kind, .string key, .string hi, .bool opn, .string val, .int .i64 limit]]) (M := Mem.no) Try.func122 rfl Try.ntmps122 (by rfl) (Mem.no_le _) ?_
      repeat' (first
        | refine VC_seq ?_
        | refine VC_region ?_
        | refine VL_nil ?_
        | refine VC_ret ?_
        | refine VC_exit ?_
        | refine VC_block ?_
        | refine VC_skip ?_
        | refine kbox ?_
        | refine kall ?_
        | refine kst ?_
        | refine ksN ?_
        | refine klt ?_
        | refine kl1 ?_
        | refine klK ?_
        | refine kap ?_
        | ((first | apply VL_q | apply VG_q | apply VS_q2); (first | exact qi0 (by rfl) | exact qi1 (by rfl) | exact qwd (by rfl) | exact qnr (by rfl) | exact qni (by rfl) | exact QS_call (by rfl) (fun W _ => cR2 W) | exact qb1 (by rfl) | exact qmv (by rfl) | exact qas (by rfl) | exact ql1 (by rfl) | exact qlA (by rfl) | exact qfa (by rfl) | exact qmf (by rfl) | exact qfd (by rfl) | exact qm1 (by rfl) | exact qbd (by rfl) | exact qno (by rfl) | exact qex (by rfl) | exact qln (by rfl) | exact qls (by rfl) | exact qlr (by rfl) | exact qpt (by rfl) | exact qpf (by rfl) | exact qcp (by rfl) | exact qbe (by rfl) | exact qbn (by rfl) | exact qsn (by rfl) | exact qad (by rfl) | exact qsa (by rfl) | exact qsu (by rfl) | exact QS_bin (by rfl) (by rfl) (by first | exact B_slnil | exact Bq_eql_Pair | exact Bq_neq_Pair | exact Bq_eql_Op | exact Bq_neq_Op | exact Bq_eql_Cfg | exact Bq_neq_Cfg)); rfl)
        | refine sst ?_
        | refine VS_nil ?_
        | refine eeq ?_
        | refine ees ?_ (by first | exact es1 (by rfl) | exact esN (by rfl))
        | refine VE_nil ?_
        | refine kyes ?_
        | refine kno ?_
        | refine gyes ?_
        | refine gno ?_
        | refine knoU ?_
        | refine gnoU ?_
        | refine VG_nil ⟨by rfl, ?_⟩
        | refine VG_nil ?_
        | refine dT ?_
        | refine d1 ?_
        | refine dQ ?_
        | refine ctr ?_
        | refine cfa ?_
        | refine kdec (fun hq => ?_) (fun hq => ?_)
        | refine gdec (fun hq => ?_) (fun hq => ?_)
        | refine cco (fun hq => ?_) (fun hq => ?_))
      refine VL_nameB 2 (by rfl) (fun b => ?_)
      repeat' (first
        | refine VC_seq ?_
        | refine VC_region ?_
        | refine VL_nil ?_
        | refine VC_ret ?_
        | refine VC_exit ?_
        | refine VC_block ?_
        | refine VC_skip ?_
        | refine kbox ?_
        | refine kall ?_
        | refine kst ?_
        | refine ksN ?_
        | refine klt ?_
        | refine kl1 ?_
        | refine klK ?_
        | refine kap ?_
        | ((first | apply VL_q | apply VG_q | apply VS_q2); (first | exact qi0 (by rfl) | exact qi1 (by rfl) | exact qwd (by rfl) | exact qnr (by rfl) | exact qni (by rfl) | exact QS_mkf (by rfl) | exact qmv (by rfl) | exact qas (by rfl) | exact ql1 (by rfl) | exact qlA (by rfl) | exact qfa (by rfl) | exact qmf (by rfl) | exact qfd (by rfl) | exact qm1 (by rfl) | exact qbd (by rfl) | exact qno (by rfl) | exact qex (by rfl) | exact qln (by rfl) | exact qls (by rfl) | exact qlr (by rfl) | exact qpt (by rfl) | exact qpf (by rfl) | exact qcp (by rfl) | exact qbe (by rfl) | exact qbn (by rfl) | exact qsn (by rfl) | exact qad (by rfl) | exact qsa (by rfl) | exact qsu (by rfl) | exact QS_bin (by rfl) (by rfl) (by first | exact B_slnil | exact Bq_eql_Pair | exact Bq_neq_Pair | exact Bq_eql_Op | exact Bq_neq_Op | exact Bq_eql_Cfg | exact Bq_neq_Cfg)); rfl)
        | refine sst ?_
        | refine VS_nil ?_
        | refine eeq ?_
        | refine ees ?_ (by first | exact es1 (by rfl) | exact esN (by rfl))
        | refine VE_nil ?_
        | refine kyes ?_
        | refine kno ?_
        | refine gyes ?_
        | refine gno ?_
        | refine knoU ?_
        | refine gnoU ?_
        | refine VG_nil ⟨by rfl, ?_⟩
        | refine VG_nil ?_
        | refine dT ?_
        | refine d1 ?_
        | refine dQ ?_
        | refine ctr ?_
        | refine cfa ?_
        | refine kdec (fun hq => ?_) (fun hq => ?_)
        | refine gdec (fun hq => ?_) (fun hq => ?_)
        | refine cco (fun hq => ?_) (fun hq => ?_))
      refine VL_callXV (own1 := [.nblk (sbP b) 9 [.string ((⟨#[b8 kind]⟩ : ByteArray))]]) [2] (by rfl) (by rfl) (by rfl) ⟨rfl, trivial⟩ (fun M' _ => op_lay b key ((⟨#[b8 kind]⟩ : ByteArray)) M' (by omega) (by simp only [size_app, size_textR, sz1]; omega)) (by rfl) (by rfl) ?_
      rintro _ _ ⟨rfl, rfl⟩
      refine VL_sub [0, 3] ⟨_, [.blk 30 [.int .i64 kind, .string key, .string hi, .bool opn, .string val, .int .i64 limit], .nblk (sbP b) 9 [.string ((⟨#[b8 kind]⟩ : ByteArray) ++ textR key)]], [(1, .p 0 0), (4, .v (sbP b)), (5, .v (.func (.func 133) #[] #[sbP b]))]⟩ ⟨rfl, rfl, ⟨rfl, rfl, trivial⟩, ⟨rfl, rfl, rfl, trivial⟩⟩ ?_
      repeat' (first
        | refine knb 1 ?_
        | refine VC_seq ?_
        | refine VC_region ?_
        | refine VL_nil ?_
        | refine VC_ret ?_
        | refine VC_exit ?_
        | refine VC_block ?_
        | refine VC_skip ?_
        | refine kbox ?_
        | refine kall ?_
        | refine kst ?_
        | refine ksN ?_
        | refine klt ?_
        | refine kl1 ?_
        | refine klK ?_
        | refine kap ?_
        | ((first | apply VL_q | apply VG_q | apply VS_q2); (first | exact qi0 (by rfl) | exact qi1 (by rfl) | exact qwd (by rfl) | exact qnr (by rfl) | exact qni (by rfl) | exact QS_nload1 1 (by rfl) (by rfl) (by rfl) (by rfl) | exact QS_call (by rfl) (fun W _ => cR2 W) | exact QS_call (by rfl) (fun W _ => cV W) | exact QS_call (by rfl) (fun W _ => cG W) | exact qb1 (by rfl) | exact qsz (by rfl) | exact qmv (by rfl) | exact qas (by rfl) | exact ql1 (by rfl) | exact qlA (by rfl) | exact qfa (by rfl) | exact qmf (by rfl) | exact qfd (by rfl) | exact qm1 (by rfl) | exact qbd (by rfl) | exact qno (by rfl) | exact qex (by rfl) | exact qln (by rfl) | exact qls (by rfl) | exact qlr (by rfl) | exact qpt (by rfl) | exact qpf (by rfl) | exact qcp (by rfl) | exact qbe (by rfl) | exact qbn (by rfl) | exact qsn (by rfl) | exact qad (by rfl) | exact qsa (by rfl) | exact qsu (by rfl) | exact QS_bin (by rfl) (by rfl) (by first | exact B_slnil | exact Bq_eql_Pair | exact Bq_neq_Pair | exact Bq_eql_Op | exact Bq_neq_Op | exact Bq_eql_Cfg | exact Bq_neq_Cfg)); rfl)
        | refine sst ?_
        | refine VS_nil ?_
        | refine eeq ?_
        | refine ees ?_ (by first | exact es1 (by rfl) | exact esN (by rfl))
        | refine VE_nil ?_
        | refine kyes ?_
        | refine kno ?_
        | refine gyes ?_
        | refine gno ?_
        | refine knoU ?_
        | refine gnoU ?_
        | refine VG_nil ⟨by rfl, ?_⟩
        | refine VG_nil ?_
        | refine dT ?_
        | refine d1 ?_
        | refine dQ ?_
        | refine ctr ?_
        | refine cfa ?_
        | refine kdec (fun hq => ?_) (fun hq => ?_)
        | refine gdec (fun hq => ?_) (fun hq => ?_)
        | refine cco (fun hq => ?_) (fun hq => ?_))
      refine VL_callXV (own1 := [.nblk (sbP b) 9 [.string ((⟨#[b8 kind]⟩ : ByteArray) ++ textR key)]]) [1] (by rfl) (by rfl) (by rfl) ⟨rfl, trivial⟩ (fun M' _ => op_lay b val ((⟨#[b8 kind]⟩ : ByteArray) ++ textR key) M' (by omega) (by simp only [size_app, size_textR, sz1]; omega)) (by rfl) (by rfl) ?_
      rintro _ _ ⟨rfl, rfl⟩
      refine VL_sub [0, 2] ⟨_, [.blk 30 [.int .i64 kind, .string key, .string hi, .bool opn, .string val, .int .i64 limit], .nblk (sbP b) 9 [.string ((⟨#[b8 kind]⟩ : ByteArray) ++ textR key ++ textR val)]], [(1, .p 0 0), (4, .v (sbP b)), (5, .v (.func (.func 133) #[] #[sbP b]))]⟩ ⟨rfl, rfl, ⟨rfl, rfl, trivial⟩, ⟨rfl, rfl, rfl, trivial⟩⟩ ?_
      repeat' (first
        | refine knb 1 ?_
        | refine VC_seq ?_
        | refine VC_region ?_
        | refine VL_nil ?_
        | refine VC_ret ?_
        | refine VC_exit ?_
        | refine VC_block ?_
        | refine VC_skip ?_
        | refine kbox ?_
        | refine kall ?_
        | refine kst ?_
        | refine ksN ?_
        | refine klt ?_
        | refine kl1 ?_
        | refine klK ?_
        | refine kap ?_
        | ((first | apply VL_q | apply VG_q | apply VS_q2); (first | exact qi0 (by rfl) | exact qi1 (by rfl) | exact qwd (by rfl) | exact qnr (by rfl) | exact qni (by rfl) | exact QS_nload1 1 (by rfl) (by rfl) (by rfl) (by rfl) | exact QS_call (by rfl) (fun W _ => cR2 W) | exact QS_call (by rfl) (fun W _ => cV W) | exact QS_call (by rfl) (fun W _ => cG W) | exact qb1 (by rfl) | exact qsz (by rfl) | exact qmv (by rfl) | exact qas (by rfl) | exact ql1 (by rfl) | exact qlA (by rfl) | exact qfa (by rfl) | exact qmf (by rfl) | exact qfd (by rfl) | exact qm1 (by rfl) | exact qbd (by rfl) | exact qno (by rfl) | exact qex (by rfl) | exact qln (by rfl) | exact qls (by rfl) | exact qlr (by rfl) | exact qpt (by rfl) | exact qpf (by rfl) | exact qcp (by rfl) | exact qbe (by rfl) | exact qbn (by rfl) | exact qsn (by rfl) | exact qad (by rfl) | exact qsa (by rfl) | exact qsu (by rfl) | exact QS_bin (by rfl) (by rfl) (by first | exact B_slnil | exact Bq_eql_Pair | exact Bq_neq_Pair | exact Bq_eql_Op | exact Bq_neq_Op | exact Bq_eql_Cfg | exact Bq_neq_Cfg)); rfl)
        | refine sst ?_
        | refine VS_nil ?_
        | refine eeq ?_
        | refine ees ?_ (by first | exact es1 (by rfl) | exact esN (by rfl))
        | refine VE_nil ?_
        | refine kyes ?_
        | refine kno ?_
        | refine gyes ?_
        | refine gno ?_
        | refine knoU ?_
        | refine gnoU ?_
        | refine VG_nil ⟨by rfl, ?_⟩
        | refine VG_nil ?_
        | refine dT ?_
        | refine d1 ?_
        | refine dQ ?_
        | refine ctr ?_
        | refine cfa ?_
        | refine kdec (fun hq => ?_) (fun hq => ?_)
        | refine gdec (fun hq => ?_) (fun hq => ?_)
        | refine cco (fun hq => ?_) (fun hq => ?_))
      all_goals
        refine Res.two (by rfl) (ResV_tmp (by rfl) ?_) (ResV_tmp (by rfl) rfl)
        refine congrArg Value.string ?_
        unfold bytesO
        rw [hg]
        dsimp only
        rw [if_neg (show ¬ kind = 6 by omega), if_neg (show ¬ (false = true) by simp), if_pos (show kind ≤ 2 by omega)]
    | false =>
      have hkk : ¬ kind ≤ 2 := by
        unfold valuedO at hv
        simp only [Bool.or_eq_false_iff, beq_eq_false_iff_ne] at hv
        omega
      rw [hv] at cV
      cases hg : rangedO ⟨kind, key, hi, opn, val, limit⟩ with
      | false =>
        have hk6 : ¬ kind = 6 := fun e => by rw [e] at hg; exact absurd hg (by unfold rangedO; simp)
        have h6 : (kind == 6) = false := by simp [hk6]
        rw [hg] at cG
        refine V_flat (args := [.agg #[.int .i64 kind, .string key, .string hi, .bool opn, .string val, .int .i64 limit]]) (M := Mem.no) Try.func122 rfl Try.ntmps122 (by rfl) (Mem.no_le _) ?_
        repeat' (first
          | refine VC_seq ?_
          | refine VC_region ?_
          | refine VL_nil ?_
          | refine VC_ret ?_
          | refine VC_exit ?_
          | refine VC_block ?_
          | refine VC_skip ?_
          | refine kbox ?_
          | refine kall ?_
          | refine kst ?_
          | refine ksN ?_
          | refine klt ?_
          | refine kl1 ?_
          | refine klK ?_
          | refine kap ?_
          | ((first | apply VL_q | apply VG_q | apply VS_q2); (first | exact qi0 (by rfl) | exact qi1 (by rfl) | exact qwd (by rfl) | exact qnr (by rfl) | exact qni (by rfl) | exact QS_call (by rfl) (fun W _ => cR2 W) | exact qb1 (by rfl) | exact qmv (by rfl) | exact qas (by rfl) | exact ql1 (by rfl) | exact qlA (by rfl) | exact qfa (by rfl) | exact qmf (by rfl) | exact qfd (by rfl) | exact qm1 (by rfl) | exact qbd (by rfl) | exact qno (by rfl) | exact qex (by rfl) | exact qln (by rfl) | exact qls (by rfl) | exact qlr (by rfl) | exact qpt (by rfl) | exact qpf (by rfl) | exact qcp (by rfl) | exact qbe (by rfl) | exact qbn (by rfl) | exact qsn (by rfl) | exact qad (by rfl) | exact qsa (by rfl) | exact qsu (by rfl) | exact QS_bin (by rfl) (by rfl) (by first | exact B_slnil | exact Bq_eql_Pair | exact Bq_neq_Pair | exact Bq_eql_Op | exact Bq_neq_Op | exact Bq_eql_Cfg | exact Bq_neq_Cfg)); rfl)
          | refine sst ?_
          | refine VS_nil ?_
          | refine eeq ?_
          | refine ees ?_ (by first | exact es1 (by rfl) | exact esN (by rfl))
          | refine VE_nil ?_
          | refine kyes ?_
          | refine kno ?_
          | refine gyes ?_
          | refine gno ?_
          | refine knoU ?_
          | refine gnoU ?_
          | refine VG_nil ⟨by rfl, ?_⟩
          | refine VG_nil ?_
          | refine dT ?_
          | refine d1 ?_
          | refine dQ ?_
          | refine ctr ?_
          | refine cfa ?_
          | refine kdec (fun hq => ?_) (fun hq => ?_)
          | refine gdec (fun hq => ?_) (fun hq => ?_)
          | refine cco (fun hq => ?_) (fun hq => ?_))
        refine VL_nameB 2 (by rfl) (fun b => ?_)
        repeat' (first
          | refine VC_seq ?_
          | refine VC_region ?_
          | refine VL_nil ?_
          | refine VC_ret ?_
          | refine VC_exit ?_
          | refine VC_block ?_
          | refine VC_skip ?_
          | refine kbox ?_
          | refine kall ?_
          | refine kst ?_
          | refine ksN ?_
          | refine klt ?_
          | refine kl1 ?_
          | refine klK ?_
          | refine kap ?_
          | ((first | apply VL_q | apply VG_q | apply VS_q2); (first | exact qi0 (by rfl) | exact qi1 (by rfl) | exact qwd (by rfl) | exact qnr (by rfl) | exact qni (by rfl) | exact QS_mkf (by rfl) | exact qmv (by rfl) | exact qas (by rfl) | exact ql1 (by rfl) | exact qlA (by rfl) | exact qfa (by rfl) | exact qmf (by rfl) | exact qfd (by rfl) | exact qm1 (by rfl) | exact qbd (by rfl) | exact qno (by rfl) | exact qex (by rfl) | exact qln (by rfl) | exact qls (by rfl) | exact qlr (by rfl) | exact qpt (by rfl) | exact qpf (by rfl) | exact qcp (by rfl) | exact qbe (by rfl) | exact qbn (by rfl) | exact qsn (by rfl) | exact qad (by rfl) | exact qsa (by rfl) | exact qsu (by rfl) | exact QS_bin (by rfl) (by rfl) (by first | exact B_slnil | exact Bq_eql_Pair | exact Bq_neq_Pair | exact Bq_eql_Op | exact Bq_neq_Op | exact Bq_eql_Cfg | exact Bq_neq_Cfg)); rfl)
          | refine sst ?_
          | refine VS_nil ?_
          | refine eeq ?_
          | refine ees ?_ (by first | exact es1 (by rfl) | exact esN (by rfl))
          | refine VE_nil ?_
          | refine kyes ?_
          | refine kno ?_
          | refine gyes ?_
          | refine gno ?_
          | refine knoU ?_
          | refine gnoU ?_
          | refine VG_nil ⟨by rfl, ?_⟩
          | refine VG_nil ?_
          | refine dT ?_
          | refine d1 ?_
          | refine dQ ?_
          | refine ctr ?_
          | refine cfa ?_
          | refine kdec (fun hq => ?_) (fun hq => ?_)
          | refine gdec (fun hq => ?_) (fun hq => ?_)
          | refine cco (fun hq => ?_) (fun hq => ?_))
        refine VL_callXV (own1 := [.nblk (sbP b) 9 [.string ((⟨#[b8 kind]⟩ : ByteArray))]]) [2] (by rfl) (by rfl) (by rfl) ⟨rfl, trivial⟩ (fun M' _ => op_lay b key ((⟨#[b8 kind]⟩ : ByteArray)) M' (by omega) (by simp only [size_app, size_textR, sz1]; omega)) (by rfl) (by rfl) ?_
        rintro _ _ ⟨rfl, rfl⟩
        refine VL_sub [0, 3] ⟨_, [.blk 30 [.int .i64 kind, .string key, .string hi, .bool opn, .string val, .int .i64 limit], .nblk (sbP b) 9 [.string ((⟨#[b8 kind]⟩ : ByteArray) ++ textR key)]], [(1, .p 0 0), (4, .v (sbP b)), (5, .v (.func (.func 133) #[] #[sbP b]))]⟩ ⟨rfl, rfl, ⟨rfl, rfl, trivial⟩, ⟨rfl, rfl, rfl, trivial⟩⟩ ?_
        repeat' (first
          | refine knb 1 ?_
          | refine VC_seq ?_
          | refine VC_region ?_
          | refine VL_nil ?_
          | refine VC_ret ?_
          | refine VC_exit ?_
          | refine VC_block ?_
          | refine VC_skip ?_
          | refine kbox ?_
          | refine kall ?_
          | refine kst ?_
          | refine ksN ?_
          | refine klt ?_
          | refine kl1 ?_
          | refine klK ?_
          | refine kap ?_
          | ((first | apply VL_q | apply VG_q | apply VS_q2); (first | exact qi0 (by rfl) | exact qi1 (by rfl) | exact qwd (by rfl) | exact qnr (by rfl) | exact qni (by rfl) | exact QS_nload1 1 (by rfl) (by rfl) (by rfl) (by rfl) | exact QS_call (by rfl) (fun W _ => cR2 W) | exact QS_call (by rfl) (fun W _ => cV W) | exact QS_call (by rfl) (fun W _ => cG W) | exact qb1 (by rfl) | exact qsz (by rfl) | exact qmv (by rfl) | exact qas (by rfl) | exact ql1 (by rfl) | exact qlA (by rfl) | exact qfa (by rfl) | exact qmf (by rfl) | exact qfd (by rfl) | exact qm1 (by rfl) | exact qbd (by rfl) | exact qno (by rfl) | exact qex (by rfl) | exact qln (by rfl) | exact qls (by rfl) | exact qlr (by rfl) | exact qpt (by rfl) | exact qpf (by rfl) | exact qcp (by rfl) | exact qbe (by rfl) | exact qbn (by rfl) | exact qsn (by rfl) | exact qad (by rfl) | exact qsa (by rfl) | exact qsu (by rfl) | exact QS_bin (by rfl) (by rfl) (by first | exact B_slnil | exact Bq_eql_Pair | exact Bq_neq_Pair | exact Bq_eql_Op | exact Bq_neq_Op | exact Bq_eql_Cfg | exact Bq_neq_Cfg)); rfl)
          | refine sst ?_
          | refine VS_nil ?_
          | refine eeq ?_
          | refine ees ?_ (by first | exact es1 (by rfl) | exact esN (by rfl))
          | refine VE_nil ?_
          | refine kyes ?_
          | refine kno ?_
          | refine gyes ?_
          | refine gno ?_
          | refine knoU ?_
          | refine gnoU ?_
          | refine VG_nil ⟨by rfl, ?_⟩
          | refine VG_nil ?_
          | refine dT ?_
          | refine d1 ?_
          | refine dQ ?_
          | refine ctr ?_
          | refine cfa ?_
          | refine kdec (fun hq => ?_) (fun hq => ?_)
          | refine gdec (fun hq => ?_) (fun hq => ?_)
          | refine cco (fun hq => ?_) (fun hq => ?_))
        all_goals
          refine Res.two (by rfl) (ResV_tmp (by rfl) ?_) (ResV_tmp (by rfl) rfl)
          refine congrArg Value.string ?_
          unfold bytesO
          rw [hg]
          dsimp only
          rw [if_neg hk6, if_neg (show ¬ (false = true) by simp), if_neg hkk]
      | true =>
        rw [hg] at cG
        cases opn with
        | true =>
          cases h6 : (kind == 6) with
          | true =>
            have hk6 : kind = 6 := by simpa using h6
            refine V_flat (args := [.agg #[.int .i64 kind, .string key, .string hi, .bool true, .string val, .int .i64 limit]]) (M := Mem.no) Try.func122 rfl Try.ntmps122 (by rfl) (Mem.no_le _) ?_
            repeat' (first
              | refine VC_seq ?_
              | refine VC_region ?_
              | refine VL_nil ?_
              | refine VC_ret ?_
              | refine VC_exit ?_
              | refine VC_block ?_
              | refine VC_skip ?_
              | refine kbox ?_
              | refine kall ?_
              | refine kst ?_
              | refine ksN ?_
              | refine klt ?_
              | refine kl1 ?_
              | refine klK ?_
              | refine kap ?_
              | ((first | apply VL_q | apply VG_q | apply VS_q2); (first | exact qi0 (by rfl) | exact qi1 (by rfl) | exact qwd (by rfl) | exact qnr (by rfl) | exact qni (by rfl) | exact QS_call (by rfl) (fun W _ => cR2 W) | exact qb1 (by rfl) | exact qmv (by rfl) | exact qas (by rfl) | exact ql1 (by rfl) | exact qlA (by rfl) | exact qfa (by rfl) | exact qmf (by rfl) | exact qfd (by rfl) | exact qm1 (by rfl) | exact qbd (by rfl) | exact qno (by rfl) | exact qex (by rfl) | exact qln (by rfl) | exact qls (by rfl) | exact qlr (by rfl) | exact qpt (by rfl) | exact qpf (by rfl) | exact qcp (by rfl) | exact qbe (by rfl) | exact qbn (by rfl) | exact qsn (by rfl) | exact qad (by rfl) | exact qsa (by rfl) | exact qsu (by rfl) | exact QS_bin (by rfl) (by rfl) (by first | exact B_slnil | exact Bq_eql_Pair | exact Bq_neq_Pair | exact Bq_eql_Op | exact Bq_neq_Op | exact Bq_eql_Cfg | exact Bq_neq_Cfg)); rfl)
              | refine sst ?_
              | refine VS_nil ?_
              | refine eeq ?_
              | refine ees ?_ (by first | exact es1 (by rfl) | exact esN (by rfl))
              | refine VE_nil ?_
              | refine kyes ?_
              | refine kno ?_
              | refine gyes ?_
              | refine gno ?_
              | refine knoU ?_
              | refine gnoU ?_
              | refine VG_nil ⟨by rfl, ?_⟩
              | refine VG_nil ?_
              | refine dT ?_
              | refine d1 ?_
              | refine dQ ?_
              | refine ctr ?_
              | refine cfa ?_
              | refine kdec (fun hq => ?_) (fun hq => ?_)
              | refine gdec (fun hq => ?_) (fun hq => ?_)
              | refine cco (fun hq => ?_) (fun hq => ?_))
            refine VL_nameB 2 (by rfl) (fun b => ?_)
            repeat' (first
              | refine VC_seq ?_
              | refine VC_region ?_
              | refine VL_nil ?_
              | refine VC_ret ?_
              | refine VC_exit ?_
              | refine VC_block ?_
              | refine VC_skip ?_
              | refine kbox ?_
              | refine kall ?_
              | refine kst ?_
              | refine ksN ?_
              | refine klt ?_
              | refine kl1 ?_
              | refine klK ?_
              | refine kap ?_
              | ((first | apply VL_q | apply VG_q | apply VS_q2); (first | exact qi0 (by rfl) | exact qi1 (by rfl) | exact qwd (by rfl) | exact qnr (by rfl) | exact qni (by rfl) | exact QS_mkf (by rfl) | exact qmv (by rfl) | exact qas (by rfl) | exact ql1 (by rfl) | exact qlA (by rfl) | exact qfa (by rfl) | exact qmf (by rfl) | exact qfd (by rfl) | exact qm1 (by rfl) | exact qbd (by rfl) | exact qno (by rfl) | exact qex (by rfl) | exact qln (by rfl) | exact qls (by rfl) | exact qlr (by rfl) | exact qpt (by rfl) | exact qpf (by rfl) | exact qcp (by rfl) | exact qbe (by rfl) | exact qbn (by rfl) | exact qsn (by rfl) | exact qad (by rfl) | exact qsa (by rfl) | exact qsu (by rfl) | exact QS_bin (by rfl) (by rfl) (by first | exact B_slnil | exact Bq_eql_Pair | exact Bq_neq_Pair | exact Bq_eql_Op | exact Bq_neq_Op | exact Bq_eql_Cfg | exact Bq_neq_Cfg)); rfl)
              | refine sst ?_
              | refine VS_nil ?_
              | refine eeq ?_
              | refine ees ?_ (by first | exact es1 (by rfl) | exact esN (by rfl))
              | refine VE_nil ?_
              | refine kyes ?_
              | refine kno ?_
              | refine gyes ?_
              | refine gno ?_
              | refine knoU ?_
              | refine gnoU ?_
              | refine VG_nil ⟨by rfl, ?_⟩
              | refine VG_nil ?_
              | refine dT ?_
              | refine d1 ?_
              | refine dQ ?_
              | refine ctr ?_
              | refine cfa ?_
              | refine kdec (fun hq => ?_) (fun hq => ?_)
              | refine gdec (fun hq => ?_) (fun hq => ?_)
              | refine cco (fun hq => ?_) (fun hq => ?_))
            refine VL_callXV (own1 := [.nblk (sbP b) 9 [.string ((⟨#[b8 kind]⟩ : ByteArray))]]) [2] (by rfl) (by rfl) (by rfl) ⟨rfl, trivial⟩ (fun M' _ => op_lay b key ((⟨#[b8 kind]⟩ : ByteArray)) M' (by omega) (by simp only [size_app, size_textR, sz1]; omega)) (by rfl) (by rfl) ?_
            rintro _ _ ⟨rfl, rfl⟩
            refine VL_sub [0, 3] ⟨_, [.blk 30 [.int .i64 kind, .string key, .string hi, .bool true, .string val, .int .i64 limit], .nblk (sbP b) 9 [.string ((⟨#[b8 kind]⟩ : ByteArray) ++ textR key)]], [(1, .p 0 0), (4, .v (sbP b)), (5, .v (.func (.func 133) #[] #[sbP b]))]⟩ ⟨rfl, rfl, ⟨rfl, rfl, trivial⟩, ⟨rfl, rfl, rfl, trivial⟩⟩ ?_
            repeat' (first
              | refine knb 1 ?_
              | refine VC_seq ?_
              | refine VC_region ?_
              | refine VL_nil ?_
              | refine VC_ret ?_
              | refine VC_exit ?_
              | refine VC_block ?_
              | refine VC_skip ?_
              | refine kbox ?_
              | refine kall ?_
              | refine kst ?_
              | refine ksN ?_
              | refine klt ?_
              | refine kl1 ?_
              | refine klK ?_
              | refine kap ?_
              | ((first | apply VL_q | apply VG_q | apply VS_q2); (first | exact qi0 (by rfl) | exact qi1 (by rfl) | exact qwd (by rfl) | exact qnr (by rfl) | exact qni (by rfl) | exact QS_nload1 1 (by rfl) (by rfl) (by rfl) (by rfl) | exact QS_call (by rfl) (fun W _ => cR2 W) | exact QS_call (by rfl) (fun W _ => cV W) | exact QS_call (by rfl) (fun W _ => cG W) | exact qb1 (by rfl) | exact qsz (by rfl) | exact qmv (by rfl) | exact qas (by rfl) | exact ql1 (by rfl) | exact qlA (by rfl) | exact qfa (by rfl) | exact qmf (by rfl) | exact qfd (by rfl) | exact qm1 (by rfl) | exact qbd (by rfl) | exact qno (by rfl) | exact qex (by rfl) | exact qln (by rfl) | exact qls (by rfl) | exact qlr (by rfl) | exact qpt (by rfl) | exact qpf (by rfl) | exact qcp (by rfl) | exact qbe (by rfl) | exact qbn (by rfl) | exact qsn (by rfl) | exact qad (by rfl) | exact qsa (by rfl) | exact qsu (by rfl) | exact QS_bin (by rfl) (by rfl) (by first | exact B_slnil | exact Bq_eql_Pair | exact Bq_neq_Pair | exact Bq_eql_Op | exact Bq_neq_Op | exact Bq_eql_Cfg | exact Bq_neq_Cfg)); rfl)
              | refine sst ?_
              | refine VS_nil ?_
              | refine eeq ?_
              | refine ees ?_ (by first | exact es1 (by rfl) | exact esN (by rfl))
              | refine VE_nil ?_
              | refine kyes ?_
              | refine kno ?_
              | refine gyes ?_
              | refine gno ?_
              | refine knoU ?_
              | refine gnoU ?_
              | refine VG_nil ⟨by rfl, ?_⟩
              | refine VG_nil ?_
              | refine dT ?_
              | refine d1 ?_
              | refine dQ ?_
              | refine ctr ?_
              | refine cfa ?_
              | refine kdec (fun hq => ?_) (fun hq => ?_)
              | refine gdec (fun hq => ?_) (fun hq => ?_)
              | refine cco (fun hq => ?_) (fun hq => ?_))
            all_goals
              refine Res.two (by rfl) (ResV_tmp (by rfl) ?_) (ResV_tmp (by rfl) rfl)
              refine congrArg Value.string ?_
              unfold bytesO
              rw [hg]
              dsimp only
              rw [if_pos hk6, if_pos (show true = true from rfl), if_pos (show true = true from rfl), if_neg hkk]
          | false =>
            have hk6 : ¬ kind = 6 := by simpa using h6
            refine V_flat (args := [.agg #[.int .i64 kind, .string key, .string hi, .bool true, .string val, .int .i64 limit]]) (M := Mem.no) Try.func122 rfl Try.ntmps122 (by rfl) (Mem.no_le _) ?_
            repeat' (first
              | refine VC_seq ?_
              | refine VC_region ?_
              | refine VL_nil ?_
              | refine VC_ret ?_
              | refine VC_exit ?_
              | refine VC_block ?_
              | refine VC_skip ?_
              | refine kbox ?_
              | refine kall ?_
              | refine kst ?_
              | refine ksN ?_
              | refine klt ?_
              | refine kl1 ?_
              | refine klK ?_
              | refine kap ?_
              | ((first | apply VL_q | apply VG_q | apply VS_q2); (first | exact qi0 (by rfl) | exact qi1 (by rfl) | exact qwd (by rfl) | exact qnr (by rfl) | exact qni (by rfl) | exact QS_call (by rfl) (fun W _ => cR2 W) | exact qb1 (by rfl) | exact qmv (by rfl) | exact qas (by rfl) | exact ql1 (by rfl) | exact qlA (by rfl) | exact qfa (by rfl) | exact qmf (by rfl) | exact qfd (by rfl) | exact qm1 (by rfl) | exact qbd (by rfl) | exact qno (by rfl) | exact qex (by rfl) | exact qln (by rfl) | exact qls (by rfl) | exact qlr (by rfl) | exact qpt (by rfl) | exact qpf (by rfl) | exact qcp (by rfl) | exact qbe (by rfl) | exact qbn (by rfl) | exact qsn (by rfl) | exact qad (by rfl) | exact qsa (by rfl) | exact qsu (by rfl) | exact QS_bin (by rfl) (by rfl) (by first | exact B_slnil | exact Bq_eql_Pair | exact Bq_neq_Pair | exact Bq_eql_Op | exact Bq_neq_Op | exact Bq_eql_Cfg | exact Bq_neq_Cfg)); rfl)
              | refine sst ?_
              | refine VS_nil ?_
              | refine eeq ?_
              | refine ees ?_ (by first | exact es1 (by rfl) | exact esN (by rfl))
              | refine VE_nil ?_
              | refine kyes ?_
              | refine kno ?_
              | refine gyes ?_
              | refine gno ?_
              | refine knoU ?_
              | refine gnoU ?_
              | refine VG_nil ⟨by rfl, ?_⟩
              | refine VG_nil ?_
              | refine dT ?_
              | refine d1 ?_
              | refine dQ ?_
              | refine ctr ?_
              | refine cfa ?_
              | refine kdec (fun hq => ?_) (fun hq => ?_)
              | refine gdec (fun hq => ?_) (fun hq => ?_)
              | refine cco (fun hq => ?_) (fun hq => ?_))
            refine VL_nameB 2 (by rfl) (fun b => ?_)
            repeat' (first
              | refine VC_seq ?_
              | refine VC_region ?_
              | refine VL_nil ?_
              | refine VC_ret ?_
              | refine VC_exit ?_
              | refine VC_block ?_
              | refine VC_skip ?_
              | refine kbox ?_
              | refine kall ?_
              | refine kst ?_
              | refine ksN ?_
              | refine klt ?_
              | refine kl1 ?_
              | refine klK ?_
              | refine kap ?_
              | ((first | apply VL_q | apply VG_q | apply VS_q2); (first | exact qi0 (by rfl) | exact qi1 (by rfl) | exact qwd (by rfl) | exact qnr (by rfl) | exact qni (by rfl) | exact QS_mkf (by rfl) | exact qmv (by rfl) | exact qas (by rfl) | exact ql1 (by rfl) | exact qlA (by rfl) | exact qfa (by rfl) | exact qmf (by rfl) | exact qfd (by rfl) | exact qm1 (by rfl) | exact qbd (by rfl) | exact qno (by rfl) | exact qex (by rfl) | exact qln (by rfl) | exact qls (by rfl) | exact qlr (by rfl) | exact qpt (by rfl) | exact qpf (by rfl) | exact qcp (by rfl) | exact qbe (by rfl) | exact qbn (by rfl) | exact qsn (by rfl) | exact qad (by rfl) | exact qsa (by rfl) | exact qsu (by rfl) | exact QS_bin (by rfl) (by rfl) (by first | exact B_slnil | exact Bq_eql_Pair | exact Bq_neq_Pair | exact Bq_eql_Op | exact Bq_neq_Op | exact Bq_eql_Cfg | exact Bq_neq_Cfg)); rfl)
              | refine sst ?_
              | refine VS_nil ?_
              | refine eeq ?_
              | refine ees ?_ (by first | exact es1 (by rfl) | exact esN (by rfl))
              | refine VE_nil ?_
              | refine kyes ?_
              | refine kno ?_
              | refine gyes ?_
              | refine gno ?_
              | refine knoU ?_
              | refine gnoU ?_
              | refine VG_nil ⟨by rfl, ?_⟩
              | refine VG_nil ?_
              | refine dT ?_
              | refine d1 ?_
              | refine dQ ?_
              | refine ctr ?_
              | refine cfa ?_
              | refine kdec (fun hq => ?_) (fun hq => ?_)
              | refine gdec (fun hq => ?_) (fun hq => ?_)
              | refine cco (fun hq => ?_) (fun hq => ?_))
            refine VL_callXV (own1 := [.nblk (sbP b) 9 [.string ((⟨#[b8 kind]⟩ : ByteArray))]]) [2] (by rfl) (by rfl) (by rfl) ⟨rfl, trivial⟩ (fun M' _ => op_lay b key ((⟨#[b8 kind]⟩ : ByteArray)) M' (by omega) (by simp only [size_app, size_textR, sz1]; omega)) (by rfl) (by rfl) ?_
            rintro _ _ ⟨rfl, rfl⟩
            refine VL_sub [0, 3] ⟨_, [.blk 30 [.int .i64 kind, .string key, .string hi, .bool true, .string val, .int .i64 limit], .nblk (sbP b) 9 [.string ((⟨#[b8 kind]⟩ : ByteArray) ++ textR key)]], [(1, .p 0 0), (4, .v (sbP b)), (5, .v (.func (.func 133) #[] #[sbP b]))]⟩ ⟨rfl, rfl, ⟨rfl, rfl, trivial⟩, ⟨rfl, rfl, rfl, trivial⟩⟩ ?_
            repeat' (first
              | refine knb 1 ?_
              | refine VC_seq ?_
              | refine VC_region ?_
              | refine VL_nil ?_
              | refine VC_ret ?_
              | refine VC_exit ?_
              | refine VC_block ?_
              | refine VC_skip ?_
              | refine kbox ?_
              | refine kall ?_
              | refine kst ?_
              | refine ksN ?_
              | refine klt ?_
              | refine kl1 ?_
              | refine klK ?_
              | refine kap ?_
              | ((first | apply VL_q | apply VG_q | apply VS_q2); (first | exact qi0 (by rfl) | exact qi1 (by rfl) | exact qwd (by rfl) | exact qnr (by rfl) | exact qni (by rfl) | exact QS_nload1 1 (by rfl) (by rfl) (by rfl) (by rfl) | exact QS_call (by rfl) (fun W _ => cR2 W) | exact QS_call (by rfl) (fun W _ => cV W) | exact QS_call (by rfl) (fun W _ => cG W) | exact qb1 (by rfl) | exact qsz (by rfl) | exact qmv (by rfl) | exact qas (by rfl) | exact ql1 (by rfl) | exact qlA (by rfl) | exact qfa (by rfl) | exact qmf (by rfl) | exact qfd (by rfl) | exact qm1 (by rfl) | exact qbd (by rfl) | exact qno (by rfl) | exact qex (by rfl) | exact qln (by rfl) | exact qls (by rfl) | exact qlr (by rfl) | exact qpt (by rfl) | exact qpf (by rfl) | exact qcp (by rfl) | exact qbe (by rfl) | exact qbn (by rfl) | exact qsn (by rfl) | exact qad (by rfl) | exact qsa (by rfl) | exact qsu (by rfl) | exact QS_bin (by rfl) (by rfl) (by first | exact B_slnil | exact Bq_eql_Pair | exact Bq_neq_Pair | exact Bq_eql_Op | exact Bq_neq_Op | exact Bq_eql_Cfg | exact Bq_neq_Cfg)); rfl)
              | refine sst ?_
              | refine VS_nil ?_
              | refine eeq ?_
              | refine ees ?_ (by first | exact es1 (by rfl) | exact esN (by rfl))
              | refine VE_nil ?_
              | refine kyes ?_
              | refine kno ?_
              | refine gyes ?_
              | refine gno ?_
              | refine knoU ?_
              | refine gnoU ?_
              | refine VG_nil ⟨by rfl, ?_⟩
              | refine VG_nil ?_
              | refine dT ?_
              | refine d1 ?_
              | refine dQ ?_
              | refine ctr ?_
              | refine cfa ?_
              | refine kdec (fun hq => ?_) (fun hq => ?_)
              | refine gdec (fun hq => ?_) (fun hq => ?_)
              | refine cco (fun hq => ?_) (fun hq => ?_))
            all_goals
              refine Res.two (by rfl) (ResV_tmp (by rfl) ?_) (ResV_tmp (by rfl) rfl)
              refine congrArg Value.string ?_
              unfold bytesO
              rw [hg]
              dsimp only
              rw [if_neg hk6, if_pos (show true = true from rfl), if_pos (show true = true from rfl), if_neg hkk]
        | false =>
          cases h6 : (kind == 6) with
          | true =>
            have hk6 : kind = 6 := by simpa using h6
            refine V_flat (args := [.agg #[.int .i64 kind, .string key, .string hi, .bool false, .string val, .int .i64 limit]]) (M := Mem.no) Try.func122 rfl Try.ntmps122 (by rfl) (Mem.no_le _) ?_
            repeat' (first
              | refine VC_seq ?_
              | refine VC_region ?_
              | refine VL_nil ?_
              | refine VC_ret ?_
              | refine VC_exit ?_
              | refine VC_block ?_
              | refine VC_skip ?_
              | refine kbox ?_
              | refine kall ?_
              | refine kst ?_
              | refine ksN ?_
              | refine klt ?_
              | refine kl1 ?_
              | refine klK ?_
              | refine kap ?_
              | ((first | apply VL_q | apply VG_q | apply VS_q2); (first | exact qi0 (by rfl) | exact qi1 (by rfl) | exact qwd (by rfl) | exact qnr (by rfl) | exact qni (by rfl) | exact QS_call (by rfl) (fun W _ => cR2 W) | exact qb1 (by rfl) | exact qmv (by rfl) | exact qas (by rfl) | exact ql1 (by rfl) | exact qlA (by rfl) | exact qfa (by rfl) | exact qmf (by rfl) | exact qfd (by rfl) | exact qm1 (by rfl) | exact qbd (by rfl) | exact qno (by rfl) | exact qex (by rfl) | exact qln (by rfl) | exact qls (by rfl) | exact qlr (by rfl) | exact qpt (by rfl) | exact qpf (by rfl) | exact qcp (by rfl) | exact qbe (by rfl) | exact qbn (by rfl) | exact qsn (by rfl) | exact qad (by rfl) | exact qsa (by rfl) | exact qsu (by rfl) | exact QS_bin (by rfl) (by rfl) (by first | exact B_slnil | exact Bq_eql_Pair | exact Bq_neq_Pair | exact Bq_eql_Op | exact Bq_neq_Op | exact Bq_eql_Cfg | exact Bq_neq_Cfg)); rfl)
              | refine sst ?_
              | refine VS_nil ?_
              | refine eeq ?_
              | refine ees ?_ (by first | exact es1 (by rfl) | exact esN (by rfl))
              | refine VE_nil ?_
              | refine kyes ?_
              | refine kno ?_
              | refine gyes ?_
              | refine gno ?_
              | refine knoU ?_
              | refine gnoU ?_
              | refine VG_nil ⟨by rfl, ?_⟩
              | refine VG_nil ?_
              | refine dT ?_
              | refine d1 ?_
              | refine dQ ?_
              | refine ctr ?_
              | refine cfa ?_
              | refine kdec (fun hq => ?_) (fun hq => ?_)
              | refine gdec (fun hq => ?_) (fun hq => ?_)
              | refine cco (fun hq => ?_) (fun hq => ?_))
            refine VL_nameB 2 (by rfl) (fun b => ?_)
            repeat' (first
              | refine VC_seq ?_
              | refine VC_region ?_
              | refine VL_nil ?_
              | refine VC_ret ?_
              | refine VC_exit ?_
              | refine VC_block ?_
              | refine VC_skip ?_
              | refine kbox ?_
              | refine kall ?_
              | refine kst ?_
              | refine ksN ?_
              | refine klt ?_
              | refine kl1 ?_
              | refine klK ?_
              | refine kap ?_
              | ((first | apply VL_q | apply VG_q | apply VS_q2); (first | exact qi0 (by rfl) | exact qi1 (by rfl) | exact qwd (by rfl) | exact qnr (by rfl) | exact qni (by rfl) | exact QS_mkf (by rfl) | exact qmv (by rfl) | exact qas (by rfl) | exact ql1 (by rfl) | exact qlA (by rfl) | exact qfa (by rfl) | exact qmf (by rfl) | exact qfd (by rfl) | exact qm1 (by rfl) | exact qbd (by rfl) | exact qno (by rfl) | exact qex (by rfl) | exact qln (by rfl) | exact qls (by rfl) | exact qlr (by rfl) | exact qpt (by rfl) | exact qpf (by rfl) | exact qcp (by rfl) | exact qbe (by rfl) | exact qbn (by rfl) | exact qsn (by rfl) | exact qad (by rfl) | exact qsa (by rfl) | exact qsu (by rfl) | exact QS_bin (by rfl) (by rfl) (by first | exact B_slnil | exact Bq_eql_Pair | exact Bq_neq_Pair | exact Bq_eql_Op | exact Bq_neq_Op | exact Bq_eql_Cfg | exact Bq_neq_Cfg)); rfl)
              | refine sst ?_
              | refine VS_nil ?_
              | refine eeq ?_
              | refine ees ?_ (by first | exact es1 (by rfl) | exact esN (by rfl))
              | refine VE_nil ?_
              | refine kyes ?_
              | refine kno ?_
              | refine gyes ?_
              | refine gno ?_
              | refine knoU ?_
              | refine gnoU ?_
              | refine VG_nil ⟨by rfl, ?_⟩
              | refine VG_nil ?_
              | refine dT ?_
              | refine d1 ?_
              | refine dQ ?_
              | refine ctr ?_
              | refine cfa ?_
              | refine kdec (fun hq => ?_) (fun hq => ?_)
              | refine gdec (fun hq => ?_) (fun hq => ?_)
              | refine cco (fun hq => ?_) (fun hq => ?_))
            refine VL_callXV (own1 := [.nblk (sbP b) 9 [.string ((⟨#[b8 kind]⟩ : ByteArray))]]) [2] (by rfl) (by rfl) (by rfl) ⟨rfl, trivial⟩ (fun M' _ => op_lay b key ((⟨#[b8 kind]⟩ : ByteArray)) M' (by omega) (by simp only [size_app, size_textR, sz1]; omega)) (by rfl) (by rfl) ?_
            rintro _ _ ⟨rfl, rfl⟩
            refine VL_sub [0, 3] ⟨_, [.blk 30 [.int .i64 kind, .string key, .string hi, .bool false, .string val, .int .i64 limit], .nblk (sbP b) 9 [.string ((⟨#[b8 kind]⟩ : ByteArray) ++ textR key)]], [(1, .p 0 0), (4, .v (sbP b)), (5, .v (.func (.func 133) #[] #[sbP b]))]⟩ ⟨rfl, rfl, ⟨rfl, rfl, trivial⟩, ⟨rfl, rfl, rfl, trivial⟩⟩ ?_
            repeat' (first
              | refine knb 1 ?_
              | refine VC_seq ?_
              | refine VC_region ?_
              | refine VL_nil ?_
              | refine VC_ret ?_
              | refine VC_exit ?_
              | refine VC_block ?_
              | refine VC_skip ?_
              | refine kbox ?_
              | refine kall ?_
              | refine kst ?_
              | refine ksN ?_
              | refine klt ?_
              | refine kl1 ?_
              | refine klK ?_
              | refine kap ?_
              | ((first | apply VL_q | apply VG_q | apply VS_q2); (first | exact qi0 (by rfl) | exact qi1 (by rfl) | exact qwd (by rfl) | exact qnr (by rfl) | exact qni (by rfl) | exact QS_nload1 1 (by rfl) (by rfl) (by rfl) (by rfl) | exact QS_call (by rfl) (fun W _ => cR2 W) | exact QS_call (by rfl) (fun W _ => cV W) | exact QS_call (by rfl) (fun W _ => cG W) | exact qb1 (by rfl) | exact qsz (by rfl) | exact qmv (by rfl) | exact qas (by rfl) | exact ql1 (by rfl) | exact qlA (by rfl) | exact qfa (by rfl) | exact qmf (by rfl) | exact qfd (by rfl) | exact qm1 (by rfl) | exact qbd (by rfl) | exact qno (by rfl) | exact qex (by rfl) | exact qln (by rfl) | exact qls (by rfl) | exact qlr (by rfl) | exact qpt (by rfl) | exact qpf (by rfl) | exact qcp (by rfl) | exact qbe (by rfl) | exact qbn (by rfl) | exact qsn (by rfl) | exact qad (by rfl) | exact qsa (by rfl) | exact qsu (by rfl) | exact QS_bin (by rfl) (by rfl) (by first | exact B_slnil | exact Bq_eql_Pair | exact Bq_neq_Pair | exact Bq_eql_Op | exact Bq_neq_Op | exact Bq_eql_Cfg | exact Bq_neq_Cfg)); rfl)
              | refine sst ?_
              | refine VS_nil ?_
              | refine eeq ?_
              | refine ees ?_ (by first | exact es1 (by rfl) | exact esN (by rfl))
              | refine VE_nil ?_
              | refine kyes ?_
              | refine kno ?_
              | refine gyes ?_
              | refine gno ?_
              | refine knoU ?_
              | refine gnoU ?_
              | refine VG_nil ⟨by rfl, ?_⟩
              | refine VG_nil ?_
              | refine dT ?_
              | refine d1 ?_
              | refine dQ ?_
              | refine ctr ?_
              | refine cfa ?_
              | refine kdec (fun hq => ?_) (fun hq => ?_)
              | refine gdec (fun hq => ?_) (fun hq => ?_)
              | refine cco (fun hq => ?_) (fun hq => ?_))
            refine VL_callXV (own1 := [.nblk (sbP b) 9 [.string (((⟨#[b8 kind]⟩ : ByteArray) ++ textR key) ++ (⟨#[0]⟩ : ByteArray))]]) [1] (by rfl) (by rfl) (by rfl) ⟨rfl, trivial⟩ (fun M' _ => op_lay b hi (((⟨#[b8 kind]⟩ : ByteArray) ++ textR key) ++ (⟨#[0]⟩ : ByteArray)) M' (by omega) (by simp only [size_app, size_textR, sz1]; omega)) (by rfl) (by rfl) ?_
            rintro _ _ ⟨rfl, rfl⟩
            refine VL_sub [0, 2] ⟨_, [.blk 30 [.int .i64 kind, .string key, .string hi, .bool false, .string val, .int .i64 limit], .nblk (sbP b) 9 [.string (((⟨#[b8 kind]⟩ : ByteArray) ++ textR key) ++ (⟨#[0]⟩ : ByteArray) ++ textR hi)]], [(1, .p 0 0), (4, .v (sbP b)), (5, .v (.func (.func 133) #[] #[sbP b]))]⟩ ⟨rfl, rfl, ⟨rfl, rfl, trivial⟩, ⟨rfl, rfl, rfl, trivial⟩⟩ ?_
            repeat' (first
              | refine knb 1 ?_
              | refine VC_seq ?_
              | refine VC_region ?_
              | refine VL_nil ?_
              | refine VC_ret ?_
              | refine VC_exit ?_
              | refine VC_block ?_
              | refine VC_skip ?_
              | refine kbox ?_
              | refine kall ?_
              | refine kst ?_
              | refine ksN ?_
              | refine klt ?_
              | refine kl1 ?_
              | refine klK ?_
              | refine kap ?_
              | ((first | apply VL_q | apply VG_q | apply VS_q2); (first | exact qi0 (by rfl) | exact qi1 (by rfl) | exact qwd (by rfl) | exact qnr (by rfl) | exact qni (by rfl) | exact QS_nload1 1 (by rfl) (by rfl) (by rfl) (by rfl) | exact QS_call (by rfl) (fun W _ => cR2 W) | exact QS_call (by rfl) (fun W _ => cV W) | exact QS_call (by rfl) (fun W _ => cG W) | exact qb1 (by rfl) | exact qsz (by rfl) | exact qmv (by rfl) | exact qas (by rfl) | exact ql1 (by rfl) | exact qlA (by rfl) | exact qfa (by rfl) | exact qmf (by rfl) | exact qfd (by rfl) | exact qm1 (by rfl) | exact qbd (by rfl) | exact qno (by rfl) | exact qex (by rfl) | exact qln (by rfl) | exact qls (by rfl) | exact qlr (by rfl) | exact qpt (by rfl) | exact qpf (by rfl) | exact qcp (by rfl) | exact qbe (by rfl) | exact qbn (by rfl) | exact qsn (by rfl) | exact qad (by rfl) | exact qsa (by rfl) | exact qsu (by rfl) | exact QS_bin (by rfl) (by rfl) (by first | exact B_slnil | exact Bq_eql_Pair | exact Bq_neq_Pair | exact Bq_eql_Op | exact Bq_neq_Op | exact Bq_eql_Cfg | exact Bq_neq_Cfg)); rfl)
              | refine sst ?_
              | refine VS_nil ?_
              | refine eeq ?_
              | refine ees ?_ (by first | exact es1 (by rfl) | exact esN (by rfl))
              | refine VE_nil ?_
              | refine kyes ?_
              | refine kno ?_
              | refine gyes ?_
              | refine gno ?_
              | refine knoU ?_
              | refine gnoU ?_
              | refine VG_nil ⟨by rfl, ?_⟩
              | refine VG_nil ?_
              | refine dT ?_
              | refine d1 ?_
              | refine dQ ?_
              | refine ctr ?_
              | refine cfa ?_
              | refine kdec (fun hq => ?_) (fun hq => ?_)
              | refine gdec (fun hq => ?_) (fun hq => ?_)
              | refine cco (fun hq => ?_) (fun hq => ?_))
            all_goals
              refine Res.two (by rfl) (ResV_tmp (by rfl) ?_) (ResV_tmp (by rfl) rfl)
              refine congrArg Value.string ?_
              unfold bytesO
              rw [hg]
              dsimp only
              rw [if_pos hk6, if_pos (show true = true from rfl), if_neg (show ¬ (false = true) by simp), if_neg hkk]
              simp only [ByteArray.append_assoc]
          | false =>
            have hk6 : ¬ kind = 6 := by simpa using h6
            refine V_flat (args := [.agg #[.int .i64 kind, .string key, .string hi, .bool false, .string val, .int .i64 limit]]) (M := Mem.no) Try.func122 rfl Try.ntmps122 (by rfl) (Mem.no_le _) ?_
            repeat' (first
              | refine VC_seq ?_
              | refine VC_region ?_
              | refine VL_nil ?_
              | refine VC_ret ?_
              | refine VC_exit ?_
              | refine VC_block ?_
              | refine VC_skip ?_
              | refine kbox ?_
              | refine kall ?_
              | refine kst ?_
              | refine ksN ?_
              | refine klt ?_
              | refine kl1 ?_
              | refine klK ?_
              | refine kap ?_
              | ((first | apply VL_q | apply VG_q | apply VS_q2); (first | exact qi0 (by rfl) | exact qi1 (by rfl) | exact qwd (by rfl) | exact qnr (by rfl) | exact qni (by rfl) | exact QS_call (by rfl) (fun W _ => cR2 W) | exact qb1 (by rfl) | exact qmv (by rfl) | exact qas (by rfl) | exact ql1 (by rfl) | exact qlA (by rfl) | exact qfa (by rfl) | exact qmf (by rfl) | exact qfd (by rfl) | exact qm1 (by rfl) | exact qbd (by rfl) | exact qno (by rfl) | exact qex (by rfl) | exact qln (by rfl) | exact qls (by rfl) | exact qlr (by rfl) | exact qpt (by rfl) | exact qpf (by rfl) | exact qcp (by rfl) | exact qbe (by rfl) | exact qbn (by rfl) | exact qsn (by rfl) | exact qad (by rfl) | exact qsa (by rfl) | exact qsu (by rfl) | exact QS_bin (by rfl) (by rfl) (by first | exact B_slnil | exact Bq_eql_Pair | exact Bq_neq_Pair | exact Bq_eql_Op | exact Bq_neq_Op | exact Bq_eql_Cfg | exact Bq_neq_Cfg)); rfl)
              | refine sst ?_
              | refine VS_nil ?_
              | refine eeq ?_
              | refine ees ?_ (by first | exact es1 (by rfl) | exact esN (by rfl))
              | refine VE_nil ?_
              | refine kyes ?_
              | refine kno ?_
              | refine gyes ?_
              | refine gno ?_
              | refine knoU ?_
              | refine gnoU ?_
              | refine VG_nil ⟨by rfl, ?_⟩
              | refine VG_nil ?_
              | refine dT ?_
              | refine d1 ?_
              | refine dQ ?_
              | refine ctr ?_
              | refine cfa ?_
              | refine kdec (fun hq => ?_) (fun hq => ?_)
              | refine gdec (fun hq => ?_) (fun hq => ?_)
              | refine cco (fun hq => ?_) (fun hq => ?_))
            refine VL_nameB 2 (by rfl) (fun b => ?_)
            repeat' (first
              | refine VC_seq ?_
              | refine VC_region ?_
              | refine VL_nil ?_
              | refine VC_ret ?_
              | refine VC_exit ?_
              | refine VC_block ?_
              | refine VC_skip ?_
              | refine kbox ?_
              | refine kall ?_
              | refine kst ?_
              | refine ksN ?_
              | refine klt ?_
              | refine kl1 ?_
              | refine klK ?_
              | refine kap ?_
              | ((first | apply VL_q | apply VG_q | apply VS_q2); (first | exact qi0 (by rfl) | exact qi1 (by rfl) | exact qwd (by rfl) | exact qnr (by rfl) | exact qni (by rfl) | exact QS_mkf (by rfl) | exact qmv (by rfl) | exact qas (by rfl) | exact ql1 (by rfl) | exact qlA (by rfl) | exact qfa (by rfl) | exact qmf (by rfl) | exact qfd (by rfl) | exact qm1 (by rfl) | exact qbd (by rfl) | exact qno (by rfl) | exact qex (by rfl) | exact qln (by rfl) | exact qls (by rfl) | exact qlr (by rfl) | exact qpt (by rfl) | exact qpf (by rfl) | exact qcp (by rfl) | exact qbe (by rfl) | exact qbn (by rfl) | exact qsn (by rfl) | exact qad (by rfl) | exact qsa (by rfl) | exact qsu (by rfl) | exact QS_bin (by rfl) (by rfl) (by first | exact B_slnil | exact Bq_eql_Pair | exact Bq_neq_Pair | exact Bq_eql_Op | exact Bq_neq_Op | exact Bq_eql_Cfg | exact Bq_neq_Cfg)); rfl)
              | refine sst ?_
              | refine VS_nil ?_
              | refine eeq ?_
              | refine ees ?_ (by first | exact es1 (by rfl) | exact esN (by rfl))
              | refine VE_nil ?_
              | refine kyes ?_
              | refine kno ?_
              | refine gyes ?_
              | refine gno ?_
              | refine knoU ?_
              | refine gnoU ?_
              | refine VG_nil ⟨by rfl, ?_⟩
              | refine VG_nil ?_
              | refine dT ?_
              | refine d1 ?_
              | refine dQ ?_
              | refine ctr ?_
              | refine cfa ?_
              | refine kdec (fun hq => ?_) (fun hq => ?_)
              | refine gdec (fun hq => ?_) (fun hq => ?_)
              | refine cco (fun hq => ?_) (fun hq => ?_))
            refine VL_callXV (own1 := [.nblk (sbP b) 9 [.string ((⟨#[b8 kind]⟩ : ByteArray))]]) [2] (by rfl) (by rfl) (by rfl) ⟨rfl, trivial⟩ (fun M' _ => op_lay b key ((⟨#[b8 kind]⟩ : ByteArray)) M' (by omega) (by simp only [size_app, size_textR, sz1]; omega)) (by rfl) (by rfl) ?_
            rintro _ _ ⟨rfl, rfl⟩
            refine VL_sub [0, 3] ⟨_, [.blk 30 [.int .i64 kind, .string key, .string hi, .bool false, .string val, .int .i64 limit], .nblk (sbP b) 9 [.string ((⟨#[b8 kind]⟩ : ByteArray) ++ textR key)]], [(1, .p 0 0), (4, .v (sbP b)), (5, .v (.func (.func 133) #[] #[sbP b]))]⟩ ⟨rfl, rfl, ⟨rfl, rfl, trivial⟩, ⟨rfl, rfl, rfl, trivial⟩⟩ ?_
            repeat' (first
              | refine knb 1 ?_
              | refine VC_seq ?_
              | refine VC_region ?_
              | refine VL_nil ?_
              | refine VC_ret ?_
              | refine VC_exit ?_
              | refine VC_block ?_
              | refine VC_skip ?_
              | refine kbox ?_
              | refine kall ?_
              | refine kst ?_
              | refine ksN ?_
              | refine klt ?_
              | refine kl1 ?_
              | refine klK ?_
              | refine kap ?_
              | ((first | apply VL_q | apply VG_q | apply VS_q2); (first | exact qi0 (by rfl) | exact qi1 (by rfl) | exact qwd (by rfl) | exact qnr (by rfl) | exact qni (by rfl) | exact QS_nload1 1 (by rfl) (by rfl) (by rfl) (by rfl) | exact QS_call (by rfl) (fun W _ => cR2 W) | exact QS_call (by rfl) (fun W _ => cV W) | exact QS_call (by rfl) (fun W _ => cG W) | exact qb1 (by rfl) | exact qsz (by rfl) | exact qmv (by rfl) | exact qas (by rfl) | exact ql1 (by rfl) | exact qlA (by rfl) | exact qfa (by rfl) | exact qmf (by rfl) | exact qfd (by rfl) | exact qm1 (by rfl) | exact qbd (by rfl) | exact qno (by rfl) | exact qex (by rfl) | exact qln (by rfl) | exact qls (by rfl) | exact qlr (by rfl) | exact qpt (by rfl) | exact qpf (by rfl) | exact qcp (by rfl) | exact qbe (by rfl) | exact qbn (by rfl) | exact qsn (by rfl) | exact qad (by rfl) | exact qsa (by rfl) | exact qsu (by rfl) | exact QS_bin (by rfl) (by rfl) (by first | exact B_slnil | exact Bq_eql_Pair | exact Bq_neq_Pair | exact Bq_eql_Op | exact Bq_neq_Op | exact Bq_eql_Cfg | exact Bq_neq_Cfg)); rfl)
              | refine sst ?_
              | refine VS_nil ?_
              | refine eeq ?_
              | refine ees ?_ (by first | exact es1 (by rfl) | exact esN (by rfl))
              | refine VE_nil ?_
              | refine kyes ?_
              | refine kno ?_
              | refine gyes ?_
              | refine gno ?_
              | refine knoU ?_
              | refine gnoU ?_
              | refine VG_nil ⟨by rfl, ?_⟩
              | refine VG_nil ?_
              | refine dT ?_
              | refine d1 ?_
              | refine dQ ?_
              | refine ctr ?_
              | refine cfa ?_
              | refine kdec (fun hq => ?_) (fun hq => ?_)
              | refine gdec (fun hq => ?_) (fun hq => ?_)
              | refine cco (fun hq => ?_) (fun hq => ?_))
            refine VL_callXV (own1 := [.nblk (sbP b) 9 [.string (((⟨#[b8 kind]⟩ : ByteArray) ++ textR key) ++ (⟨#[0]⟩ : ByteArray))]]) [1] (by rfl) (by rfl) (by rfl) ⟨rfl, trivial⟩ (fun M' _ => op_lay b hi (((⟨#[b8 kind]⟩ : ByteArray) ++ textR key) ++ (⟨#[0]⟩ : ByteArray)) M' (by omega) (by simp only [size_app, size_textR, sz1]; omega)) (by rfl) (by rfl) ?_
            rintro _ _ ⟨rfl, rfl⟩
            refine VL_sub [0, 2] ⟨_, [.blk 30 [.int .i64 kind, .string key, .string hi, .bool false, .string val, .int .i64 limit], .nblk (sbP b) 9 [.string (((⟨#[b8 kind]⟩ : ByteArray) ++ textR key) ++ (⟨#[0]⟩ : ByteArray) ++ textR hi)]], [(1, .p 0 0), (4, .v (sbP b)), (5, .v (.func (.func 133) #[] #[sbP b]))]⟩ ⟨rfl, rfl, ⟨rfl, rfl, trivial⟩, ⟨rfl, rfl, rfl, trivial⟩⟩ ?_
            repeat' (first
              | refine knb 1 ?_
              | refine VC_seq ?_
              | refine VC_region ?_
              | refine VL_nil ?_
              | refine VC_ret ?_
              | refine VC_exit ?_
              | refine VC_block ?_
              | refine VC_skip ?_
              | refine kbox ?_
              | refine kall ?_
              | refine kst ?_
              | refine ksN ?_
              | refine klt ?_
              | refine kl1 ?_
              | refine klK ?_
              | refine kap ?_
              | ((first | apply VL_q | apply VG_q | apply VS_q2); (first | exact qi0 (by rfl) | exact qi1 (by rfl) | exact qwd (by rfl) | exact qnr (by rfl) | exact qni (by rfl) | exact QS_nload1 1 (by rfl) (by rfl) (by rfl) (by rfl) | exact QS_call (by rfl) (fun W _ => cR2 W) | exact QS_call (by rfl) (fun W _ => cV W) | exact QS_call (by rfl) (fun W _ => cG W) | exact qb1 (by rfl) | exact qsz (by rfl) | exact qmv (by rfl) | exact qas (by rfl) | exact ql1 (by rfl) | exact qlA (by rfl) | exact qfa (by rfl) | exact qmf (by rfl) | exact qfd (by rfl) | exact qm1 (by rfl) | exact qbd (by rfl) | exact qno (by rfl) | exact qex (by rfl) | exact qln (by rfl) | exact qls (by rfl) | exact qlr (by rfl) | exact qpt (by rfl) | exact qpf (by rfl) | exact qcp (by rfl) | exact qbe (by rfl) | exact qbn (by rfl) | exact qsn (by rfl) | exact qad (by rfl) | exact qsa (by rfl) | exact qsu (by rfl) | exact QS_bin (by rfl) (by rfl) (by first | exact B_slnil | exact Bq_eql_Pair | exact Bq_neq_Pair | exact Bq_eql_Op | exact Bq_neq_Op | exact Bq_eql_Cfg | exact Bq_neq_Cfg)); rfl)
              | refine sst ?_
              | refine VS_nil ?_
              | refine eeq ?_
              | refine ees ?_ (by first | exact es1 (by rfl) | exact esN (by rfl))
              | refine VE_nil ?_
              | refine kyes ?_
              | refine kno ?_
              | refine gyes ?_
              | refine gno ?_
              | refine knoU ?_
              | refine gnoU ?_
              | refine VG_nil ⟨by rfl, ?_⟩
              | refine VG_nil ?_
              | refine dT ?_
              | refine d1 ?_
              | refine dQ ?_
              | refine ctr ?_
              | refine cfa ?_
              | refine kdec (fun hq => ?_) (fun hq => ?_)
              | refine gdec (fun hq => ?_) (fun hq => ?_)
              | refine cco (fun hq => ?_) (fun hq => ?_))
            all_goals
              refine Res.two (by rfl) (ResV_tmp (by rfl) ?_) (ResV_tmp (by rfl) rfl)
              refine congrArg Value.string ?_
              unfold bytesO
              rw [hg]
              dsimp only
              rw [if_neg hk6, if_pos (show true = true from rfl), if_neg (show ¬ (false = true) by simp), if_neg hkk]
              simp only [ByteArray.append_assoc]
end Go.Proofs.Ytdgcdfngpimmmaa
