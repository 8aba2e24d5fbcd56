/- The entry that a body is: plain Lean and walk. -/
import Derived.Test.YtdgcdfngpimmmaaPSc8
import Derived.Test.YtdgcdfngpimmmaaPLg7
import Derived.Test.YtdgcdfngpimmmaaPSc6
namespace Go.Proofs.Ytdgcdfngpimmmaa
open Go Go.RowKit
attribute [local irreducible] Calls takeT ofO
set_option linter.unusedVariables false
set_option maxRecDepth 20000
set_option linter.unusedSimpArgs false
set_option maxHeartbeats 4000000
def picksB (b : ByteArray) : List Int := ((bl b).drop 1).map fun x => (x.toNat : Int)
def entP (b : ByteArray) (pv : Value) : Ent :=
  if 1 < b.size ∧ byt b 0 = 1 then ⟨1, byt b 1, (ofO (b.extract 2 b.size)).1, pv, []⟩
  else if 0 < b.size ∧ byt b 0 = 2 then ⟨2, 0, opE, pv, picksB b⟩
  else ⟨1, 0, opE, pv, []⟩
abbrev u8C (x : UInt8) : List Value := [.int .u8 (x.toNat : Int)]
theorem bcells_u8 (b : ByteArray) : bcells b = (bl b).flatMap u8C := by
  unfold bcells
  show (bl b).map _ = _
  induction bl b with
  | nil => rfl
  | cons x l ih => rw [List.map_cons, List.flatMap_cons, ih]; rfl
def entS (b : ByteArray) : Int × Int × Op × List Int := (entP b (.slice none 0 0)).st
theorem entP_st (b : ByteArray) (pv : Value) : (entP b pv).st = entS b := by
  unfold entS entP
  split
  · rfl
  · split <;> rfl
theorem script_entry (b : ByteArray) (w : World) (M : Mem) (hM : M.le (Mem.of w)) (hs : b.size ≤ 1000000) :
    Calls Try.prog 54 #[.string b] w (RetM M w (fun v M' => ∃ pv, v = .agg #[.int .i64 (entP b pv).kind, .int .i64 (entP b pv).client, .int .i64 (entP b pv).o.kind, .string (entP b pv).o.key, .string (entP b pv).o.hi, .bool (entP b pv).o.opn, .string (entP b pv).o.val, .int .i64 (entP b pv).o.limit, (entP b pv).pv] ∧ (entP b pv).Ok M')) := by
  have hb0 := byt_lt b 0
  have hb1 := byt_lt b 1
  refine V_ret (args := [.string b]) (M := M) Try.func54 rfl Try.ntmps54 (by rfl) hM _ ?_
  by_cases h1 : 1 < b.size ∧ byt b 0 = 1
  · obtain ⟨g1, g2⟩ := id h1
    have f1 : decide ((1 : Int) < (b.size : Int)) = true := decide_eq_true (by omega)
    have f2 : (byt b 0 == 1) = true := by simp [g2]
    have cO := fun W => op_Of (b.extract 2 b.size) W (Nat.le_trans (size_ext _ _ _) hs)
    repeat' (first
      | refine VC_seq ?_
      | refine VC_region ?_
      | refine VL_nil ?_
      | refine VC_ret ?_
      | refine VC_exit ?_
      | refine VC_block ?_
      | refine VC_skip ?_
      | refine kbox ?_
      | refine kall ?_
      | refine kst ?_
      | refine ksN ?_
      | refine klt ?_
      | refine kl1 ?_
      | refine klK ?_
      | refine kap ?_
      | ((first | apply VL_q | apply VG_q | apply VS_q2); (first | exact qi0 (by rfl) | exact qi1 (by rfl) | exact qwd (by rfl) | exact qnr (by rfl) | exact qni (by rfl) | exact QS_cutS 2 b.size (by rfl) (by rfl) (by rfl) (by omega) (Nat.le_refl _) | exact qlN (by rfl) | exact qbk (by rfl) | exact QS_call (by rfl) (fun W _ => cO W) | exact qmv (by rfl) | exact qas (by rfl) | exact ql1 (by rfl) | exact qlA (by rfl) | exact qfa (by rfl) | exact qmf (by rfl) | exact qfd (by rfl) | exact qm1 (by rfl) | exact qbd (by rfl) | exact qno (by rfl) | exact qex (by rfl) | exact qln (by rfl) | exact qls (by rfl) | exact qlr (by rfl) | exact qpt (by rfl) | exact qpf (by rfl) | exact qcp (by rfl) | exact qbe (by rfl) | exact qbn (by rfl) | exact qsn (by rfl) | exact qad (by rfl) | exact qsa (by rfl) | exact qsu (by rfl) | exact QS_bin (by rfl) (by rfl) (by first | exact B_slnil | exact Bq_eql_Pair | exact Bq_neq_Pair | exact Bq_eql_Op | exact Bq_neq_Op | exact Bq_eql_Cfg | exact Bq_neq_Cfg)); rfl)
      | refine sst ?_
      | refine VS_nil ?_
      | refine eeq ?_
      | refine ees ?_ (by first | exact es1 (by rfl) | exact esN (by rfl))
      | refine VE_nil ?_
      | refine kyes ?_
      | refine kno ?_
      | refine gyes ?_
      | refine gno ?_
      | refine knoU ?_
      | refine gnoU ?_
      | refine VG_nil ⟨by rfl, ?_⟩
      | refine VG_nil ?_
      | refine dT ?_
      | refine d1 ?_
      | refine dQ ?_
      | refine ctr ?_
      | refine cfa ?_
      | refine kdec (fun hq => ?_) (fun hq => ?_)
      | refine gdec (fun hq => ?_) (fun hq => ?_)
      | refine cco (fun hq => ?_) (fun hq => ?_))
    refine ⟨_, Res.one (by rfl) (ResV_agg (by rfl) (by rfl) _ (by rfl) rfl), .slice none 0 0, ?_, ?_⟩
    · unfold entP
      rw [if_pos h1]
      rfl
    · unfold entP
      rw [if_pos h1]
      exact SlM.nil _ _ _
  · by_cases h2 : 0 < b.size ∧ byt b 0 = 2
    · obtain ⟨g1, g2⟩ := id h2
      have f1 : decide ((0 : Int) < (b.size : Int)) = true := decide_eq_true (by omega)
      have f2 : (byt b 0 == 1) = false := by simp [g2]
      have f3 : (byt b 0 == 2) = true := by simp [g2]
      have hz : (b.extract 1 b.size).size ≤ maxLen := Nat.le_trans (size_ext _ _ _) (by unfold maxLen; omega)
      have hbe : bl (b.extract 1 b.size) = (bl b).drop 1 := by rw [bl_ext, List.take_of_length_le (by rw [bl_len]; exact Nat.le_refl _)]
      have hlen : (bl (b.extract 1 b.size)).length ≤ 1000000 := by rw [bl_len]; exact Nat.le_trans (size_ext _ _ _) hs
      have hpk : picksB b = (bl (b.extract 1 b.size)).map fun x => (x.toNat : Int) := by unfold picksB; rw [hbe]
      repeat' (first
        | refine VC_seq ?_
        | refine VC_region ?_
        | refine VL_nil ?_
        | refine VC_ret ?_
        | refine VC_exit ?_
        | refine VC_block ?_
        | refine VC_skip ?_
        | refine kbox ?_
        | refine kall ?_
        | refine kst ?_
        | refine ksN ?_
        | refine klt ?_
        | refine kl1 ?_
        | refine klK ?_
        | refine kap ?_
        | ((first | apply VL_q | apply VG_q | apply VS_q2); (first | exact qi0 (by rfl) | exact qi1 (by rfl) | exact qwd (by rfl) | exact qnr (by rfl) | exact qni (by rfl) | exact QS_cutS 1 b.size (by rfl) (by rfl) (by rfl) (by omega) (Nat.le_refl _) | exact qbk (by rfl) | exact qmv (by rfl) | exact qas (by rfl) | exact ql1 (by rfl) | exact qlA (by rfl) | exact qfa (by rfl) | exact qmf (by rfl) | exact qfd (by rfl) | exact qm1 (by rfl) | exact qbd (by rfl) | exact qno (by rfl) | exact qex (by rfl) | exact qln (by rfl) | exact qls (by rfl) | exact qlr (by rfl) | exact qpt (by rfl) | exact qpf (by rfl) | exact qcp (by rfl) | exact qbe (by rfl) | exact qbn (by rfl) | exact qsn (by rfl) | exact qad (by rfl) | exact qsa (by rfl) | exact qsu (by rfl) | exact QS_bin (by rfl) (by rfl) (by first | exact B_slnil | exact Bq_eql_Pair | exact Bq_neq_Pair | exact Bq_eql_Op | exact Bq_neq_Op | exact Bq_eql_Cfg | exact Bq_neq_Cfg)); rfl)
        | refine sst ?_
        | refine VS_nil ?_
        | refine eeq ?_
        | refine ees ?_ (by first | exact es1 (by rfl) | exact esN (by rfl))
        | refine VE_nil ?_
        | refine kyes ?_
        | refine kno ?_
        | refine gyes ?_
        | refine gno ?_
        | refine knoU ?_
        | refine gnoU ?_
        | refine VG_nil ⟨by rfl, ?_⟩
        | refine VG_nil ?_
        | refine dT ?_
        | refine d1 ?_
        | refine dQ ?_
        | refine ctr ?_
        | refine cfa ?_
        | refine kdec (fun hq => ?_) (fun hq => ?_)
        | refine gdec (fun hq => ?_) (fun hq => ?_)
        | refine cco (fun hq => ?_) (fun hq => ?_))
      all_goals
        refine VL_bytes (by rfl) hz (by rfl) (fun v M1 hle1 hrow => ?_)
        rw [bcells_u8, show (b.extract 1 b.size).size = (bl (b.extract 1 b.size)).length from (bl_len _).symm] at hrow
        have hsl : SlM M1 1 u8C v (bl (b.extract 1 b.size)) := hrow.slM (fun _ _ => rfl)
        generalize bl (b.extract 1 b.size) = l at *
        obtain ⟨A, c, rfl, hc1, hc2, _⟩ := id hsl
        unfold maxLen at hc2
        repeat' (first
          | refine VC_seq ?_
          | refine VC_region ?_
          | refine VL_nil ?_
          | refine VC_ret ?_
          | refine VC_exit ?_
          | refine VC_block ?_
          | refine VC_skip ?_
          | refine kbox ?_
          | refine kall ?_
          | refine kst ?_
          | refine ksN ?_
          | refine klt ?_
          | refine kl1 ?_
          | refine klK ?_
          | refine kap ?_
          | ((first | apply VL_q | apply VG_q | apply VS_q2); (first | exact qi0 (by rfl) | exact qi1 (by rfl) | exact qwd (by rfl) | exact qnr (by rfl) | exact qni (by rfl) | exact qmv (by rfl) | exact qas (by rfl) | exact ql1 (by rfl) | exact qlA (by rfl) | exact qfa (by rfl) | exact qmf (by rfl) | exact qfd (by rfl) | exact qm1 (by rfl) | exact qbd (by rfl) | exact qno (by rfl) | exact qex (by rfl) | exact qln (by rfl) | exact qls (by rfl) | exact qlr (by rfl) | exact qpt (by rfl) | exact qpf (by rfl) | exact qcp (by rfl) | exact qbe (by rfl) | exact qbn (by rfl) | exact qsn (by rfl) | exact qad (by rfl) | exact qsa (by rfl) | exact qsu (by rfl) | exact QS_bin (by rfl) (by rfl) (by first | exact B_slnil | exact Bq_eql_Pair | exact Bq_neq_Pair | exact Bq_eql_Op | exact Bq_neq_Op | exact Bq_eql_Cfg | exact Bq_neq_Cfg)); rfl)
          | refine sst ?_
          | refine VS_nil ?_
          | refine eeq ?_
          | refine ees ?_ (by first | exact es1 (by rfl) | exact esN (by rfl))
          | refine VE_nil ?_
          | refine kyes ?_
          | refine kno ?_
          | refine gyes ?_
          | refine gno ?_
          | refine knoU ?_
          | refine gnoU ?_
          | refine VG_nil ⟨by rfl, ?_⟩
          | refine VG_nil ?_
          | refine dT ?_
          | refine d1 ?_
          | refine dQ ?_
          | refine ctr ?_
          | refine cfa ?_
          | refine kdec (fun hq => ?_) (fun hq => ?_)
          | refine gdec (fun hq => ?_) (fun hq => ?_)
          | refine cco (fun hq => ?_) (fun hq => ?_))
        refine VC_nil0 3 1 (by rfl) ?_
        refine VC_for (fun x : Nat × Value => ⟨M1, [.blk 33 [.int .i64 0, .int .i64 0, .int .i64 0, .string ⟨#[]⟩, .string ⟨#[]⟩, .bool false, .string ⟨#[]⟩, .int .i64 0, .slice none 0 0], .blk 33 [.int .i64 2, .int .i64 0, .int .i64 0, .string ⟨#[]⟩, .string ⟨#[]⟩, .bool false, .string ⟨#[]⟩, .int .i64 0, x.2], .nrow x.2 3 1 x.1 ((l.take x.1).flatMap fun x => intC (x.toNat : Int))], [(2, .p 0 0), (5, .p 1 0), (40, .v (.slice A l.length c)), (41, .v (.int .i64 l.length)), (42, .v (.int .i64 x.1))]⟩) (fun x => x.1 ≤ l.length) (fun x => l.length - x.1) [0, 1, 2] (0, .slice none 0 0) ⟨rfl, rfl, ⟨rfl, rfl, rfl, trivial⟩, ⟨rfl, rfl, rfl, rfl, rfl, trivial⟩⟩ (by show 0 ≤ _; omega) ?_
        rintro ⟨k, u⟩ hk
        dsimp only at hk ⊢
        rcases Nat.lt_or_ge k l.length with hlt | hge
        · have hd := dlt hlt
          obtain ⟨b2, off2, rfl, hcA⟩ := hsl.get hlt
          have hx : (0 : Int) ≤ (l[k].toNat : Int) ∧ (l[k].toNat : Int) < 256 := by have := UInt8.toNat_lt l[k]; omega
          repeat' (first
            | refine VC_seq ?_
            | refine VC_region ?_
            | refine VL_nil ?_
            | refine VC_ret ?_
            | refine VC_exit ?_
            | refine VC_block ?_
            | refine VC_skip ?_
            | refine kbox ?_
            | refine kall ?_
            | refine kst ?_
            | refine ksN ?_
            | refine klt ?_
            | refine kl1 ?_
            | refine klK ?_
            | refine kap ?_
            | ((first | apply VL_q | apply VG_q | apply VS_q2); (first | exact qi0 (by rfl) | exact qi1 (by rfl) | exact qwd (by rfl) | exact qnr (by rfl) | exact qni (by rfl) | exact QS_indexAddr (k) (by rfl) (by rfl) (by omega) (by omega) | exact QS_mload1 (by rfl) (hcA 0 _ (by rfl)) | exact QS_mload1 (by rfl) (hcA _ _ (by rfl)) | exact QS_mloadN _ (by rfl) hcA _ (by rfl) | exact qwd (by rfl) hx | exact qmv (by rfl) | exact qas (by rfl) | exact ql1 (by rfl) | exact qlA (by rfl) | exact qfa (by rfl) | exact qmf (by rfl) | exact qfd (by rfl) | exact qm1 (by rfl) | exact qbd (by rfl) | exact qno (by rfl) | exact qex (by rfl) | exact qln (by rfl) | exact qls (by rfl) | exact qlr (by rfl) | exact qpt (by rfl) | exact qpf (by rfl) | exact qcp (by rfl) | exact qbe (by rfl) | exact qbn (by rfl) | exact qsn (by rfl) | exact qad (by rfl) | exact qsa (by rfl) | exact qsu (by rfl) | exact QS_bin (by rfl) (by rfl) (by first | exact B_slnil | exact Bq_eql_Pair | exact Bq_neq_Pair | exact Bq_eql_Op | exact Bq_neq_Op | exact Bq_eql_Cfg | exact Bq_neq_Cfg)); rfl)
            | refine sst ?_
            | refine VS_nil ?_
            | refine eeq ?_
            | refine ees ?_ (by first | exact es1 (by rfl) | exact esN (by rfl))
            | refine VE_nil ?_
            | refine kyes ?_
            | refine kno ?_
            | refine gyes ?_
            | refine gno ?_
            | refine knoU ?_
            | refine gnoU ?_
            | refine VG_nil ⟨by rfl, ?_⟩
            | refine VG_nil ?_
            | refine dT ?_
            | refine d1 ?_
            | refine dQ ?_
            | refine ctr ?_
            | refine cfa ?_
            | refine kdec (fun hq => ?_) (fun hq => ?_)
            | refine gdec (fun hq => ?_) (fun hq => ?_)
            | refine cco (fun hq => ?_) (fun hq => ?_))
          refine VL_unname 2 47 (by rfl) (by rfl) ?_
          repeat' (first
            | refine VC_seq ?_
            | refine VC_region ?_
            | refine VL_nil ?_
            | refine VC_ret ?_
            | refine VC_exit ?_
            | refine VC_block ?_
            | refine VC_skip ?_
            | refine kbox ?_
            | refine kall ?_
            | refine kst ?_
            | refine ksN ?_
            | refine klt ?_
            | refine kl1 ?_
            | refine klK ?_
            | refine kap ?_
            | ((first | apply VL_q | apply VG_q | apply VS_q2); (first | exact qi0 (by rfl) | exact qi1 (by rfl) | exact qwd (by rfl) | exact qnr (by rfl) | exact qni (by rfl) | exact qwd (by rfl) hx | exact qmv (by rfl) | exact qas (by rfl) | exact ql1 (by rfl) | exact qlA (by rfl) | exact qfa (by rfl) | exact qmf (by rfl) | exact qfd (by rfl) | exact qm1 (by rfl) | exact qbd (by rfl) | exact qno (by rfl) | exact qex (by rfl) | exact qln (by rfl) | exact qls (by rfl) | exact qlr (by rfl) | exact qpt (by rfl) | exact qpf (by rfl) | exact qcp (by rfl) | exact qbe (by rfl) | exact qbn (by rfl) | exact qsn (by rfl) | exact qad (by rfl) | exact qsa (by rfl) | exact qsu (by rfl) | exact QS_bin (by rfl) (by rfl) (by first | exact B_slnil | exact Bq_eql_Pair | exact Bq_neq_Pair | exact Bq_eql_Op | exact Bq_neq_Op | exact Bq_eql_Cfg | exact Bq_neq_Cfg)); rfl)
            | refine sst ?_
            | refine VS_nil ?_
            | refine eeq ?_
            | refine ees ?_ (by first | exact es1 (by rfl) | exact esN (by rfl))
            | refine VE_nil ?_
            | refine kyes ?_
            | refine kno ?_
            | refine gyes ?_
            | refine gno ?_
            | refine knoU ?_
            | refine gnoU ?_
            | refine VG_nil ⟨by rfl, ?_⟩
            | refine VG_nil ?_
            | refine dT ?_
            | refine d1 ?_
            | refine dQ ?_
            | refine ctr ?_
            | refine cfa ?_
            | refine kdec (fun hq => ?_) (fun hq => ?_)
            | refine gdec (fun hq => ?_) (fun hq => ?_)
            | refine cco (fun hq => ?_) (fun hq => ?_))
          refine VL_nameR 4 (by rfl) (fun u' hu' => ?_)
          obtain ⟨b3, cap3, rfl⟩ := hu'.some (by omega)
          repeat' (first
            | refine VC_seq ?_
            | refine VC_region ?_
            | refine VL_nil ?_
            | refine VC_ret ?_
            | refine VC_exit ?_
            | refine VC_block ?_
            | refine VC_skip ?_
            | refine kbox ?_
            | refine kall ?_
            | refine kst ?_
            | refine ksN ?_
            | refine klt ?_
            | refine kl1 ?_
            | refine klK ?_
            | refine kap ?_
            | ((first | apply VL_q | apply VG_q | apply VS_q2); (first | exact qi0 (by rfl) | exact qi1 (by rfl) | exact qwd (by rfl) | exact qnr (by rfl) | exact qni (by rfl) | exact qmv (by rfl) | exact qas (by rfl) | exact ql1 (by rfl) | exact qlA (by rfl) | exact qfa (by rfl) | exact qmf (by rfl) | exact qfd (by rfl) | exact qm1 (by rfl) | exact qbd (by rfl) | exact qno (by rfl) | exact qex (by rfl) | exact qln (by rfl) | exact qls (by rfl) | exact qlr (by rfl) | exact qpt (by rfl) | exact qpf (by rfl) | exact qcp (by rfl) | exact qbe (by rfl) | exact qbn (by rfl) | exact qsn (by rfl) | exact qad (by rfl) | exact qsa (by rfl) | exact qsu (by rfl) | exact QS_bin (by rfl) (by rfl) (by first | exact B_slnil | exact Bq_eql_Pair | exact Bq_neq_Pair | exact Bq_eql_Op | exact Bq_neq_Op | exact Bq_eql_Cfg | exact Bq_neq_Cfg)); rfl)
            | refine sst ?_
            | refine VS_nil ?_
            | refine eeq ?_
            | refine ees ?_ (by first | exact es1 (by rfl) | exact esN (by rfl))
            | refine VE_nil ?_
            | refine kyes ?_
            | refine kno ?_
            | refine gyes ?_
            | refine gno ?_
            | refine knoU ?_
            | refine gnoU ?_
            | refine VG_nil ⟨by rfl, ?_⟩
            | refine VG_nil ?_
            | refine dT ?_
            | refine d1 ?_
            | refine dQ ?_
            | refine ctr ?_
            | refine cfa ?_
            | refine kdec (fun hq => ?_) (fun hq => ?_)
            | refine gdec (fun hq => ?_) (fun hq => ?_)
            | refine cco (fun hq => ?_) (fun hq => ?_))
          refine forQ_next (Q := fun _ _ => True) [0, 1, 4] (k + 1, .slice (some ⟨b3, 0, none⟩) (k + 1) cap3) ⟨rfl, rfl, ⟨rfl, rfl, ?_, trivial⟩, ⟨rfl, rfl, rfl, rfl, rfl, trivial⟩⟩ (by show k + 1 ≤ _; omega) (by show l.length - (k + 1) < l.length - k; omega)
          have e6 : (l.take (k + 1)).flatMap (fun x => intC (x.toNat : Int)) = (l.take k).flatMap (fun x => intC (x.toNat : Int)) ++ [.int .i64 (l[k].toNat : Int)] := by rw [List.take_succ_eq_append_getElem hlt, List.flatMap_append]; rfl
          show _ = some (Ob.nrow _ _ 1 (k + 1) ((l.take (k + 1)).flatMap fun x => intC (x.toNat : Int)))
          rw [e6]; rfl
        · have hd := dge hge
          obtain rfl : k = l.length := by omega
          refine VC_frzN 2 (by rfl) (fun M2 hle2 hr => ?_)
          rw [List.take_length] at hr
          have hso : SlM M2 1 intC u (l.map fun x => (x.toNat : Int)) := RowM.slM (fun _ _ => rfl) (by rw [List.length_map, List.flatMap_map]; exact hr)
          have hok : (entP b u).Ok M2 := by
            unfold entP Ent.Ok
            rw [if_neg h1, if_pos h2, hpk]
            exact hso
          obtain ⟨A2, c2, rfl, _⟩ := id hso
          repeat' (first
            | refine VC_seq ?_
            | refine VC_region ?_
            | refine VL_nil ?_
            | refine VC_ret ?_
            | refine VC_exit ?_
            | refine VC_block ?_
            | refine VC_skip ?_
            | refine kbox ?_
            | refine kall ?_
            | refine kst ?_
            | refine ksN ?_
            | refine klt ?_
            | refine kl1 ?_
            | refine klK ?_
            | refine kap ?_
            | ((first | apply VL_q | apply VG_q | apply VS_q2); (first  | exact qmv (by rfl) | exact qas (by rfl) | exact ql1 (by rfl) | exact qlA (by rfl) | exact qfa (by rfl) | exact qmf (by rfl) | exact qfd (by rfl) | exact qm1 (by rfl) | exact qbd (by rfl) | exact qno (by rfl) | exact qex (by rfl) | exact qln (by rfl) | exact qls (by rfl) | exact qlr (by rfl) | exact qpt (by rfl) | exact qpf (by rfl) | exact qcp (by rfl) | exact qbe (by rfl) | exact qbn (by rfl) | exact qsn (by rfl) | exact qad (by rfl) | exact qsa (by rfl) | exact qsu (by rfl) | exact QS_bin (by rfl) (by rfl) (by first | exact B_slnil | exact Bq_eql_Pair | exact Bq_neq_Pair | exact Bq_eql_Op | exact Bq_neq_Op | exact Bq_eql_Cfg | exact Bq_neq_Cfg)); rfl)
            | refine sst ?_
            | refine VS_nil ?_
            | refine eeq ?_
            | refine ees ?_ (by first | exact es1 (by rfl) | exact esN (by rfl))
            | refine VE_nil ?_
            | refine kyes ?_
            | refine kno ?_
            | refine gyes ?_
            | refine gno ?_
            | refine knoU ?_
            | refine gnoU ?_
            | refine VG_nil ⟨by rfl, ?_⟩
            | refine VG_nil ?_
            | refine dT ?_
            | refine d1 ?_
            | refine dQ ?_
            | refine ctr ?_
            | refine cfa ?_
            | refine kdec (fun hq => ?_) (fun hq => ?_)
            | refine gdec (fun hq => ?_) (fun hq => ?_)
            | refine cco (fun hq => ?_) (fun hq => ?_))
          refine ⟨_, Res.one (by rfl) (ResV_agg (by rfl) (by rfl) _ (by rfl) rfl), _, ?_, hok⟩
          unfold entP
          rw [if_neg h1, if_pos h2]
          rfl
    · have f1 : decide ((0 : Int) < (b.size : Int)) = true ∨ decide ((0 : Int) < (b.size : Int)) = false := by cases decide ((0 : Int) < (b.size : Int)) <;> simp
      have he : ∀ pv, entP b pv = ⟨1, 0, opE, pv, []⟩ := fun pv => by unfold entP; rw [if_neg h1, if_neg h2]
      have hi : ∀ hpos : 0 < b.size, byt b 0 ≠ 2 := fun hp e => h2 ⟨hp, e⟩
      by_cases z0 : 0 < b.size
      · have d0 : decide ((0 : Int) < (b.size : Int)) = true := decide_eq_true (by omega)
        have f3 : (byt b 0 == 2) = false := by simp [hi z0]
        by_cases z1 : 1 < b.size
        · have d1 : decide ((1 : Int) < (b.size : Int)) = true := decide_eq_true (by omega)
          have f2 : (byt b 0 == 1) = false := by simp [show byt b 0 ≠ 1 from fun e => h1 ⟨z1, e⟩]
          repeat' (first
            | refine VC_seq ?_
            | refine VC_region ?_
            | refine VL_nil ?_
            | refine VC_ret ?_
            | refine VC_exit ?_
            | refine VC_block ?_
            | refine VC_skip ?_
            | refine kbox ?_
            | refine kall ?_
            | refine kst ?_
            | refine ksN ?_
            | refine klt ?_
            | refine kl1 ?_
            | refine klK ?_
            | refine kap ?_
            | ((first | apply VL_q | apply VG_q | apply VS_q2); (first | exact qi0 (by rfl) | exact qi1 (by rfl) | exact qwd (by rfl) | exact qnr (by rfl) | exact qni (by rfl) | exact qbk (by rfl) | exact qmv (by rfl) | exact qas (by rfl) | exact ql1 (by rfl) | exact qlA (by rfl) | exact qfa (by rfl) | exact qmf (by rfl) | exact qfd (by rfl) | exact qm1 (by rfl) | exact qbd (by rfl) | exact qno (by rfl) | exact qex (by rfl) | exact qln (by rfl) | exact qls (by rfl) | exact qlr (by rfl) | exact qpt (by rfl) | exact qpf (by rfl) | exact qcp (by rfl) | exact qbe (by rfl) | exact qbn (by rfl) | exact qsn (by rfl) | exact qad (by rfl) | exact qsa (by rfl) | exact qsu (by rfl) | exact QS_bin (by rfl) (by rfl) (by first | exact B_slnil | exact Bq_eql_Pair | exact Bq_neq_Pair | exact Bq_eql_Op | exact Bq_neq_Op | exact Bq_eql_Cfg | exact Bq_neq_Cfg)); rfl)
            | refine sst ?_
            | refine VS_nil ?_
            | refine eeq ?_
            | refine ees ?_ (by first | exact es1 (by rfl) | exact esN (by rfl))
            | refine VE_nil ?_
            | refine kyes ?_
            | refine kno ?_
            | refine gyes ?_
            | refine gno ?_
            | refine knoU ?_
            | refine gnoU ?_
            | refine VG_nil ⟨by rfl, ?_⟩
            | refine VG_nil ?_
            | refine dT ?_
            | refine d1 ?_
            | refine dQ ?_
            | refine ctr ?_
            | refine cfa ?_
            | refine kdec (fun hq => ?_) (fun hq => ?_)
            | refine gdec (fun hq => ?_) (fun hq => ?_)
            | refine cco (fun hq => ?_) (fun hq => ?_))
          all_goals exact ⟨_, Res.one (by rfl) (ResV_agg (by rfl) (by rfl) _ (by rfl) rfl), .slice none 0 0, by rw [he]; rfl, by rw [he]; exact SlM.nil _ _ _⟩
        · have d1 : decide ((1 : Int) < (b.size : Int)) = false := decide_eq_false (by omega)
          repeat' (first
            | refine VC_seq ?_
            | refine VC_region ?_
            | refine VL_nil ?_
            | refine VC_ret ?_
            | refine VC_exit ?_
            | refine VC_block ?_
            | refine VC_skip ?_
            | refine kbox ?_
            | refine kall ?_
            | refine kst ?_
            | refine ksN ?_
            | refine klt ?_
            | refine kl1 ?_
            | refine klK ?_
            | refine kap ?_
            | ((first | apply VL_q | apply VG_q | apply VS_q2); (first | exact qi0 (by rfl) | exact qi1 (by rfl) | exact qwd (by rfl) | exact qnr (by rfl) | exact qni (by rfl) | exact qbk (by rfl) | exact qmv (by rfl) | exact qas (by rfl) | exact ql1 (by rfl) | exact qlA (by rfl) | exact qfa (by rfl) | exact qmf (by rfl) | exact qfd (by rfl) | exact qm1 (by rfl) | exact qbd (by rfl) | exact qno (by rfl) | exact qex (by rfl) | exact qln (by rfl) | exact qls (by rfl) | exact qlr (by rfl) | exact qpt (by rfl) | exact qpf (by rfl) | exact qcp (by rfl) | exact qbe (by rfl) | exact qbn (by rfl) | exact qsn (by rfl) | exact qad (by rfl) | exact qsa (by rfl) | exact qsu (by rfl) | exact QS_bin (by rfl) (by rfl) (by first | exact B_slnil | exact Bq_eql_Pair | exact Bq_neq_Pair | exact Bq_eql_Op | exact Bq_neq_Op | exact Bq_eql_Cfg | exact Bq_neq_Cfg)); rfl)
            | refine sst ?_
            | refine VS_nil ?_
            | refine eeq ?_
            | refine ees ?_ (by first | exact es1 (by rfl) | exact esN (by rfl))
            | refine VE_nil ?_
            | refine kyes ?_
            | refine kno ?_
            | refine gyes ?_
            | refine gno ?_
            | refine knoU ?_
            | refine gnoU ?_
            | refine VG_nil ⟨by rfl, ?_⟩
            | refine VG_nil ?_
            | refine dT ?_
            | refine d1 ?_
            | refine dQ ?_
            | refine ctr ?_
            | refine cfa ?_
            | refine kdec (fun hq => ?_) (fun hq => ?_)
            | refine gdec (fun hq => ?_) (fun hq => ?_)
            | refine cco (fun hq => ?_) (fun hq => ?_))
          all_goals exact ⟨_, Res.one (by rfl) (ResV_agg (by rfl) (by rfl) _ (by rfl) rfl), .slice none 0 0, by rw [he]; rfl, by rw [he]; exact SlM.nil _ _ _⟩
      · have d0 : decide ((0 : Int) < (b.size : Int)) = false := decide_eq_false (by omega)
        have d1 : decide ((1 : Int) < (b.size : Int)) = false := decide_eq_false (by omega)
        repeat' (first
          | refine VC_seq ?_
          | refine VC_region ?_
          | refine VL_nil ?_
          | refine VC_ret ?_
          | refine VC_exit ?_
          | refine VC_block ?_
          | refine VC_skip ?_
          | refine kbox ?_
          | refine kall ?_
          | refine kst ?_
          | refine ksN ?_
          | refine klt ?_
          | refine kl1 ?_
          | refine klK ?_
          | refine kap ?_
          | ((first | apply VL_q | apply VG_q | apply VS_q2); (first | exact qi0 (by rfl) | exact qi1 (by rfl) | exact qwd (by rfl) | exact qnr (by rfl) | exact qni (by rfl) | exact qbk (by rfl) | exact qmv (by rfl) | exact qas (by rfl) | exact ql1 (by rfl) | exact qlA (by rfl) | exact qfa (by rfl) | exact qmf (by rfl) | exact qfd (by rfl) | exact qm1 (by rfl) | exact qbd (by rfl) | exact qno (by rfl) | exact qex (by rfl) | exact qln (by rfl) | exact qls (by rfl) | exact qlr (by rfl) | exact qpt (by rfl) | exact qpf (by rfl) | exact qcp (by rfl) | exact qbe (by rfl) | exact qbn (by rfl) | exact qsn (by rfl) | exact qad (by rfl) | exact qsa (by rfl) | exact qsu (by rfl) | exact QS_bin (by rfl) (by rfl) (by first | exact B_slnil | exact Bq_eql_Pair | exact Bq_neq_Pair | exact Bq_eql_Op | exact Bq_neq_Op | exact Bq_eql_Cfg | exact Bq_neq_Cfg)); rfl)
          | refine sst ?_
          | refine VS_nil ?_
          | refine eeq ?_
          | refine ees ?_ (by first | exact es1 (by rfl) | exact esN (by rfl))
          | refine VE_nil ?_
          | refine kyes ?_
          | refine kno ?_
          | refine gyes ?_
          | refine gno ?_
          | refine knoU ?_
          | refine gnoU ?_
          | refine VG_nil ⟨by rfl, ?_⟩
          | refine VG_nil ?_
          | refine dT ?_
          | refine d1 ?_
          | refine dQ ?_
          | refine ctr ?_
          | refine cfa ?_
          | refine kdec (fun hq => ?_) (fun hq => ?_)
          | refine gdec (fun hq => ?_) (fun hq => ?_)
          | refine cco (fun hq => ?_) (fun hq => ?_))
        all_goals exact ⟨_, Res.one (by rfl) (ResV_agg (by rfl) (by rfl) _ (by rfl) rfl), .slice none 0 0, by rw [he]; rfl, by rw [he]; exact SlM.nil _ _ _⟩
theorem script_entryE (b : ByteArray) (w : World) (M : Mem) (hM : M.le (Mem.of w)) (hs : b.size ≤ 1000000) :
    Calls Try.prog 54 #[.string b] w (RetM M w (fun v M' => ∃ e : Ent, v = .agg #[.int .i64 e.kind, .int .i64 e.client, .int .i64 e.o.kind, .string e.o.key, .string e.o.hi, .bool e.o.opn, .string e.o.val, .int .i64 e.o.limit, e.pv] ∧ e.Ok M' ∧ e.st = entS b)) :=
  (script_entry b w M hM hs).mono fun e w' ⟨v, M', h1, h2, h3, h4, h5, pv, h6, h7⟩ => ⟨v, M', h1, h2, h3, h4, h5, _, h6, h7, entP_st b pv⟩
/-- What stands for any bytes: their bodies, and one for a rest. -/
def bodiesF (s : ByteArray) : List ByteArray := (splitB s).1 ++ if (splitB s).2 = true then [em] else []
theorem bodiesF_ok {s : ByteArray} (h : okT s = true) : bodiesF s = (takeT s).1 :: bodiesF (takeT s).2.1 := by
  unfold bodiesF
  rw [splitB_ok h]; rfl
theorem bodiesF_no {s : ByteArray} (h : okT s = false) : bodiesF s = if s.size = 0 then [] else [em] := by
  unfold bodiesF
  rw [splitB_no h]
  by_cases h0 : s.size = 0 <;> simp [h0]
theorem takeT_ok (s : ByteArray) : (takeT s).2.2 = okT s := by
  unfold takeT
  cases okT s <;> rfl
theorem script_Decode (s : ByteArray) (w : World) (M : Mem) (hM : M.le (Mem.of w)) (hs : s.size ≤ 1000000) :
    Calls Try.prog 13 #[.string s] w (RetM M w (fun v M' => ∃ l : List Ent, SlM M' 9 enCells v l ∧ (∀ e ∈ l, e.Ok M') ∧ l.map Ent.st = (bodiesF s).map entS)) := by
  refine V_ret (args := [.string s]) (M := M) Try.func13 rfl Try.ntmps13 (by rfl) hM _ ?_
  refine VC_frzQ ?_
  repeat' (first
    | refine VC_seq ?_
    | refine VC_region ?_
    | refine VL_nil ?_
    | refine VC_ret ?_
    | refine VC_exit ?_
    | refine VC_block ?_
    | refine VC_skip ?_
    | refine kbox ?_
    | refine kall ?_
    | refine kst ?_
    | refine ksN ?_
    | refine klt ?_
    | refine kl1 ?_
    | refine klK ?_
    | refine kap ?_
    | ((first | apply VL_q | apply VG_q | apply VS_q2); (first  | exact qmv (by rfl) | exact qas (by rfl) | exact ql1 (by rfl) | exact qlA (by rfl) | exact qfa (by rfl) | exact qmf (by rfl) | exact qfd (by rfl) | exact qm1 (by rfl) | exact qbd (by rfl) | exact qno (by rfl) | exact qex (by rfl) | exact qln (by rfl) | exact qls (by rfl) | exact qlr (by rfl) | exact qpt (by rfl) | exact qpf (by rfl) | exact qcp (by rfl) | exact qbe (by rfl) | exact qbn (by rfl) | exact qsn (by rfl) | exact qad (by rfl) | exact qsa (by rfl) | exact qsu (by rfl) | exact QS_bin (by rfl) (by rfl) (by first | exact B_slnil | exact Bq_eql_Pair | exact Bq_neq_Pair | exact Bq_eql_Op | exact Bq_neq_Op | exact Bq_eql_Cfg | exact Bq_neq_Cfg)); rfl)
    | refine sst ?_
    | refine VS_nil ?_
    | refine eeq ?_
    | refine ees ?_ (by first | exact es1 (by rfl) | exact esN (by rfl))
    | refine VE_nil ?_
    | refine kyes ?_
    | refine kno ?_
    | refine gyes ?_
    | refine gno ?_
    | refine knoU ?_
    | refine gnoU ?_
    | refine VG_nil ⟨by rfl, ?_⟩
    | refine VG_nil ?_
    | refine dT ?_
    | refine d1 ?_
    | refine dQ ?_
    | refine ctr ?_
    | refine cfa ?_
    | refine kdec (fun hq => ?_) (fun hq => ?_)
    | refine gdec (fun hq => ?_) (fun hq => ?_)
    | refine cco (fun hq => ?_) (fun hq => ?_))
  refine VC_nilR 3 33 9 (by rfl) (by rfl) ?_
  refine VC_for (fun x : List Ent × ByteArray × Mem => ⟨x.2.2, [.row 33 9 x.1.length (x.1.flatMap enCells)], [(0, .v (.string x.2.1)), (3, .r 0)]⟩) (fun x => M.le x.2.2 ∧ (∀ e ∈ x.1, e.Ok x.2.2) ∧ (bodiesF s).map entS = x.1.map Ent.st ++ (bodiesF x.2.1).map entS ∧ x.1.length + x.2.1.size ≤ s.size) (fun x => x.2.1.size) [0] ([], s, M) ⟨rfl, rfl, ⟨rfl, trivial⟩, ⟨rfl, rfl, trivial⟩⟩ ⟨Mem.le_refl _, (by simp), rfl, by simp⟩ ?_
  rintro ⟨acc, t, M1⟩ ⟨hM1, hok, e1, hz⟩
  dsimp only at hM1 hok e1 hz ⊢
  have e0 := em_dec t
  rcases Nat.eq_zero_or_pos t.size with h0 | h0
  · have hd : (!decide (t = ⟨#[]⟩)) = false := by rw [e0, decide_eq_true h0]; rfl
    have ho : okT t = false := by unfold okT; simp [h0]
    rw [bodiesF_no ho, if_pos h0, List.map_nil, List.append_nil] at e1
    repeat' (first
      | refine VC_seq ?_
      | refine VC_region ?_
      | refine VL_nil ?_
      | refine VC_ret ?_
      | refine VC_exit ?_
      | refine VC_block ?_
      | refine VC_skip ?_
      | refine kbox ?_
      | refine kall ?_
      | refine kst ?_
      | refine ksN ?_
      | refine klt ?_
      | refine kl1 ?_
      | refine klK ?_
      | refine kap ?_
      | ((first | apply VL_q | apply VG_q | apply VS_q2); (first | exact qi0 (by rfl) | exact qi1 (by rfl) | exact qwd (by rfl) | exact qnr (by rfl) | exact qni (by rfl) | exact qmv (by rfl) | exact qas (by rfl) | exact ql1 (by rfl) | exact qlA (by rfl) | exact qfa (by rfl) | exact qmf (by rfl) | exact qfd (by rfl) | exact qm1 (by rfl) | exact qbd (by rfl) | exact qno (by rfl) | exact qex (by rfl) | exact qln (by rfl) | exact qls (by rfl) | exact qlr (by rfl) | exact qpt (by rfl) | exact qpf (by rfl) | exact qcp (by rfl) | exact qbe (by rfl) | exact qbn (by rfl) | exact qsn (by rfl) | exact qad (by rfl) | exact qsa (by rfl) | exact qsu (by rfl) | exact QS_bin (by rfl) (by rfl) (by first | exact B_slnil | exact Bq_eql_Pair | exact Bq_neq_Pair | exact Bq_eql_Op | exact Bq_neq_Op | exact Bq_eql_Cfg | exact Bq_neq_Cfg)); rfl)
      | refine sst ?_
      | refine VS_nil ?_
      | refine eeq ?_
      | refine ees ?_ (by first | exact es1 (by rfl) | exact esN (by rfl))
      | refine VE_nil ?_
      | refine kyes ?_
      | refine kno ?_
      | refine gyes ?_
      | refine gno ?_
      | refine knoU ?_
      | refine gnoU ?_
      | refine VG_nil ⟨by rfl, ?_⟩
      | refine VG_nil ?_
      | refine dT ?_
      | refine d1 ?_
      | refine dQ ?_
      | refine ctr ?_
      | refine cfa ?_
      | refine kdec (fun hq => ?_) (fun hq => ?_)
      | refine gdec (fun hq => ?_) (fun hq => ?_)
      | refine cco (fun hq => ?_) (fun hq => ?_))
    refine .inr ⟨0, _, _, _, _, rfl, fun u M' hle hu => ⟨_, Res.one (by rfl) (ResV_tmp (by rfl) rfl), acc, hu.slM (fun _ _ => rfl), fun e he => (hok e he).mono hle, e1.symm⟩⟩
  · have hd : (!decide (t = ⟨#[]⟩)) = true := by rw [e0, decide_eq_false (by omega)]; rfl
    have cT := fun W => pack_TakeText t W (by omega)
    cases ho : okT t with
    | false =>
      have h3 : (!(takeT t).2.2) = true := by rw [takeT_ok, ho]; rfl
      rw [bodiesF_no ho, if_neg (by omega)] at e1
      have hal : acc.length + 1 ≤ 1000000 := by omega
      repeat' (first
        | refine VC_seq ?_
        | refine VC_region ?_
        | refine VL_nil ?_
        | refine VC_ret ?_
        | refine VC_exit ?_
        | refine VC_block ?_
        | refine VC_skip ?_
        | refine kbox ?_
        | refine kall ?_
        | refine kst ?_
        | refine ksN ?_
        | refine klt ?_
        | refine kl1 ?_
        | refine klK ?_
        | refine kap ?_
        | ((first | apply VL_q | apply VG_q | apply VS_q2); (first | exact qi0 (by rfl) | exact qi1 (by rfl) | exact qwd (by rfl) | exact qnr (by rfl) | exact qni (by rfl) | exact qbk (by rfl) | exact QS_call (by rfl) (fun W _ => cT W) | exact qmv (by rfl) | exact qas (by rfl) | exact ql1 (by rfl) | exact qlA (by rfl) | exact qfa (by rfl) | exact qmf (by rfl) | exact qfd (by rfl) | exact qm1 (by rfl) | exact qbd (by rfl) | exact qno (by rfl) | exact qex (by rfl) | exact qln (by rfl) | exact qls (by rfl) | exact qlr (by rfl) | exact qpt (by rfl) | exact qpf (by rfl) | exact qcp (by rfl) | exact qbe (by rfl) | exact qbn (by rfl) | exact qsn (by rfl) | exact qad (by rfl) | exact qsa (by rfl) | exact qsu (by rfl) | exact QS_bin (by rfl) (by rfl) (by first | exact B_slnil | exact Bq_eql_Pair | exact Bq_neq_Pair | exact Bq_eql_Op | exact Bq_neq_Op | exact Bq_eql_Cfg | exact Bq_neq_Cfg)); rfl)
        | refine sst ?_
        | refine VS_nil ?_
        | refine eeq ?_
        | refine ees ?_ (by first | exact es1 (by rfl) | exact esN (by rfl))
        | refine VE_nil ?_
        | refine kyes ?_
        | refine kno ?_
        | refine gyes ?_
        | refine gno ?_
        | refine knoU ?_
        | refine gnoU ?_
        | refine VG_nil ⟨by rfl, ?_⟩
        | refine VG_nil ?_
        | refine dT ?_
        | refine d1 ?_
        | refine dQ ?_
        | refine ctr ?_
        | refine cfa ?_
        | refine kdec (fun hq => ?_) (fun hq => ?_)
        | refine gdec (fun hq => ?_) (fun hq => ?_)
        | refine cco (fun hq => ?_) (fun hq => ?_))
      refine .inr ⟨2, _, _, _, _, rfl, fun u M' hle hu => ⟨_, Res.one (by rfl) (ResV_tmp (by rfl) rfl), acc ++ [⟨1, 0, opE, .slice none 0 0, []⟩], RowM.slM (fun _ _ => rfl) ?_, fun e he => ?_, ?_⟩⟩
      · rw [List.length_append, List.flatMap_append]; exact hu
      · rcases List.mem_append.1 he with he | he
        · exact (hok e he).mono hle
        · rw [List.mem_singleton.1 he]; exact SlM.nil _ _ _
      · rw [e1, List.map_append]; rfl
    | true =>
      have h3 : (!(takeT t).2.2) = false := by rw [takeT_ok, ho]; rfl
      have htl := takeT_lt ho
      have hts : (takeT t).1.size ≤ 1000000 := size_tk1 (by omega)
      rw [bodiesF_ok ho, List.map_cons] at e1
      have hal : acc.length + 1 ≤ 1000000 := by omega
      repeat' (first
        | refine VC_seq ?_
        | refine VC_region ?_
        | refine VL_nil ?_
        | refine VC_ret ?_
        | refine VC_exit ?_
        | refine VC_block ?_
        | refine VC_skip ?_
        | refine kbox ?_
        | refine kall ?_
        | refine kst ?_
        | refine ksN ?_
        | refine klt ?_
        | refine kl1 ?_
        | refine klK ?_
        | refine kap ?_
        | ((first | apply VL_q | apply VG_q | apply VS_q2); (first | exact qi0 (by rfl) | exact qi1 (by rfl) | exact qwd (by rfl) | exact qnr (by rfl) | exact qni (by rfl) | exact QS_call (by rfl) (fun W _ => cT W) | exact qmv (by rfl) | exact qas (by rfl) | exact ql1 (by rfl) | exact qlA (by rfl) | exact qfa (by rfl) | exact qmf (by rfl) | exact qfd (by rfl) | exact qm1 (by rfl) | exact qbd (by rfl) | exact qno (by rfl) | exact qex (by rfl) | exact qln (by rfl) | exact qls (by rfl) | exact qlr (by rfl) | exact qpt (by rfl) | exact qpf (by rfl) | exact qcp (by rfl) | exact qbe (by rfl) | exact qbn (by rfl) | exact qsn (by rfl) | exact qad (by rfl) | exact qsa (by rfl) | exact qsu (by rfl) | exact QS_bin (by rfl) (by rfl) (by first | exact B_slnil | exact Bq_eql_Pair | exact Bq_neq_Pair | exact Bq_eql_Op | exact Bq_neq_Op | exact Bq_eql_Cfg | exact Bq_neq_Cfg)); rfl)
        | refine sst ?_
        | refine VS_nil ?_
        | refine eeq ?_
        | refine ees ?_ (by first | exact es1 (by rfl) | exact esN (by rfl))
        | refine VE_nil ?_
        | refine kyes ?_
        | refine kno ?_
        | refine gyes ?_
        | refine gno ?_
        | refine knoU ?_
        | refine gnoU ?_
        | refine VG_nil ⟨by rfl, ?_⟩
        | refine VG_nil ?_
        | refine dT ?_
        | refine d1 ?_
        | refine dQ ?_
        | refine ctr ?_
        | refine cfa ?_
        | refine kdec (fun hq => ?_) (fun hq => ?_)
        | refine gdec (fun hq => ?_) (fun hq => ?_)
        | refine cco (fun hq => ?_) (fun hq => ?_))
      refine VL_callM (by rfl) (fun W hW => script_entryE (takeT t).1 W M1 hW hts) (by rfl) (fun v M2 hle2 hv => ?_)
      obtain ⟨⟨kind, client, o, pv, ps⟩, rfl, hpo, hps⟩ := hv
      have hpo' : SlM M2 1 intC pv ps := hpo
      obtain ⟨A, c, rfl, _⟩ := id hpo'
      repeat' (first
        | refine VC_seq ?_
        | refine VC_region ?_
        | refine VL_nil ?_
        | refine VC_ret ?_
        | refine VC_exit ?_
        | refine VC_block ?_
        | refine VC_skip ?_
        | refine kbox ?_
        | refine kall ?_
        | refine kst ?_
        | refine ksN ?_
        | refine klt ?_
        | refine kl1 ?_
        | refine klK ?_
        | refine kap ?_
        | ((first | apply VL_q | apply VG_q | apply VS_q2); (first | exact qi0 (by rfl) | exact qi1 (by rfl) | exact qwd (by rfl) | exact qnr (by rfl) | exact qni (by rfl) | exact qmv (by rfl) | exact qas (by rfl) | exact ql1 (by rfl) | exact qlA (by rfl) | exact qfa (by rfl) | exact qmf (by rfl) | exact qfd (by rfl) | exact qm1 (by rfl) | exact qbd (by rfl) | exact qno (by rfl) | exact qex (by rfl) | exact qln (by rfl) | exact qls (by rfl) | exact qlr (by rfl) | exact qpt (by rfl) | exact qpf (by rfl) | exact qcp (by rfl) | exact qbe (by rfl) | exact qbn (by rfl) | exact qsn (by rfl) | exact qad (by rfl) | exact qsa (by rfl) | exact qsu (by rfl) | exact QS_bin (by rfl) (by rfl) (by first | exact B_slnil | exact Bq_eql_Pair | exact Bq_neq_Pair | exact Bq_eql_Op | exact Bq_neq_Op | exact Bq_eql_Cfg | exact Bq_neq_Cfg)); rfl)
        | refine sst ?_
        | refine VS_nil ?_
        | refine eeq ?_
        | refine ees ?_ (by first | exact es1 (by rfl) | exact esN (by rfl))
        | refine VE_nil ?_
        | refine kyes ?_
        | refine kno ?_
        | refine gyes ?_
        | refine gno ?_
        | refine knoU ?_
        | refine gnoU ?_
        | refine VG_nil ⟨by rfl, ?_⟩
        | refine VG_nil ?_
        | refine dT ?_
        | refine d1 ?_
        | refine dQ ?_
        | refine ctr ?_
        | refine cfa ?_
        | refine kdec (fun hq => ?_) (fun hq => ?_)
        | refine gdec (fun hq => ?_) (fun hq => ?_)
        | refine cco (fun hq => ?_) (fun hq => ?_))
      refine forQ_next (Q := fun _ _ => True) [2] (acc ++ [⟨kind, client, o, .slice A ps.length c, ps⟩], (takeT t).2.1, M2) ⟨rfl, rfl, ⟨?_, trivial⟩, ⟨rfl, rfl, trivial⟩⟩ ⟨hM1.trans hle2, fun e he => ?_, ?_, ?_⟩ htl
      · have e5 : (acc ++ [⟨kind, client, o, .slice A ps.length c, ps⟩] : List Ent).length = acc.length + 1 := by rw [List.length_append]; rfl
        have e6 : (acc ++ [⟨kind, client, o, .slice A ps.length c, ps⟩] : List Ent).flatMap enCells = acc.flatMap enCells ++ enCells ⟨kind, client, o, .slice A ps.length c, ps⟩ := by rw [List.flatMap_append]; simp only [List.flatMap_cons, List.flatMap_nil, List.append_nil]
        show _ = some (Ob.row _ 9 (acc ++ [_] : List Ent).length ((acc ++ [_] : List Ent).flatMap enCells))
        rw [e5, e6]; rfl
      · rcases List.mem_append.1 he with he | he
        · exact (hok e he).mono hle2
        · rw [List.mem_singleton.1 he]; exact hpo
      · rw [e1, ← hps, List.map_append, List.append_assoc]; rfl
      · show (acc ++ [_]).length + (takeT t).2.1.size ≤ s.size
        rw [List.length_append]
        show acc.length + 1 + _ ≤ _
        omega
end Go.Proofs.Ytdgcdfngpimmmaa
