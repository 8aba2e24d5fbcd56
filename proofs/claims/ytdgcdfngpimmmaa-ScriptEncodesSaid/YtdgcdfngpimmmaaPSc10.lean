/- What the entries of any bytes are: plain Lean; the chapter's example. -/
import Derived.Test.YtdgcdfngpimmmaaPSc9
namespace Go.Proofs.Ytdgcdfngpimmmaa
open Go Go.RowKit
attribute [local irreducible] Calls takeT ofO
set_option linter.unusedVariables false
set_option maxRecDepth 20000
set_option linter.unusedSimpArgs false
set_option maxHeartbeats 4000000
theorem rightO_small {o : Op} (h : rightO o = true) : o.key.size ≤ 16 ∧ o.hi.size ≤ 16 ∧ o.val.size ≤ 16 ∧ 1 ≤ o.kind ∧ o.kind ≤ 6 := by
  unfold rightO at h
  simp only [Bool.and_eq_true, decide_eq_true_eq] at h
  exact ⟨h.1.1.1.1.1.1.2, h.1.1.1.1.1.2, h.1.1.1.1.2, h.1.1.1.1.1.1.1.1, h.1.1.1.1.1.1.1.2⟩
theorem entS_eq (b : ByteArray) : entS b = if 1 < b.size ∧ byt b 0 = 1 then (1, byt b 1, (ofO (b.extract 2 b.size)).1, []) else if 0 < b.size ∧ byt b 0 = 2 then (2, 0, opE, picksB b) else (1, 0, opE, []) := by
  unfold entS entP
  split
  · rfl
  · split <;> rfl
theorem opE_bad : rightO opE = false := by decide
theorem ex_a : (bodiesF ⟨#[2, 2, 7]⟩).map entS = [(2, 0, opE, [7])] := by
  rw [bodiesF_ok (by rfl), bodiesF_no (s := (takeT ⟨#[2, 2, 7]⟩).2.1) (by unfold takeT; rfl), if_pos (by unfold takeT; rfl), List.map_cons, List.map_nil, entS_eq]
  unfold takeT
  rfl
theorem ex_b : (bodiesF ⟨#[5, 1]⟩).map entS = [(1, 0, opE, [])] := by
  rw [bodiesF_no (by rfl), if_neg (by decide), List.map_cons, List.map_nil]; rfl
theorem one_ent {l : List Ent} {x : Int × Int × Op × List Int} (h : l.map Ent.st = [x]) : ∃ pv, l = [⟨x.1, x.2.1, x.2.2.1, pv, x.2.2.2⟩] := by
  cases l with
  | nil => cases h
  | cons e l =>
    cases l with
    | cons _ _ => cases h
    | nil =>
      simp only [List.map_cons, List.map_nil, List.cons.injEq, and_true] at h
      subst h
      exact ⟨e.pv, rfl⟩
theorem one_get {α : Type} {M : Mem} {k : Nat} {cells : α → List Value} {A : Option Addr} {c : Nat} {x : α} (h : SlM M k cells (.slice A 1 c) [x]) : ∃ b off, A = some ⟨b, off, none⟩ ∧ ∀ j u, (cells x)[j]? = some u → M.cell b (off + 0 * k + j) = some u :=
  SlM.get (l := [x]) h (i := 0) (by simp)
theorem script_awake (w : World) : Calls Try.prog 11 #[] w fun e w' => e = .returned (.bool true) ∧ Below w.heap.size w w' := by
  have hq : eqv opE opE = true := eqv_self _
  refine V_flat (args := []) (M := Mem.no) Try.func11 rfl Try.ntmps11 (by rfl) (Mem.no_le _) ?_
  repeat' (first
    | refine VC_seq ?_
    | refine VC_region ?_
    | refine VL_nil ?_
    | refine VC_ret ?_
    | refine VC_exit ?_
    | refine VC_block ?_
    | refine VC_skip ?_
    | refine kbox ?_
    | refine kall ?_
    | refine kst ?_
    | refine ksN ?_
    | refine klt ?_
    | refine kl1 ?_
    | refine klK ?_
    | refine kap ?_
    | ((first | apply VL_q | apply VG_q | apply VS_q2); (first  | exact qmv (by rfl) | exact qas (by rfl) | exact ql1 (by rfl) | exact qlA (by rfl) | exact qfa (by rfl) | exact qmf (by rfl) | exact qfd (by rfl) | exact qm1 (by rfl) | exact qbd (by rfl) | exact qno (by rfl) | exact qex (by rfl) | exact qln (by rfl) | exact qls (by rfl) | exact qlr (by rfl) | exact qpt (by rfl) | exact qpf (by rfl) | exact qcp (by rfl) | exact qbe (by rfl) | exact qbn (by rfl) | exact qsn (by rfl) | exact qad (by rfl) | exact qsa (by rfl) | exact qsu (by rfl) | exact QS_bin (by rfl) (by rfl) (by first | exact B_slnil | exact Bq_eql_Pair | exact Bq_neq_Pair | exact Bq_eql_Op | exact Bq_neq_Op | exact Bq_eql_Cfg | exact Bq_neq_Cfg)); rfl)
    | refine sst ?_
    | refine VS_nil ?_
    | refine eeq ?_
    | refine ees ?_ (by first | exact es1 (by rfl) | exact esN (by rfl))
    | refine VE_nil ?_
    | refine kyes ?_
    | refine kno ?_
    | refine gyes ?_
    | refine gno ?_
    | refine knoU ?_
    | refine gnoU ?_
    | refine VG_nil ⟨by rfl, ?_⟩
    | refine VG_nil ?_
    | refine dT ?_
    | refine d1 ?_
    | refine dQ ?_
    | refine ctr ?_
    | refine cfa ?_
    | refine kdec (fun hq => ?_) (fun hq => ?_)
    | refine gdec (fun hq => ?_) (fun hq => ?_)
    | refine cco (fun hq => ?_) (fun hq => ?_))
  refine VL_callM (by rfl) (fun W hW => script_Decode ⟨#[2, 2, 7]⟩ W Mem.no hW (by decide)) (by rfl) (fun v1 M1 hle1 hv1 => ?_)
  obtain ⟨l1, hs1, ho1, hm1⟩ := hv1
  rw [ex_a] at hm1
  obtain ⟨pv1, rfl⟩ := one_ent hm1
  have hp1 : SlM M1 1 intC pv1 [7] := ho1 _ (List.mem_singleton.2 rfl)
  repeat' (first
    | refine VC_seq ?_
    | refine VC_region ?_
    | refine VL_nil ?_
    | refine VC_ret ?_
    | refine VC_exit ?_
    | refine VC_block ?_
    | refine VC_skip ?_
    | refine kbox ?_
    | refine kall ?_
    | refine kst ?_
    | refine ksN ?_
    | refine klt ?_
    | refine kl1 ?_
    | refine klK ?_
    | refine kap ?_
    | ((first | apply VL_q | apply VG_q | apply VS_q2); (first  | exact qmv (by rfl) | exact qas (by rfl) | exact ql1 (by rfl) | exact qlA (by rfl) | exact qfa (by rfl) | exact qmf (by rfl) | exact qfd (by rfl) | exact qm1 (by rfl) | exact qbd (by rfl) | exact qno (by rfl) | exact qex (by rfl) | exact qln (by rfl) | exact qls (by rfl) | exact qlr (by rfl) | exact qpt (by rfl) | exact qpf (by rfl) | exact qcp (by rfl) | exact qbe (by rfl) | exact qbn (by rfl) | exact qsn (by rfl) | exact qad (by rfl) | exact qsa (by rfl) | exact qsu (by rfl) | exact QS_bin (by rfl) (by rfl) (by first | exact B_slnil | exact Bq_eql_Pair | exact Bq_neq_Pair | exact Bq_eql_Op | exact Bq_neq_Op | exact Bq_eql_Cfg | exact Bq_neq_Cfg)); rfl)
    | refine sst ?_
    | refine VS_nil ?_
    | refine eeq ?_
    | refine ees ?_ (by first | exact es1 (by rfl) | exact esN (by rfl))
    | refine VE_nil ?_
    | refine kyes ?_
    | refine kno ?_
    | refine gyes ?_
    | refine gno ?_
    | refine knoU ?_
    | refine gnoU ?_
    | refine VG_nil ⟨by rfl, ?_⟩
    | refine VG_nil ?_
    | refine dT ?_
    | refine d1 ?_
    | refine dQ ?_
    | refine ctr ?_
    | refine cfa ?_
    | refine kdec (fun hq => ?_) (fun hq => ?_)
    | refine gdec (fun hq => ?_) (fun hq => ?_)
    | refine cco (fun hq => ?_) (fun hq => ?_))
  refine VL_callM (by rfl) (fun W hW => script_Decode ⟨#[5, 1]⟩ W M1 hW (by decide)) (by rfl) (fun v2 M2 hle2 hv2 => ?_)
  obtain ⟨l2, hs2, ho2, hm2⟩ := hv2
  rw [ex_b] at hm2
  obtain ⟨pv2, rfl⟩ := one_ent hm2
  have hs1' := hs1.mono hle2
  have hp1' := hp1.mono hle2
  obtain ⟨A1, c1, hv1, hc1, hc2, _⟩ := id hs1'
  obtain ⟨A2, c2, hv2, hd1, hd2, _⟩ := id hs2
  obtain ⟨A3, c3, hv3, he1, he2, _⟩ := id hp1'
  have hv1' : v1 = .slice A1 1 c1 := hv1
  have hv2' : v2 = .slice A2 1 c2 := hv2
  have hv3' : pv1 = .slice A3 1 c3 := hv3
  clear hv1 hv2 hv3
  subst hv1' hv2' hv3'
  have hc1 : 1 ≤ c1 := hc1
  have hd1 : 1 ≤ c2 := hd1
  have he1 : 1 ≤ c3 := he1
  obtain ⟨b1, o1, rfl, hcA⟩ := one_get hs1'
  obtain ⟨b2, o2, rfl, hcB⟩ := one_get hs2
  obtain ⟨b3, o3, rfl, hcC⟩ := one_get hp1'
  unfold maxLen at hc2 hd2 he2
  have hcD : ∀ (j : Nat) (u : Value), ([.int .i64 opE.kind, .string opE.key, .string opE.hi, .bool opE.opn, .string opE.val, .int .i64 opE.limit] : List Value)[j]? = some u → M2.cell b2 (o2 + 0 * 9 + 2 + j) = some u := fun j u h => by
    have h2 := hcB (2 + j) u (by rcases j with _ | _ | _ | _ | _ | _ | j <;> first | exact h | (simp at h))
    rw [← Nat.add_assoc] at h2; exact h2
  repeat' (first
    | refine VC_seq ?_
    | refine VC_region ?_
    | refine VL_nil ?_
    | refine VC_ret ?_
    | refine VC_exit ?_
    | refine VC_block ?_
    | refine VC_skip ?_
    | refine kbox ?_
    | refine kall ?_
    | refine kst ?_
    | refine ksN ?_
    | refine klt ?_
    | refine kl1 ?_
    | refine klK ?_
    | refine kap ?_
    | ((first | apply VL_q | apply VG_q | apply VS_q2); (first | exact QS_indexAddr (0) (by rfl) (by rfl) (by omega) (by omega) | exact QS_mload1 (by rfl) (hcA 0 _ (by rfl)) | exact QS_mload1 (by rfl) (hcA _ _ (by rfl)) | exact QS_mloadN _ (by rfl) hcA _ (by rfl) | exact QS_mload1 (by rfl) (hcB 0 _ (by rfl)) | exact QS_mload1 (by rfl) (hcB _ _ (by rfl)) | exact QS_mloadN _ (by rfl) hcB _ (by rfl) | exact QS_mload1 (by rfl) (hcC 0 _ (by rfl)) | exact QS_mload1 (by rfl) (hcC _ _ (by rfl)) | exact QS_mloadN _ (by rfl) hcC _ (by rfl) | exact QS_mloadN _ (by rfl) hcD _ (by rfl) | exact qmv (by rfl) | exact qas (by rfl) | exact ql1 (by rfl) | exact qlA (by rfl) | exact qfa (by rfl) | exact qmf (by rfl) | exact qfd (by rfl) | exact qm1 (by rfl) | exact qbd (by rfl) | exact qno (by rfl) | exact qex (by rfl) | exact qln (by rfl) | exact qls (by rfl) | exact qlr (by rfl) | exact qpt (by rfl) | exact qpf (by rfl) | exact qcp (by rfl) | exact qbe (by rfl) | exact qbn (by rfl) | exact qsn (by rfl) | exact qad (by rfl) | exact qsa (by rfl) | exact qsu (by rfl) | exact QS_bin (by rfl) (by rfl) (by first | exact B_slnil | exact Bq_eql_Pair | exact Bq_neq_Pair | exact Bq_eql_Op | exact Bq_neq_Op | exact Bq_eql_Cfg | exact Bq_neq_Cfg)); rfl)
    | refine sst ?_
    | refine VS_nil ?_
    | refine eeq ?_
    | refine ees ?_ (by first | exact es1 (by rfl) | exact esN (by rfl))
    | refine VE_nil ?_
    | refine kyes ?_
    | refine kno ?_
    | refine gyes ?_
    | refine gno ?_
    | refine knoU ?_
    | refine gnoU ?_
    | refine VG_nil ⟨by rfl, ?_⟩
    | refine VG_nil ?_
    | refine dT ?_
    | refine d1 ?_
    | refine dQ ?_
    | refine ctr ?_
    | refine cfa ?_
    | refine kdec (fun hq => ?_) (fun hq => ?_)
    | refine gdec (fun hq => ?_) (fun hq => ?_)
    | refine cco (fun hq => ?_) (fun hq => ?_))
  show Res _ _ _ _
  refine Res.one (by rfl) (ResV_tmp (by rfl) ?_)
  rfl
end Go.Proofs.Ytdgcdfngpimmmaa
