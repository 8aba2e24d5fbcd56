/- The bulk layer: the lowest level, exactly. -/
import Derived.Test.YtclbmfepdlffnaaPBp3
namespace Go.Proofs.Ytclbmfepdlffnaa
open Go Go.RowKit
attribute [local irreducible] Calls
set_option linter.unusedVariables false
set_option maxRecDepth 20000
set_option linter.unusedSimpArgs false
set_option maxHeartbeats 4000000
/-- A node that is being made, and its least text. -/
abbrev Bn := Nd × ByteArray
abbrev bnCells (x : Bn) : List Value := [.int .i64 x.1.slot, .int .i64 x.1.level, x.1.pv, x.1.kv, .string x.1.high, .bool x.1.top, .int .i64 x.1.right, .int .i64 x.1.seen, x.1.mv, x.1.rv, .string x.2]
def stripB (x : Bn) : Bn := (strip x.1, x.2)
def leafX (l : List Pair) (p k : Nat) : Bn := (⟨0, 0, nil0, [], nil0, [], em, false, 0, 0, nil0, [], nil0, (l.drop (offE l.length p k)).take (partE l.length p k)⟩, loL l (offE l.length p k))
theorem map_snoc {α β : Type} {f : α → β} {g : Nat → β} {acc : List α} {x : α} (h : acc.map f = (List.range acc.length).map g) (hx : f x = g acc.length) : (acc ++ [x]).map f = (List.range (acc ++ [x]).length).map g := by
  rw [List.map_append, h, List.length_append, List.length_singleton, List.range_succ, List.map_append, List.map_singleton, List.map_singleton, hx]
theorem bulk_leaves (v : Value) (l : List Pair) (p : Nat) (w : World) (M : Mem) (hM : M.le (Mem.of w)) (hl : SlM M 2 pairCells v l) (hp : 0 < p) (hpn : p ≤ l.length ∨ p = 1) (hp2 : p ≤ 1000000) (hn : l.length ≤ 1000000) (hz : ∀ a ∈ l, a.key.size ≤ 1000000)
    (hlt : ∀ i j (h1 : i < l.length) (h2 : j < l.length), i + 1 = j → lt l[i].key l[j].key = true ∧ comN (bl l[i].key) (bl l[j].key) < l[j].key.size) :
    Calls Try.prog 85 #[v, .int .i64 p] w (RetM M w (fun u M' => ∃ ps : List Bn, SlM M' 11 bnCells u ps ∧ (∀ a ∈ ps, a.1.Ok M') ∧ ps.map stripB = (List.range p).map (leafX l p))) := by
  obtain ⟨A, c, rfl, hc1, hc2, _⟩ := id hl
  unfold maxLen at hc2
  refine V_ret (args := [.slice A l.length c, .int .i64 p]) (M := M) Try.func85 rfl Try.ntmps85 (by rfl) hM _ ?_
  refine VC_frzQ ?_
  refine VC_seq ?_
  refine VC_region ?_
  apply VL_q
  · exact qas (by rfl)
  · rfl
  refine VL_nil ?_
  refine VC_seq ?_
  refine VC_region ?_
  apply VL_q
  · exact qas (by rfl)
  · rfl
  refine VL_nil ?_
  refine VC_nilR 5 174 11 (by rfl) (by rfl) ?_
  have cE := fun W => bulk_Even (l.length : Int) (p : Int) W (by omega)
  rw [evenX_nat hp (by omega)] at cE
  repeat' (first
    | refine VC_seq ?_
    | refine VC_region ?_
    | refine VL_nil ?_
    | refine VC_ret ?_
    | refine VC_exit ?_
    | refine VC_block ?_
    | refine VC_skip ?_
    | refine kbox ?_
    | refine kall ?_
    | refine kst ?_
    | refine ksN ?_
    | refine klt ?_
    | refine kl1 ?_
    | refine klK ?_
    | refine kap ?_
    | ((first | apply VL_q | apply VG_q | apply VS_q2); (first  | exact qmv (by rfl) | exact qas (by rfl) | exact ql1 (by rfl) | exact qlA (by rfl) | exact qfa (by rfl) | exact qmf (by rfl) | exact qfd (by rfl) | exact qm1 (by rfl) | exact qbd (by rfl) | exact qno (by rfl) | exact qex (by rfl) | exact qln (by rfl) | exact qls (by rfl) | exact qlr (by rfl) | exact qpt (by rfl) | exact qpf (by rfl) | exact qcp (by rfl) | exact qbe (by rfl) | exact qbn (by rfl) | exact qsn (by rfl) | exact qad (by rfl) | exact qsa (by rfl) | exact qsu (by rfl) | exact QS_bin (by rfl) (by rfl) (by first | exact B_slnil | exact Bq_eql_Msg | exact Bq_neq_Msg | exact Bq_eql_Pair | exact Bq_neq_Pair | exact Bq_eql_Op | exact Bq_neq_Op | exact Bq_eql_Cfg | exact Bq_neq_Cfg)); rfl)
    | refine sst ?_
    | refine VS_nil ?_
    | refine eeq ?_
    | refine ees ?_ (by first | exact es1 (by rfl) | exact esN (by rfl))
    | refine VE_nil ?_
    | refine kyes ?_
    | refine kno ?_
    | refine gyes ?_
    | refine gno ?_
    | refine knoU ?_
    | refine gnoU ?_
    | refine VG_nil ⟨by rfl, ?_⟩
    | refine VG_nil ?_
    | refine dT ?_
    | refine d1 ?_
    | refine dQ ?_
    | refine ctr ?_
    | refine cfa ?_
    | refine kdec (fun hq => ?_) (fun hq => ?_)
    | refine gdec (fun hq => ?_) (fun hq => ?_)
    | refine cco (fun hq => ?_) (fun hq => ?_))
  refine VL_callO (by rfl) (fun W _ => cE W) (by rfl) (by rfl) ?_
  refine VL_frz 1 (by rfl) (fun us M1 hle1 hus => ?_)
  have hS : SlM M1 1 intK us (evenL l.length p) := hus.slM (fun _ _ => rfl)
  obtain ⟨B, cb, hus', hd1, hd2, _⟩ := id hS
  have hlen := evenL_len l.length p
  have hgs : ∀ k (h : k < (evenL l.length p).length), (evenL l.length p)[k] = ((partE l.length p k : Nat) : Int) := fun k h => evenL_get _ p h
  generalize evenL l.length p = L at *
  subst hus'
  unfold maxLen at hd2
  repeat' (first
    | refine VC_seq ?_
    | refine VC_region ?_
    | refine VL_nil ?_
    | refine VC_ret ?_
    | refine VC_exit ?_
    | refine VC_block ?_
    | refine VC_skip ?_
    | refine kbox ?_
    | refine kall ?_
    | refine kst ?_
    | refine ksN ?_
    | refine klt ?_
    | refine kl1 ?_
    | refine klK ?_
    | refine kap ?_
    | ((first | apply VL_q | apply VG_q | apply VS_q2); (first  | exact qmv (by rfl) | exact qas (by rfl) | exact ql1 (by rfl) | exact qlA (by rfl) | exact qfa (by rfl) | exact qmf (by rfl) | exact qfd (by rfl) | exact qm1 (by rfl) | exact qbd (by rfl) | exact qno (by rfl) | exact qex (by rfl) | exact qln (by rfl) | exact qls (by rfl) | exact qlr (by rfl) | exact qpt (by rfl) | exact qpf (by rfl) | exact qcp (by rfl) | exact qbe (by rfl) | exact qbn (by rfl) | exact qsn (by rfl) | exact qad (by rfl) | exact qsa (by rfl) | exact qsu (by rfl) | exact QS_bin (by rfl) (by rfl) (by first | exact B_slnil | exact Bq_eql_Msg | exact Bq_neq_Msg | exact Bq_eql_Pair | exact Bq_neq_Pair | exact Bq_eql_Op | exact Bq_neq_Op | exact Bq_eql_Cfg | exact Bq_neq_Cfg)); rfl)
    | refine sst ?_
    | refine VS_nil ?_
    | refine eeq ?_
    | refine ees ?_ (by first | exact es1 (by rfl) | exact esN (by rfl))
    | refine VE_nil ?_
    | refine kyes ?_
    | refine kno ?_
    | refine gyes ?_
    | refine gno ?_
    | refine knoU ?_
    | refine gnoU ?_
    | refine VG_nil ⟨by rfl, ?_⟩
    | refine VG_nil ?_
    | refine dT ?_
    | refine d1 ?_
    | refine dQ ?_
    | refine ctr ?_
    | refine cfa ?_
    | refine kdec (fun hq => ?_) (fun hq => ?_)
    | refine gdec (fun hq => ?_) (fun hq => ?_)
    | refine cco (fun hq => ?_) (fun hq => ?_))
  refine VC_for (fun x : List Bn × Mem => ⟨x.2, [.row 174 11 x.1.length (x.1.flatMap bnCells)], [(0, .v (.slice A l.length c)), (5, .r 0), (6, .v (.int .i64 ((offE l.length p x.1.length : Nat) : Int))), (13, .v (.slice B L.length cb)), (14, .v (.int .i64 L.length)), (15, .v (.int .i64 x.1.length))]⟩) (fun x => M1.le x.2 ∧ x.1.length ≤ p ∧ (∀ a ∈ x.1, a.1.Ok x.2) ∧ x.1.map stripB = (List.range x.1.length).map (leafX l p)) (fun x => p - x.1.length) [0] ([], M1) ⟨rfl, rfl, ⟨rfl, trivial⟩, ⟨rfl, rfl, by rw [show offE l.length p ([] : List Bn).length = 0 by unfold offE; simp]; rfl, rfl, rfl, rfl, trivial⟩⟩ ⟨Mem.le_refl _, Nat.zero_le _, fun a h => (by cases h), rfl⟩ ?_
  rintro ⟨acc, Mx⟩ ⟨hMx, hk, hokx, hacc⟩
  dsimp only at hMx hk hokx hacc ⊢
  have hlx := (hl.mono hle1).mono hMx
  have hSx := hS.mono hMx
  generalize hkk : acc.length = k at *
  rcases Nat.lt_or_ge k p with hlt' | hge
  · have hkl : k < L.length := by omega
    have hd := dlt hkl
    obtain ⟨b, off, rfl, hcA⟩ := hSx.get hkl
    rw [hgs k hkl] at hcA
    have hst := offE_step l.length p k
    have hle : offE l.length p (k + 1) ≤ l.length := offE_le hp (by omega)
    generalize ho2 : offE l.length p (k + 1) = o2 at *
    have ho0 : k = 0 → offE l.length p k = 0 := fun e => by rw [e]; unfold offE; simp
    have ho1 : 0 < k → 0 < offE l.length p k := fun e => by
      have h1 := offE_mono l.length p (show 1 ≤ k by omega)
      have h2 : offE l.length p 1 = offE l.length p 0 + partE l.length p 0 := offE_step l.length p 0
      have h3 := partE_pos hp (show p ≤ l.length by omega) 0
      omega
    have hleaf : leafX l p k = (⟨0, 0, nil0, [], nil0, [], em, false, 0, 0, nil0, [], nil0, (l.drop (offE l.length p k)).take (partE l.length p k)⟩, loL l (offE l.length p k)) := rfl
    generalize hat : offE l.length p k = at0 at *
    generalize hz0 : partE l.length p k = sz at *
    have hpart := SlM.part hlx (p := at0) (q := at0 + sz) (m := c) (by omega) (by omega) (by omega) (by omega)
    have hplen : ((l.take (at0 + sz)).drop at0).length = sz := by rw [List.length_drop, List.length_take]; omega
    rw [show (l.drop at0).take sz = (l.take (at0 + sz)).drop at0 by rw [List.drop_take, Nat.add_sub_cancel_left]] at hleaf
    generalize (l.take (at0 + sz)).drop at0 = lp at *
    obtain ⟨A2, c2, hsl, hc3, hc4, _⟩ := id hpart
    rw [hsl] at hpart
    have hsum : ((at0 : Int) + (sz : Int)) = ((at0 + sz : Nat) : Int) := by omega
    have fin : ∀ (A3 : Option Addr) (c3 : Nat) (M2 : Mem), Mx.le M2 → SlM M2 2 pairCells (.slice A3 sz c3) lp → (∀ a ∈ acc ++ [((⟨0, 0, .slice none 0 0, [], .slice none 0 0, [], ⟨#[]⟩, false, 0, 0, .slice none 0 0, [], .slice A3 sz c3, lp⟩, loL l at0) : Bn)], a.1.Ok M2) ∧ (acc ++ [((⟨0, 0, .slice none 0 0, [], .slice none 0 0, [], ⟨#[]⟩, false, 0, 0, .slice none 0 0, [], .slice A3 sz c3, lp⟩, loL l at0) : Bn)]).map stripB = (List.range (acc ++ [((⟨0, 0, .slice none 0 0, [], .slice none 0 0, [], ⟨#[]⟩, false, 0, 0, .slice none 0 0, [], .slice A3 sz c3, lp⟩, loL l at0) : Bn)]).length).map (leafX l p) := fun A3 c3 M2 hM2 hrv => ⟨fun a ha => by
      rcases List.mem_append.1 ha with h | h
      · exact (hokx a h).mono hM2
      · rw [List.mem_singleton.1 h]
        exact ⟨SlM.nil _ _ _, SlM.nil _ _ _, SlM.nil _ _ _, hrv⟩, map_snoc (by rw [hkk]; exact hacc) (by rw [hkk, hleaf]; rfl)⟩
    have row : ∀ (x : Bn), some (Ob.row 174 11 (k + 1) (acc.flatMap bnCells ++ bnCells x)) = some (Ob.row 174 11 (acc ++ [x]).length ((acc ++ [x]).flatMap bnCells)) := fun x => by
      rw [List.length_append, List.flatMap_append, hkk]
      simp only [List.flatMap_cons, List.flatMap_nil, List.append_nil, List.length_cons, List.length_nil]
    have lenx : ∀ (x : Bn), (acc ++ [x]).length = k + 1 := fun x => by rw [List.length_append, hkk]; rfl
    have e9 : ((offE l.length p (k + 1) : Nat) : Int) = (at0 : Int) + (sz : Int) := by rw [ho2, hst, hsum]
    by_cases hk0 : k = 0
    · have hlo0 : loL l at0 = ⟨#[]⟩ := by rw [ho0 hk0]; exact loL_zero l
      rw [hlo0] at fin
      have d6 : decide ((0 : Int) < (at0 : Int)) = false := decide_eq_false (by have := ho0 hk0; omega)
      repeat' (first
        | refine VC_seq ?_
        | refine VC_region ?_
        | refine VL_nil ?_
        | refine VC_ret ?_
        | refine VC_exit ?_
        | refine VC_block ?_
        | refine VC_skip ?_
        | refine kbox ?_
        | refine kall ?_
        | refine kst ?_
        | refine ksN ?_
        | refine klt ?_
        | refine kl1 ?_
        | refine klK ?_
        | refine kap ?_
        | ((first | apply VL_q | apply VG_q | apply VS_q2); (first | exact QS_indexAddr k (by rfl) (by rfl) (by omega) (by omega) | exact QS_mload1 (by rfl) (hcA 0 _ (by rfl)) | exact QS_mload1 (by rfl) (hcA _ _ (by rfl)) | exact QS_mloadN _ (by rfl) hcA _ (by rfl) | exact QS_is hsl (QS_slice at0 (at0 + sz) c (by rfl) (by rfl) (by show Env.op _ _ = _; rw [← hsum]; rfl) rfl (by omega) (by omega) (by omega) (by omega)) | exact qmv (by rfl) | exact qas (by rfl) | exact ql1 (by rfl) | exact qlA (by rfl) | exact qfa (by rfl) | exact qmf (by rfl) | exact qfd (by rfl) | exact qm1 (by rfl) | exact qbd (by rfl) | exact qno (by rfl) | exact qex (by rfl) | exact qln (by rfl) | exact qls (by rfl) | exact qlr (by rfl) | exact qpt (by rfl) | exact qpf (by rfl) | exact qcp (by rfl) | exact qbe (by rfl) | exact qbn (by rfl) | exact qsn (by rfl) | exact qad (by rfl) | exact qsa (by rfl) | exact qsu (by rfl) | exact QS_bin (by rfl) (by rfl) (by first | exact B_slnil | exact Bq_eql_Msg | exact Bq_neq_Msg | exact Bq_eql_Pair | exact Bq_neq_Pair | exact Bq_eql_Op | exact Bq_neq_Op | exact Bq_eql_Cfg | exact Bq_neq_Cfg)); rfl)
        | refine sst ?_
        | refine VS_nil ?_
        | refine eeq ?_
        | refine ees ?_ (by first | exact es1 (by rfl) | exact esN (by rfl))
        | refine VE_nil ?_
        | refine kyes ?_
        | refine kno ?_
        | refine gyes ?_
        | refine gno ?_
        | refine knoU ?_
        | refine gnoU ?_
        | refine VG_nil ⟨by rfl, ?_⟩
        | refine VG_nil ?_
        | refine dT ?_
        | refine d1 ?_
        | refine dQ ?_
        | refine ctr ?_
        | refine cfa ?_
        | refine kdec (fun hq => ?_) (fun hq => ?_)
        | refine gdec (fun hq => ?_) (fun hq => ?_)
        | refine cco (fun hq => ?_) (fun hq => ?_))
      refine VL_callO (by rfl) (fun W hW => slices_CloneP _ lp W (hpart.toSl hW) (by omega)) (by rfl) (by rfl) ?_
      refine VL_frz 1 (by rfl) (fun ur M2 hle2 hur => ?_)
      have hSr : SlM M2 2 pairCells ur lp := hur.slM (fun _ _ => rfl)
      obtain ⟨A3, c3, rfl, _⟩ := id hSr
      rw [hplen] at hSr ⊢
      obtain ⟨fin1, fin2⟩ := fin A3 c3 M2 hle2 hSr
      repeat' (first
        | refine VC_seq ?_
        | refine VC_region ?_
        | refine VL_nil ?_
        | refine VC_ret ?_
        | refine VC_exit ?_
        | refine VC_block ?_
        | refine VC_skip ?_
        | refine kbox ?_
        | refine kall ?_
        | refine kst ?_
        | refine ksN ?_
        | refine klt ?_
        | refine kl1 ?_
        | refine klK ?_
        | refine kap ?_
        | ((first | apply VL_q | apply VG_q | apply VS_q2); (first | exact qbk (by rfl) | exact qmv (by rfl) | exact qas (by rfl) | exact ql1 (by rfl) | exact qlA (by rfl) | exact qfa (by rfl) | exact qmf (by rfl) | exact qfd (by rfl) | exact qm1 (by rfl) | exact qbd (by rfl) | exact qno (by rfl) | exact qex (by rfl) | exact qln (by rfl) | exact qls (by rfl) | exact qlr (by rfl) | exact qpt (by rfl) | exact qpf (by rfl) | exact qcp (by rfl) | exact qbe (by rfl) | exact qbn (by rfl) | exact qsn (by rfl) | exact qad (by rfl) | exact qsa (by rfl) | exact qsu (by rfl) | exact QS_bin (by rfl) (by rfl) (by first | exact B_slnil | exact Bq_eql_Msg | exact Bq_neq_Msg | exact Bq_eql_Pair | exact Bq_neq_Pair | exact Bq_eql_Op | exact Bq_neq_Op | exact Bq_eql_Cfg | exact Bq_neq_Cfg)); rfl)
        | refine sst ?_
        | refine VS_nil ?_
        | refine eeq ?_
        | refine ees ?_ (by first | exact es1 (by rfl) | exact esN (by rfl))
        | refine VE_nil ?_
        | refine kyes ?_
        | refine kno ?_
        | refine gyes ?_
        | refine gno ?_
        | refine knoU ?_
        | refine gnoU ?_
        | refine VG_nil ⟨by rfl, ?_⟩
        | refine VG_nil ?_
        | refine dT ?_
        | refine d1 ?_
        | refine dQ ?_
        | refine ctr ?_
        | refine cfa ?_
        | refine kdec (fun hq => ?_) (fun hq => ?_)
        | refine gdec (fun hq => ?_) (fun hq => ?_)
        | refine cco (fun hq => ?_) (fun hq => ?_))
      refine forQ_next (Q := fun _ _ => True) [4] (acc ++ [((⟨0, 0, .slice none 0 0, [], .slice none 0 0, [], ⟨#[]⟩, false, 0, 0, .slice none 0 0, [], .slice A3 sz c3, lp⟩, ⟨#[]⟩) : Bn)], M2) ⟨rfl, rfl, ⟨row ((⟨0, 0, .slice none 0 0, [], .slice none 0 0, [], ⟨#[]⟩, false, 0, 0, .slice none 0 0, [], .slice A3 sz c3, lp⟩, ⟨#[]⟩) : Bn), trivial⟩, ⟨rfl, rfl, ?_, rfl, rfl, ?_, trivial⟩⟩ ⟨hMx.trans hle2, by rw [lenx]; omega, fin1, fin2⟩ (by show p - (acc ++ [_]).length < p - k; rw [lenx]; omega)
      · show _ = some (SV.v (.int .i64 ((offE l.length p (acc ++ [_]).length : Nat) : Int)))
        refine Eq.trans (b := some (SV.v (.int .i64 ((at0 : Int) + (sz : Int))))) rfl ?_
        rw [lenx, e9]
      · show _ = some (SV.v (.int .i64 (((acc ++ [_]).length : Nat) : Int)))
        rw [lenx]; rfl
    · have hsz1 := partE_pos hp (show p ≤ l.length by omega) k
      rw [hz0] at hsz1
      have d6 : decide ((0 : Int) < (at0 : Int)) = true := decide_eq_true (by have := ho1 (by omega); omega)
      have hat1 : 0 < at0 := ho1 (by omega)
      have hcl := hlt (at0 - 1) at0 (by omega) (by omega) (by omega)
      have hk1 := hz _ (List.getElem_mem (show at0 - 1 < l.length by omega))
      have hk2 := hz _ (List.getElem_mem (show at0 < l.length by omega))
      have cB := fun W => key_Between _ _ W hk1 hk2 hcl.1 hcl.2
      obtain ⟨b3, off3, hA3, hcP⟩ := (hl.mono hle1).get (i := at0) (by omega)
      obtain ⟨b4, off4, hA4, hcQ⟩ := (hl.mono hle1).get (i := at0 - 1) (by omega)
      subst hA3
      injection hA4 with hA4
      injection hA4 with hA5 hA6
      subst hA5 hA6
      have hlo1 : betw l[at0 - 1].key l[at0].key = loL l at0 := by rw [loL_pos hat1, pkAt_eq (show at0 - 1 < l.length by omega), pkAt_eq (show at0 < l.length by omega)]
      rw [hlo1] at cB
      generalize loL l at0 = lo at *
      repeat' (first
        | refine VC_seq ?_
        | refine VC_region ?_
        | refine VL_nil ?_
        | refine VC_ret ?_
        | refine VC_exit ?_
        | refine VC_block ?_
        | refine VC_skip ?_
        | refine kbox ?_
        | refine kall ?_
        | refine kst ?_
        | refine ksN ?_
        | refine klt ?_
        | refine kl1 ?_
        | refine klK ?_
        | refine kap ?_
        | ((first | apply VL_q | apply VG_q | apply VS_q2); (first | exact QS_indexAddr k (by rfl) (by rfl) (by omega) (by omega) | exact QS_mload1 (by rfl) (hcA 0 _ (by rfl)) | exact QS_mload1 (by rfl) (hcA _ _ (by rfl)) | exact QS_mloadN _ (by rfl) hcA _ (by rfl) | exact QS_is hsl (QS_slice at0 (at0 + sz) c (by rfl) (by rfl) (by show Env.op _ _ = _; rw [← hsum]; rfl) rfl (by omega) (by omega) (by omega) (by omega)) | exact qmv (by rfl) | exact qas (by rfl) | exact ql1 (by rfl) | exact qlA (by rfl) | exact qfa (by rfl) | exact qmf (by rfl) | exact qfd (by rfl) | exact qm1 (by rfl) | exact qbd (by rfl) | exact qno (by rfl) | exact qex (by rfl) | exact qln (by rfl) | exact qls (by rfl) | exact qlr (by rfl) | exact qpt (by rfl) | exact qpf (by rfl) | exact qcp (by rfl) | exact qbe (by rfl) | exact qbn (by rfl) | exact qsn (by rfl) | exact qad (by rfl) | exact qsa (by rfl) | exact qsu (by rfl) | exact QS_bin (by rfl) (by rfl) (by first | exact B_slnil | exact Bq_eql_Msg | exact Bq_neq_Msg | exact Bq_eql_Pair | exact Bq_neq_Pair | exact Bq_eql_Op | exact Bq_neq_Op | exact Bq_eql_Cfg | exact Bq_neq_Cfg)); rfl)
        | refine sst ?_
        | refine VS_nil ?_
        | refine eeq ?_
        | refine ees ?_ (by first | exact es1 (by rfl) | exact esN (by rfl))
        | refine VE_nil ?_
        | refine kyes ?_
        | refine kno ?_
        | refine gyes ?_
        | refine gno ?_
        | refine knoU ?_
        | refine gnoU ?_
        | refine VG_nil ⟨by rfl, ?_⟩
        | refine VG_nil ?_
        | refine dT ?_
        | refine d1 ?_
        | refine dQ ?_
        | refine ctr ?_
        | refine cfa ?_
        | refine kdec (fun hq => ?_) (fun hq => ?_)
        | refine gdec (fun hq => ?_) (fun hq => ?_)
        | refine cco (fun hq => ?_) (fun hq => ?_))
      refine VL_callO (by rfl) (fun W hW => slices_CloneP _ lp W (hpart.toSl hW) (by omega)) (by rfl) (by rfl) ?_
      refine VL_frz 1 (by rfl) (fun ur M2 hle2 hur => ?_)
      have hSr : SlM M2 2 pairCells ur lp := hur.slM (fun _ _ => rfl)
      obtain ⟨A3, c3, rfl, _⟩ := id hSr
      rw [hplen] at hSr ⊢
      obtain ⟨fin1, fin2⟩ := fin A3 c3 M2 hle2 hSr
      have hcP2 : ∀ j x, (pairCells l[at0])[j]? = some x → M2.cell b3 (off3 + at0 * 2 + j) = some x := fun j x h => (hMx.trans hle2).cell (hcP j x h)
      have hcQ2 : ∀ j x, (pairCells l[at0 - 1])[j]? = some x → M2.cell b3 (off3 + (at0 - 1) * 2 + j) = some x := fun j x h => (hMx.trans hle2).cell (hcQ j x h)
      repeat' (first
        | refine VC_seq ?_
        | refine VC_region ?_
        | refine VL_nil ?_
        | refine VC_ret ?_
        | refine VC_exit ?_
        | refine VC_block ?_
        | refine VC_skip ?_
        | refine kbox ?_
        | refine kall ?_
        | refine kst ?_
        | refine ksN ?_
        | refine klt ?_
        | refine kl1 ?_
        | refine klK ?_
        | refine kap ?_
        | ((first | apply VL_q | apply VG_q | apply VS_q2); (first | exact qbk (by rfl) | exact qmv (by rfl) | exact qas (by rfl) | exact ql1 (by rfl) | exact qlA (by rfl) | exact qfa (by rfl) | exact qmf (by rfl) | exact qfd (by rfl) | exact qm1 (by rfl) | exact qbd (by rfl) | exact qno (by rfl) | exact qex (by rfl) | exact qln (by rfl) | exact qls (by rfl) | exact qlr (by rfl) | exact qpt (by rfl) | exact qpf (by rfl) | exact qcp (by rfl) | exact qbe (by rfl) | exact qbn (by rfl) | exact qsn (by rfl) | exact qad (by rfl) | exact qsa (by rfl) | exact qsu (by rfl) | exact QS_bin (by rfl) (by rfl) (by first | exact B_slnil | exact Bq_eql_Msg | exact Bq_neq_Msg | exact Bq_eql_Pair | exact Bq_neq_Pair | exact Bq_eql_Op | exact Bq_neq_Op | exact Bq_eql_Cfg | exact Bq_neq_Cfg)); rfl)
        | refine sst ?_
        | refine VS_nil ?_
        | refine eeq ?_
        | refine ees ?_ (by first | exact es1 (by rfl) | exact esN (by rfl))
        | refine VE_nil ?_
        | refine kyes ?_
        | refine kno ?_
        | refine gyes ?_
        | refine gno ?_
        | refine knoU ?_
        | refine gnoU ?_
        | refine VG_nil ⟨by rfl, ?_⟩
        | refine VG_nil ?_
        | refine dT ?_
        | refine d1 ?_
        | refine dQ ?_
        | refine ctr ?_
        | refine cfa ?_
        | refine kdec (fun hq => ?_) (fun hq => ?_)
        | refine gdec (fun hq => ?_) (fun hq => ?_)
        | refine cco (fun hq => ?_) (fun hq => ?_))
      refine VC_drawS [2] (by decide +kernel) ?_
      repeat' (first
        | refine VC_seq ?_
        | refine VC_region ?_
        | refine VL_nil ?_
        | refine VC_ret ?_
        | refine VC_exit ?_
        | refine VC_block ?_
        | refine VC_skip ?_
        | refine kbox ?_
        | refine kall ?_
        | refine kst ?_
        | refine ksN ?_
        | refine klt ?_
        | refine kl1 ?_
        | refine klK ?_
        | refine kap ?_
        | ((first | apply VL_q | apply VG_q | apply VS_q2); (first | exact QS_indexAddr at0 (by rfl) (by rfl) (by omega) (by omega) | exact QS_indexAddr (at0 - 1) (by rfl) (by rfl) (by omega) (by omega) | exact QS_mload1 (by rfl) (hcP2 0 _ (by rfl)) | exact QS_mload1 (by rfl) (hcP2 _ _ (by rfl)) | exact QS_mloadN _ (by rfl) hcP2 _ (by rfl) | exact QS_mload1 (by rfl) (hcQ2 0 _ (by rfl)) | exact QS_mload1 (by rfl) (hcQ2 _ _ (by rfl)) | exact QS_mloadN _ (by rfl) hcQ2 _ (by rfl) | exact QS_call (by rfl) (fun W _ => cB W) | exact qmv (by rfl) | exact qas (by rfl) | exact ql1 (by rfl) | exact qlA (by rfl) | exact qfa (by rfl) | exact qmf (by rfl) | exact qfd (by rfl) | exact qm1 (by rfl) | exact qbd (by rfl) | exact qno (by rfl) | exact qex (by rfl) | exact qln (by rfl) | exact qls (by rfl) | exact qlr (by rfl) | exact qpt (by rfl) | exact qpf (by rfl) | exact qcp (by rfl) | exact qbe (by rfl) | exact qbn (by rfl) | exact qsn (by rfl) | exact qad (by rfl) | exact qsa (by rfl) | exact qsu (by rfl) | exact QS_bin (by rfl) (by rfl) (by first | exact B_slnil | exact Bq_eql_Msg | exact Bq_neq_Msg | exact Bq_eql_Pair | exact Bq_neq_Pair | exact Bq_eql_Op | exact Bq_neq_Op | exact Bq_eql_Cfg | exact Bq_neq_Cfg)); rfl)
        | refine sst ?_
        | refine VS_nil ?_
        | refine eeq ?_
        | refine ees ?_ (by first | exact es1 (by rfl) | exact esN (by rfl))
        | refine VE_nil ?_
        | refine kyes ?_
        | refine kno ?_
        | refine gyes ?_
        | refine gno ?_
        | refine knoU ?_
        | refine gnoU ?_
        | refine VG_nil ⟨by rfl, ?_⟩
        | refine VG_nil ?_
        | refine dT ?_
        | refine d1 ?_
        | refine dQ ?_
        | refine ctr ?_
        | refine cfa ?_
        | refine kdec (fun hq => ?_) (fun hq => ?_)
        | refine gdec (fun hq => ?_) (fun hq => ?_)
        | refine cco (fun hq => ?_) (fun hq => ?_))
      repeat' (first
        | refine VC_seq ?_
        | refine VC_region ?_
        | refine VL_nil ?_
        | refine VC_ret ?_
        | refine VC_exit ?_
        | refine VC_block ?_
        | refine VC_skip ?_
        | refine kbox ?_
        | refine kall ?_
        | refine kst ?_
        | refine ksN ?_
        | refine klt ?_
        | refine kl1 ?_
        | refine klK ?_
        | refine kap ?_
        | ((first | apply VL_q | apply VG_q | apply VS_q2); (first  | exact qmv (by rfl) | exact qas (by rfl) | exact ql1 (by rfl) | exact qlA (by rfl) | exact qfa (by rfl) | exact qmf (by rfl) | exact qfd (by rfl) | exact qm1 (by rfl) | exact qbd (by rfl) | exact qno (by rfl) | exact qex (by rfl) | exact qln (by rfl) | exact qls (by rfl) | exact qlr (by rfl) | exact qpt (by rfl) | exact qpf (by rfl) | exact qcp (by rfl) | exact qbe (by rfl) | exact qbn (by rfl) | exact qsn (by rfl) | exact qad (by rfl) | exact qsa (by rfl) | exact qsu (by rfl) | exact QS_bin (by rfl) (by rfl) (by first | exact B_slnil | exact Bq_eql_Msg | exact Bq_neq_Msg | exact Bq_eql_Pair | exact Bq_neq_Pair | exact Bq_eql_Op | exact Bq_neq_Op | exact Bq_eql_Cfg | exact Bq_neq_Cfg)); rfl)
        | refine sst ?_
        | refine VS_nil ?_
        | refine eeq ?_
        | refine ees ?_ (by first | exact es1 (by rfl) | exact esN (by rfl))
        | refine VE_nil ?_
        | refine kyes ?_
        | refine kno ?_
        | refine gyes ?_
        | refine gno ?_
        | refine knoU ?_
        | refine gnoU ?_
        | refine VG_nil ⟨by rfl, ?_⟩
        | refine VG_nil ?_
        | refine dT ?_
        | refine d1 ?_
        | refine dQ ?_
        | refine ctr ?_
        | refine cfa ?_
        | refine kdec (fun hq => ?_) (fun hq => ?_)
        | refine gdec (fun hq => ?_) (fun hq => ?_)
        | refine cco (fun hq => ?_) (fun hq => ?_))
      refine forQ_next (Q := fun _ _ => True) [4] (acc ++ [((⟨0, 0, .slice none 0 0, [], .slice none 0 0, [], ⟨#[]⟩, false, 0, 0, .slice none 0 0, [], .slice A3 sz c3, lp⟩, lo) : Bn)], M2) ⟨rfl, rfl, ⟨row ((⟨0, 0, .slice none 0 0, [], .slice none 0 0, [], ⟨#[]⟩, false, 0, 0, .slice none 0 0, [], .slice A3 sz c3, lp⟩, lo) : Bn), trivial⟩, ⟨rfl, rfl, ?_, rfl, rfl, ?_, trivial⟩⟩ ⟨hMx.trans hle2, by rw [lenx]; omega, fin1, fin2⟩ (by show p - (acc ++ [_]).length < p - k; rw [lenx]; omega)
      · show _ = some (SV.v (.int .i64 ((offE l.length p (acc ++ [_]).length : Nat) : Int)))
        refine Eq.trans (b := some (SV.v (.int .i64 ((at0 : Int) + (sz : Int))))) rfl ?_
        rw [lenx, e9]
      · show _ = some (SV.v (.int .i64 (((acc ++ [_]).length : Nat) : Int)))
        rw [lenx]; rfl
  · have hdk : decide (((k : Nat) : Int) < (L.length : Int)) = false := dge (by omega)
    obtain rfl : k = p := by omega
    repeat' (first
      | refine VC_seq ?_
      | refine VC_region ?_
      | refine VL_nil ?_
      | refine VC_ret ?_
      | refine VC_exit ?_
      | refine VC_block ?_
      | refine VC_skip ?_
      | refine kbox ?_
      | refine kall ?_
      | refine kst ?_
      | refine ksN ?_
      | refine klt ?_
      | refine kl1 ?_
      | refine klK ?_
      | refine kap ?_
      | ((first | apply VL_q | apply VG_q | apply VS_q2); (first  | exact qmv (by rfl) | exact qas (by rfl) | exact ql1 (by rfl) | exact qlA (by rfl) | exact qfa (by rfl) | exact qmf (by rfl) | exact qfd (by rfl) | exact qm1 (by rfl) | exact qbd (by rfl) | exact qno (by rfl) | exact qex (by rfl) | exact qln (by rfl) | exact qls (by rfl) | exact qlr (by rfl) | exact qpt (by rfl) | exact qpf (by rfl) | exact qcp (by rfl) | exact qbe (by rfl) | exact qbn (by rfl) | exact qsn (by rfl) | exact qad (by rfl) | exact qsa (by rfl) | exact qsu (by rfl) | exact QS_bin (by rfl) (by rfl) (by first | exact B_slnil | exact Bq_eql_Msg | exact Bq_neq_Msg | exact Bq_eql_Pair | exact Bq_neq_Pair | exact Bq_eql_Op | exact Bq_neq_Op | exact Bq_eql_Cfg | exact Bq_neq_Cfg)); rfl)
      | refine sst ?_
      | refine VS_nil ?_
      | refine eeq ?_
      | refine ees ?_ (by first | exact es1 (by rfl) | exact esN (by rfl))
      | refine VE_nil ?_
      | refine kyes ?_
      | refine kno ?_
      | refine gyes ?_
      | refine gno ?_
      | refine knoU ?_
      | refine gnoU ?_
      | refine VG_nil ⟨by rfl, ?_⟩
      | refine VG_nil ?_
      | refine dT ?_
      | refine d1 ?_
      | refine dQ ?_
      | refine ctr ?_
      | refine cfa ?_
      | refine kdec (fun hq => ?_) (fun hq => ?_)
      | refine gdec (fun hq => ?_) (fun hq => ?_)
      | refine cco (fun hq => ?_) (fun hq => ?_))
    refine .inr ⟨0, _, _, _, _, rfl, fun u M' hle hu => ⟨_, Res.one (by rfl) (ResV_tmp (by rfl) rfl), acc, RowM.slM (fun _ _ => rfl) (by rw [hkk]; exact hu), fun a ha => (hokx a ha).mono hle, hacc⟩⟩
end Go.Proofs.Ytclbmfepdlffnaa
