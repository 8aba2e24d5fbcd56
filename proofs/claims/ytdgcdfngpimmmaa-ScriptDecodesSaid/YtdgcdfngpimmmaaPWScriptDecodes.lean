/- The walk of ScriptDecodes. -/
import Derived.Test.YtdgcdfngpimmmaaPSc10
namespace Go.Proofs.Ytdgcdfngpimmmaa.lawScriptDecodes
open Go Go.RowKit
set_option linter.unusedVariables false
set_option maxRecDepth 20000
set_option linter.unusedSimpArgs false
set_option maxHeartbeats 16000000
attribute [local irreducible] Calls takeT ofO
theorem len_map {α β γ : Type} {l : List α} {m : List β} {f : α → γ} {g : β → γ} (h : l.map f = m.map g) : l.length = m.length := by
  have := congrArg List.length h
  simpa using this
theorem get_map {α β γ : Type} {l : List α} {m : List β} {f : α → γ} {g : β → γ} (h : l.map f = m.map g) {k : Nat} (h1 : k < l.length) (h2 : k < m.length) : f l[k] = g m[k] := by
  have h3 : (l.map f)[k]? = (m.map g)[k]? := by rw [h]
  rw [List.getElem?_map, List.getElem?_map, List.getElem?_eq_getElem h1, List.getElem?_eq_getElem h2] at h3
  simpa using h3
theorem walk (s : ByteArray) (w : World) : Calls Try.prog 3 #[.string s] w fun e w' => e = .returned (.bool true) ∧ Below w.heap.size w w' := by
  have cA := fun W => script_awake W
  by_cases hbig : 3000 < s.size
  · have d0 : decide ((3000 : Int) < (s.size : Int)) = true := decide_eq_true (by omega)
    refine V_flat (args := [.string s]) (M := Mem.no) Try.func3 rfl Try.ntmps3 (by rfl) (Mem.no_le _) ?_
    repeat' (first
      | refine VC_seq ?_
      | refine VC_region ?_
      | refine VL_nil ?_
      | refine VC_ret ?_
      | refine VC_exit ?_
      | refine VC_block ?_
      | refine VC_skip ?_
      | refine kbox ?_
      | refine kall ?_
      | refine kst ?_
      | refine ksN ?_
      | refine klt ?_
      | refine kl1 ?_
      | refine klK ?_
      | refine kap ?_
      | ((first | apply VL_q | apply VG_q | apply VS_q2); (first | exact QS_call (by rfl) (fun W _ => cA W) | exact qmv (by rfl) | exact qas (by rfl) | exact ql1 (by rfl) | exact qlA (by rfl) | exact qfa (by rfl) | exact qmf (by rfl) | exact qfd (by rfl) | exact qm1 (by rfl) | exact qbd (by rfl) | exact qno (by rfl) | exact qex (by rfl) | exact qln (by rfl) | exact qls (by rfl) | exact qlr (by rfl) | exact qpt (by rfl) | exact qpf (by rfl) | exact qcp (by rfl) | exact qbe (by rfl) | exact qbn (by rfl) | exact qsn (by rfl) | exact qad (by rfl) | exact qsa (by rfl) | exact qsu (by rfl) | exact QS_bin (by rfl) (by rfl) (by first | exact B_slnil | exact Bq_eql_Pair | exact Bq_neq_Pair | exact Bq_eql_Op | exact Bq_neq_Op | exact Bq_eql_Cfg | exact Bq_neq_Cfg)); rfl)
      | refine sst ?_
      | refine VS_nil ?_
      | refine eeq ?_
      | refine ees ?_ (by first | exact es1 (by rfl) | exact esN (by rfl))
      | refine VE_nil ?_
      | refine kyes ?_
      | refine kno ?_
      | refine gyes ?_
      | refine gno ?_
      | refine knoU ?_
      | refine gnoU ?_
      | refine VG_nil ⟨by rfl, ?_⟩
      | refine VG_nil ?_
      | refine dT ?_
      | refine d1 ?_
      | refine dQ ?_
      | refine ctr ?_
      | refine cfa ?_
      | refine kdec (fun hq => ?_) (fun hq => ?_)
      | refine gdec (fun hq => ?_) (fun hq => ?_)
      | refine cco (fun hq => ?_) (fun hq => ?_))
    show Res _ _ _ _
    refine Res.one (by rfl) (ResV_tmp (by rfl) ?_)
    rfl
  · have d0 : decide ((3000 : Int) < (s.size : Int)) = false := decide_eq_false (by omega)
    have hs : s.size ≤ 1000000 := by omega
    obtain ⟨hsm, hln⟩ := splitB_small s.size s (Nat.le_refl _)
    have hbf : bodiesF s = (splitB s).1 ++ if (splitB s).2 = true then [em] else [] := rfl
    refine V_flat (args := [.string s]) (M := Mem.no) Try.func3 rfl Try.ntmps3 (by rfl) (Mem.no_le _) ?_
    repeat' (first
      | refine VC_seq ?_
      | refine VC_region ?_
      | refine VL_nil ?_
      | refine VC_ret ?_
      | refine VC_exit ?_
      | refine VC_block ?_
      | refine VC_skip ?_
      | refine kbox ?_
      | refine kall ?_
      | refine kst ?_
      | refine ksN ?_
      | refine klt ?_
      | refine kl1 ?_
      | refine klK ?_
      | refine kap ?_
      | ((first | apply VL_q | apply VG_q | apply VS_q2); (first  | exact qmv (by rfl) | exact qas (by rfl) | exact ql1 (by rfl) | exact qlA (by rfl) | exact qfa (by rfl) | exact qmf (by rfl) | exact qfd (by rfl) | exact qm1 (by rfl) | exact qbd (by rfl) | exact qno (by rfl) | exact qex (by rfl) | exact qln (by rfl) | exact qls (by rfl) | exact qlr (by rfl) | exact qpt (by rfl) | exact qpf (by rfl) | exact qcp (by rfl) | exact qbe (by rfl) | exact qbn (by rfl) | exact qsn (by rfl) | exact qad (by rfl) | exact qsa (by rfl) | exact qsu (by rfl) | exact QS_bin (by rfl) (by rfl) (by first | exact B_slnil | exact Bq_eql_Pair | exact Bq_neq_Pair | exact Bq_eql_Op | exact Bq_neq_Op | exact Bq_eql_Cfg | exact Bq_neq_Cfg)); rfl)
      | refine sst ?_
      | refine VS_nil ?_
      | refine eeq ?_
      | refine ees ?_ (by first | exact es1 (by rfl) | exact esN (by rfl))
      | refine VE_nil ?_
      | refine kyes ?_
      | refine kno ?_
      | refine gyes ?_
      | refine gno ?_
      | refine knoU ?_
      | refine gnoU ?_
      | refine VG_nil ⟨by rfl, ?_⟩
      | refine VG_nil ?_
      | refine dT ?_
      | refine d1 ?_
      | refine dQ ?_
      | refine ctr ?_
      | refine cfa ?_
      | refine kdec (fun hq => ?_) (fun hq => ?_)
      | refine gdec (fun hq => ?_) (fun hq => ?_)
      | refine cco (fun hq => ?_) (fun hq => ?_))
    refine VL_callM (by rfl) (fun W hW => ref_Bodies s W Mem.no hW hs) (by rfl) (fun v1 M1 hle1 hv1 => ?_)
    obtain ⟨u1, rfl, hb1⟩ := hv1
    generalize (splitB s).1 = bs at *
    cases hr : (splitB s).2
    case' false =>
      rw [hr] at hbf
      have hbf' : bodiesF s = bs := by rw [hbf]; simp
      repeat' (first
        | refine VC_seq ?_
        | refine VC_region ?_
        | refine VL_nil ?_
        | refine VC_ret ?_
        | refine VC_exit ?_
        | refine VC_block ?_
        | refine VC_skip ?_
        | refine kbox ?_
        | refine kall ?_
        | refine kst ?_
        | refine ksN ?_
        | refine klt ?_
        | refine kl1 ?_
        | refine klK ?_
        | refine kap ?_
        | ((first | apply VL_q | apply VG_q | apply VS_q2); (first  | exact qmv (by rfl) | exact qas (by rfl) | exact ql1 (by rfl) | exact qlA (by rfl) | exact qfa (by rfl) | exact qmf (by rfl) | exact qfd (by rfl) | exact qm1 (by rfl) | exact qbd (by rfl) | exact qno (by rfl) | exact qex (by rfl) | exact qln (by rfl) | exact qls (by rfl) | exact qlr (by rfl) | exact qpt (by rfl) | exact qpf (by rfl) | exact qcp (by rfl) | exact qbe (by rfl) | exact qbn (by rfl) | exact qsn (by rfl) | exact qad (by rfl) | exact qsa (by rfl) | exact qsu (by rfl) | exact QS_bin (by rfl) (by rfl) (by first | exact B_slnil | exact Bq_eql_Pair | exact Bq_neq_Pair | exact Bq_eql_Op | exact Bq_neq_Op | exact Bq_eql_Cfg | exact Bq_neq_Cfg)); rfl)
        | refine sst ?_
        | refine VS_nil ?_
        | refine eeq ?_
        | refine ees ?_ (by first | exact es1 (by rfl) | exact esN (by rfl))
        | refine VE_nil ?_
        | refine kyes ?_
        | refine kno ?_
        | refine gyes ?_
        | refine gno ?_
        | refine knoU ?_
        | refine gnoU ?_
        | refine VG_nil ⟨by rfl, ?_⟩
        | refine VG_nil ?_
        | refine dT ?_
        | refine d1 ?_
        | refine dQ ?_
        | refine ctr ?_
        | refine cfa ?_
        | refine kdec (fun hq => ?_) (fun hq => ?_)
        | refine gdec (fun hq => ?_) (fun hq => ?_)
        | refine cco (fun hq => ?_) (fun hq => ?_))
      refine VL_callM (by rfl) (fun W hW => script_Decode s W M1 hW hs) (by rfl) (fun v2 M3 hle2 hv2 => ?_)
      obtain ⟨l, hl, hok, hml⟩ := hv2
      rw [hbf'] at hml
      have hb := hb1.mono hle2
      have hlen := len_map hml
      obtain ⟨A, c, rfl, hc1, hc2, _⟩ := id hl
      obtain ⟨B, cb, rfl, hd1, hd2, _⟩ := id hb
      have f9 : ((l.length : Int) != (bs.length : Int)) = false := by rw [hlen]; simp
      unfold maxLen at hc2 hd2
      repeat' (first
        | refine VC_seq ?_
        | refine VC_region ?_
        | refine VL_nil ?_
        | refine VC_ret ?_
        | refine VC_exit ?_
        | refine VC_block ?_
        | refine VC_skip ?_
        | refine kbox ?_
        | refine kall ?_
        | refine kst ?_
        | refine ksN ?_
        | refine klt ?_
        | refine kl1 ?_
        | refine klK ?_
        | refine kap ?_
        | ((first | apply VL_q | apply VG_q | apply VS_q2); (first  | exact qmv (by rfl) | exact qas (by rfl) | exact ql1 (by rfl) | exact qlA (by rfl) | exact qfa (by rfl) | exact qmf (by rfl) | exact qfd (by rfl) | exact qm1 (by rfl) | exact qbd (by rfl) | exact qno (by rfl) | exact qex (by rfl) | exact qln (by rfl) | exact qls (by rfl) | exact qlr (by rfl) | exact qpt (by rfl) | exact qpf (by rfl) | exact qcp (by rfl) | exact qbe (by rfl) | exact qbn (by rfl) | exact qsn (by rfl) | exact qad (by rfl) | exact qsa (by rfl) | exact qsu (by rfl) | exact QS_bin (by rfl) (by rfl) (by first | exact B_slnil | exact Bq_eql_Pair | exact Bq_neq_Pair | exact Bq_eql_Op | exact Bq_neq_Op | exact Bq_eql_Cfg | exact Bq_neq_Cfg)); rfl)
        | refine sst ?_
        | refine VS_nil ?_
        | refine eeq ?_
        | refine ees ?_ (by first | exact es1 (by rfl) | exact esN (by rfl))
        | refine VE_nil ?_
        | refine kyes ?_
        | refine kno ?_
        | refine gyes ?_
        | refine gno ?_
        | refine knoU ?_
        | refine gnoU ?_
        | refine VG_nil ⟨by rfl, ?_⟩
        | refine VG_nil ?_
        | refine dT ?_
        | refine d1 ?_
        | refine dQ ?_
        | refine ctr ?_
        | refine cfa ?_
        | refine kdec (fun hq => ?_) (fun hq => ?_)
        | refine gdec (fun hq => ?_) (fun hq => ?_)
        | refine cco (fun hq => ?_) (fun hq => ?_))
    case' true =>
      rw [hr] at hbf
      have hbf' : bodiesF s = bs ++ [em] := by rw [hbf]; simp
      repeat' (first
        | refine VC_seq ?_
        | refine VC_region ?_
        | refine VL_nil ?_
        | refine VC_ret ?_
        | refine VC_exit ?_
        | refine VC_block ?_
        | refine VC_skip ?_
        | refine kbox ?_
        | refine kall ?_
        | refine kst ?_
        | refine ksN ?_
        | refine klt ?_
        | refine kl1 ?_
        | refine klK ?_
        | refine kap ?_
        | ((first | apply VL_q | apply VG_q | apply VS_q2); (first  | exact qmv (by rfl) | exact qas (by rfl) | exact ql1 (by rfl) | exact qlA (by rfl) | exact qfa (by rfl) | exact qmf (by rfl) | exact qfd (by rfl) | exact qm1 (by rfl) | exact qbd (by rfl) | exact qno (by rfl) | exact qex (by rfl) | exact qln (by rfl) | exact qls (by rfl) | exact qlr (by rfl) | exact qpt (by rfl) | exact qpf (by rfl) | exact qcp (by rfl) | exact qbe (by rfl) | exact qbn (by rfl) | exact qsn (by rfl) | exact qad (by rfl) | exact qsa (by rfl) | exact qsu (by rfl) | exact QS_bin (by rfl) (by rfl) (by first | exact B_slnil | exact Bq_eql_Pair | exact Bq_neq_Pair | exact Bq_eql_Op | exact Bq_neq_Op | exact Bq_eql_Cfg | exact Bq_neq_Cfg)); rfl)
        | refine sst ?_
        | refine VS_nil ?_
        | refine eeq ?_
        | refine ees ?_ (by first | exact es1 (by rfl) | exact esN (by rfl))
        | refine VE_nil ?_
        | refine kyes ?_
        | refine kno ?_
        | refine gyes ?_
        | refine gno ?_
        | refine knoU ?_
        | refine gnoU ?_
        | refine VG_nil ⟨by rfl, ?_⟩
        | refine VG_nil ?_
        | refine dT ?_
        | refine d1 ?_
        | refine dQ ?_
        | refine ctr ?_
        | refine cfa ?_
        | refine kdec (fun hq => ?_) (fun hq => ?_)
        | refine gdec (fun hq => ?_) (fun hq => ?_)
        | refine cco (fun hq => ?_) (fun hq => ?_))
      refine VL_callM (by rfl) (fun W hW => script_Decode s W M1 hW hs) (by rfl) (fun v2 M2 hle2 hv2 => ?_)
      obtain ⟨l0, hl0, hok0, hml0⟩ := hv2
      rw [hbf', List.map_append, List.map_cons, List.map_nil] at hml0
      have hlen0 : l0.length = bs.length + 1 := by have := congrArg List.length hml0; simpa using this
      obtain ⟨A0, c0, rfl, hg1, hg2, _⟩ := id hl0
      unfold maxLen at hg2
      have hpZ := SlM.part hl0 (p := l0.length - 1) (q := l0.length) (m := c0) (by omega) (by omega) (by omega) (by omega)
      have hpI := SlM.part hl0 (p := 0) (q := l0.length - 1) (m := c0) (by omega) (by omega) (by omega) (by omega)
      have hmZ : ((l0.take l0.length).drop (l0.length - 1)).map Ent.st = [entS em] := by
        rw [List.map_drop, List.map_take, hml0, List.take_of_length_le (by simp; omega), hlen0]
        have : bs.length + 1 - 1 = (bs.map entS).length := by simp
        rw [this, List.drop_left]
      have hml : ((l0.take (l0.length - 1)).drop 0).map Ent.st = bs.map entS := by
        rw [List.drop_zero, List.map_take, hml0, hlen0]
        have : bs.length + 1 - 1 = (bs.map entS).length := by simp
        rw [this, List.take_left]
      have hokZ : ∀ e ∈ (l0.take l0.length).drop (l0.length - 1), e.Ok M2 := fun e he => hok0 e (List.mem_of_mem_take (List.mem_of_mem_drop he))
      have hok2 : ∀ e ∈ (l0.take (l0.length - 1)).drop 0, e.Ok M2 := fun e he => hok0 e (List.mem_of_mem_take (List.mem_of_mem_drop he))
      have hi : ((l0.length - 1 : Nat) : Int) = (l0.length : Int) - 1 := by omega
      have f6 : ((l0.length : Int) == 0) = false := by rw [beq_eq_false_iff_ne]; omega
      generalize (l0.take l0.length).drop (l0.length - 1) = lz at *
      generalize (l0.take (l0.length - 1)).drop 0 = l at *
      repeat' (first
        | refine VC_seq ?_
        | refine VC_region ?_
        | refine VL_nil ?_
        | refine VC_ret ?_
        | refine VC_exit ?_
        | refine VC_block ?_
        | refine VC_skip ?_
        | refine kbox ?_
        | refine kall ?_
        | refine kst ?_
        | refine ksN ?_
        | refine klt ?_
        | refine kl1 ?_
        | refine klK ?_
        | refine kap ?_
        | ((first | apply VL_q | apply VG_q | apply VS_q2); (first | exact QS_slice (l0.length - 1) l0.length c0 (by rfl) (by show Env.op _ _ = _; rw [hi]; rfl) (by rfl) rfl (by omega) (by omega) (by omega) (by omega) | exact qbk (by rfl) | exact qmv (by rfl) | exact qas (by rfl) | exact ql1 (by rfl) | exact qlA (by rfl) | exact qfa (by rfl) | exact qmf (by rfl) | exact qfd (by rfl) | exact qm1 (by rfl) | exact qbd (by rfl) | exact qno (by rfl) | exact qex (by rfl) | exact qln (by rfl) | exact qls (by rfl) | exact qlr (by rfl) | exact qpt (by rfl) | exact qpf (by rfl) | exact qcp (by rfl) | exact qbe (by rfl) | exact qbn (by rfl) | exact qsn (by rfl) | exact qad (by rfl) | exact qsa (by rfl) | exact qsu (by rfl) | exact QS_bin (by rfl) (by rfl) (by first | exact B_slnil | exact Bq_eql_Pair | exact Bq_neq_Pair | exact Bq_eql_Op | exact Bq_neq_Op | exact Bq_eql_Cfg | exact Bq_neq_Cfg)); rfl)
        | refine sst ?_
        | refine VS_nil ?_
        | refine eeq ?_
        | refine ees ?_ (by first | exact es1 (by rfl) | exact esN (by rfl))
        | refine VE_nil ?_
        | refine kyes ?_
        | refine kno ?_
        | refine gyes ?_
        | refine gno ?_
        | refine knoU ?_
        | refine gnoU ?_
        | refine VG_nil ⟨by rfl, ?_⟩
        | refine VG_nil ?_
        | refine dT ?_
        | refine d1 ?_
        | refine dQ ?_
        | refine ctr ?_
        | refine cfa ?_
        | refine kdec (fun hq => ?_) (fun hq => ?_)
        | refine gdec (fun hq => ?_) (fun hq => ?_)
        | refine cco (fun hq => ?_) (fun hq => ?_))
      refine VL_frz 0 (by rfl) (fun u M3 hle3 hu => ?_)
      have hu1 : SlM M3 9 enCells u [⟨1, 0, opE, .slice none 0 0, []⟩] := RowM.slM (l := ([⟨1, 0, opE, .slice none 0 0, []⟩] : List Ent)) (fun _ _ => rfl) hu
      have cS : ∀ W, M3.le (Mem.of W) → Calls Try.prog 14 #[sliced A0 (l0.length - 1) l0.length c0 9, u] W fun r w' => r = .returned (.bool true) ∧ Below W.heap.size W w' := fun W hW => by
        have := ref_SameE _ u _ _ W M3 hW (hpZ.mono hle3) hu1 (fun e he => (hokZ e he).mono hle3) (fun e he => by rw [List.mem_singleton.1 he]; exact SlM.nil _ _ _)
        rwa [decide_eq_true (by rw [hmZ]; rfl)] at this
      have hl := hpI.mono hle3
      have hok : ∀ e ∈ l, e.Ok M3 := fun e he => (hok2 e he).mono hle3
      have hb := (hb1.mono hle2).mono hle3
      have hlen := len_map hml
      obtain ⟨A, c, hsl, hc1, hc2, _⟩ := id hl
      rw [hsl] at hl
      obtain ⟨B, cb, rfl, hd1, hd2, _⟩ := id hb
      have f9 : ((l.length : Int) != (bs.length : Int)) = false := by rw [hlen]; simp
      unfold maxLen at hc2 hd2
      repeat' (first
        | refine VC_seq ?_
        | refine VC_region ?_
        | refine VL_nil ?_
        | refine VC_ret ?_
        | refine VC_exit ?_
        | refine VC_block ?_
        | refine VC_skip ?_
        | refine kbox ?_
        | refine kall ?_
        | refine kst ?_
        | refine ksN ?_
        | refine klt ?_
        | refine kl1 ?_
        | refine klK ?_
        | refine kap ?_
        | ((first | apply VL_q | apply VG_q | apply VS_q2); (first | exact QS_is hsl (QS_slice 0 (l0.length - 1) c0 (by rfl) rfl (by show Env.op _ _ = _; rw [hi]; rfl) rfl (by omega) (by omega) (by omega) (by omega)) | exact QS_call (by rfl) cS | exact qmv (by rfl) | exact qas (by rfl) | exact ql1 (by rfl) | exact qlA (by rfl) | exact qfa (by rfl) | exact qmf (by rfl) | exact qfd (by rfl) | exact qm1 (by rfl) | exact qbd (by rfl) | exact qno (by rfl) | exact qex (by rfl) | exact qln (by rfl) | exact qls (by rfl) | exact qlr (by rfl) | exact qpt (by rfl) | exact qpf (by rfl) | exact qcp (by rfl) | exact qbe (by rfl) | exact qbn (by rfl) | exact qsn (by rfl) | exact qad (by rfl) | exact qsa (by rfl) | exact qsu (by rfl) | exact QS_bin (by rfl) (by rfl) (by first | exact B_slnil | exact Bq_eql_Pair | exact Bq_neq_Pair | exact Bq_eql_Op | exact Bq_neq_Op | exact Bq_eql_Cfg | exact Bq_neq_Cfg)); rfl)
        | refine sst ?_
        | refine VS_nil ?_
        | refine eeq ?_
        | refine ees ?_ (by first | exact es1 (by rfl) | exact esN (by rfl))
        | refine VE_nil ?_
        | refine kyes ?_
        | refine kno ?_
        | refine gyes ?_
        | refine gno ?_
        | refine knoU ?_
        | refine gnoU ?_
        | refine VG_nil ⟨by rfl, ?_⟩
        | refine VG_nil ?_
        | refine dT ?_
        | refine d1 ?_
        | refine dQ ?_
        | refine ctr ?_
        | refine cfa ?_
        | refine kdec (fun hq => ?_) (fun hq => ?_)
        | refine gdec (fun hq => ?_) (fun hq => ?_)
        | refine cco (fun hq => ?_) (fun hq => ?_))
    all_goals
      refine VC_for (fun x : Nat × Mem => ⟨x.2, [], [(3, .v (.slice B bs.length cb)), (48, .v (.slice A l.length c)), (49, .v (.int .i64 l.length)), (50, .v (.int .i64 x.1))]⟩) (fun x => x.1 ≤ l.length ∧ M3.le x.2) (fun x => l.length - x.1) [] (0, M3) ⟨rfl, rfl, trivial, ⟨rfl, rfl, rfl, rfl, trivial⟩⟩ ⟨Nat.zero_le _, Mem.le_refl _⟩ ?_
      rintro ⟨k, Mx⟩ ⟨hk, hMx⟩
      dsimp only at hk hMx ⊢
      have hl := hl.mono hMx
      have hb := hb.mono hMx
      have hok : ∀ e ∈ l, e.Ok Mx := fun e he => (hok e he).mono hMx
      rcases Nat.lt_or_ge k l.length with hlt | hge
      · have hd := dlt hlt
        have hlt' : k < bs.length := by omega
        obtain ⟨b1, off1, rfl, hcA⟩ := hl.get hlt
        obtain ⟨b2, off2, rfl, hcB⟩ := hb.get hlt'
        have hpo := hok _ (List.getElem_mem hlt)
        have hst := get_map hml hlt hlt'
        have hbz := hsm _ (List.getElem_mem hlt')
        generalize l[k] = e at *
        generalize bs[k] = b at *
        have hR := entS_right hst hbz
        obtain ⟨z1, z2, z3, z4⟩ := entS_small hst hbz
        have hcs := entS_cases hst
        have cR := fun W hW => ref_RightE e W Mx hW hpo (by omega) (by omega)
        have cB := fun W hW => ref_Body e W Mx hW hpo (by omega) (by omega) (by omega) (by omega)
        rw [hR] at cR
        generalize bodyE e = be at *
        have hb0 := byt_lt b 0
        have hb1 := byt_lt b 1
        obtain ⟨kind, client, o, pv, ps⟩ := e
        have hpo' := hpo
        unfold Ent.Ok at hpo'
        obtain ⟨A3, c3, hpv, _⟩ := id hpo'
        dsimp only at hpv
        subst hpv
        by_cases hbe : be = b
        · have f0 : decide (be = b) = true := decide_eq_true hbe
          repeat' (first
            | refine VC_seq ?_
            | refine VC_region ?_
            | refine VL_nil ?_
            | refine VC_ret ?_
            | refine VC_exit ?_
            | refine VC_block ?_
            | refine VC_skip ?_
            | refine kbox ?_
            | refine kall ?_
            | refine kst ?_
            | refine ksN ?_
            | refine klt ?_
            | refine kl1 ?_
            | refine klK ?_
            | refine kap ?_
            | ((first | apply VL_q | apply VG_q | apply VS_q2); (first | exact QS_indexAddr (k) (by rfl) (by rfl) (by omega) (by omega) | exact QS_mload1 (by rfl) (hcA 0 _ (by rfl)) | exact QS_mload1 (by rfl) (hcA _ _ (by rfl)) | exact QS_mloadN _ (by rfl) hcA _ (by rfl) | exact QS_mload1 (by rfl) (hcB 0 _ (by rfl)) | exact QS_mload1 (by rfl) (hcB _ _ (by rfl)) | exact QS_mloadN _ (by rfl) hcB _ (by rfl) | exact qlN (by rfl) | exact QS_call (by rfl) cR | exact QS_call (by rfl) cB | exact qmv (by rfl) | exact qas (by rfl) | exact ql1 (by rfl) | exact qlA (by rfl) | exact qfa (by rfl) | exact qmf (by rfl) | exact qfd (by rfl) | exact qm1 (by rfl) | exact qbd (by rfl) | exact qno (by rfl) | exact qex (by rfl) | exact qln (by rfl) | exact qls (by rfl) | exact qlr (by rfl) | exact qpt (by rfl) | exact qpf (by rfl) | exact qcp (by rfl) | exact qbe (by rfl) | exact qbn (by rfl) | exact qsn (by rfl) | exact qad (by rfl) | exact qsa (by rfl) | exact qsu (by rfl) | exact QS_bin (by rfl) (by rfl) (by first | exact B_slnil | exact Bq_eql_Pair | exact Bq_neq_Pair | exact Bq_eql_Op | exact Bq_neq_Op | exact Bq_eql_Cfg | exact Bq_neq_Cfg)); rfl)
            | refine sst ?_
            | refine VS_nil ?_
            | refine eeq ?_
            | refine ees ?_ (by first | exact es1 (by rfl) | exact esN (by rfl))
            | refine VE_nil ?_
            | refine kyes ?_
            | refine kno ?_
            | refine gyes ?_
            | refine gno ?_
            | refine knoU ?_
            | refine gnoU ?_
            | refine VG_nil ⟨by rfl, ?_⟩
            | refine VG_nil ?_
            | refine dT ?_
            | refine d1 ?_
            | refine dQ ?_
            | refine ctr ?_
            | refine cfa ?_
            | refine kdec (fun hq => ?_) (fun hq => ?_)
            | refine gdec (fun hq => ?_) (fun hq => ?_)
            | refine cco (fun hq => ?_) (fun hq => ?_))
          exact forQ_next (Q := fun _ _ => True) [] (k + 1, Mx) ⟨rfl, rfl, trivial, ⟨rfl, rfl, rfl, rfl, trivial⟩⟩ ⟨Nat.succ_le_of_lt hlt, hMx⟩ (by show l.length - (k + 1) < l.length - k; omega)
        · have f0 : decide (be = b) = false := decide_eq_false hbe
          have cO := fun W => op_Of (b.extract 2 b.size) W (Nat.le_trans (size_ext _ _ _) (by omega))
          rcases hcs hbe with ⟨g1, g2, g3, g4⟩ | ⟨g1, g2, g3⟩
          · obtain ⟨rfl, rfl, rfl, rfl⟩ := ent_parts g3
            have d1 : decide ((1 : Int) < (b.size : Int)) = true := decide_eq_true (by omega)
            have d2 : decide ((0 : Int) < (b.size : Int)) = true := decide_eq_true (by omega)
            have f1 : (byt b 0 == 1) = true := by simp [g2]
            have f2 : (byt b 0 == 2) = false := by simp [g2]
            rw [g4] at cO
            repeat' (first
              | refine VC_seq ?_
              | refine VC_region ?_
              | refine VL_nil ?_
              | refine VC_ret ?_
              | refine VC_exit ?_
              | refine VC_block ?_
              | refine VC_skip ?_
              | refine kbox ?_
              | refine kall ?_
              | refine kst ?_
              | refine ksN ?_
              | refine klt ?_
              | refine kl1 ?_
              | refine klK ?_
              | refine kap ?_
              | ((first | apply VL_q | apply VG_q | apply VS_q2); (first | exact qi0 (by rfl) | exact qi1 (by rfl) | exact qwd (by rfl) | exact qnr (by rfl) | exact qni (by rfl) | exact QS_indexAddr (k) (by rfl) (by rfl) (by omega) (by omega) | exact QS_mload1 (by rfl) (hcA 0 _ (by rfl)) | exact QS_mload1 (by rfl) (hcA _ _ (by rfl)) | exact QS_mloadN _ (by rfl) hcA _ (by rfl) | exact QS_mload1 (by rfl) (hcB 0 _ (by rfl)) | exact QS_mload1 (by rfl) (hcB _ _ (by rfl)) | exact QS_mloadN _ (by rfl) hcB _ (by rfl) | exact qlN (by rfl) | exact qbk (by rfl) | exact QS_call (by rfl) cR | exact QS_call (by rfl) cB | exact qmv (by rfl) | exact qas (by rfl) | exact ql1 (by rfl) | exact qlA (by rfl) | exact qfa (by rfl) | exact qmf (by rfl) | exact qfd (by rfl) | exact qm1 (by rfl) | exact qbd (by rfl) | exact qno (by rfl) | exact qex (by rfl) | exact qln (by rfl) | exact qls (by rfl) | exact qlr (by rfl) | exact qpt (by rfl) | exact qpf (by rfl) | exact qcp (by rfl) | exact qbe (by rfl) | exact qbn (by rfl) | exact qsn (by rfl) | exact qad (by rfl) | exact qsa (by rfl) | exact qsu (by rfl) | exact QS_bin (by rfl) (by rfl) (by first | exact B_slnil | exact Bq_eql_Pair | exact Bq_neq_Pair | exact Bq_eql_Op | exact Bq_neq_Op | exact Bq_eql_Cfg | exact Bq_neq_Cfg)); rfl)
              | refine sst ?_
              | refine VS_nil ?_
              | refine eeq ?_
              | refine ees ?_ (by first | exact es1 (by rfl) | exact esN (by rfl))
              | refine VE_nil ?_
              | refine kyes ?_
              | refine kno ?_
              | refine gyes ?_
              | refine gno ?_
              | refine knoU ?_
              | refine gnoU ?_
              | refine VG_nil ⟨by rfl, ?_⟩
              | refine VG_nil ?_
              | refine dT ?_
              | refine d1 ?_
              | refine dQ ?_
              | refine ctr ?_
              | refine cfa ?_
              | refine kdec (fun hq => ?_) (fun hq => ?_)
              | refine gdec (fun hq => ?_) (fun hq => ?_)
              | refine cco (fun hq => ?_) (fun hq => ?_))
            refine VL_frz 1 (by rfl) (fun u1 M4 hle4 hu1 => ?_)
            refine VL_frz 2 (by rfl) (fun u2 M5 hle5 hu2 => ?_)
            have hs1 : SlM M4 9 enCells u1 [⟨1, byt b 1, opE, .slice A3 0 c3, []⟩] := RowM.slM (l := ([⟨1, byt b 1, opE, .slice A3 0 c3, []⟩] : List Ent)) (fun _ _ => rfl) hu1
            have hs2 : SlM M5 9 enCells u2 [⟨1, byt b 1, opE, .slice none 0 0, []⟩] := RowM.slM (l := ([⟨1, byt b 1, opE, .slice none 0 0, []⟩] : List Ent)) (fun _ _ => rfl) hu2
            have cS : ∀ W, M5.le (Mem.of W) → Calls Try.prog 14 #[u1, u2] W fun r w' => r = .returned (.bool true) ∧ Below W.heap.size W w' := fun W hW => by
              have := ref_SameE u1 u2 _ _ W M5 hW (hs1.mono hle5) hs2 (fun e he => by rw [List.mem_singleton.1 he]; exact (hpo.mono hle4).mono hle5) (fun e he => by rw [List.mem_singleton.1 he]; exact SlM.nil _ _ _)
              rwa [decide_eq_true (by rfl)] at this
            repeat' (first
              | refine VC_seq ?_
              | refine VC_region ?_
              | refine VL_nil ?_
              | refine VC_ret ?_
              | refine VC_exit ?_
              | refine VC_block ?_
              | refine VC_skip ?_
              | refine kbox ?_
              | refine kall ?_
              | refine kst ?_
              | refine ksN ?_
              | refine klt ?_
              | refine kl1 ?_
              | refine klK ?_
              | refine kap ?_
              | ((first | apply VL_q | apply VG_q | apply VS_q2); (first | exact qi0 (by rfl) | exact qi1 (by rfl) | exact qwd (by rfl) | exact qnr (by rfl) | exact qni (by rfl) | exact QS_cutS 2 b.size (by rfl) (by rfl) (by rfl) (by omega) (Nat.le_refl _) | exact QS_call (by rfl) cS | exact QS_call (by rfl) (fun W _ => cO W) | exact qmv (by rfl) | exact qas (by rfl) | exact ql1 (by rfl) | exact qlA (by rfl) | exact qfa (by rfl) | exact qmf (by rfl) | exact qfd (by rfl) | exact qm1 (by rfl) | exact qbd (by rfl) | exact qno (by rfl) | exact qex (by rfl) | exact qln (by rfl) | exact qls (by rfl) | exact qlr (by rfl) | exact qpt (by rfl) | exact qpf (by rfl) | exact qcp (by rfl) | exact qbe (by rfl) | exact qbn (by rfl) | exact qsn (by rfl) | exact qad (by rfl) | exact qsa (by rfl) | exact qsu (by rfl) | exact QS_bin (by rfl) (by rfl) (by first | exact B_slnil | exact Bq_eql_Pair | exact Bq_neq_Pair | exact Bq_eql_Op | exact Bq_neq_Op | exact Bq_eql_Cfg | exact Bq_neq_Cfg)); rfl)
              | refine sst ?_
              | refine VS_nil ?_
              | refine eeq ?_
              | refine ees ?_ (by first | exact es1 (by rfl) | exact esN (by rfl))
              | refine VE_nil ?_
              | refine kyes ?_
              | refine kno ?_
              | refine gyes ?_
              | refine gno ?_
              | refine knoU ?_
              | refine gnoU ?_
              | refine VG_nil ⟨by rfl, ?_⟩
              | refine VG_nil ?_
              | refine dT ?_
              | refine d1 ?_
              | refine dQ ?_
              | refine ctr ?_
              | refine cfa ?_
              | refine kdec (fun hq => ?_) (fun hq => ?_)
              | refine gdec (fun hq => ?_) (fun hq => ?_)
              | refine cco (fun hq => ?_) (fun hq => ?_))
            exact forQ_next (Q := fun _ _ => True) [] (k + 1, M5) ⟨rfl, rfl, trivial, ⟨rfl, rfl, rfl, rfl, trivial⟩⟩ ⟨Nat.succ_le_of_lt hlt, (hMx.trans hle4).trans hle5⟩ (by show l.length - (k + 1) < l.length - k; omega)
          · obtain ⟨rfl, rfl, rfl, rfl⟩ := ent_parts g3
            by_cases y0 : 0 < b.size
            · have d2 : decide ((0 : Int) < (b.size : Int)) = true := decide_eq_true (by omega)
              have f2 : (byt b 0 == 2) = false := by simp [show byt b 0 ≠ 2 from fun e => g2 ⟨y0, e⟩]
              by_cases y1 : 1 < b.size
              · have d1 : decide ((1 : Int) < (b.size : Int)) = true := decide_eq_true (by omega)
                have f1 : (byt b 0 == 1) = false := by simp [show byt b 0 ≠ 1 from fun e => g1 ⟨y1, e⟩]
                repeat' (first
                  | refine VC_seq ?_
                  | refine VC_region ?_
                  | refine VL_nil ?_
                  | refine VC_ret ?_
                  | refine VC_exit ?_
                  | refine VC_block ?_
                  | refine VC_skip ?_
                  | refine kbox ?_
                  | refine kall ?_
                  | refine kst ?_
                  | refine ksN ?_
                  | refine klt ?_
                  | refine kl1 ?_
                  | refine klK ?_
                  | refine kap ?_
                  | ((first | apply VL_q | apply VG_q | apply VS_q2); (first | exact qi0 (by rfl) | exact qi1 (by rfl) | exact qwd (by rfl) | exact qnr (by rfl) | exact qni (by rfl) | exact QS_indexAddr (k) (by rfl) (by rfl) (by omega) (by omega) | exact QS_mload1 (by rfl) (hcA 0 _ (by rfl)) | exact QS_mload1 (by rfl) (hcA _ _ (by rfl)) | exact QS_mloadN _ (by rfl) hcA _ (by rfl) | exact QS_mload1 (by rfl) (hcB 0 _ (by rfl)) | exact QS_mload1 (by rfl) (hcB _ _ (by rfl)) | exact QS_mloadN _ (by rfl) hcB _ (by rfl) | exact qlN (by rfl) | exact qbk (by rfl) | exact QS_call (by rfl) cR | exact QS_call (by rfl) cB | exact qmv (by rfl) | exact qas (by rfl) | exact ql1 (by rfl) | exact qlA (by rfl) | exact qfa (by rfl) | exact qmf (by rfl) | exact qfd (by rfl) | exact qm1 (by rfl) | exact qbd (by rfl) | exact qno (by rfl) | exact qex (by rfl) | exact qln (by rfl) | exact qls (by rfl) | exact qlr (by rfl) | exact qpt (by rfl) | exact qpf (by rfl) | exact qcp (by rfl) | exact qbe (by rfl) | exact qbn (by rfl) | exact qsn (by rfl) | exact qad (by rfl) | exact qsa (by rfl) | exact qsu (by rfl) | exact QS_bin (by rfl) (by rfl) (by first | exact B_slnil | exact Bq_eql_Pair | exact Bq_neq_Pair | exact Bq_eql_Op | exact Bq_neq_Op | exact Bq_eql_Cfg | exact Bq_neq_Cfg)); rfl)
                  | refine sst ?_
                  | refine VS_nil ?_
                  | refine eeq ?_
                  | refine ees ?_ (by first | exact es1 (by rfl) | exact esN (by rfl))
                  | refine VE_nil ?_
                  | refine kyes ?_
                  | refine kno ?_
                  | refine gyes ?_
                  | refine gno ?_
                  | refine knoU ?_
                  | refine gnoU ?_
                  | refine VG_nil ⟨by rfl, ?_⟩
                  | refine VG_nil ?_
                  | refine dT ?_
                  | refine d1 ?_
                  | refine dQ ?_
                  | refine ctr ?_
                  | refine cfa ?_
                  | refine kdec (fun hq => ?_) (fun hq => ?_)
                  | refine gdec (fun hq => ?_) (fun hq => ?_)
                  | refine cco (fun hq => ?_) (fun hq => ?_))
                refine VL_frz 1 (by rfl) (fun u1 M4 hle4 hu1 => ?_)
                refine VL_frz 2 (by rfl) (fun u2 M5 hle5 hu2 => ?_)
                have hs1 : SlM M4 9 enCells u1 [⟨1, 0, opE, .slice A3 0 c3, []⟩] := RowM.slM (l := ([⟨1, 0, opE, .slice A3 0 c3, []⟩] : List Ent)) (fun _ _ => rfl) hu1
                have hs2 : SlM M5 9 enCells u2 [⟨1, 0, opE, .slice none 0 0, []⟩] := RowM.slM (l := ([⟨1, 0, opE, .slice none 0 0, []⟩] : List Ent)) (fun _ _ => rfl) hu2
                have cS : ∀ W, M5.le (Mem.of W) → Calls Try.prog 14 #[u1, u2] W fun r w' => r = .returned (.bool true) ∧ Below W.heap.size W w' := fun W hW => by
                  have := ref_SameE u1 u2 _ _ W M5 hW (hs1.mono hle5) hs2 (fun e he => by rw [List.mem_singleton.1 he]; exact (hpo.mono hle4).mono hle5) (fun e he => by rw [List.mem_singleton.1 he]; exact SlM.nil _ _ _)
                  rwa [decide_eq_true (by rfl)] at this
                repeat' (first
                  | refine VC_seq ?_
                  | refine VC_region ?_
                  | refine VL_nil ?_
                  | refine VC_ret ?_
                  | refine VC_exit ?_
                  | refine VC_block ?_
                  | refine VC_skip ?_
                  | refine kbox ?_
                  | refine kall ?_
                  | refine kst ?_
                  | refine ksN ?_
                  | refine klt ?_
                  | refine kl1 ?_
                  | refine klK ?_
                  | refine kap ?_
                  | ((first | apply VL_q | apply VG_q | apply VS_q2); (first | exact qi0 (by rfl) | exact qi1 (by rfl) | exact qwd (by rfl) | exact qnr (by rfl) | exact qni (by rfl) | exact QS_cutS 2 b.size (by rfl) (by rfl) (by rfl) (by omega) (Nat.le_refl _) | exact QS_call (by rfl) cS | exact QS_call (by rfl) (fun W _ => cO W) | exact qmv (by rfl) | exact qas (by rfl) | exact ql1 (by rfl) | exact qlA (by rfl) | exact qfa (by rfl) | exact qmf (by rfl) | exact qfd (by rfl) | exact qm1 (by rfl) | exact qbd (by rfl) | exact qno (by rfl) | exact qex (by rfl) | exact qln (by rfl) | exact qls (by rfl) | exact qlr (by rfl) | exact qpt (by rfl) | exact qpf (by rfl) | exact qcp (by rfl) | exact qbe (by rfl) | exact qbn (by rfl) | exact qsn (by rfl) | exact qad (by rfl) | exact qsa (by rfl) | exact qsu (by rfl) | exact QS_bin (by rfl) (by rfl) (by first | exact B_slnil | exact Bq_eql_Pair | exact Bq_neq_Pair | exact Bq_eql_Op | exact Bq_neq_Op | exact Bq_eql_Cfg | exact Bq_neq_Cfg)); rfl)
                  | refine sst ?_
                  | refine VS_nil ?_
                  | refine eeq ?_
                  | refine ees ?_ (by first | exact es1 (by rfl) | exact esN (by rfl))
                  | refine VE_nil ?_
                  | refine kyes ?_
                  | refine kno ?_
                  | refine gyes ?_
                  | refine gno ?_
                  | refine knoU ?_
                  | refine gnoU ?_
                  | refine VG_nil ⟨by rfl, ?_⟩
                  | refine VG_nil ?_
                  | refine dT ?_
                  | refine d1 ?_
                  | refine dQ ?_
                  | refine ctr ?_
                  | refine cfa ?_
                  | refine kdec (fun hq => ?_) (fun hq => ?_)
                  | refine gdec (fun hq => ?_) (fun hq => ?_)
                  | refine cco (fun hq => ?_) (fun hq => ?_))
                exact forQ_next (Q := fun _ _ => True) [] (k + 1, M5) ⟨rfl, rfl, trivial, ⟨rfl, rfl, rfl, rfl, trivial⟩⟩ ⟨Nat.succ_le_of_lt hlt, (hMx.trans hle4).trans hle5⟩ (by show l.length - (k + 1) < l.length - k; omega)
              · have d1 : decide ((1 : Int) < (b.size : Int)) = false := decide_eq_false (by omega)
                repeat' (first
                  | refine VC_seq ?_
                  | refine VC_region ?_
                  | refine VL_nil ?_
                  | refine VC_ret ?_
                  | refine VC_exit ?_
                  | refine VC_block ?_
                  | refine VC_skip ?_
                  | refine kbox ?_
                  | refine kall ?_
                  | refine kst ?_
                  | refine ksN ?_
                  | refine klt ?_
                  | refine kl1 ?_
                  | refine klK ?_
                  | refine kap ?_
                  | ((first | apply VL_q | apply VG_q | apply VS_q2); (first | exact qi0 (by rfl) | exact qi1 (by rfl) | exact qwd (by rfl) | exact qnr (by rfl) | exact qni (by rfl) | exact QS_indexAddr (k) (by rfl) (by rfl) (by omega) (by omega) | exact QS_mload1 (by rfl) (hcA 0 _ (by rfl)) | exact QS_mload1 (by rfl) (hcA _ _ (by rfl)) | exact QS_mloadN _ (by rfl) hcA _ (by rfl) | exact QS_mload1 (by rfl) (hcB 0 _ (by rfl)) | exact QS_mload1 (by rfl) (hcB _ _ (by rfl)) | exact QS_mloadN _ (by rfl) hcB _ (by rfl) | exact qlN (by rfl) | exact qbk (by rfl) | exact QS_call (by rfl) cR | exact QS_call (by rfl) cB | exact qmv (by rfl) | exact qas (by rfl) | exact ql1 (by rfl) | exact qlA (by rfl) | exact qfa (by rfl) | exact qmf (by rfl) | exact qfd (by rfl) | exact qm1 (by rfl) | exact qbd (by rfl) | exact qno (by rfl) | exact qex (by rfl) | exact qln (by rfl) | exact qls (by rfl) | exact qlr (by rfl) | exact qpt (by rfl) | exact qpf (by rfl) | exact qcp (by rfl) | exact qbe (by rfl) | exact qbn (by rfl) | exact qsn (by rfl) | exact qad (by rfl) | exact qsa (by rfl) | exact qsu (by rfl) | exact QS_bin (by rfl) (by rfl) (by first | exact B_slnil | exact Bq_eql_Pair | exact Bq_neq_Pair | exact Bq_eql_Op | exact Bq_neq_Op | exact Bq_eql_Cfg | exact Bq_neq_Cfg)); rfl)
                  | refine sst ?_
                  | refine VS_nil ?_
                  | refine eeq ?_
                  | refine ees ?_ (by first | exact es1 (by rfl) | exact esN (by rfl))
                  | refine VE_nil ?_
                  | refine kyes ?_
                  | refine kno ?_
                  | refine gyes ?_
                  | refine gno ?_
                  | refine knoU ?_
                  | refine gnoU ?_
                  | refine VG_nil ⟨by rfl, ?_⟩
                  | refine VG_nil ?_
                  | refine dT ?_
                  | refine d1 ?_
                  | refine dQ ?_
                  | refine ctr ?_
                  | refine cfa ?_
                  | refine kdec (fun hq => ?_) (fun hq => ?_)
                  | refine gdec (fun hq => ?_) (fun hq => ?_)
                  | refine cco (fun hq => ?_) (fun hq => ?_))
                refine VL_frz 1 (by rfl) (fun u1 M4 hle4 hu1 => ?_)
                refine VL_frz 2 (by rfl) (fun u2 M5 hle5 hu2 => ?_)
                have hs1 : SlM M4 9 enCells u1 [⟨1, 0, opE, .slice A3 0 c3, []⟩] := RowM.slM (l := ([⟨1, 0, opE, .slice A3 0 c3, []⟩] : List Ent)) (fun _ _ => rfl) hu1
                have hs2 : SlM M5 9 enCells u2 [⟨1, 0, opE, .slice none 0 0, []⟩] := RowM.slM (l := ([⟨1, 0, opE, .slice none 0 0, []⟩] : List Ent)) (fun _ _ => rfl) hu2
                have cS : ∀ W, M5.le (Mem.of W) → Calls Try.prog 14 #[u1, u2] W fun r w' => r = .returned (.bool true) ∧ Below W.heap.size W w' := fun W hW => by
                  have := ref_SameE u1 u2 _ _ W M5 hW (hs1.mono hle5) hs2 (fun e he => by rw [List.mem_singleton.1 he]; exact (hpo.mono hle4).mono hle5) (fun e he => by rw [List.mem_singleton.1 he]; exact SlM.nil _ _ _)
                  rwa [decide_eq_true (by rfl)] at this
                repeat' (first
                  | refine VC_seq ?_
                  | refine VC_region ?_
                  | refine VL_nil ?_
                  | refine VC_ret ?_
                  | refine VC_exit ?_
                  | refine VC_block ?_
                  | refine VC_skip ?_
                  | refine kbox ?_
                  | refine kall ?_
                  | refine kst ?_
                  | refine ksN ?_
                  | refine klt ?_
                  | refine kl1 ?_
                  | refine klK ?_
                  | refine kap ?_
                  | ((first | apply VL_q | apply VG_q | apply VS_q2); (first | exact qi0 (by rfl) | exact qi1 (by rfl) | exact qwd (by rfl) | exact qnr (by rfl) | exact qni (by rfl) | exact QS_cutS 2 b.size (by rfl) (by rfl) (by rfl) (by omega) (Nat.le_refl _) | exact QS_call (by rfl) cS | exact QS_call (by rfl) (fun W _ => cO W) | exact qmv (by rfl) | exact qas (by rfl) | exact ql1 (by rfl) | exact qlA (by rfl) | exact qfa (by rfl) | exact qmf (by rfl) | exact qfd (by rfl) | exact qm1 (by rfl) | exact qbd (by rfl) | exact qno (by rfl) | exact qex (by rfl) | exact qln (by rfl) | exact qls (by rfl) | exact qlr (by rfl) | exact qpt (by rfl) | exact qpf (by rfl) | exact qcp (by rfl) | exact qbe (by rfl) | exact qbn (by rfl) | exact qsn (by rfl) | exact qad (by rfl) | exact qsa (by rfl) | exact qsu (by rfl) | exact QS_bin (by rfl) (by rfl) (by first | exact B_slnil | exact Bq_eql_Pair | exact Bq_neq_Pair | exact Bq_eql_Op | exact Bq_neq_Op | exact Bq_eql_Cfg | exact Bq_neq_Cfg)); rfl)
                  | refine sst ?_
                  | refine VS_nil ?_
                  | refine eeq ?_
                  | refine ees ?_ (by first | exact es1 (by rfl) | exact esN (by rfl))
                  | refine VE_nil ?_
                  | refine kyes ?_
                  | refine kno ?_
                  | refine gyes ?_
                  | refine gno ?_
                  | refine knoU ?_
                  | refine gnoU ?_
                  | refine VG_nil ⟨by rfl, ?_⟩
                  | refine VG_nil ?_
                  | refine dT ?_
                  | refine d1 ?_
                  | refine dQ ?_
                  | refine ctr ?_
                  | refine cfa ?_
                  | refine kdec (fun hq => ?_) (fun hq => ?_)
                  | refine gdec (fun hq => ?_) (fun hq => ?_)
                  | refine cco (fun hq => ?_) (fun hq => ?_))
                exact forQ_next (Q := fun _ _ => True) [] (k + 1, M5) ⟨rfl, rfl, trivial, ⟨rfl, rfl, rfl, rfl, trivial⟩⟩ ⟨Nat.succ_le_of_lt hlt, (hMx.trans hle4).trans hle5⟩ (by show l.length - (k + 1) < l.length - k; omega)
            · have d2 : decide ((0 : Int) < (b.size : Int)) = false := decide_eq_false (by omega)
              have d1 : decide ((1 : Int) < (b.size : Int)) = false := decide_eq_false (by omega)
              repeat' (first
                | refine VC_seq ?_
                | refine VC_region ?_
                | refine VL_nil ?_
                | refine VC_ret ?_
                | refine VC_exit ?_
                | refine VC_block ?_
                | refine VC_skip ?_
                | refine kbox ?_
                | refine kall ?_
                | refine kst ?_
                | refine ksN ?_
                | refine klt ?_
                | refine kl1 ?_
                | refine klK ?_
                | refine kap ?_
                | ((first | apply VL_q | apply VG_q | apply VS_q2); (first | exact qi0 (by rfl) | exact qi1 (by rfl) | exact qwd (by rfl) | exact qnr (by rfl) | exact qni (by rfl) | exact QS_indexAddr (k) (by rfl) (by rfl) (by omega) (by omega) | exact QS_mload1 (by rfl) (hcA 0 _ (by rfl)) | exact QS_mload1 (by rfl) (hcA _ _ (by rfl)) | exact QS_mloadN _ (by rfl) hcA _ (by rfl) | exact QS_mload1 (by rfl) (hcB 0 _ (by rfl)) | exact QS_mload1 (by rfl) (hcB _ _ (by rfl)) | exact QS_mloadN _ (by rfl) hcB _ (by rfl) | exact qlN (by rfl) | exact qbk (by rfl) | exact QS_call (by rfl) cR | exact QS_call (by rfl) cB | exact qmv (by rfl) | exact qas (by rfl) | exact ql1 (by rfl) | exact qlA (by rfl) | exact qfa (by rfl) | exact qmf (by rfl) | exact qfd (by rfl) | exact qm1 (by rfl) | exact qbd (by rfl) | exact qno (by rfl) | exact qex (by rfl) | exact qln (by rfl) | exact qls (by rfl) | exact qlr (by rfl) | exact qpt (by rfl) | exact qpf (by rfl) | exact qcp (by rfl) | exact qbe (by rfl) | exact qbn (by rfl) | exact qsn (by rfl) | exact qad (by rfl) | exact qsa (by rfl) | exact qsu (by rfl) | exact QS_bin (by rfl) (by rfl) (by first | exact B_slnil | exact Bq_eql_Pair | exact Bq_neq_Pair | exact Bq_eql_Op | exact Bq_neq_Op | exact Bq_eql_Cfg | exact Bq_neq_Cfg)); rfl)
                | refine sst ?_
                | refine VS_nil ?_
                | refine eeq ?_
                | refine ees ?_ (by first | exact es1 (by rfl) | exact esN (by rfl))
                | refine VE_nil ?_
                | refine kyes ?_
                | refine kno ?_
                | refine gyes ?_
                | refine gno ?_
                | refine knoU ?_
                | refine gnoU ?_
                | refine VG_nil ⟨by rfl, ?_⟩
                | refine VG_nil ?_
                | refine dT ?_
                | refine d1 ?_
                | refine dQ ?_
                | refine ctr ?_
                | refine cfa ?_
                | refine kdec (fun hq => ?_) (fun hq => ?_)
                | refine gdec (fun hq => ?_) (fun hq => ?_)
                | refine cco (fun hq => ?_) (fun hq => ?_))
              refine VL_frz 1 (by rfl) (fun u1 M4 hle4 hu1 => ?_)
              refine VL_frz 2 (by rfl) (fun u2 M5 hle5 hu2 => ?_)
              have hs1 : SlM M4 9 enCells u1 [⟨1, 0, opE, .slice A3 0 c3, []⟩] := RowM.slM (l := ([⟨1, 0, opE, .slice A3 0 c3, []⟩] : List Ent)) (fun _ _ => rfl) hu1
              have hs2 : SlM M5 9 enCells u2 [⟨1, 0, opE, .slice none 0 0, []⟩] := RowM.slM (l := ([⟨1, 0, opE, .slice none 0 0, []⟩] : List Ent)) (fun _ _ => rfl) hu2
              have cS : ∀ W, M5.le (Mem.of W) → Calls Try.prog 14 #[u1, u2] W fun r w' => r = .returned (.bool true) ∧ Below W.heap.size W w' := fun W hW => by
                have := ref_SameE u1 u2 _ _ W M5 hW (hs1.mono hle5) hs2 (fun e he => by rw [List.mem_singleton.1 he]; exact (hpo.mono hle4).mono hle5) (fun e he => by rw [List.mem_singleton.1 he]; exact SlM.nil _ _ _)
                rwa [decide_eq_true (by rfl)] at this
              repeat' (first
                | refine VC_seq ?_
                | refine VC_region ?_
                | refine VL_nil ?_
                | refine VC_ret ?_
                | refine VC_exit ?_
                | refine VC_block ?_
                | refine VC_skip ?_
                | refine kbox ?_
                | refine kall ?_
                | refine kst ?_
                | refine ksN ?_
                | refine klt ?_
                | refine kl1 ?_
                | refine klK ?_
                | refine kap ?_
                | ((first | apply VL_q | apply VG_q | apply VS_q2); (first | exact qi0 (by rfl) | exact qi1 (by rfl) | exact qwd (by rfl) | exact qnr (by rfl) | exact qni (by rfl) | exact QS_cutS 2 b.size (by rfl) (by rfl) (by rfl) (by omega) (Nat.le_refl _) | exact QS_call (by rfl) cS | exact QS_call (by rfl) (fun W _ => cO W) | exact qmv (by rfl) | exact qas (by rfl) | exact ql1 (by rfl) | exact qlA (by rfl) | exact qfa (by rfl) | exact qmf (by rfl) | exact qfd (by rfl) | exact qm1 (by rfl) | exact qbd (by rfl) | exact qno (by rfl) | exact qex (by rfl) | exact qln (by rfl) | exact qls (by rfl) | exact qlr (by rfl) | exact qpt (by rfl) | exact qpf (by rfl) | exact qcp (by rfl) | exact qbe (by rfl) | exact qbn (by rfl) | exact qsn (by rfl) | exact qad (by rfl) | exact qsa (by rfl) | exact qsu (by rfl) | exact QS_bin (by rfl) (by rfl) (by first | exact B_slnil | exact Bq_eql_Pair | exact Bq_neq_Pair | exact Bq_eql_Op | exact Bq_neq_Op | exact Bq_eql_Cfg | exact Bq_neq_Cfg)); rfl)
                | refine sst ?_
                | refine VS_nil ?_
                | refine eeq ?_
                | refine ees ?_ (by first | exact es1 (by rfl) | exact esN (by rfl))
                | refine VE_nil ?_
                | refine kyes ?_
                | refine kno ?_
                | refine gyes ?_
                | refine gno ?_
                | refine knoU ?_
                | refine gnoU ?_
                | refine VG_nil ⟨by rfl, ?_⟩
                | refine VG_nil ?_
                | refine dT ?_
                | refine d1 ?_
                | refine dQ ?_
                | refine ctr ?_
                | refine cfa ?_
                | refine kdec (fun hq => ?_) (fun hq => ?_)
                | refine gdec (fun hq => ?_) (fun hq => ?_)
                | refine cco (fun hq => ?_) (fun hq => ?_))
              exact forQ_next (Q := fun _ _ => True) [] (k + 1, M5) ⟨rfl, rfl, trivial, ⟨rfl, rfl, rfl, rfl, trivial⟩⟩ ⟨Nat.succ_le_of_lt hlt, (hMx.trans hle4).trans hle5⟩ (by show l.length - (k + 1) < l.length - k; omega)
      · have hd := dge hge
        repeat' (first
          | refine VC_seq ?_
          | refine VC_region ?_
          | refine VL_nil ?_
          | refine VC_ret ?_
          | refine VC_exit ?_
          | refine VC_block ?_
          | refine VC_skip ?_
          | refine kbox ?_
          | refine kall ?_
          | refine kst ?_
          | refine ksN ?_
          | refine klt ?_
          | refine kl1 ?_
          | refine klK ?_
          | refine kap ?_
          | ((first | apply VL_q | apply VG_q | apply VS_q2); (first | exact QS_call (by rfl) (fun W _ => cA W) | exact qmv (by rfl) | exact qas (by rfl) | exact ql1 (by rfl) | exact qlA (by rfl) | exact qfa (by rfl) | exact qmf (by rfl) | exact qfd (by rfl) | exact qm1 (by rfl) | exact qbd (by rfl) | exact qno (by rfl) | exact qex (by rfl) | exact qln (by rfl) | exact qls (by rfl) | exact qlr (by rfl) | exact qpt (by rfl) | exact qpf (by rfl) | exact qcp (by rfl) | exact qbe (by rfl) | exact qbn (by rfl) | exact qsn (by rfl) | exact qad (by rfl) | exact qsa (by rfl) | exact qsu (by rfl) | exact QS_bin (by rfl) (by rfl) (by first | exact B_slnil | exact Bq_eql_Pair | exact Bq_neq_Pair | exact Bq_eql_Op | exact Bq_neq_Op | exact Bq_eql_Cfg | exact Bq_neq_Cfg)); rfl)
          | refine sst ?_
          | refine VS_nil ?_
          | refine eeq ?_
          | refine ees ?_ (by first | exact es1 (by rfl) | exact esN (by rfl))
          | refine VE_nil ?_
          | refine kyes ?_
          | refine kno ?_
          | refine gyes ?_
          | refine gno ?_
          | refine knoU ?_
          | refine gnoU ?_
          | refine VG_nil ⟨by rfl, ?_⟩
          | refine VG_nil ?_
          | refine dT ?_
          | refine d1 ?_
          | refine dQ ?_
          | refine ctr ?_
          | refine cfa ?_
          | refine kdec (fun hq => ?_) (fun hq => ?_)
          | refine gdec (fun hq => ?_) (fun hq => ?_)
          | refine cco (fun hq => ?_) (fun hq => ?_))
        show Res _ _ _ _
        refine Res.one (by rfl) (ResV_tmp (by rfl) ?_)
        rfl
end Go.Proofs.Ytdgcdfngpimmmaa.lawScriptDecodes
