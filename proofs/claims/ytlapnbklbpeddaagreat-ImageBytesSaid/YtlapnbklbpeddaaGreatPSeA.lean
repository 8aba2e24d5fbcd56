/- The code's levels. -/
import Derived.Test.YtlapnbklbpeddaaGreatPSe9
namespace Go.Proofs.YtlapnbklbpeddaaGreat
open Go Go.RowKit
attribute [local irreducible] Calls
set_option linter.unusedVariables false
set_option maxRecDepth 20000
set_option linter.unusedSimpArgs false
set_option maxHeartbeats 8000000
/-- Nodes by their slots. -/
def atE (l : List Nd) : List (Int × Value) := l.map fun n => (n.slot, .agg #[.int .i64 n.slot, .int .i64 n.level, n.pv, n.kv, .string n.high, .bool n.top, .int .i64 n.right, .int .i64 n.seen, n.mv, n.rv])
theorem lookM_at (l : List Nd) (s : Int) : lookM (atE l) s = ((slotN s l).head?).map fun n => .agg #[.int .i64 n.slot, .int .i64 n.level, n.pv, n.kv, .string n.high, .bool n.top, .int .i64 n.right, .int .i64 n.seen, n.mv, n.rv] := by
  unfold lookM atE slotN
  rw [List.find?_map, List.head?_filter, Option.map_map]
  rfl
theorem head_last {l : List Nd} (h : l.length ≤ 1) : l.head? = l.getLast? := by
  match l, h with
  | [], _ => rfl
  | [a], _ => rfl
theorem dist_cnt {l : List Nd} (h : (slots l).Nodup) (s : Int) : (slotN s l).length ≤ 1 := by
  have := List.nodup_iff_count.1 h s
  rw [← cnt_slots] at this
  exact this
/-- What a look-up yields among nodes of distinct slots. -/
theorem look_find {l : List Nd} (h : (slots l).Nodup) (s : Int) : (lookM (atE l) s).getD (.agg #[.int .i64 zero0.slot, .int .i64 zero0.level, zero0.pv, zero0.kv, .string zero0.high, .bool zero0.top, .int .i64 zero0.right, .int .i64 zero0.seen, zero0.mv, zero0.rv]) = .agg #[.int .i64 (findN l s).1.slot, .int .i64 (findN l s).1.level, (findN l s).1.pv, (findN l s).1.kv, .string (findN l s).1.high, .bool (findN l s).1.top, .int .i64 (findN l s).1.right, .int .i64 (findN l s).1.seen, (findN l s).1.mv, (findN l s).1.rv] ∧ (lookM (atE l) s).isSome = (findN l s).2 := by
  have h1 := dist_cnt h s
  rw [lookM_at, head_last h1]
  unfold findN lastN cntN
  generalize slotN s l = q at *
  match q, h1 with
  | [], _ => exact ⟨rfl, rfl⟩
  | [a], _ => exact ⟨rfl, rfl⟩
structure LevOut (l : List Nd) (ok : Bool) (R : List (Value × List Sq)) : Prop where
  yes : ok = true → distB (slots l) = true ∧ rowsL l = some (R.map (·.2)) ∧ (R.map (·.2)).flatten.length = l.length
  no : ok = false → distB (slots l) = false ∨ rowsL l = none ∨ (rowsL l = some (R.map (·.2)) ∧ (R.map (·.2)).flatten.length ≠ l.length)
def LevPost (l : List Nd) (u : Value) (M' : Mem) : Prop := ∃ xv ok R, u = .tuple #[xv, .bool ok] ∧ SlM M' 1 rvCells xv R ∧ (∀ p ∈ R, RowOk M' p) ∧ R.length ≤ 1000000 ∧ (∀ p ∈ R, p.2.length ≤ 1000000) ∧ LevOut l ok R
theorem flat_ge {α β : Type} (f : α → List β) {row : List α} {i : Nat} (h : i < row.length) : ((row.take i).flatMap f).length + (f row[i]).length ≤ (row.flatMap f).length := by
  conv => rhs; rw [← List.take_append_drop i row, List.drop_eq_getElem_cons h, List.flatMap_append, List.flatMap_cons]
  simp only [List.length_append]
  omega
theorem lvl_none {l : List Nd} {f : Nat} {out : List (List Sq)} {row : List Sq} {i : Nat} (h : i < row.length) (hb : innK l row[i] = false ∨ l.length < out.flatten.length + row.length + ((row.take i).flatMap (kidsL l)).length + (kidsL l row[i]).length) : lvl l f out row = none := by
  cases f with
  | zero => rfl
  | succ f =>
    rw [lvl, if_neg (by intro e; rw [e] at h; simp at h), if_neg]
    rintro ⟨h1, h2⟩
    rcases hb with hb | hb
    · have := List.all_eq_true.1 h1 _ (List.getElem_mem h)
      rw [hb] at this; cases this
    · have := flat_ge (kidsL l) h
      omega
theorem lvl_next {l : List Nd} {f : Nat} {out : List (List Sq)} {row : List Sq} (hne : row ≠ []) (h1 : row.all (innK l) = true) (h2 : out.flatten.length + row.length + (row.flatMap (kidsL l)).length ≤ l.length) : lvl l (f + 1) out row = lvl l f (out ++ [row]) (row.flatMap (kidsL l)) := by
  rw [lvl, if_neg hne, if_pos ⟨h1, h2⟩]
theorem lvl_end {l : List Nd} {f : Nat} {out : List (List Sq)} : lvl l (f + 1) out [] = some out := by rw [lvl, if_pos rfl]
theorem sound_levels (v : Value) (l : List Nd) (w : World) (M : Mem) (hMw : M.le (Mem.of w)) (hl : SlM M 10 ndCells v l) (hN : NdsOk M l) :
    Calls Tryz.prog 36 #[v] w (RetM M w (LevPost l)) := by
  obtain ⟨A, c, rfl, hc1, hc2, _⟩ := id hl
  unfold maxLen at hc2
  have hlen := hN.len
  refine V_ret (args := [.slice A l.length c]) (M := M) Tryz.func36 rfl Tryz.ntmps36 (by rfl) hMw _ ?_
  refine VC_frzQ ?_
  repeat' (first | refine VC_seq ?_ | refine VC_region ?_ | refine VL_nil ?_ | ((apply VL_q); (exact qas (by rfl)); rfl))
  refine VL_e _ _ EF_map (by rfl) (by rfl) ?_
  repeat' (first | refine VC_seq ?_ | refine VC_region ?_ | refine VL_nil ?_ | refine VC_block ?_ | ((apply VL_q); (first | exact qmv (by rfl) | exact qas (by rfl) | exact qln (by rfl)); rfl))
  refine VC_for (fun k : Nat => ⟨M, [.omap (atE (l.take k))], [(0, .v (.slice A l.length c)), (2, .v (.slice none 0 0)), (4, .r 0), (20, .v (.slice A l.length c)), (21, .v (.int .i64 l.length)), (22, .v (.int .i64 k))]⟩) (fun k => k ≤ l.length ∧ (slots (l.take k)).Nodup) (fun k => l.length - k) [0] 0 ⟨rfl, rfl, ⟨rfl, trivial⟩, ⟨rfl, rfl, rfl, rfl, rfl, rfl, trivial⟩⟩ ⟨Nat.zero_le _, List.nodup_nil⟩ ?_
  rintro k ⟨hk, hnd⟩
  rcases Nat.lt_or_ge k l.length with hlt | hge
  · have hd := dlt hlt
    obtain ⟨b, off, rfl, hcA⟩ := hl.get hlt
    have h1 := nd_one (hN.ok l[k] (List.getElem_mem hlt))
    obtain ⟨hv, hb⟩ := look_find hnd l[k].slot
    have h2 := nd_one (lastN_ok (fun a ha => hN.ok a (List.mem_of_mem_take ha)) l[k].slot : (lastN l[k].slot (l.take k)).Ok M)
    rw [show lastN l[k].slot (l.take k) = (findN (l.take k) l[k].slot).1 from rfl] at h2
    have hcs : slots (l.take (k + 1)) = slots (l.take k) ++ [l[k].slot] := by unfold slots; rw [List.take_succ_eq_append_getElem hlt, List.map_append]; rfl
    have hce : atE (l.take (k + 1)) = atE (l.take k) ++ [(l[k].slot, .agg #[.int .i64 (l[k]).slot, .int .i64 (l[k]).level, (l[k]).pv, (l[k]).kv, .string (l[k]).high, .bool (l[k]).top, .int .i64 (l[k]).right, .int .i64 (l[k]).seen, (l[k]).mv, (l[k]).rv])] := by unfold atE; rw [List.take_succ_eq_append_getElem hlt, List.map_append]; rfl
    cases hf : (findN (l.take k) l[k].slot).2 with
    | true =>
      rw [hf] at hb
      have hdup : distB (slots l) = false := by
        refine decide_eq_false fun hnd2 => ?_
        have e : slots l = slots (l.take (k + 1)) ++ slots (l.drop (k + 1)) := by unfold slots; rw [← List.map_append, List.take_append_drop]
        rw [e, List.nodup_append, hcs, List.nodup_append] at hnd2
        obtain ⟨g1, g2, _⟩ := find_fnd hf
        exact hnd2.1.2.2 l[k].slot (List.mem_map.2 ⟨_, g1, g2⟩) l[k].slot (by simp) rfl
      generalize (findN (l.take k) l[k].slot).1 = nf at *
      repeat' (first | refine ksN ?_ (hu := h1) | refine ksN ?_ (hu := h2) | refine VC_seq ?_ | refine VC_region ?_ | refine VL_nil ?_ | refine VC_ret ?_ | refine VC_block ?_ | refine VC_skip ?_ | refine kall ?_ | ((apply VL_q); (first | exact QS_indexAddr (k) (by rfl) (by rfl) (by omega) (by omega) | exact QS_mloadN _ (by rfl) hcA _ (by rfl) | exact QS_look (by rfl) (by rfl) (by rfl) hv hb | exact qmv (by rfl) | exact qas (by rfl) | exact ql1 (by rfl) | exact qfa (by rfl) | exact qex (by rfl) | exact qcp (by rfl)); rfl) | refine ctr ?_)
      exact .inl ⟨_, Res.two (by rfl) (ResV_tmp (by rfl) rfl) (ResV_tmp (by rfl) rfl), _, false, [], rfl, SlM.nil _ _ _, fun p hp => (by cases hp), Nat.zero_le _, fun p hp => (by cases hp), ⟨fun h => (by cases h), fun _ => .inl hdup⟩⟩
    | false =>
      have hno : lookM (atE (l.take k)) l[k].slot = none := by rw [hf] at hb; exact Option.isNone_iff_eq_none.1 (by rw [← Option.not_isSome, hb]; rfl)
      rw [hf] at hb
      generalize (findN (l.take k) l[k].slot).1 = nf at *
      repeat' (first | refine ksN ?_ (hu := h1) | refine ksN ?_ (hu := h2) | refine VC_seq ?_ | refine VC_region ?_ | refine VL_nil ?_ | refine VC_block ?_ | refine VC_skip ?_ | refine kall ?_ | ((apply VL_q); (first | exact QS_indexAddr (k) (by rfl) (by rfl) (by omega) (by omega) | exact QS_mloadN _ (by rfl) hcA _ (by rfl) | exact QS_look (by rfl) (by rfl) (by rfl) hv hb | exact qmv (by rfl) | exact qas (by rfl) | exact ql1 (by rfl) | exact qlA (by rfl) | exact qfa (by rfl) | exact qex (by rfl) | exact qcp (by rfl)); rfl) | refine ctr ?_ | refine cfa ?_)
      refine VL_e _ _ (EF_st (ES_mapPut (by rfl) (by rfl) (by rfl) (by rfl) hno) (by simp)) (by rfl) (by rfl) ?_
      repeat' (first | refine VC_region ?_ | refine VL_nil ?_ | ((apply VL_q); (first | exact qmv (by rfl) | exact qad (by rfl)); rfl))
      refine forQ_next (Q := fun _ _ => True) [0] (k + 1) ⟨rfl, rfl, ⟨by rw [hce]; rfl, trivial⟩, ⟨rfl, rfl, rfl, rfl, rfl, rfl, trivial⟩⟩ ⟨by omega, ?_⟩ (by omega)
      rw [hcs, List.nodup_append]
      refine ⟨hnd, by simp, fun a ha b hb2 e => ?_⟩
      simp at hb2
      have : l[k].slot ∈ slots (l.take k) := by rw [← hb2, ← e]; exact ha
      have h3 := List.count_pos_iff.2 this
      rw [← cnt_slots] at h3
      have h4 := dist_cnt hnd l[k].slot
      have h5 : cntN l[k].slot (l.take k) = 1 := by unfold cntN at *; omega
      have h6 : (findN (l.take k) l[k].slot).2 = true := by show ((cntN l[k].slot (l.take k) : Int) == 1) = true; rw [h5]; rfl
      rw [hf] at h6; cases h6
  · have hd := dge hge
    rw [List.take_of_length_le hge] at hnd ⊢
    have hdist : distB (slots l) = true := decide_eq_true hnd
    obtain ⟨hv0, hb0⟩ := look_find hnd 0
    have h1 := nd_one (lastN_ok hN.ok 0)
    rw [show lastN 0 l = (findN l 0).1 from rfl] at h1
    cases h0 : (findN l 0).2 with
    | false =>
      rw [h0] at hb0
      have hs : rowsL l = none := by unfold rowsL; rw [h0]; rfl
      generalize (findN l 0).1 = n0 at *
      repeat' (first | refine ksN ?_ (hu := h1) | refine VC_seq ?_ | refine VC_region ?_ | refine VL_nil ?_ | refine VC_ret ?_ | refine VC_exit ?_ | refine kall ?_ | ((apply VL_q); (first | exact QS_look (by rfl) (by rfl) (by rfl) hv0 hb0 | exact qmv (by rfl) | exact qas (by rfl) | exact qno (by rfl) | exact qex (by rfl) | exact qcp (by rfl)); rfl) | refine ctr ?_ | refine cfa ?_)
      exact .inl ⟨_, Res.two (by rfl) (ResV_tmp (by rfl) rfl) (ResV_tmp (by rfl) rfl), _, false, [], rfl, SlM.nil _ _ _, fun p hp => (by cases hp), Nat.zero_le _, fun p hp => (by cases hp), ⟨fun h => (by cases h), fun _ => .inr (.inl hs)⟩⟩
    | true =>
      rw [h0] at hb0
      have hs : rowsL l = lvl l (l.length + 1) [] [rootQ l] := by unfold rowsL; rw [if_pos h0]
      have hf := find_fnd h0
      have hpos := find_pos h0
      rw [show rootQ l = ⟨(findN l 0).1, all, []⟩ from rfl] at hs
      generalize (findN l 0).1 = n0 at *
      have cA := fun W => span_All W
      repeat' (first | refine ksN ?_ (hu := h1) | refine VC_seq ?_ | refine VC_region ?_ | refine VL_nil ?_ | refine VC_exit ?_ | refine VC_block ?_ | refine VC_skip ?_ | refine kall ?_ | refine kl1 ?_ | ((first | apply VL_q | apply VG_q); (first | exact QS_look (by rfl) (by rfl) (by rfl) hv0 hb0 | exact QS_call (by rfl) (fun W _ => cA W) | exact qbk (by rfl) | exact qmv (by rfl) | exact qas (by rfl) | exact qlA (by rfl) | exact qno (by rfl) | exact qex (by rfl) | exact qcp (by rfl)); rfl) | refine VG_nil ⟨by rfl, ?_⟩ | refine dT ?_ | refine cfa ?_)
      refine VC_nilR 2 91 1 (by rfl) (by rfl) ?_
      refine VC_frz 2 (by rfl) (fun u0 M1 hle1 hrow1 => ?_)
      have hS0 : SlM M1 13 plCells u0 [(⟨n0, all, []⟩ : Sq)] := RowM.slM (k := 13) (cells := plCells) (l := [(⟨n0, all, []⟩ : Sq)]) (fun _ _ => rfl) hrow1
      clear hrow1
      obtain ⟨U0, a0, rfl, _⟩ := id hS0
      refine VC_for (fun x : List (Value × List Sq) × Value × List Sq × Mem × Nat => ⟨x.2.2.2.1, [.omap (atE l), .row 91 1 x.1.length (x.1.flatMap rvCells)], [(0, .v (.slice A l.length c)), (4, .r 0), (2, .r 1), (10, .v (.int .i64 (((x.1.map (·.2)).flatten.length + x.2.2.1.length : Nat) : Int))), (11, .v x.2.1)]⟩)
        (fun x => M.le x.2.2.2.1 ∧ (∀ p ∈ x.1, RowOk x.2.2.2.1 p) ∧ RowOk x.2.2.2.1 (x.2.1, x.2.2.1) ∧ (x.1.map (·.2)).flatten.length + x.2.2.1.length ≤ l.length ∧ x.1.length ≤ (x.1.map (·.2)).flatten.length ∧ (∀ p ∈ x.1, p.2.length ≤ l.length) ∧ l.length + 1 ≤ x.2.2.2.2 + (x.1.map (·.2)).flatten.length ∧ lvl l x.2.2.2.2 (x.1.map (·.2)) x.2.2.1 = rowsL l)
        (fun x => x.2.2.2.2) [0, 3] ([], .slice U0 1 a0, [⟨n0, all, []⟩], M1, l.length + 1) ⟨rfl, rfl, ⟨rfl, rfl, trivial⟩, ⟨rfl, rfl, rfl, rfl, rfl, trivial⟩⟩
        ⟨hle1, fun p hp => (by cases hp), ⟨hS0, fun x hx => by rw [List.mem_singleton.1 hx]; exact ⟨(hN.ok _ hf.1).mono hle1, hN.big _ hf.1, hN.inn _ hf.1, Nat.zero_le _, Nat.zero_le _⟩⟩, by show 0 + 1 ≤ _; omega, Nat.zero_le _, fun p hp => (by cases hp), by show l.length + 1 ≤ l.length + 1 + 0; omega, hs.symm⟩ ?_
      rintro ⟨R, rv, row, Mx, f⟩ ⟨hMx, hR, ⟨hrs, hrk⟩, hcnt, hRl, hRn, hfu, hlv⟩
      dsimp only at hMx hR hrs hrk hcnt hRl hRn hfu hlv ⊢
      obtain ⟨B, d, rfl, hd1, hd2, _⟩ := id hrs
      unfold maxLen at hd2
      have hfpos : ∃ f', f = f' + 1 := ⟨f - 1, by omega⟩
      obtain ⟨f', rfl⟩ := hfpos
      generalize hfl : (R.map (·.2)).flatten.length = fl at *
      by_cases hne : row = []
      · subst hne
        have hend : rowsL l = some (R.map (·.2)) := by rw [← hlv, lvl_end]
        have t0 : decide ((0 : Int) < (([] : List Sq).length : Int)) = false := by decide
        cases hq : ((((fl + ([] : List Sq).length : Nat) : Int)) == (l.length : Int)) with
        | true =>
          repeat' (first | refine VC_seq ?_ | refine VC_region ?_ | refine VL_nil ?_ | refine VC_ret ?_ | refine VC_exit ?_ | ((apply VL_q); (first | exact qmv (by rfl) | exact qas (by rfl) | exact qln (by rfl) | exact qcp (by rfl)); rfl) | refine cfa ?_)
          exact .inr ⟨1, _, _, _, _, rfl, fun u M' hle hu => ⟨_, Res.two (by rfl) (ResV_tmp (by rfl) rfl) (ResV_tmp (by rfl) (congrArg Value.bool hq)), _, true, R, rfl, RowM.slM (k := 1) (cells := rvCells) (fun _ _ => rfl) hu, fun p hp => (hR p hp).mono hle, by omega, fun p hp => by have := hRn p hp; omega, ⟨fun _ => ⟨hdist, hend, by rw [hfl]; have := beq_iff_eq.1 hq; simp at this; omega⟩, fun h => (by cases h)⟩⟩⟩
        | false =>
          repeat' (first | refine VC_seq ?_ | refine VC_region ?_ | refine VL_nil ?_ | refine VC_ret ?_ | refine VC_exit ?_ | ((apply VL_q); (first | exact qmv (by rfl) | exact qas (by rfl) | exact qln (by rfl) | exact qcp (by rfl)); rfl) | refine cfa ?_)
          exact .inr ⟨1, _, _, _, _, rfl, fun u M' hle hu => ⟨_, Res.two (by rfl) (ResV_tmp (by rfl) rfl) (ResV_tmp (by rfl) (congrArg Value.bool hq)), _, false, R, rfl, RowM.slM (k := 1) (cells := rvCells) (fun _ _ => rfl) hu, fun p hp => (hR p hp).mono hle, by omega, fun p hp => by have := hRn p hp; omega, ⟨fun h => (by cases h), fun _ => .inr (.inr ⟨hend, by rw [hfl]; have := beq_eq_false_iff_ne.1 hq; simp at this; omega⟩)⟩⟩⟩
      · have hrp : 0 < row.length := List.length_pos_iff.2 hne
        have t0 : decide ((0 : Int) < (row.length : Int)) = true := decide_eq_true (by omega)
        repeat' (first | refine VC_seq ?_ | refine VC_region ?_ | refine VL_nil ?_ | refine VC_block ?_ | refine VC_skip ?_ | refine klt ?_ | refine kap ?_ | ((apply VL_q); (first | exact qmv (by rfl) | exact qas (by rfl) | exact qln (by rfl) | exact qcp (by rfl)); rfl) | refine ctr ?_)
        refine VC_nilR 12 93 13 (by rfl) (by rfl) ?_
        have hnone : ∀ (i : Nat) (h : i < row.length), (innK l row[i] = false ∨ l.length < (R.map (·.2)).flatten.length + row.length + ((row.take i).flatMap (kidsL l)).length + (kidsL l row[i]).length) → rowsL l = none := fun i h hb => by rw [← hlv]; exact lvl_none h hb
        rw [hfl] at hnone
        refine VC_for (fun x : Nat => ⟨Mx, [.omap (atE l), .row 91 1 (R.length + 1) (R.flatMap rvCells ++ [.slice B row.length d]), .row 93 13 ((row.take x).flatMap (kidsL l)).length (((row.take x).flatMap (kidsL l)).flatMap plCells)], [(0, .v (.slice A l.length c)), (4, .r 0), (2, .r 1), (10, .v (.int .i64 ((fl + row.length + ((row.take x).flatMap (kidsL l)).length : Nat) : Int))), (12, .r 2), (57, .v (.slice B row.length d)), (58, .v (.int .i64 row.length)), (59, .v (.int .i64 (x : Nat)))]⟩)
          (fun x => x ≤ row.length ∧ (row.take x).all (innK l) = true ∧ fl + row.length + ((row.take x).flatMap (kidsL l)).length ≤ l.length ∧ ∀ y ∈ (row.take x).flatMap (kidsL l), PlOk Mx y)
          (fun x => row.length - x) [0, 3, 4] 0 ⟨rfl, rfl, ⟨rfl, rfl, rfl, trivial⟩, ⟨rfl, rfl, rfl, rfl, rfl, rfl, rfl, rfl, trivial⟩⟩ ⟨Nat.zero_le _, rfl, hcnt, fun y hy => (by cases hy)⟩ ?_
        rintro i ⟨hi, hia, hic, hiK⟩
        have htk : ∀ (h : i < row.length), (row.take (i + 1)).flatMap (kidsL l) = (row.take i).flatMap (kidsL l) ++ kidsL l row[i] := fun h => by rw [List.take_succ_eq_append_getElem h, List.flatMap_append]; simp
        rcases Nat.lt_or_ge i row.length with hlt | hge2
        · have hd := dlt hlt
          obtain ⟨b, off, rfl, hcA⟩ := hrs.get hlt
          have hx := hrk row[i] (List.getElem_mem hlt)
          have hone := pl_one hx
          have hall := allG_step hlt (innK l)
          have hnone := hnone i hlt
          have htk := htk hlt
          generalize hKe : (row.take i).flatMap (kidsL l) = K at *
          generalize row[i] = x at *
          cases hlt0 : decide (x.n.level < 0) with
          | true =>
            have hbad := hnone (.inl (innK_neg hlt0))
            repeat' (first | refine ksN ?_ (hu := hone) | refine VC_seq ?_ | refine VC_region ?_ | refine VL_nil ?_ | refine VC_ret ?_ | refine VC_block ?_ | refine VC_skip ?_ | refine kall ?_ | ((apply VL_q); (first | exact QS_indexAddr (i) (by rfl) (by rfl) (by omega) (by omega) | exact QS_mloadN _ (by rfl) hcA _ (by rfl) | exact qmv (by rfl) | exact qas (by rfl) | exact ql1 (by rfl) | exact qfa (by rfl) | exact qpt (by rfl) | exact qcp (by rfl)); rfl) | refine kno ?_ | refine knoU ?_ | refine ctr ?_)
            exact .inl ⟨_, Res.two (by rfl) (ResV_tmp (by rfl) rfl) (ResV_tmp (by rfl) rfl), _, false, [], rfl, SlM.nil _ _ _, fun p hp => (by cases hp), Nat.zero_le _, fun p hp => (by cases hp), ⟨fun h => (by cases h), fun _ => .inr (.inl hbad)⟩⟩
          | false =>
            have hlev : 0 ≤ x.n.level := by have := of_decide_eq_false hlt0; omega
            cases hl0 : (x.n.level == 0) with
            | true =>
              have h0 : x.n.level = 0 := by simpa using hl0
              have hg0 : decide (0 < x.n.level) = false := decide_eq_false (by omega)
              repeat' (first | refine ksN ?_ (hu := hone) | refine VC_seq ?_ | refine VC_region ?_ | refine VL_nil ?_ | refine VC_exit ?_ | refine VC_block ?_ | refine VC_skip ?_ | refine kall ?_ | ((apply VL_q); (first | exact QS_indexAddr (i) (by rfl) (by rfl) (by omega) (by omega) | exact QS_mloadN _ (by rfl) hcA _ (by rfl) | exact qmv (by rfl) | exact ql1 (by rfl) | exact qfa (by rfl) | exact qpf (by rfl) | exact qcp (by rfl) | exact qad (by rfl)); rfl) | refine kyes ?_ | refine kno ?_ | refine ctr ?_ | refine cfa ?_)
              refine forQ_next (Q := fun _ _ => True) [0, 1, 2] (i + 1) ⟨rfl, rfl, ⟨rfl, rfl, ?_, trivial⟩, ⟨rfl, rfl, rfl, ?_, rfl, rfl, rfl, rfl, trivial⟩⟩ ⟨hlt, by rw [hall, hia, innK_lev hl0]; rfl, ?_, ?_⟩ (by omega)
              all_goals rw [htk, kids_none hl0, List.append_nil]
              · rfl
              · rfl
              · exact hic
              · exact hiK
            | false =>
              have hg0 : decide (0 < x.n.level) = true := decide_eq_true (by have : x.n.level ≠ 0 := by simpa using hl0
                                                                             omega)
              have cR := fun W (hW : Mx.le (Mem.of W)) => bnode_RightK x.n.pv x.n.kv x.n.ps x.n.ks W (hx.ok.1.toSl hW) (hx.ok.2.1.toSl hW) (by have := hx.big.psn; omega)
              cases hrkk : rightK x.n.ps x.n.ks with
              | false =>
                rw [hrkk] at cR
                have hbad := hnone (.inl (innK_rk hl0 hrkk))
                repeat' (first | refine ksN ?_ (hu := hone) | refine VC_seq ?_ | refine VC_region ?_ | refine VL_nil ?_ | refine VC_ret ?_ | refine VC_block ?_ | refine VC_skip ?_ | refine kall ?_ | ((apply VL_q); (first | exact QS_indexAddr (i) (by rfl) (by rfl) (by omega) (by omega) | exact QS_mloadN _ (by rfl) hcA _ (by rfl) | exact QS_call (by rfl) cR | exact qmv (by rfl) | exact qas (by rfl) | exact ql1 (by rfl) | exact qfa (by rfl) | exact qno (by rfl) | exact qpt (by rfl) | exact qpf (by rfl) | exact qcp (by rfl)); rfl) | refine kyes ?_ | refine ctr ?_)
                exact .inl ⟨_, Res.two (by rfl) (ResV_tmp (by rfl) rfl) (ResV_tmp (by rfl) rfl), _, false, [], rfl, SlM.nil _ _ _, fun p hp => (by cases hp), Nat.zero_le _, fun p hp => (by cases hp), ⟨fun h => (by cases h), fun _ => .inr (.inl hbad)⟩⟩
              | true =>
                obtain ⟨B2, d2, hkv, he1, he2, _⟩ := id hx.ok.2.1
                unfold maxLen at he2
                have hks : SlM Mx 1 intCells (.slice B2 x.n.ks.length d2) x.n.ks := by rw [← hkv]; exact hx.ok.2.1
                have hlq : x.n.level ≤ 9223372036854775807 := hx.inn.level.2
                have hlp : 0 < x.n.level := of_decide_eq_true hg0
                have hrl := rightK_ris hrkk
                have hksn := hx.big.ksn
                rw [hrkk, hkv] at cR
                repeat' (first | refine ksN ?_ (hu := hone) | refine VC_seq ?_ | refine VC_region ?_ | refine VL_nil ?_ | refine VC_block ?_ | refine VC_skip ?_ | refine kall ?_ | ((apply VL_q); (first | exact QS_indexAddr (i) (by rfl) (by rfl) (by omega) (by omega) | exact QS_mloadN _ (by rfl) hcA _ (by rfl) | exact QS_load1 (by rfl) (by rfl) (congrArg some hkv) | exact QS_call (by rfl) cR | exact qmv (by rfl) | exact ql1 (by rfl) | exact qfa (by rfl) | exact qno (by rfl) | exact qln (by rfl) | exact qpt (by rfl) | exact qpf (by rfl) | exact qcp (by rfl)); rfl) | refine kyes ?_ | refine ctr ?_ | refine cfa ?_)
                refine VC_for (fun J : List Sq => ⟨Mx, [.omap (atE l), .row 91 1 (R.length + 1) (R.flatMap rvCells ++ [.slice (some ⟨b, off, none⟩) row.length d]), .row 93 13 (K ++ J).length ((K ++ J).flatMap plCells), .blk 93 (plCells x)], [(0, .v (.slice A l.length c)), (4, .r 0), (2, .r 1), (10, .v (.int .i64 ((fl + row.length + K.length + J.length : Nat) : Int))), (12, .r 2), (14, .p 3 0), (57, .v (.slice (some ⟨b, off, none⟩) row.length d)), (58, .v (.int .i64 row.length)), (59, .v (.int .i64 (i : Nat))), (89, .v (.slice B2 x.n.ks.length d2)), (90, .v (.int .i64 x.n.ks.length)), (91, .v (.int .i64 (J.length : Nat)))]⟩)
                  (fun J => J.length ≤ x.n.ks.length ∧ J = (List.range J.length).map (kidK l x) ∧ allTo (okK l x) J.length = true ∧ fl + row.length + K.length + J.length ≤ l.length ∧ ∀ y ∈ J, PlOk Mx y)
                  (fun J => x.n.ks.length - J.length) [0, 1, 2, 3] [] ⟨rfl, rfl, ⟨rfl, rfl, by rw [List.append_nil]; rfl, rfl, trivial⟩, ⟨rfl, rfl, rfl, rfl, rfl, rfl, rfl, rfl, rfl, rfl, rfl, rfl, trivial⟩⟩ ⟨Nat.zero_le _, rfl, rfl, hic, fun y hy => (by cases hy)⟩ ?_
                rintro J ⟨hJl, hJe, hJa, hJc, hJo⟩
                have hKJ : (K ++ J).length = K.length + J.length := List.length_append
                rcases Nat.lt_or_ge J.length x.n.ks.length with hj | hj
                · have dj := dlt hj
                  obtain ⟨bk, ok, rfl, hcK⟩ := hks.get hj
                  obtain ⟨hv, hb⟩ := look_find hnd x.n.ks[J.length]
                  have h2 := nd_one (lastN_ok hN.ok x.n.ks[J.length])
                  rw [show lastN x.n.ks[J.length] l = (findN l x.n.ks[J.length]).1 from rfl] at h2
                  cases hf2 : (findN l x.n.ks[J.length]).2 with
                  | false =>
                    rw [hf2] at hb
                    have hbad := hnone (.inl (innK_kid hl0 hj (okK_no hj hf2)))
                    generalize (findN l x.n.ks[J.length]).1 = nk at *
                    repeat' (first | refine ksN ?_ (hu := h2) | refine VC_seq ?_ | refine VC_region ?_ | refine VL_nil ?_ | refine VC_ret ?_ | refine VC_block ?_ | refine VC_skip ?_ | refine kall ?_ | ((apply VL_q); (first | exact QS_indexAddr (J.length) (by rfl) (by rfl) (by omega) (by omega) | exact QS_mload1 (by rfl) (hcK 0 _ (by rfl)) | exact QS_look (by rfl) (by rfl) (by rfl) hv hb | exact qmv (by rfl) | exact qas (by rfl) | exact qno (by rfl) | exact qex (by rfl) | exact qpt (by rfl) | exact qcp (by rfl) | exact qad (by rfl)); rfl) | refine kno ?_ | refine ctr ?_)
                    exact .inl ⟨_, Res.two (by rfl) (ResV_tmp (by rfl) rfl) (ResV_tmp (by rfl) rfl), _, false, [], rfl, SlM.nil _ _ _, fun p hp => (by cases hp), Nat.zero_le _, fun p hp => (by cases hp), ⟨fun h => (by cases h), fun _ => .inr (.inl hbad)⟩⟩
                  | true =>
                    rw [hf2] at hb
                    cases hlv2 : ((findN l x.n.ks[J.length]).1.level != x.n.level - 1) with
                    | true =>
                      have hbad := hnone (.inl (innK_kid hl0 hj (okK_lev hj hlv2)))
                      generalize (findN l x.n.ks[J.length]).1 = nk at *
                      repeat' (first | refine ksN ?_ (hu := h2) | refine VC_seq ?_ | refine VC_region ?_ | refine VL_nil ?_ | refine VC_ret ?_ | refine VC_block ?_ | refine VC_skip ?_ | refine kall ?_ | ((apply VL_q); (first | exact QS_indexAddr (J.length) (by rfl) (by rfl) (by omega) (by omega) | exact QS_mload1 (by rfl) (hcK 0 _ (by rfl)) | exact QS_look (by rfl) (by rfl) (by rfl) hv hb | exact qmv (by rfl) | exact qas (by rfl) | exact ql1 (by rfl) | exact qfa (by rfl) | exact qno (by rfl) | exact qex (by rfl) | exact qpt (by rfl) | exact qpf (by rfl) | exact qcp (by rfl) | exact qad (by rfl) | exact qsu (by rfl)); rfl) | refine kyes ?_ | refine kno ?_ | refine ctr ?_)
                      exact .inl ⟨_, Res.two (by rfl) (ResV_tmp (by rfl) rfl) (ResV_tmp (by rfl) rfl), _, false, [], rfl, SlM.nil _ _ _, fun p hp => (by cases hp), Nat.zero_le _, fun p hp => (by cases hp), ⟨fun h => (by cases h), fun _ => .inr (.inl hbad)⟩⟩
                    | false =>
                      by_cases hov : l.length < fl + row.length + K.length + J.length + 1
                      · have d5 : decide ((l.length : Int) < ((fl + row.length + K.length + J.length : Nat) : Int) + 1) = true := decide_eq_true (by omega)
                        have hbad := hnone (.inr (by rw [kids_all hl0, List.length_map, List.length_range]; omega))
                        generalize (findN l x.n.ks[J.length]).1 = nk at *
                        repeat' (first | refine ksN ?_ (hu := h2) | refine VC_seq ?_ | refine VC_region ?_ | refine VL_nil ?_ | refine VC_ret ?_ | refine VC_block ?_ | refine VC_skip ?_ | refine kall ?_ | ((apply VL_q); (first | exact QS_indexAddr (J.length) (by rfl) (by rfl) (by omega) (by omega) | exact QS_mload1 (by rfl) (hcK 0 _ (by rfl)) | exact QS_look (by rfl) (by rfl) (by rfl) hv hb | exact qmv (by rfl) | exact qas (by rfl) | exact ql1 (by rfl) | exact qfa (by rfl) | exact qno (by rfl) | exact qex (by rfl) | exact qln (by rfl) | exact qpf (by rfl) | exact qcp (by rfl) | exact qad (by rfl) | exact qsu (by rfl)); rfl) | refine kyes ?_ | refine ctr ?_)
                        exact .inl ⟨_, Res.two (by rfl) (ResV_tmp (by rfl) rfl) (ResV_tmp (by rfl) rfl), _, false, [], rfl, SlM.nil _ _ _, fun p hp => (by cases hp), Nat.zero_le _, fun p hp => (by cases hp), ⟨fun h => (by cases h), fun _ => .inr (.inl hbad)⟩⟩
                      · have d5 : decide ((l.length : Int) < ((fl + row.length + K.length + J.length : Nat) : Int) + 1) = false := decide_eq_false (by omega)
                        have hok := okK_yes hj hf2 hlv2
                        have hfn := find_fnd hf2
                        have hjp : J.length ≤ x.n.ps.length := by omega
                        have cG : ∀ W, Mx.le (Mem.of W) → Calls Tryz.prog 70 #[x.n.pv, .int .i64 (J.length : Nat)] W fun e w' => e = .returned (.agg #[.string (rangeN x.n.ps J.length).lo, .string (rangeN x.n.ps J.length).hi, .bool (rangeN x.n.ps J.length).opn]) ∧ Below W.heap.size W w' := fun W hW => by
                          rw [← rangeS_n hjp]
                          exact bnode_Range x.n.pv x.n.ps (J.length : Int) W (hx.ok.1.toSl hW) (by have := hx.big.psn; omega)
                        have hrz := rangeS_size (ps := x.n.ps) (n := 1000000) hx.big.ps (J.length : Int)
                        rw [rangeS_n hjp] at hrz
                        have hsz := meet_size x.s (rangeN x.n.ps J.length) (n := 1000000) hx.lo hx.hi hrz.1 hrz.2
                        have cT : ∀ W, Calls Tryz.prog 69 #[.agg #[.string x.s.lo, .string x.s.hi, .bool x.s.opn], .agg #[.string (rangeN x.n.ps J.length).lo, .string (rangeN x.n.ps J.length).hi, .bool (rangeN x.n.ps J.length).opn]] W fun e w' => e = .returned (.agg #[.string (kidSpan x J.length).lo, .string (kidSpan x J.length).hi, .bool (kidSpan x J.length).opn]) ∧ Below W.heap.size W w' := fun W => span_Meet x.s (rangeN x.n.ps J.length) W
                        rw [show meet x.s (rangeN x.n.ps J.length) = kidSpan x J.length from rfl] at hsz
                        have hkk : kidK l x J.length = ⟨(findN l x.n.ks[J.length]).1, kidSpan x J.length, mergeL (clipL x.n.ms (kidSpan x J.length)) (clipL x.ms (kidSpan x J.length))⟩ := by unfold kidK; rw [ksAt_eq hj]
                        generalize (findN l x.n.ks[J.length]).1 = nk at *
                        generalize rangeN x.n.ps J.length = rg at *
                        generalize kidSpan x J.length = sp at *
                        generalize mergeL (clipL x.n.ms sp) (clipL x.ms sp) = gm at *
                        have hnew : PlOk Mx ⟨nk, sp, gm⟩ := ⟨(hN.ok _ hfn.1).mono hMx, hN.big _ hfn.1, hN.inn _ hfn.1, hsz.1, hsz.2⟩
                        have hone2 := pl_one hnew
                        repeat' (first | refine ksN ?_ (hu := h2) | refine VC_seq ?_ | refine VC_region ?_ | refine VL_nil ?_ | refine VC_block ?_ | refine VC_skip ?_ | refine kall ?_ | ((apply VL_q); (first | exact QS_indexAddr (J.length) (by rfl) (by rfl) (by omega) (by omega) | exact QS_mload1 (by rfl) (hcK 0 _ (by rfl)) | exact QS_look (by rfl) (by rfl) (by rfl) hv hb | exact qmv (by rfl) | exact qas (by rfl) | exact ql1 (by rfl) | exact qfa (by rfl) | exact qno (by rfl) | exact qex (by rfl) | exact qln (by rfl) | exact qpf (by rfl) | exact qcp (by rfl) | exact qad (by rfl) | exact qsu (by rfl)); rfl) | refine kyes ?_ | refine ctr ?_ | refine cfa ?_)
                        refine VC_drawE [] [2] [11, 12, 13] (by decide +kernel) (by decide +kernel) (by rfl) ?_
                        repeat' (first | refine VQs_nil ?_ | refine VQs_e (by rfl) ?_ | refine VQs_q (by rfl) _ (by exact wno (by first | exact qlN (by rfl) | exact qbk (by rfl) | exact QS_call (by rfl) cG | exact QS_call (by rfl) (fun W _ => cT W) | exact qmv (by rfl) | exact ql1 (by rfl) | exact qfa (by rfl))) (by rfl) (by rfl) ?_ | refine VT_done ?_ | refine VT_step ?_ | exact VTs_nil | refine VTs_e (by rfl) _ _ (by exact fno (by first | exact eap (by rfl) (h1 := hone2) | exact el1 (by rfl) | exact fq (by exact qas (by rfl)))) (by rfl) (by rfl) ?_ ?_)
                        repeat' (first | refine VC_region ?_ | refine VL_nil ?_ | ((apply VL_q); (first | exact qmv (by rfl) | exact qad (by rfl)); rfl))
                        have hl1 : ∀ z : Sq, (J ++ [z]).length = J.length + 1 := fun z => by rw [List.length_append]; rfl
                        have hrow : ∀ z : Sq, some (Ob.row 93 13 ((K ++ J).length + 1) ((K ++ J).flatMap plCells ++ plCells z)) = some (Ob.row 93 13 (K ++ (J ++ [z])).length ((K ++ (J ++ [z])).flatMap plCells)) := fun z => by
                          simp only [List.length_append, List.length_cons, List.length_nil, List.flatMap_append, List.flatMap_cons, List.flatMap_nil, List.append_nil, List.append_assoc]
                          rfl
                        refine forQ_next (Q := fun _ _ => True) [0, 1, 6, 3] (J ++ [⟨nk, sp, gm⟩]) ⟨rfl, rfl, ⟨rfl, rfl, ?_, rfl, trivial⟩, ⟨rfl, rfl, rfl, ?_, rfl, rfl, rfl, rfl, rfl, rfl, rfl, ?_, trivial⟩⟩ ⟨?_, ?_, ?_, ?_, fun y hy => ?_⟩ ?_
                        · exact (congrArg some (congrArg (Ob.row 93 13 ((K ++ J).length + 1)) (congrArg ((K ++ J).flatMap plCells ++ ·) (rfl : (plCells ⟨nk, sp, gm⟩).toArray.toList = plCells ⟨nk, sp, gm⟩)))).trans (hrow ⟨nk, sp, gm⟩)
                        · rw [hl1]; rfl
                        · rw [hl1]; rfl
                        · rw [hl1]; exact hj
                        · rw [hl1, List.range_succ, List.map_append, ← hJe]
                          show _ = J ++ [kidK l x J.length]
                          rw [hkk]
                        · rw [hl1, allTo_succ, hJa, hok]; rfl
                        · rw [hl1]; omega
                        · rcases List.mem_append.1 hy with hy | hy
                          · exact hJo y hy
                          · rw [List.mem_singleton.1 hy]; exact hnew
                        · rw [hl1]; omega
                · have dj := dge hj
                  have hjj : J.length = x.n.ks.length := by omega
                  rw [hjj] at hJe hJa
                  have hkk : kidsL l x = J := by rw [kids_all hl0]; exact hJe.symm
                  rw [hkk] at htk
                  repeat' (first | refine VC_seq ?_ | refine VC_region ?_ | refine VL_nil ?_ | refine VC_exit ?_ | ((apply VL_q); (first | exact qmv (by rfl) | exact qcp (by rfl) | exact qad (by rfl)); rfl) | refine cfa ?_)
                  refine forQ_next (Q := fun _ _ => True) [0, 1, 2] (i + 1) ⟨rfl, rfl, ⟨rfl, rfl, ?_, trivial⟩, ⟨rfl, rfl, rfl, ?_, rfl, rfl, rfl, rfl, trivial⟩⟩ ⟨hlt, by rw [hall, hia, innK_all hlt0 hrkk hJa]; rfl, ?_, ?_⟩ (by omega)
                  all_goals rw [htk]
                  · rfl
                  · rw [hKJ]; simp only [Nat.add_assoc]; rfl
                  · rw [hKJ]; omega
                  · intro y hy
                    exact (List.mem_append.1 hy).elim (hiK y) (hJo y)
        · have hd := dge hge2
          obtain rfl : i = row.length := by omega
          rw [List.take_length] at hia hic hiK ⊢
          generalize hKe : row.flatMap (kidsL l) = K at *
          refine VC_frz 2 (by rfl) (fun u2 M2 hle2 hrow2 => ?_)
          have hS2 : SlM M2 13 plCells u2 K := RowM.slM (k := 13) (cells := plCells) (fun _ _ => rfl) hrow2
          clear hrow2
          repeat' (first | refine VC_seq ?_ | refine VC_region ?_ | refine VL_nil ?_ | refine VC_exit ?_ | ((apply VL_q); (first | exact qmv (by rfl) | exact qas (by rfl) | exact qcp (by rfl)); rfl) | refine cfa ?_)
          have hfl2 : ((R ++ [((Value.slice B row.length d), row)]).map (·.2)).flatten.length = fl + row.length := by rw [List.map_append, List.flatten_append, List.length_append, hfl]; simp
          have hrl2 : (R ++ [((Value.slice B row.length d), row)]).length = R.length + 1 := by rw [List.length_append]; rfl
          refine forQ_next (Q := fun _ _ => True) [0, 1] (R ++ [(.slice B row.length d, row)], u2, K, M2, f') ⟨rfl, rfl, ⟨rfl, ?_, trivial⟩, ⟨rfl, rfl, rfl, ?_, rfl, trivial⟩⟩ ⟨hMx.trans hle2, fun p hp => ?_, ⟨hS2, fun x hx => (hiK x hx).mono hle2⟩, ?_, ?_, fun p hp => ?_, ?_, ?_⟩ (by show f' < f' + 1; omega)
          · show some (Ob.row 91 1 (R.length + 1) (R.flatMap rvCells ++ [.slice B row.length d])) = some (Ob.row 91 1 (R ++ [((Value.slice B row.length d), row)]).length ((R ++ [((Value.slice B row.length d), row)]).flatMap rvCells))
            rw [hrl2, List.flatMap_append]
            rfl
          · show _ = some (SV.v (.int .i64 ((((R ++ [((Value.slice B row.length d), row)]).map (·.2)).flatten.length + K.length : Nat) : Int)))
            rw [hfl2]; rfl
          · rcases List.mem_append.1 hp with hp | hp
            · exact (hR p hp).mono hle2
            · rw [List.mem_singleton.1 hp]; exact ⟨hrs.mono hle2, fun x hx => (hrk x hx).mono hle2⟩
          · show ((R ++ [((Value.slice B row.length d), row)]).map (·.2)).flatten.length + K.length ≤ _
            rw [hfl2]; exact hic
          · show (R ++ [((Value.slice B row.length d), row)]).length ≤ ((R ++ [((Value.slice B row.length d), row)]).map (·.2)).flatten.length
            rw [hfl2, hrl2]; omega
          · rcases List.mem_append.1 hp with hp | hp
            · exact hRn p hp
            · rw [List.mem_singleton.1 hp]; show row.length ≤ _; omega
          · show l.length + 1 ≤ f' + ((R ++ [((Value.slice B row.length d), row)]).map (·.2)).flatten.length
            rw [hfl2]; omega
          · show lvl l f' ((R ++ [((Value.slice B row.length d), row)]).map (·.2)) K = rowsL l
            rw [← hlv, lvl_next hne hia (by rw [hfl, hKe]; exact hic), hKe, List.map_append]
            rfl
end Go.Proofs.YtlapnbklbpeddaaGreat
