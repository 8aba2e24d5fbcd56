/- The document's Seats. -/
import Derived.Test.YtclbmfepdlffnaaPSe4
namespace Go.Proofs.Ytclbmfepdlffnaa
open Go Go.RowKit
attribute [local irreducible] Calls
set_option linter.unusedVariables false
set_option maxRecDepth 20000
set_option linter.unusedSimpArgs false
set_option maxHeartbeats 8000000
def SeatsPost (l : List Nd) (u : Value) (M' : Mem) : Prop := ∃ xv b, u = .tuple #[xv, .bool b] ∧ (b = true → ∃ X : List (Sq × Value), SlM M' 14 sqCells xv X ∧ seatsL l = some (X.map (·.1)) ∧ ∀ x ∈ X, SqOk M' x) ∧ (b = false → seatsL l = none)
structure NdsOk (M : Mem) (l : List Nd) : Prop where
  ok : ∀ a ∈ l, a.Ok M
  big : ∀ a ∈ l, a.Big
  inn : ∀ a ∈ l, a.In
  len : l.length ≤ 100000
theorem NdsOk.mono {M M' : Mem} {l : List Nd} (h : NdsOk M l) (hle : M.le M') : NdsOk M' l := ⟨fun a ha => (h.ok a ha).mono hle, h.big, h.inn, h.len⟩
theorem bfs_step {l : List Nd} {i : Nat} {out : List Sq} {x : Sq} (hx : out[i]? = some x) (ho : out.length ≤ l.length) (hi : innK l x = true) : bfs l (l.length + 1 - i) i out = bfs l (l.length + 1 - (i + 1)) (i + 1) (out ++ kidsL l x) := by
  have := (List.getElem?_eq_some_iff.1 hx).1
  rw [show l.length + 1 - i = (l.length + 1 - (i + 1)) + 1 by omega, bfs, hx]
  dsimp only
  rw [if_neg (by omega), if_pos hi]
theorem bfs_fail {l : List Nd} {i f : Nat} {out : List Sq} {x : Sq} (hx : out[i]? = some x) (hi : innK l x = false) : bfs l f i out = none := by
  cases f with
  | zero => rfl
  | succ f =>
    rw [bfs, hx]
    dsimp only
    rw [hi]
    simp
theorem bfs_end {l : List Nd} {i : Nat} {out : List Sq} (hx : out[i]? = none) (hi : i ≤ l.length) : bfs l (l.length + 1 - i) i out = some out := by
  rw [show l.length + 1 - i = (l.length - i) + 1 by omega, bfs, hx]
theorem innK_lev {l : List Nd} {x : Sq} (h : (x.n.level == 0) = true) : innK l x = true := by unfold innK; rw [h]; rfl
theorem innK_neg {l : List Nd} {x : Sq} (h : decide (x.n.level < 0) = true) : innK l x = false := by
  have : x.n.level < 0 := of_decide_eq_true h
  unfold innK; rw [h, beq_eq_false_iff_ne.2 (by omega)]; rfl
theorem innK_rk {l : List Nd} {x : Sq} (h0 : (x.n.level == 0) = false) (h : rightK x.n.ps x.n.ks = false) : innK l x = false := by unfold innK; rw [h0, h]; simp
theorem innK_kid {l : List Nd} {x : Sq} {j : Nat} (h0 : (x.n.level == 0) = false) (hj : j < x.n.ks.length) (h : okK l x j = false) : innK l x = false := by
  unfold innK
  rw [h0, allTo_stop (p := okK l x) h hj]
  simp
theorem innK_all {l : List Nd} {x : Sq} (h1 : decide (x.n.level < 0) = false) (h2 : rightK x.n.ps x.n.ks = true) (h3 : allTo (okK l x) x.n.ks.length = true) : innK l x = true := by unfold innK; rw [h1, h2, h3]; simp
theorem okK_no {l : List Nd} {x : Sq} {j : Nat} (hj : j < x.n.ks.length) (h : (findN l x.n.ks[j]).2 = false) : okK l x j = false := by unfold okK; rw [ksAt_eq hj, h]; rfl
theorem okK_lev {l : List Nd} {x : Sq} {j : Nat} (hj : j < x.n.ks.length) (h : ((findN l x.n.ks[j]).1.level != x.n.level - 1) = true) : okK l x j = false := by
  unfold okK
  rw [ksAt_eq hj]
  have : ((findN l x.n.ks[j]).1.level == x.n.level - 1) = false := by simpa using h
  rw [this, Bool.and_false]
theorem okK_yes {l : List Nd} {x : Sq} {j : Nat} (hj : j < x.n.ks.length) (h1 : (findN l x.n.ks[j]).2 = true) (h : ((findN l x.n.ks[j]).1.level != x.n.level - 1) = false) : okK l x j = true := by
  unfold okK
  rw [ksAt_eq hj, h1]
  simpa using h
theorem kids_all {l : List Nd} {x : Sq} (h0 : (x.n.level == 0) = false) : kidsL l x = (List.range x.n.ks.length).map (kidK l x) := by unfold kidsL; rw [h0]; simp
theorem kids_none {l : List Nd} {x : Sq} (h0 : (x.n.level == 0) = true) : kidsL l x = [] := by unfold kidsL; rw [if_pos h0]
theorem ref_ClipB (v : Value) (l : List Msg) (s : Span) (w : World) (hl : SlMsg w v l) (hz : ∀ m ∈ l, m.key.size ≤ 1000000 ∧ m.hi.size ≤ 1000000 ∧ m.val.size ≤ 1000000) (hn : l.length ≤ 500000000000) (h3 : s.lo.size ≤ 1000000) (h4 : s.hi.size ≤ 1000000) :
    Calls Try.prog 101 #[v, .agg #[.string s.lo, .string s.hi, .bool s.opn]] w (RetRow 155 6 (clipL l s).length ((clipL l s).flatMap msgCells) w) := by
  obtain ⟨A, c, rfl, hc1, hc2, _⟩ := id hl
  have hM := hl.toM
  unfold maxLen at hc2
  refine V_rowN (args := [.slice A l.length c, .agg #[.string s.lo, .string s.hi, .bool s.opn]]) (M := Mem.of w) Try.func101 rfl Try.ntmps101 (by rfl) (Mem.le_refl _) rfl ?_
  repeat' (first | refine VC_seq ?_ | refine VC_region ?_ | refine VL_nil ?_ | refine VC_block ?_ | refine kbox ?_ | ((apply VL_q); (exact qas (by rfl)); rfl))
  refine VC_nilR 5 155 6 (by rfl) (by rfl) ?_
  refine VC_for (fun k : Nat => ⟨Mem.of w, [.blk 96 (.agg #[.string s.lo, .string s.hi, .bool s.opn] : Value).cells.toList, .row 155 6 (clipL (l.take k) s).length ((clipL (l.take k) s).flatMap msgCells)], [(0, .v (.slice A l.length c)), (3, .p 0 0), (5, .r 1), (6, .v (.int .i64 k))]⟩) (fun k => k ≤ l.length) (fun k => l.length - k) [0, 1] 0 ⟨rfl, rfl, ⟨rfl, rfl, trivial⟩, ⟨rfl, rfl, rfl, rfl, trivial⟩⟩ (by omega) ?_
  intro k hk
  have hlen := clipL_len (l.take k) s
  rw [List.length_take] at hlen
  rcases Nat.lt_or_ge k l.length with hlt | hge
  · have hd := dlt hlt
    obtain ⟨b, off, rfl, hcA⟩ := hM.get hlt
    obtain ⟨z1, z2, z3⟩ := hz l[k] (List.getElem_mem hlt)
    have c1 := fun W => ref_ClipM l[k] s W z1 z2 h3 h4
    cases hok : (clipM l[k] s).2 with
    | false =>
      rw [hok] at c1
      have e : clipL (l.take (k + 1)) s = clipL (l.take k) s := by rw [clipL_step hlt]; unfold clip1; rw [hok]; simp
      repeat' (first | refine VC_seq ?_ | refine VC_region ?_ | refine VL_nil ?_ | refine VC_block ?_ | refine VC_skip ?_ | ((apply VL_q); (first | exact qmv (by rfl) | exact qln (by rfl) | exact qcp (by rfl)); rfl) | refine ctr ?_)
      refine VC_drawE [] [] [9, 10] (by decide +kernel) (by decide +kernel) (by rfl) ?_
      repeat' (first | refine VQs_nil ?_ | refine VQs_e (by rfl) ?_ | refine VQs_q (by rfl) _ (by exact wno (by first | exact QS_indexAddr (k) (by rfl) (by rfl) (by omega) (by omega) | exact QS_mloadN _ (by rfl) hcA _ (by rfl) | exact QS_call (by rfl) (fun W _ => c1 W) | exact qmv (by rfl) | exact qas (by rfl) | exact qlA (by rfl) | exact qex (by rfl))) (by rfl) (by rfl) ?_ | refine VT_done ?_ | refine VT_step ?_ | exact VTs_nil | refine VTs_e (by rfl) _ _ (by exact fno (by first | exact EF_alloc | exact fstN (by rfl))) (by rfl) (by rfl) ?_ ?_)
      repeat' (first | refine VC_seq ?_ | refine VC_region ?_ | refine VL_nil ?_ | refine VC_skip ?_ | ((apply VL_q); (first | exact qmv (by rfl) | exact qas (by rfl) | exact qad (by rfl)); rfl) | refine cfa ?_)
      exact forQ_next [0, 1] (k + 1) ⟨rfl, rfl, ⟨rfl, by rw [e]; rfl, trivial⟩, ⟨rfl, rfl, rfl, rfl, trivial⟩⟩ (by omega) (by omega)
    | true =>
      rw [hok] at c1
      have e : clipL (l.take (k + 1)) s = clipL (l.take k) s ++ [(clipM l[k] s).1] := by rw [clipL_step hlt]; unfold clip1; rw [hok]; rfl
      have e2 : (clipL (l.take (k + 1)) s).flatMap msgCells = (clipL (l.take k) s).flatMap msgCells ++ msgCells (clipM l[k] s).1 := by rw [e]; simp
      have e3 : (clipL (l.take (k + 1)) s).length = (clipL (l.take k) s).length + 1 := by rw [e]; simp
      repeat' (first | refine VC_seq ?_ | refine VC_region ?_ | refine VL_nil ?_ | refine VC_block ?_ | refine VC_skip ?_ | ((apply VL_q); (first | exact qmv (by rfl) | exact qln (by rfl) | exact qcp (by rfl)); rfl) | refine ctr ?_)
      refine VC_drawE [] [] [9, 10] (by decide +kernel) (by decide +kernel) (by rfl) ?_
      repeat' (first | refine VQs_nil ?_ | refine VQs_e (by rfl) ?_ | refine VQs_q (by rfl) _ (by exact wno (by first | exact QS_indexAddr (k) (by rfl) (by rfl) (by omega) (by omega) | exact QS_mloadN _ (by rfl) hcA _ (by rfl) | exact QS_call (by rfl) (fun W _ => c1 W) | exact qmv (by rfl) | exact qas (by rfl) | exact qlA (by rfl) | exact qex (by rfl))) (by rfl) (by rfl) ?_ | refine VT_done ?_ | refine VT_step ?_ | exact VTs_nil | refine VTs_e (by rfl) _ _ (by exact fno (by first | exact EF_alloc | exact fstN (by rfl))) (by rfl) (by rfl) ?_ ?_)
      repeat' (first | refine VC_seq ?_ | refine VC_region ?_ | refine VL_nil ?_ | refine kl1 ?_ | refine kap ?_ | ((apply VL_q); (first | exact qmv (by rfl) | exact qas (by rfl) | exact qlA (by rfl) | exact qad (by rfl)); rfl) | refine ctr ?_)
      exact forQ_next [0, 4] (k + 1) ⟨rfl, rfl, ⟨rfl, by rw [e2, e3]; rfl, trivial⟩, ⟨rfl, rfl, rfl, rfl, trivial⟩⟩ (by omega) (by omega)
  · have hd := dge hge
    obtain rfl : k = l.length := by omega
    repeat' (first | refine VC_seq ?_ | refine VC_region ?_ | refine VL_nil ?_ | refine VC_ret ?_ | refine VC_exit ?_ | ((apply VL_q); (first | exact qmv (by rfl) | exact qas (by rfl) | exact qln (by rfl) | exact qcp (by rfl)); rfl) | refine cfa ?_)
    rw [List.take_length]
    exact .inl ⟨1, rfl, rfl⟩
theorem RowM.sl {M : Mem} {k n : Nat} {cs : List Value} {v : Value} (h : RowM M k n cs v) : ∃ A c, v = .slice A n c := by
  obtain ⟨_, ⟨rfl, rfl⟩ | ⟨b, c, rfl, _⟩⟩ := h
  · exact ⟨none, 0, rfl⟩
  · exact ⟨_, c, rfl⟩
theorem ref_Seats (v : Value) (l : List Nd) (w : World) (M : Mem) (hMw : M.le (Mem.of w)) (hl : SlM M 10 ndCells v l) (hN : NdsOk M l) :
    Calls Try.prog 51 #[v, .int .i64 0] w (RetM M w (SeatsPost l)) := by
  obtain ⟨A, c, rfl, hc1, hc2, _⟩ := id hl
  unfold maxLen at hc2
  have hlen := hN.len
  refine V_ret (args := [.slice A l.length c, .int .i64 0]) (M := M) Try.func51 rfl Try.ntmps51 (by rfl) hMw _ ?_
  refine VC_frzQ ?_
  have cF : ∀ (s : Int) W, M.le (Mem.of W) → Calls Try.prog 96 #[.slice A l.length c, .int .i64 s] W fun e w' => e = .returned (.tuple #[.agg #[.int .i64 (findN l s).1.slot, .int .i64 (findN l s).1.level, (findN l s).1.pv, (findN l s).1.kv, .string (findN l s).1.high, .bool (findN l s).1.top, .int .i64 (findN l s).1.right, .int .i64 (findN l s).1.seen, (findN l s).1.mv, (findN l s).1.rv], .bool (findN l s).2]) ∧ Below W.heap.size W w' := fun s W hW => ref_Find _ l s W M hW hl hN.ok (by omega)
  have cF0 := cF 0
  have h1 := nd_one (lastN_ok hN.ok 0)
  cases h0 : (findN l 0).2 with
  | false =>
    have hs : seatsL l = none := by unfold seatsL; rw [h0]; rfl
    rw [h0] at cF0
    rw [show lastN 0 l = (findN l 0).1 from rfl] at h1
    generalize (findN l 0).1 = n0 at *
    repeat' (first | refine ksN ?_ (hu := h1) | refine VC_seq ?_ | refine VC_region ?_ | refine VL_nil ?_ | refine VC_ret ?_ | refine kall ?_ | ((apply VL_q); (first | exact QS_call (by rfl) cF0 | exact qmv (by rfl) | exact qas (by rfl) | exact qno (by rfl) | exact qex (by rfl)); rfl) | refine ctr ?_)
    exact .inl ⟨_, Res.two (by rfl) (ResV_tmp (by rfl) rfl) (ResV_tmp (by rfl) rfl), _, false, rfl, (fun h => by cases h), fun _ => hs⟩
  | true =>
    have hs : seatsL l = bfs l (l.length + 1) 0 [rootQ l] := by unfold seatsL; rw [if_pos h0]
    have hf := find_fnd h0
    rw [h0] at cF0
    rw [show lastN 0 l = (findN l 0).1 from rfl] at h1
    rw [show rootQ l = ⟨(findN l 0).1, all, []⟩ from rfl] at hs
    have hpos := find_pos h0
    generalize (findN l 0).1 = n0 at *
    repeat' (first | refine ksN ?_ (hu := h1) | refine VC_seq ?_ | refine VC_region ?_ | refine VL_nil ?_ | refine VC_block ?_ | refine VC_skip ?_ | refine kall ?_ | refine kl1 ?_ | ((apply VL_q); (first | exact QS_call (by rfl) cF0 | exact qbk (by rfl) | exact qmv (by rfl) | exact qas (by rfl) | exact qlA (by rfl) | exact qbd (by rfl) | exact qno (by rfl) | exact qex (by rfl)); rfl) | refine cfa ?_)
    refine VC_for (fun x : List (Sq × Value) × Nat × Mem => ⟨x.2.2, [.row 98 14 x.1.length (x.1.flatMap sqCells)], [(0, .v (.slice A l.length c)), (8, .r 0), (9, .v (.int .i64 (x.2.1 : Nat)))]⟩)
      (fun x => M.le x.2.2 ∧ x.2.1 ≤ l.length ∧ x.2.1 ≤ x.1.length ∧ x.1.length ≤ l.length + 1000000 ∧ (∀ y ∈ x.1, SqOk x.2.2 y) ∧ (∀ k y, x.1[k]? = some y → y.1.ms.length ≤ k * 1000000 ∧ y.1.ms.length ≤ l.length * 1000000) ∧ bfs l (l.length + 1 - x.2.1) x.2.1 (x.1.map (·.1)) = seatsL l)
      (fun x => l.length + 1 - x.2.1) [1] ([(⟨n0, all, []⟩, .slice none 0 0)], 0, M) ⟨rfl, rfl, ⟨rfl, trivial⟩, ⟨rfl, rfl, rfl, trivial⟩⟩ ⟨Mem.le_refl _, Nat.zero_le _, Nat.zero_le _, by show 1 ≤ _; omega, fun y hy => by
        rw [List.mem_singleton.1 hy]
        exact ⟨hN.ok _ hf.1, hN.big _ hf.1, hN.inn _ hf.1, Nat.zero_le _, Nat.zero_le _, SlM.nil _ _ _, fun m hm => by cases hm⟩, fun k y hy => by
        cases k with
        | zero => obtain rfl := Option.some.inj hy; exact ⟨Nat.zero_le _, Nat.zero_le _⟩
        | succ k => simp at hy, by rw [hs]; rfl⟩ ?_
    rintro ⟨X, i, Mx⟩ ⟨hMx, hil, hiX, hXl, hX, hXm, hb⟩
    dsimp only at hMx hil hiX hXl hX hXm hb ⊢
    rcases Nat.lt_or_ge i X.length with hlt | hge
    · have hd := dlt hlt
      have hgx : (X.map (·.1))[i]? = some X[i].1 := by rw [List.getElem?_map, List.getElem?_eq_getElem hlt]; rfl
      have hx := hX X[i] (List.getElem_mem hlt)
      obtain ⟨hxm1, hxm2⟩ := hXm i X[i] (List.getElem?_eq_getElem hlt)
      have hone := sq_one hx
      by_cases hov : l.length < X.length
      · have d1 := dlt hov
        have hnone : seatsL l = none := by rw [← hb]; exact bfs_over l _ _ _ (by simpa using hlt) (by simpa using hov)
        repeat' (first | refine ksN ?_ (hu := hone) | refine VC_seq ?_ | refine VC_region ?_ | refine VL_nil ?_ | refine VC_ret ?_ | refine VC_block ?_ | refine VC_skip ?_ | refine kall ?_ | ((apply VL_q); (first | exact QS_indexRow i (by rfl) (by rfl) (by rfl) rfl hlt | exact QS_loadSq X (by rfl) (by rfl) hlt | exact qmv (by rfl) | exact qas (by rfl) | exact qln (by rfl) | exact qlr (by rfl) | exact qcp (by rfl)); rfl) | refine ctr ?_)
        exact .inr ⟨0, _, _, _, _, rfl, fun u M' hle hu => ⟨_, Res.two (by rfl) (ResV_tmp (by rfl) rfl) (ResV_tmp (by rfl) rfl), _, false, rfl, (fun h => by cases h), fun _ => hnone⟩⟩
      · have d1 := dge (Nat.le_of_not_lt hov)
        have hcx : M.le Mx := hMx
        cases hl0 : (X[i].1.n.level == 0) with
        | true =>
          repeat' (first | refine ksN ?_ (hu := hone) | refine VC_seq ?_ | refine VC_region ?_ | refine VL_nil ?_ | refine VC_exit ?_ | refine VC_block ?_ | refine VC_skip ?_ | refine kall ?_ | ((apply VL_q); (first | exact QS_indexRow i (by rfl) (by rfl) (by rfl) rfl hlt | exact QS_loadSq X (by rfl) (by rfl) hlt | exact qmv (by rfl) | exact qas (by rfl) | exact ql1 (by rfl) | exact qfa (by rfl) | exact qln (by rfl) | exact qlr (by rfl) | exact qcp (by rfl) | exact qad (by rfl)); rfl) | refine ctr ?_ | refine cfa ?_)
          refine forQ_next (Q := fun _ _ => True) [0] (X, i + 1, Mx) ⟨rfl, rfl, ⟨rfl, trivial⟩, ⟨rfl, rfl, rfl, trivial⟩⟩ ⟨hMx, by show i + 1 ≤ l.length; omega, hlt, hXl, hX, hXm, ?_⟩ (by show l.length + 1 - (i + 1) < l.length + 1 - i; omega)
          show bfs l (l.length + 1 - (i + 1)) (i + 1) (X.map (·.1)) = _
          rw [← hb, bfs_step hgx (by simpa using Nat.le_of_not_lt hov) (innK_lev hl0), kids_none hl0, List.append_nil]
        | false =>
          cases hlt0 : decide (X[i].1.n.level < 0) with
          | true =>
            have hnone : seatsL l = none := by rw [← hb]; exact bfs_fail hgx (innK_neg hlt0)
            repeat' (first | refine ksN ?_ (hu := hone) | refine VC_seq ?_ | refine VC_region ?_ | refine VL_nil ?_ | refine VC_ret ?_ | refine VC_block ?_ | refine VC_skip ?_ | refine kall ?_ | ((apply VL_q); (first | exact QS_indexRow i (by rfl) (by rfl) (by rfl) rfl hlt | exact QS_loadSq X (by rfl) (by rfl) hlt | exact qmv (by rfl) | exact qas (by rfl) | exact ql1 (by rfl) | exact qfa (by rfl) | exact qln (by rfl) | exact qlr (by rfl) | exact qpt (by rfl) | exact qcp (by rfl)); rfl) | refine kno ?_ | refine ctr ?_ | refine cfa ?_)
            exact .inr ⟨0, _, _, _, _, rfl, fun u M' hle hu => ⟨_, Res.two (by rfl) (ResV_tmp (by rfl) rfl) (ResV_tmp (by rfl) rfl), _, false, rfl, (fun h => by cases h), fun _ => hnone⟩⟩
          | false =>
            have cR := fun W (hW : Mx.le (Mem.of W)) => ref_RightK X[i].1.n.pv X[i].1.n.kv X[i].1.n.ps X[i].1.n.ks W (hx.ok.1.toSl hW) (hx.ok.2.1.toSl hW) (fun s hs => by have := hx.big.ps s hs; omega) (by have := hx.big.psn; omega)
            cases hrk : rightK X[i].1.n.ps X[i].1.n.ks with
            | false =>
              rw [hrk] at cR
              have hnone : seatsL l = none := by rw [← hb]; exact bfs_fail hgx (innK_rk hl0 hrk)
              repeat' (first | refine ksN ?_ (hu := hone) | refine VC_seq ?_ | refine VC_region ?_ | refine VL_nil ?_ | refine VC_ret ?_ | refine VC_block ?_ | refine VC_skip ?_ | refine kall ?_ | ((apply VL_q); (first | exact QS_indexRow i (by rfl) (by rfl) (by rfl) rfl hlt | exact QS_loadSq X (by rfl) (by rfl) hlt | exact QS_call (by rfl) cR | exact qmv (by rfl) | exact qas (by rfl) | exact ql1 (by rfl) | exact qfa (by rfl) | exact qno (by rfl) | exact qln (by rfl) | exact qlr (by rfl) | exact qpf (by rfl) | exact qcp (by rfl)); rfl) | refine kyes ?_ | refine ctr ?_ | refine cfa ?_)
              exact .inr ⟨0, _, _, _, _, rfl, fun u M' hle hu => ⟨_, Res.two (by rfl) (ResV_tmp (by rfl) rfl) (ResV_tmp (by rfl) rfl), _, false, rfl, (fun h => by cases h), fun _ => hnone⟩⟩
            | true =>
              rw [hrk] at cR
              repeat' (first | refine ksN ?_ (hu := hone) | refine VC_seq ?_ | refine VC_region ?_ | refine VL_nil ?_ | refine VC_block ?_ | refine VC_skip ?_ | refine kall ?_ | ((apply VL_q); (first | exact QS_indexRow i (by rfl) (by rfl) (by rfl) rfl hlt | exact QS_loadSq X (by rfl) (by rfl) hlt | exact QS_call (by rfl) cR | exact qmv (by rfl) | exact qas (by rfl) | exact ql1 (by rfl) | exact qfa (by rfl) | exact qno (by rfl) | exact qln (by rfl) | exact qlr (by rfl) | exact qpf (by rfl) | exact qcp (by rfl)); rfl) | refine kyes ?_ | refine ctr ?_ | refine cfa ?_)
              clear cR
              generalize X[i] = x at *
              obtain ⟨B, d, hkv, hd1, hd2, _⟩ := id hx.ok.2.1
              unfold maxLen at hd2
              have hks : SlM Mx 1 intCells (.slice B x.1.n.ks.length d) x.1.n.ks := by rw [← hkv]; exact hx.ok.2.1
              have hxc : sqCells x = [.int .i64 x.1.n.slot, .int .i64 x.1.n.level, x.1.n.pv, .slice B x.1.n.ks.length d, .string x.1.n.high, .bool x.1.n.top, .int .i64 x.1.n.right, .int .i64 x.1.n.seen, x.1.n.mv, x.1.n.rv, .string x.1.s.lo, .string x.1.s.hi, .bool x.1.s.opn, x.2] := by unfold sqCells; rw [hkv]
              have hlp : 0 < x.1.n.level := by
                have g1 : x.1.n.level ≠ 0 := by simpa using hl0
                have g2 : ¬ x.1.n.level < 0 := of_decide_eq_false hlt0
                omega
              have hlq : x.1.n.level ≤ 9223372036854775807 := hx.inn.level.2
              have hrl := rightK_ris hrk
              have hksn := hx.big.ksn
              refine VC_for (fun y : List (Sq × Value) × Mem => ⟨y.2, [.row 98 14 (X ++ y.1).length ((X ++ y.1).flatMap sqCells), .blk 98 [.int .i64 x.1.n.slot, .int .i64 x.1.n.level, x.1.n.pv, .slice B x.1.n.ks.length d, .string x.1.n.high, .bool x.1.n.top, .int .i64 x.1.n.right, .int .i64 x.1.n.seen, x.1.n.mv, x.1.n.rv, .string x.1.s.lo, .string x.1.s.hi, .bool x.1.s.opn, x.2]], [(0, .v (.slice A l.length c)), (8, .r 0), (9, .v (.int .i64 (i : Nat))), (10, .p 1 0), (11, .v (.int .i64 (y.1.length : Nat)))]⟩)
                (fun y => Mx.le y.2 ∧ y.1.length ≤ x.1.n.ks.length ∧ (∀ z ∈ y.1, SqOk y.2 z) ∧ (∀ z ∈ y.1, z.1.ms.length ≤ (i + 1) * 1000000) ∧ y.1.map (·.1) = (List.range y.1.length).map (kidK l x.1) ∧ allTo (okK l x.1) y.1.length = true)
                (fun y => x.1.n.ks.length - y.1.length) [0, 1] ([], Mx) ⟨rfl, rfl, ⟨by rw [List.append_nil]; rfl, by show some (Ob.blk _ (sqCells x)) = _; rw [hxc], trivial⟩, ⟨rfl, rfl, rfl, rfl, rfl, trivial⟩⟩ ⟨Mem.le_refl _, Nat.zero_le _, fun z hz => (by cases hz), fun z hz => (by cases hz), rfl, rfl⟩ ?_
              rintro ⟨K, My⟩ ⟨hMy, hKl, hK, hKm, hKe, hKa⟩
              dsimp only at hMy hKl hK hKm hKe hKa ⊢
              have hXK : (X ++ K).length = X.length + K.length := List.length_append
              rcases Nat.lt_or_ge K.length x.1.n.ks.length with hj | hj
              · have dj := dlt hj
                obtain ⟨bk, ok, rfl, hcK⟩ := (hks.mono hMy).get hj
                have hMm : M.le My := hMx.trans hMy
                have cK := fun W (hW : My.le (Mem.of W)) => cF x.1.n.ks[K.length] W (hMm.trans hW)
                have h2 := nd_one (lastN_ok hN.ok x.1.n.ks[K.length])
                cases hf : (findN l x.1.n.ks[K.length]).2 with
                | false =>
                  rw [hf] at cK
                  have hnone : seatsL l = none := by rw [← hb]; exact bfs_fail hgx (innK_kid hl0 hj (okK_no hj hf))
                  repeat' (first | refine ksN ?_ (hu := h2) | refine VC_seq ?_ | refine VC_region ?_ | refine VL_nil ?_ | refine VC_ret ?_ | refine VC_block ?_ | refine VC_skip ?_ | refine kall ?_ | ((apply VL_q); (first | exact QS_indexAddr (K.length) (by rfl) (by rfl) (by omega) (by omega) | exact QS_mload1 (by rfl) (hcK 0 _ (by rfl)) | exact QS_call (by rfl) cK | exact qmv (by rfl) | exact qas (by rfl) | exact ql1 (by rfl) | exact qfa (by rfl) | exact qno (by rfl) | exact qex (by rfl) | exact qln (by rfl) | exact qpt (by rfl) | exact qcp (by rfl)); rfl) | refine kno ?_ | refine ctr ?_)
                  exact .inr ⟨0, _, _, _, _, rfl, fun u M' hle hu => ⟨_, Res.two (by rfl) (ResV_tmp (by rfl) rfl) (ResV_tmp (by rfl) rfl), _, false, rfl, (fun h => by cases h), fun _ => hnone⟩⟩
                | true =>
                  rw [hf] at cK
                  cases hlv : ((findN l x.1.n.ks[K.length]).1.level != x.1.n.level - 1) with
                  | true =>
                    have hnone : seatsL l = none := by rw [← hb]; exact bfs_fail hgx (innK_kid hl0 hj (okK_lev hj hlv))
                    repeat' (first | refine ksN ?_ (hu := h2) | refine VC_seq ?_ | refine VC_region ?_ | refine VL_nil ?_ | refine VC_ret ?_ | refine VC_block ?_ | refine VC_skip ?_ | refine kall ?_ | ((apply VL_q); (first | exact QS_indexAddr (K.length) (by rfl) (by rfl) (by omega) (by omega) | exact QS_mload1 (by rfl) (hcK 0 _ (by rfl)) | exact QS_call (by rfl) cK | exact qmv (by rfl) | exact qas (by rfl) | exact ql1 (by rfl) | exact qfa (by rfl) | exact qno (by rfl) | exact qex (by rfl) | exact qln (by rfl) | exact qpf (by rfl) | exact qcp (by rfl) | exact qsu (by rfl)); rfl) | refine kyes ?_ | refine ctr ?_)
                    exact .inr ⟨0, _, _, _, _, rfl, fun u M' hle hu => ⟨_, Res.two (by rfl) (ResV_tmp (by rfl) rfl) (ResV_tmp (by rfl) rfl), _, false, rfl, (fun h => by cases h), fun _ => hnone⟩⟩
                  | false =>
                    have hok := okK_yes hj hf hlv
                    have hfn := find_fnd hf
                    have hjp : K.length ≤ x.1.n.ps.length := by omega
                    have cG : ∀ W, My.le (Mem.of W) → Calls Try.prog 99 #[x.1.n.pv, .int .i64 (K.length : Nat)] W fun e w' => e = .returned (.agg #[.string (rangeN x.1.n.ps K.length).lo, .string (rangeN x.1.n.ps K.length).hi, .bool (rangeN x.1.n.ps K.length).opn]) ∧ Below W.heap.size W w' := fun W hW => by
                      rw [← rangeS_n hjp]
                      exact ref_RangeS x.1.n.pv x.1.n.ps (K.length : Int) W ((hx.ok.1.mono hMy).toSl hW) (fun s hs => by have := hx.big.ps s hs; omega) (by have := hx.big.psn; omega)
                    have hrz := rangeS_size (ps := x.1.n.ps) (n := 1000000) hx.big.ps (K.length : Int)
                    rw [rangeS_n hjp] at hrz
                    have hsz := meet_size x.1.s (rangeN x.1.n.ps K.length) (n := 1000000) hx.lo hx.hi hrz.1 hrz.2
                    have cT : ∀ W, Calls Try.prog 98 #[.agg #[.string x.1.s.lo, .string x.1.s.hi, .bool x.1.s.opn], .agg #[.string (rangeN x.1.n.ps K.length).lo, .string (rangeN x.1.n.ps K.length).hi, .bool (rangeN x.1.n.ps K.length).opn]] W fun e w' => e = .returned (.agg #[.string (kidSpan x.1 K.length).lo, .string (kidSpan x.1 K.length).hi, .bool (kidSpan x.1 K.length).opn]) ∧ Below W.heap.size W w' := fun W => ref_Meet x.1.s (rangeN x.1.n.ps K.length) W (by unfold maxLen; have := hx.lo; omega) (by unfold maxLen; have := hx.hi; omega) (by unfold maxLen; omega) (by unfold maxLen; omega)
                    rw [show meet x.1.s (rangeN x.1.n.ps K.length) = kidSpan x.1 K.length from rfl] at hsz
                    have hkk : kidK l x.1 K.length = ⟨(findN l x.1.n.ks[K.length]).1, kidSpan x.1 K.length, mergeL (clipL x.1.n.ms (kidSpan x.1 K.length)) (clipL x.1.ms (kidSpan x.1 K.length))⟩ := by unfold kidK; rw [ksAt_eq hj]
                    rw [show lastN x.1.n.ks[K.length] l = (findN l x.1.n.ks[K.length]).1 from rfl] at h2
                    generalize (findN l x.1.n.ks[K.length]).1 = nk at *
                    generalize rangeN x.1.n.ps K.length = rg at *
                    generalize kidSpan x.1 K.length = sp at *
                    have c3 := fun W (hW : My.le (Mem.of W)) => ref_ClipB x.1.n.mv x.1.n.ms sp W ((hx.ok.2.2.1.mono hMy).toSl hW) hx.big.ms (by have := hx.big.msn; omega) hsz.1 hsz.2
                    have hml : x.1.ms.length ≤ 100000000000 := by
                      have : l.length * 1000000 ≤ 100000 * 1000000 := Nat.mul_le_mul_right _ hlen
                      omega
                    have c4 := fun W (hW : My.le (Mem.of W)) => ref_ClipB x.2 x.1.ms sp W ((hx.ms.mono hMy).toSl hW) hx.mz (by omega) hsz.1 hsz.2
                    have l3 := clipL_len x.1.n.ms sp
                    have l4 := clipL_len x.1.ms sp
                    have z3 := clip_sz hx.big.ms hsz.1 hsz.2
                    have z4 := clip_sz hx.mz hsz.1 hsz.2
                    have hmsn := hx.big.msn
                    generalize clipL x.1.n.ms sp = La at *
                    generalize clipL x.1.ms sp = Lb at *
                    repeat' (first | refine ksN ?_ (hu := h2) | refine VC_seq ?_ | refine VC_region ?_ | refine VL_nil ?_ | refine VC_block ?_ | refine VC_skip ?_ | refine kall ?_ | ((apply VL_q); (first | exact QS_indexAddr (K.length) (by rfl) (by rfl) (by omega) (by omega) | exact QS_mload1 (by rfl) (hcK 0 _ (by rfl)) | exact QS_call (by rfl) cK | exact qmv (by rfl) | exact qas (by rfl) | exact ql1 (by rfl) | exact qfa (by rfl) | exact qno (by rfl) | exact qex (by rfl) | exact qln (by rfl) | exact qpf (by rfl) | exact qcp (by rfl) | exact qsu (by rfl)); rfl) | refine kyes ?_ | refine ctr ?_ | refine cfa ?_)
                    refine VC_drawE [] [] [8, 9] (by decide +kernel) (by decide +kernel) (by rfl) ?_
                    repeat' (first | refine VQs_nil ?_ | refine VQs_e (by rfl) ?_ | refine VQs_q (by rfl) _ (by exact wno (by first | exact qlN (by rfl) | exact QS_call (by rfl) cG | exact QS_call (by rfl) (fun W _ => cT W) | exact qmv (by rfl) | exact ql1 (by rfl) | exact qfa (by rfl))) (by rfl) (by rfl) ?_ | refine VT_done ?_ | refine VT_step ?_ | exact VTs_nil | refine VTs_e (by rfl) _ _ (by exact fno (by first | exact EF_alloc | exact fstN (by rfl))) (by rfl) (by rfl) ?_ ?_)
                    refine VC_seq ?_
                    refine VC_drawG [] [4, 8, 9, 10, 11] (by decide +kernel) (by rfl) (by rfl) ?_
                    repeat' (first | refine VQm_nil ?_ | refine VQm_e (by rfl) ?_ | refine VQm_q (by rfl) _ (by exact wno (by first | exact ql1 (by rfl) | exact qlA (by rfl) | exact qfa (by rfl))) (by rfl) (by rfl) ?_ | refine VF_step ?_)
                    refine VFs_x _ _ _ _ (by rfl) (EX_callF (by rfl) c3) (by rfl) (fun ⟨⟨u1, M1⟩, hle1, hr1⟩ => ⟨hle1, by rfl, ?_⟩) VFs_nil
                    obtain ⟨A1, a1, rfl⟩ := hr1.sl
                    dsimp only
                    refine VF_step ?_
                    refine VFs_x _ _ _ _ (by rfl) (EX_callF (by rfl) (fun W hW => c4 W (hle1.trans hW))) (by rfl) (fun ⟨⟨u2, M2⟩, hle2, hr2⟩ => ⟨hle2, by rfl, ?_⟩) VFs_nil
                    obtain ⟨A2, a2, rfl⟩ := hr2.sl
                    dsimp only
                    refine VF_step ?_
                    refine VFs_x _ _ _ _ (by rfl) (EX_frz (e := 92) (k := 1) (n := 2) (cs := [.slice A1 La.length a1, .slice A2 Lb.length a2]) (by rfl) (elt (by rfl))) (by rfl) (fun ⟨⟨u3, M3⟩, hle3, hr3⟩ => ⟨hle3, by rfl, ?_⟩) VFs_nil
                    dsimp only at hle1 hr1 hle2 hr2 hle3 hr3 ⊢
                    have hS1 : SlM M3 6 msgCells (.slice A1 La.length a1) La := ((RowM.slM (k := 6) (cells := msgCells) (l := La) (fun _ _ => rfl) hr1).mono hle2).mono hle3
                    have hS2 : SlM M3 6 msgCells (.slice A2 Lb.length a2) Lb := (RowM.slM (k := 6) (cells := msgCells) (l := Lb) (fun _ _ => rfl) hr2).mono hle3
                    have hS3 : SlM M3 1 valL u3 [.slice A1 La.length a1, .slice A2 Lb.length a2] := RowM.slM (k := 1) (cells := valL) (fun _ _ => rfl) hr3
                    refine VF_step ?_
                    refine VFs_x _ _ _ _ (by rfl) (EX_callF (by rfl) (fun W hW => ref_Lists u3 _ _ La Lb W M3 hW hS3 hS1 hS2 (by omega) (by omega))) (by rfl) (fun ⟨⟨u4, M4⟩, hle4, hr4⟩ => ⟨hle4, by rfl, ?_⟩) VFs_nil
                    obtain ⟨A4, a4, rfl⟩ := hr4.sl
                    dsimp only at hle4 hr4 ⊢
                    have hS4 : SlM M4 6 msgCells (.slice A4 (mergeL La Lb).length a4) (mergeL La Lb) := RowM.slM (k := 6) (cells := msgCells) (fun _ _ => rfl) hr4
                    have hlm := mergeL_len La Lb
                    repeat' (first | refine VF_done ?_ | refine VF_step ?_ | exact VFs_nil | refine VFs_e (by rfl) _ _ (by exact fno (by exact fq (by exact qas (by rfl)))) (by rfl) (by rfl) ?_ ?_)
                    have hle : My.le M4 := ((hle1.trans hle2).trans hle3).trans hle4
                    have hnew : SqOk M4 (⟨nk, sp, mergeL La Lb⟩, .slice A4 (mergeL La Lb).length a4) := ⟨(hN.ok _ hfn.1).mono (hMm.trans hle), hN.big _ hfn.1, hN.inn _ hfn.1, hsz.1, hsz.2, hS4, merge_sz z3 z4⟩
                    have hone2 := sq_one hnew
                    repeat' (first | refine kap ?_ (h1 := hone2) | refine VC_region ?_ | refine VL_nil ?_ | refine kl1 ?_ | ((apply VL_q); (first | exact qlN (by rfl) | exact qbk (by rfl) | exact qmv (by rfl) | exact qas (by rfl) | exact qad (by rfl)); rfl))
                    have hrow : ∀ z : Sq × Value, some (Ob.row 98 14 ((X ++ K).length + 1) ((X ++ K).flatMap sqCells ++ sqCells z)) = some (Ob.row 98 14 (X ++ (K ++ [z])).length ((X ++ (K ++ [z])).flatMap sqCells)) := fun z => by
                      simp only [List.length_append, List.length_cons, List.length_nil, List.flatMap_append, List.flatMap_cons, List.flatMap_nil, List.append_nil, List.append_assoc]
                      rfl
                    have hl1 : ∀ z : Sq × Value, (K ++ [z]).length = K.length + 1 := fun z => by rw [List.length_append]; rfl
                    refine forQ_next (Q := fun _ _ => True) [6, 1] (K ++ [(⟨nk, sp, mergeL La Lb⟩, .slice A4 (mergeL La Lb).length a4)], M4) ⟨rfl, rfl, ⟨?_, rfl, trivial⟩, ⟨rfl, rfl, rfl, rfl, ?_, trivial⟩⟩ ⟨hMy.trans hle, ?_, fun z hz => ?_, fun z hz => ?_, ?_, ?_⟩ ?_
                    · exact hrow _
                    · show _ = some (SV.v (.int .i64 ((K ++ [_]).length : Nat)))
                      rw [hl1]; rfl
                    · show (K ++ [_]).length ≤ _
                      rw [List.length_append]; exact hj
                    · rcases List.mem_append.1 hz with hz | hz
                      · exact (hK z hz).mono hle
                      · rw [List.mem_singleton.1 hz]; exact hnew
                    · rcases List.mem_append.1 hz with hz | hz
                      · exact hKm z hz
                      · rw [List.mem_singleton.1 hz]
                        show (mergeL La Lb).length ≤ _
                        rw [hlm, Nat.add_mul]; omega
                    · show (K ++ [_]).map _ = (List.range (K ++ [_]).length).map _
                      rw [List.length_append, List.map_append, hKe]
                      show _ = (List.range (K.length + 1)).map _
                      rw [List.range_succ, List.map_append]
                      show _ = _ ++ [kidK l x.1 K.length]
                      rw [hkk]; rfl
                    · show allTo _ (K ++ [_]).length = true
                      rw [List.length_append]
                      show allTo _ (K.length + 1) = true
                      rw [allTo_succ, hKa, hok]; rfl
                    · show x.1.n.ks.length - (K ++ [_]).length < x.1.n.ks.length - K.length
                      rw [List.length_append]
                      show x.1.n.ks.length - (K.length + 1) < _
                      omega
              · have dj := dge hj
                have hKj : K.length = x.1.n.ks.length := by omega
                rw [hKj] at hKe hKa
                have hkk : kidsL l x.1 = K.map (·.1) := by rw [kids_all hl0, hKe]
                repeat' (first | refine VC_seq ?_ | refine VC_region ?_ | refine VL_nil ?_ | refine VC_exit ?_ | ((apply VL_q); (first | exact qmv (by rfl) | exact qas (by rfl) | exact ql1 (by rfl) | exact qfa (by rfl) | exact qln (by rfl) | exact qcp (by rfl) | exact qad (by rfl)); rfl) | refine cfa ?_)
                refine forQ_next (Q := fun _ _ => True) [0] (X ++ K, i + 1, My) ⟨rfl, rfl, ⟨rfl, trivial⟩, ⟨rfl, rfl, rfl, trivial⟩⟩ ⟨hMx.trans hMy, by show i + 1 ≤ l.length; omega, by show i + 1 ≤ (X ++ K).length; omega, by show (X ++ K).length ≤ _; omega, fun y hy => ?_, fun k y hy => ?_, ?_⟩ (by show l.length + 1 - (i + 1) < l.length + 1 - i; omega)
                · rcases List.mem_append.1 hy with hy | hy
                  · exact (hX y hy).mono hMy
                  · exact hK y hy
                · rcases Nat.lt_or_ge k X.length with hk | hk
                  · rw [List.getElem?_append_left hk] at hy
                    exact hXm k y hy
                  · rw [List.getElem?_append_right hk] at hy
                    have := hKm y (List.mem_of_getElem? hy)
                    have h3 : (i + 1) * 1000000 ≤ k * 1000000 := Nat.mul_le_mul_right _ (by omega)
                    have h4 : (i + 1) * 1000000 ≤ l.length * 1000000 := Nat.mul_le_mul_right _ (by omega)
                    exact ⟨Nat.le_trans this h3, Nat.le_trans this h4⟩
                · show bfs l (l.length + 1 - (i + 1)) (i + 1) ((X ++ K).map (·.1)) = _
                  rw [← hb, bfs_step hgx (by simpa using Nat.le_of_not_lt hov) (innK_all hlt0 hrk hKa), hkk, List.map_append]
    · have hd := dge hge
      have hend : seatsL l = some (X.map (·.1)) := by rw [← hb]; exact bfs_end (List.getElem?_eq_none (by simpa using hge)) hil
      repeat' (first | refine VC_seq ?_ | refine VC_region ?_ | refine VL_nil ?_ | refine VC_ret ?_ | refine VC_exit ?_ | ((apply VL_q); (first | exact qmv (by rfl) | exact qas (by rfl) | exact qlr (by rfl) | exact qcp (by rfl)); rfl) | refine cfa ?_)
      exact .inr ⟨0, _, _, _, _, rfl, fun u M' hle hu => ⟨_, Res.two (by rfl) (ResV_tmp (by rfl) rfl) (ResV_tmp (by rfl) rfl), _, true, rfl, fun _ => ⟨X, RowM.slM (fun _ _ => rfl) hu, hend, fun x hx => (hX x hx).mono hle⟩, fun h => (by cases h)⟩⟩
end Go.Proofs.Ytclbmfepdlffnaa
