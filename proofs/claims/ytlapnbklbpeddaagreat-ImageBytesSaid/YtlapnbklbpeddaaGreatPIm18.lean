/- The document's image of a node, and of a tree. -/
import Derived.Test.YtlapnbklbpeddaaGreatPIm13
import Derived.Test.YtlapnbklbpeddaaGreatPIm16
namespace Go.Proofs.YtlapnbklbpeddaaGreat
open Go Go.RowKit
attribute [local irreducible] Calls
set_option linter.unusedVariables false
set_option maxRecDepth 20000
set_option linter.unusedSimpArgs false
set_option maxHeartbeats 4000000
section
variable {P : Program} {w : World} {M0 : Mem} {N : Nat} {dst : Option Tmp} {ty : TypeId} {pos : String} {aft : Array Edge} {g : Option (Nat × Bool)} {s : St}
theorem qsy {t t2 : TypeId} {x y : Operand} {a b : ByteArray} (hx : s.env.op x = some (.v (.string a))) (hy : s.env.op y = some (.v (.string b)) := by rfl) (h : (a ++ b).size ≤ maxLen := by first | assumption | (simp only [size_app, size_textR, numB_size, flgB_size]; unfold maxLen; omega)) : QS P w M0 N ⟨dst, .binOp .add t x y t2, ty, pos, aft, g⟩ s (.v (.string (a ++ b))) := QS_bin hx hy (B_sadd h)
end
theorem cat_next {α : Type} (f : α → ByteArray) {l : List α} {k : Nat} (h : k < l.length) (s : ByteArray) : s ++ catB f (l.take k) ++ f l[k] = s ++ catB f (l.take (k + 1)) := by rw [catB_step f h, ba_assoc]
theorem cat_zero {α : Type} (f : α → ByteArray) (l : List α) (s : ByteArray) : s ++ catB f (l.take 0) = s := ba_nil s
theorem cat_sz {α : Type} (f : α → ByteArray) (l : List α) (k : Nat) (s : ByteArray) {n m : Nat} (hs : s.size ≤ n) (hc : (catB f l).size ≤ m) : (s ++ catB f (l.take k)).size ≤ n + m := by
  have := catB_take_le f l k
  rw [size_app]; omega
theorem ref_NodeB (n : Nd) (w : World) (hn : n.Ok (Mem.of w)) (hf : NdFit n) : Calls Tryz.prog 33 #[.agg #[.int .i64 n.slot, .int .i64 n.level, n.pv, n.kv, .string n.high, .bool n.top, .int .i64 n.right, .int .i64 n.seen, n.mv, n.rv]] w fun e w' => e = .returned (.string (nodeB n)) ∧ Below w.heap.size w w' := by
  obtain ⟨f1, f2, f3, f4, f5, f6, f7, f8, f9, f10, f11, f12⟩ := hf
  obtain ⟨hp, hk, hm, hr⟩ := hn
  obtain ⟨slot, level, pv, ps, kv, ks, high, top, right, seen, mv, ms, rv, rs⟩ := n
  dsimp only at *
  have b1 := catB_le textR (n := 17) ps (fun s hs => by have := f5 s hs; rw [size_textR]; omega)
  have b2 := catB_le numB (n := 8) ks (fun s hs => by rw [numB_size]; omega)
  have b3 := catB_le msgB (n := 68) ms (fun m hm => msgB_le (f9 m hm))
  have b4 := catB_le pairB (n := 34) rs (fun m hm => pairB_le (f11 m hm))
  obtain ⟨A1, c1, rfl, hc1, _⟩ := id hp
  obtain ⟨A2, c2, rfl, hc2, _⟩ := id hk
  obtain ⟨A3, c3, rfl, hc3, _⟩ := id hm
  obtain ⟨A4, c4, rfl, hc4, _⟩ := id hr
  have n1 := fun W => ref_Num level W f1.1 f1.2
  have n2 := fun W => ref_Num seen W f2.1 f2.2
  have n3 := fun W => ref_Num (right + 1) W (by omega) (by omega)
  have n4 := fun W => ref_Flag top W
  have n5 := fun W => ref_Text high W (by omega)
  have n6 := fun W => ref_Num (ps.length : Int) W (by omega) (by omega)
  have n7 := fun W => ref_Num (ks.length : Int) W (by omega) (by omega)
  have n8 := fun W => ref_Num (ms.length : Int) W (by omega) (by omega)
  have n9 := fun W => ref_Num (rs.length : Int) W (by omega) (by omega)
  generalize hnd : (⟨slot, level, .slice A1 ps.length c1, ps, .slice A2 ks.length c2, ks, high, top, right, seen, .slice A3 ms.length c3, ms, .slice A4 rs.length c4, rs⟩ : Nd) = n
  have hhead : numB level ++ numB seen ++ numB (right + 1) ++ flgB top ++ textR high ++ numB (ps.length : Int) = headB n := by rw [← hnd]; rfl
  have hh : (headB n).size ≤ 60 := by rw [← hhead]; simp only [size_app, size_textR, numB_size, flgB_size]; omega
  have hnode : headB n ++ catB textR ps ++ numB (ks.length : Int) ++ catB numB ks ++ numB (ms.length : Int) ++ catB msgB ms ++ numB (rs.length : Int) ++ catB pairB rs = nodeB n := by rw [← hnd]; rfl
  refine V_flat (args := [.agg #[.int .i64 slot, .int .i64 level, .slice A1 ps.length c1, .slice A2 ks.length c2, .string high, .bool top, .int .i64 right, .int .i64 seen, .slice A3 ms.length c3, .slice A4 rs.length c4]]) (M := Mem.of w) Tryz.func33 rfl Tryz.ntmps33 (by rfl) (Mem.le_refl _) ?_
  repeat' (first | refine VC_seq ?_ | refine VC_region ?_ | refine VL_nil ?_ | refine VC_block ?_ | refine kbox ?_ | ((first | apply VL_q | apply VG_q); (first | exact QS_call (by rfl) (fun W _ => n1 W) | exact QS_call (by rfl) (fun W _ => n2 W) | exact QS_call (by rfl) (fun W _ => n3 W) | exact QS_call (by rfl) (fun W _ => n4 W) | exact QS_call (by rfl) (fun W _ => n5 W) | exact QS_call (by rfl) (fun W _ => n6 W) | exact qsy (by rfl) | exact qas (by rfl) | exact ql1 (by rfl) | exact qfa (by rfl) | exact qln (by rfl) | exact qad (by rfl)); rfl) | refine VG_nil ?_ | refine dQ ?_)
  refine VC_for (fun k : Nat => ⟨Mem.of w, [.blk 35 [.int .i64 slot, .int .i64 level, .slice A1 ps.length c1, .slice A2 ks.length c2, .string high, .bool top, .int .i64 right, .int .i64 seen, .slice A3 ms.length c3, .slice A4 rs.length c4]], [(1, .p 0 0), (3, .v (.string (headB n ++ catB textR (ps.take k)))), (4, .v (.int .i64 k))]⟩) (fun k => k ≤ ps.length) (fun k => ps.length - k) [0] 0 ⟨rfl, rfl, ⟨rfl, trivial⟩, ⟨rfl, by rw [cat_zero, ← hhead]; rfl, rfl, trivial⟩⟩ (by omega) ?_
  intro k hk1
  have hsz := cat_sz textR ps k (headB n) hh b1
  rcases Nat.lt_or_ge k ps.length with hlt | hge
  · have hd := dlt hlt
    obtain ⟨bb, off, rfl, hcA⟩ := hp.get hlt
    have hx := f5 _ (List.getElem_mem hlt)
    have cT := fun W => ref_Text ps[k] W (by omega)
    have hnx := cat_next textR hlt (headB n)
    have hz := size_textR ps[k]
    generalize headB n ++ catB textR (ps.take k) = sb at *
    generalize textR ps[k] = tb at *
    repeat' (first | refine VC_seq ?_ | refine VC_region ?_ | refine VL_nil ?_ | refine VC_block ?_ | refine VC_skip ?_ | ((apply VL_q); (first | exact QS_indexAddr (k) (by rfl) (by rfl) (by omega) (by omega) | exact QS_mload1 (by rfl) (hcA 0 _ (by rfl)) | exact QS_call (by rfl) (fun W _ => cT W) | exact qsy (by rfl) (by rfl) (by rw [size_app]; unfold maxLen; omega) | exact qmv (by rfl) | exact qas (by rfl) | exact ql1 (by rfl) | exact qfa (by rfl) | exact qln (by rfl) | exact qcp (by rfl) | exact qad (by rfl)); rfl) | refine ctr ?_)
    exact forQ_next (Q := fun _ _ => True) [0] (k + 1) ⟨rfl, rfl, ⟨rfl, trivial⟩, ⟨rfl, by rw [← hnx]; rfl, rfl, trivial⟩⟩ (by omega) (by omega)
  have hd := dge hge
  obtain rfl : k = ps.length := by omega
  rw [List.take_length] at hsz ⊢
  generalize hs1 : headB n ++ catB textR ps = s1 at *
  have q1 : (s1 ++ numB (ks.length : Int)).size ≤ maxLen := by rw [size_app, numB_size]; unfold maxLen; omega
  repeat' (first | refine VC_seq ?_ | refine VC_region ?_ | refine VL_nil ?_ | refine VC_exit ?_ | refine VC_block ?_ | ((apply VL_q); (first | exact QS_call (by rfl) (fun W _ => n7 W) | exact qsy (by rfl) | exact qmv (by rfl) | exact qas (by rfl) | exact ql1 (by rfl) | exact qfa (by rfl) | exact qln (by rfl) | exact qcp (by rfl)); rfl) | refine cfa ?_)
  have hs1z : (s1 ++ numB (ks.length : Int)).size ≤ 2000 := by rw [size_app, numB_size]; omega
  generalize hs2 : s1 ++ numB (ks.length : Int) = s2 at *
  refine VC_for (fun k : Nat => ⟨Mem.of w, [.blk 35 [.int .i64 slot, .int .i64 level, .slice A1 ps.length c1, .slice A2 ks.length c2, .string high, .bool top, .int .i64 right, .int .i64 seen, .slice A3 ms.length c3, .slice A4 rs.length c4]], [(1, .p 0 0), (3, .v (.string (s2 ++ catB numB (ks.take k)))), (5, .v (.int .i64 k))]⟩) (fun k => k ≤ ks.length) (fun k => ks.length - k) [0] 0 ⟨rfl, rfl, ⟨rfl, trivial⟩, ⟨rfl, by rw [cat_zero]; rfl, rfl, trivial⟩⟩ (by omega) ?_
  intro k hk2
  have hsz2 := cat_sz numB ks k s2 hs1z b2
  rcases Nat.lt_or_ge k ks.length with hlt | hge2
  · have hd := dlt hlt
    obtain ⟨bb, off, rfl, hcA⟩ := hk.get hlt
    have hx := f7 _ (List.getElem_mem hlt)
    have cT := fun W => ref_Num ks[k] W hx.1 hx.2
    have hnx := cat_next numB hlt s2
    have hz := numB_size ks[k]
    generalize s2 ++ catB numB (ks.take k) = sb at *
    generalize numB ks[k] = tb at *
    repeat' (first | refine VC_seq ?_ | refine VC_region ?_ | refine VL_nil ?_ | refine VC_block ?_ | refine VC_skip ?_ | ((apply VL_q); (first | exact QS_indexAddr (k) (by rfl) (by rfl) (by omega) (by omega) | exact QS_mload1 (by rfl) (hcA 0 _ (by rfl)) | exact QS_call (by rfl) (fun W _ => cT W) | exact qsy (by rfl) (by rfl) (by rw [size_app]; unfold maxLen; omega) | exact qmv (by rfl) | exact qas (by rfl) | exact ql1 (by rfl) | exact qfa (by rfl) | exact qln (by rfl) | exact qcp (by rfl) | exact qad (by rfl)); rfl) | refine ctr ?_)
    exact forQ_next (Q := fun _ _ => True) [0] (k + 1) ⟨rfl, rfl, ⟨rfl, trivial⟩, ⟨rfl, by rw [← hnx]; rfl, rfl, trivial⟩⟩ (by omega) (by omega)
  have hd2 := dge hge2
  obtain rfl : k = ks.length := by omega
  rw [List.take_length] at hsz2 ⊢
  generalize hs3 : s2 ++ catB numB ks = s3 at *
  have q2 : (s3 ++ numB (ms.length : Int)).size ≤ maxLen := by rw [size_app, numB_size]; unfold maxLen; omega
  repeat' (first | refine VC_seq ?_ | refine VC_region ?_ | refine VL_nil ?_ | refine VC_exit ?_ | refine VC_block ?_ | ((apply VL_q); (first | exact QS_call (by rfl) (fun W _ => n8 W) | exact qsy (by rfl) | exact qmv (by rfl) | exact qas (by rfl) | exact ql1 (by rfl) | exact qfa (by rfl) | exact qln (by rfl) | exact qcp (by rfl)); rfl) | refine cfa ?_)
  have hs3z : (s3 ++ numB (ms.length : Int)).size ≤ 4000 := by rw [size_app, numB_size]; omega
  generalize hs4 : s3 ++ numB (ms.length : Int) = s4 at *
  refine VC_for (fun k : Nat => ⟨Mem.of w, [.blk 35 [.int .i64 slot, .int .i64 level, .slice A1 ps.length c1, .slice A2 ks.length c2, .string high, .bool top, .int .i64 right, .int .i64 seen, .slice A3 ms.length c3, .slice A4 rs.length c4]], [(1, .p 0 0), (3, .v (.string (s4 ++ catB msgB (ms.take k)))), (6, .v (.int .i64 k))]⟩) (fun k => k ≤ ms.length) (fun k => ms.length - k) [0] 0 ⟨rfl, rfl, ⟨rfl, trivial⟩, ⟨rfl, by rw [cat_zero]; rfl, rfl, trivial⟩⟩ (by omega) ?_
  intro k hk3
  have hsz3 := cat_sz msgB ms k s4 hs3z b3
  rcases Nat.lt_or_ge k ms.length with hlt | hge3
  · have hd := dlt hlt
    obtain ⟨bb, off, rfl, hcA⟩ := hm.get hlt
    obtain ⟨m1, m2, m3, m4, m5⟩ := f9 _ (List.getElem_mem hlt)
    have t1 := fun W => ref_Num ms[k].stamp W m1.1 m1.2
    have t2 := fun W => ref_Num ms[k].kind W m2.1 m2.2
    have t3 := fun W => ref_Text ms[k].key W (by omega)
    have t4 := fun W => ref_Flag ms[k].opn W
    have t5 := fun W => ref_Text ms[k].hi W (by omega)
    have t6 := fun W => ref_Text ms[k].val W (by omega)
    have hnx := cat_next msgB hlt s4
    have hmx : msgB ms[k] = numB ms[k].stamp ++ numB ms[k].kind ++ textR ms[k].key ++ flgB ms[k].opn ++ textR ms[k].hi ++ textR ms[k].val := rfl
    rw [hmx] at hnx
    generalize s4 ++ catB msgB (ms.take k) = sb at *
    repeat' (first | refine VC_seq ?_ | refine VC_region ?_ | refine VL_nil ?_ | refine VC_block ?_ | refine VC_skip ?_ | refine kall ?_ | refine ksN ?_ | ((first | apply VL_q | apply VG_q); (first | exact QS_indexAddr (k) (by rfl) (by rfl) (by omega) (by omega) | exact QS_mloadN _ (by rfl) hcA _ (by rfl) | exact QS_call (by rfl) (fun W _ => t1 W) | exact QS_call (by rfl) (fun W _ => t2 W) | exact QS_call (by rfl) (fun W _ => t3 W) | exact QS_call (by rfl) (fun W _ => t4 W) | exact QS_call (by rfl) (fun W _ => t5 W) | exact QS_call (by rfl) (fun W _ => t6 W) | exact qsy (by rfl) | exact qmv (by rfl) | exact qas (by rfl) | exact ql1 (by rfl) | exact qfa (by rfl) | exact qln (by rfl) | exact qcp (by rfl) | exact qad (by rfl)); rfl) | refine VG_nil ?_ | refine dQ ?_ | refine ctr ?_)
    exact forQ_next (Q := fun _ _ => True) [0] (k + 1) ⟨rfl, rfl, ⟨rfl, trivial⟩, ⟨rfl, by rw [← hnx]; rfl, rfl, trivial⟩⟩ (by omega) (by omega)
  have hd3 := dge hge3
  obtain rfl : k = ms.length := by omega
  rw [List.take_length] at hsz3 ⊢
  generalize hs5 : s4 ++ catB msgB ms = s5 at *
  have q3 : (s5 ++ numB (rs.length : Int)).size ≤ maxLen := by rw [size_app, numB_size]; unfold maxLen; omega
  repeat' (first | refine VC_seq ?_ | refine VC_region ?_ | refine VL_nil ?_ | refine VC_exit ?_ | refine VC_block ?_ | ((apply VL_q); (first | exact QS_call (by rfl) (fun W _ => n9 W) | exact qsy (by rfl) | exact qmv (by rfl) | exact qas (by rfl) | exact ql1 (by rfl) | exact qfa (by rfl) | exact qln (by rfl) | exact qcp (by rfl)); rfl) | refine cfa ?_)
  have hs5z : (s5 ++ numB (rs.length : Int)).size ≤ 80000 := by rw [size_app, numB_size]; omega
  generalize hs6 : s5 ++ numB (rs.length : Int) = s6 at *
  refine VC_for (fun k : Nat => ⟨Mem.of w, [.blk 35 [.int .i64 slot, .int .i64 level, .slice A1 ps.length c1, .slice A2 ks.length c2, .string high, .bool top, .int .i64 right, .int .i64 seen, .slice A3 ms.length c3, .slice A4 rs.length c4]], [(1, .p 0 0), (3, .v (.string (s6 ++ catB pairB (rs.take k)))), (8, .v (.int .i64 k))]⟩) (fun k => k ≤ rs.length) (fun k => rs.length - k) [0] 0 ⟨rfl, rfl, ⟨rfl, trivial⟩, ⟨rfl, by rw [cat_zero]; rfl, rfl, trivial⟩⟩ (by omega) ?_
  intro k hk4
  have hsz4 := cat_sz pairB rs k s6 hs5z b4
  rcases Nat.lt_or_ge k rs.length with hlt | hge4
  · have hd := dlt hlt
    obtain ⟨bb, off, rfl, hcA⟩ := hr.get hlt
    obtain ⟨m1, m2⟩ := f11 _ (List.getElem_mem hlt)
    have t1 := fun W => ref_Text rs[k].key W (by omega)
    have t2 := fun W => ref_Text rs[k].val W (by omega)
    have hnx := cat_next pairB hlt s6
    have hc0 : (Mem.of w).cell bb (off + k * 2 + 0) = some (.string rs[k].key) := hcA 0 _ rfl
    have hc1 : (Mem.of w).cell bb (off + k * 2 + 1) = some (.string rs[k].val) := hcA 1 _ rfl
    have hmx : pairB rs[k] = textR rs[k].key ++ textR rs[k].val := rfl
    rw [hmx] at hnx
    generalize s6 ++ catB pairB (rs.take k) = sb at *
    repeat' (first | refine VC_seq ?_ | refine VC_region ?_ | refine VL_nil ?_ | refine VC_block ?_ | refine VC_skip ?_ | ((first | apply VL_q | apply VG_q); (first | exact QS_indexAddr (k) (by rfl) (by rfl) (by omega) (by omega) | exact QS_mload1 (by rfl) hc0 | exact QS_mload1 (by rfl) hc1 | exact QS_call (by rfl) (fun W _ => t1 W) | exact QS_call (by rfl) (fun W _ => t2 W) | exact qsy (by rfl) | exact qmv (by rfl) | exact qas (by rfl) | exact ql1 (by rfl) | exact qfa (by rfl) | exact qmf (by rfl) | exact qln (by rfl) | exact qcp (by rfl) | exact qad (by rfl)); rfl) | refine VG_nil ?_ | refine dQ ?_ | refine ctr ?_)
    exact forQ_next (Q := fun _ _ => True) [0] (k + 1) ⟨rfl, rfl, ⟨rfl, trivial⟩, ⟨rfl, by rw [← hnx]; rfl, rfl, trivial⟩⟩ (by omega) (by omega)
  have hd4 := dge hge4
  obtain rfl : k = rs.length := by omega
  rw [List.take_length]
  repeat' (first | refine VC_seq ?_ | refine VC_region ?_ | refine VL_nil ?_ | refine VC_ret ?_ | refine VC_exit ?_ | ((apply VL_q); (first | exact qmv (by rfl) | exact qas (by rfl) | exact ql1 (by rfl) | exact qfa (by rfl) | exact qln (by rfl) | exact qcp (by rfl)); rfl) | refine cfa ?_)
  show Res _ _ _ _
  refine Res.one (by rfl) (ResV_tmp (by rfl) ?_)
  rw [← hnode, ← hs6, ← hs5, ← hs4, ← hs3, ← hs2, ← hs1]
theorem ref_ImageB (c : Cfg) (v : Value) (l : List Nd) (w : World) (M : Mem) (hMw : M.le (Mem.of w)) (hl : SlM M 10 ndCells v l) (hok : ∀ a ∈ l, a.Ok M) (hc : okC c = true) (hn : l.length ≤ 4096) (hf : ∀ a ∈ l, NdFit a) :
    Calls Tryz.prog 12 #[.agg #[.int .i64 c.fanout, .int .i64 c.leaf, .int .i64 c.budget, .int .i64 c.slots, .int .i64 c.restarts], v] w fun e w' => e = .returned (.string (imgB c l)) ∧ Below w.heap.size w w' := by
  obtain ⟨A, ca, rfl, hc1, hc2, _⟩ := id hl
  have hb := okC_bounds hc
  have n1 := fun W => ref_Num c.fanout W (by omega) (by omega)
  have n2 := fun W => ref_Num c.leaf W (by omega) (by omega)
  have n3 := fun W => ref_Num c.budget W (by omega) (by omega)
  have n4 := fun W => ref_Num c.slots W (by omega) (by omega)
  have n5 := fun W => ref_Num c.restarts W (by omega) (by omega)
  have n6 := fun W => ref_Num (l.length : Int) W (by omega) (by omega)
  have a1 := catB_le nodeB (n := 80000) l (fun a ha => nodeB_le (hf a ha))
  have hmk : markB.size = 4 := rfl
  have hmk2 : (⟨#[80, 67, 76, 49]⟩ : ByteArray).size = 4 := rfl
  have hh : (markB ++ cfgB c l.length).size ≤ 60 := by unfold cfgB; simp only [size_app, numB_size]; omega
  have hi : imgB c l = markB ++ cfgB c l.length ++ catB nodeB l := rfl
  have hhead : markB ++ numB c.fanout ++ numB c.leaf ++ numB c.budget ++ numB c.slots ++ numB c.restarts ++ numB (l.length : Int) = markB ++ cfgB c l.length := by unfold cfgB; simp only [ba_assoc]
  rw [hi]
  generalize markB ++ cfgB c l.length = s0 at *
  refine V_flat (args := [.agg #[.int .i64 c.fanout, .int .i64 c.leaf, .int .i64 c.budget, .int .i64 c.slots, .int .i64 c.restarts], .slice A l.length ca]) (M := M) Tryz.func12 rfl Tryz.ntmps12 (by rfl) (hMw) ?_
  repeat' (first | refine VC_seq ?_ | refine VC_region ?_ | refine VL_nil ?_ | refine VC_block ?_ | refine kbox ?_ | ((first | apply VL_q | apply VG_q); (first | exact QS_call (by rfl) (fun W _ => n1 W) | exact QS_call (by rfl) (fun W _ => n2 W) | exact QS_call (by rfl) (fun W _ => n3 W) | exact QS_call (by rfl) (fun W _ => n4 W) | exact QS_call (by rfl) (fun W _ => n5 W) | exact QS_call (by rfl) (fun W _ => n6 W) | exact qsy (by rfl) | exact qmv (by rfl) | exact qas (by rfl) | exact ql1 (by rfl) | exact qfa (by rfl) | exact qln (by rfl)); rfl) | refine VG_nil ?_ | refine dQ ?_)
  refine VC_for (fun k : Nat => ⟨M, [], [(1, .v (.slice A l.length ca)), (5, .v (.string (s0 ++ catB nodeB (l.take k)))), (6, .v (.int .i64 k))]⟩) (fun k => k ≤ l.length) (fun k => l.length - k) [] 0 ⟨rfl, rfl, trivial, ⟨rfl, by rw [cat_zero, ← hhead]; rfl, rfl, trivial⟩⟩ (by omega) ?_
  intro k hk1
  have hsz := cat_sz nodeB l k s0 hh a1
  rcases Nat.lt_or_ge k l.length with hlt | hge
  · have hd := dlt hlt
    obtain ⟨bb, off, rfl, hcA⟩ := hl.get hlt
    have hmem := List.getElem_mem hlt
    have cT := fun W (hW : M.le (Mem.of W)) => ref_NodeB l[k] W ((hok _ hmem).mono hW) (hf _ hmem)
    have hnx := cat_next nodeB hlt s0
    have hz := nodeB_le (hf _ hmem)
    generalize s0 ++ catB nodeB (l.take k) = sb at *
    generalize nodeB l[k] = tb at *
    repeat' (first | refine VC_seq ?_ | refine VC_region ?_ | refine VL_nil ?_ | refine VC_block ?_ | refine VC_skip ?_ | ((apply VL_q); (first | exact QS_indexAddr (k) (by rfl) (by rfl) (by omega) (by omega) | exact QS_mloadN _ (by rfl) hcA _ (by rfl) | exact QS_call (by rfl) cT | exact qsy (by rfl) (by rfl) (by rw [size_app]; unfold maxLen; omega) | exact qmv (by rfl) | exact qas (by rfl) | exact qln (by rfl) | exact qcp (by rfl) | exact qad (by rfl)); rfl) | refine ctr ?_)
    exact forQ_next (Q := fun _ _ => True) [] (k + 1) ⟨rfl, rfl, trivial, ⟨rfl, by rw [← hnx]; rfl, rfl, trivial⟩⟩ (by omega) (by omega)
  have hd := dge hge
  obtain rfl : k = l.length := by omega
  rw [List.take_length]
  repeat' (first | refine VC_seq ?_ | refine VC_region ?_ | refine VL_nil ?_ | refine VC_ret ?_ | refine VC_exit ?_ | ((apply VL_q); (first | exact qmv (by rfl) | exact qas (by rfl) | exact qln (by rfl) | exact qcp (by rfl)); rfl) | refine cfa ?_)
  show Res _ _ _ _
  refine Res.one (by rfl) (ResV_tmp (by rfl) ?_)
  rfl
end Go.Proofs.YtlapnbklbpeddaaGreat
