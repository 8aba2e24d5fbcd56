/- The document's Tree: a tree that is looked at. -/
import Derived.Test.YtlapnbklbpeddaaPSpA
import Derived.Test.YtlapnbklbpeddaaPCf
namespace Go.Proofs.Ytlapnbklbpeddaa
open Go Go.RowKit
attribute [local irreducible] Calls
set_option linter.unusedVariables false
set_option maxRecDepth 20000
set_option linter.unusedSimpArgs false
set_option maxHeartbeats 4000000
def atB (l : List Nd) (j : Nat) : Bool := match l[j]? with
  | some n => (n.slot == (j : Int)) && !decide (1099511627776 < n.seen)
  | none => true
theorem atB_eq {l : List Nd} {j : Nat} (h : j < l.length) : atB l j = ((l[j].slot == (j : Int)) && !decide (1099511627776 < l[j].seen)) := by unfold atB; rw [List.getElem?_eq_getElem h]
def treeR (c : Cfg) (l : List Nd) (most : Int) : Bool := okC c && !((l.length : Int) == 0) && lightL most 2000 l && allTo (atB l) l.length && soundR c l
theorem ref_Tree (c : Cfg) (v : Value) (l : List Nd) (most : Int) (w : World) (M : Mem) (hMw : M.le (Mem.of w)) (hl : SlM M 10 ndCells v l) (hok : ∀ a ∈ l, a.Ok M) (hin : ∀ a ∈ l, a.In) (hm : most ≤ 100000) :
    Calls Try.prog 9 #[.agg #[.int .i64 c.fanout, .int .i64 c.leaf, .int .i64 c.budget, .int .i64 c.slots, .int .i64 c.restarts], v, .int .i64 most] w fun e w' => e = .returned (.bool (treeR c l most)) ∧ Below w.heap.size w w' := by
  obtain ⟨A, c0, rfl, hc1, hc2, _⟩ := id hl
  unfold maxLen at hc2
  have cC := fun W => ref_RightC c W
  have cL := fun W (hW : M.le (Mem.of W)) => ref_LightN (.slice A l.length c0) l most 2000 W M hW hl hok hin (by omega) (by omega) (by omega)
  unfold treeR
  cases h1 : okC c with
  | false =>
    rw [h1] at cC
    refine V_flat (args := [.agg #[.int .i64 c.fanout, .int .i64 c.leaf, .int .i64 c.budget, .int .i64 c.slots, .int .i64 c.restarts], .slice A l.length c0, .int .i64 most]) (M := M) Try.func9 rfl Try.ntmps9 (by rfl) (hMw) ?_
    repeat' (first | refine VC_seq ?_ | refine VC_region ?_ | refine VL_nil ?_ | refine VC_ret ?_ | refine kbox ?_ | ((apply VL_q); (first | exact QS_call (by rfl) (fun W _ => cC W) | exact qmv (by rfl) | exact qas (by rfl) | exact qlA (by rfl) | exact qno (by rfl) | exact qpt (by rfl)); rfl) | refine kno ?_ | refine ctr ?_)
    show Res _ _ _ _
    refine Res.one (by rfl) (ResV_tmp (by rfl) ?_)
    rfl
  | true =>
    rw [h1] at cC
    cases h2 : ((l.length : Int) == 0) with
    | true =>
      refine V_flat (args := [.agg #[.int .i64 c.fanout, .int .i64 c.leaf, .int .i64 c.budget, .int .i64 c.slots, .int .i64 c.restarts], .slice A l.length c0, .int .i64 most]) (M := M) Try.func9 rfl Try.ntmps9 (by rfl) (hMw) ?_
      repeat' (first | refine VC_seq ?_ | refine VC_region ?_ | refine VL_nil ?_ | refine VC_ret ?_ | refine kbox ?_ | ((apply VL_q); (first | exact QS_call (by rfl) (fun W _ => cC W) | exact qmv (by rfl) | exact qas (by rfl) | exact qlA (by rfl) | exact qno (by rfl) | exact qln (by rfl) | exact qpt (by rfl) | exact qpf (by rfl) | exact qcp (by rfl)); rfl) | refine kyes ?_ | refine kno ?_ | refine ctr ?_)
      show Res _ _ _ _
      refine Res.one (by rfl) (ResV_tmp (by rfl) ?_)
      rfl
    | false =>
      cases h3 : lightL most 2000 l with
      | false =>
        rw [h3] at cL
        refine V_flat (args := [.agg #[.int .i64 c.fanout, .int .i64 c.leaf, .int .i64 c.budget, .int .i64 c.slots, .int .i64 c.restarts], .slice A l.length c0, .int .i64 most]) (M := M) Try.func9 rfl Try.ntmps9 (by rfl) (hMw) ?_
        repeat' (first | refine VC_seq ?_ | refine VC_region ?_ | refine VL_nil ?_ | refine VC_ret ?_ | refine kbox ?_ | ((apply VL_q); (first | exact QS_call (by rfl) (fun W _ => cC W) | exact QS_call (by rfl) cL | exact qmv (by rfl) | exact qas (by rfl) | exact qlA (by rfl) | exact qno (by rfl) | exact qln (by rfl) | exact qpf (by rfl) | exact qcp (by rfl)); rfl) | refine kyes ?_ | refine ctr ?_)
        show Res _ _ _ _
        refine Res.one (by rfl) (ResV_tmp (by rfl) ?_)
        rfl
      | true =>
        rw [h3] at cL
        have hN := light_nds (M := M) hok hin (by omega) (by omega) h3
        have hlen := hN.len
        have cS := fun W (hW : M.le (Mem.of W)) => ref_Sound c (.slice A l.length c0) l W M hW hl hN
        refine V_flat (args := [.agg #[.int .i64 c.fanout, .int .i64 c.leaf, .int .i64 c.budget, .int .i64 c.slots, .int .i64 c.restarts], .slice A l.length c0, .int .i64 most]) (M := M) Try.func9 rfl Try.ntmps9 (by rfl) (hMw) ?_
        repeat' (first | refine VC_seq ?_ | refine VC_region ?_ | refine VL_nil ?_ | refine VC_block ?_ | refine VC_skip ?_ | refine kbox ?_ | ((apply VL_q); (first | exact QS_call (by rfl) (fun W _ => cC W) | exact QS_call (by rfl) cL | exact qmv (by rfl) | exact qas (by rfl) | exact qlA (by rfl) | exact qno (by rfl) | exact qln (by rfl) | exact qpf (by rfl) | exact qcp (by rfl)); rfl) | refine kyes ?_ | refine cfa ?_)
        refine VC_for (fun k : Nat => ⟨M, [.blk 23 [.int .i64 c.fanout, .int .i64 c.leaf, .int .i64 c.budget, .int .i64 c.slots, .int .i64 c.restarts]], [(1, .v (.slice A l.length c0)), (3, .p 0 0), (7, .v (.int .i64 k))]⟩) (fun k => k ≤ l.length ∧ allTo (atB l) k = true) (fun k => l.length - k) [0] 0 ⟨rfl, rfl, ⟨rfl, trivial⟩, ⟨rfl, rfl, rfl, trivial⟩⟩ ⟨by omega, rfl⟩ ?_
        rintro k ⟨hk, hr⟩
        rcases Nat.lt_or_ge k l.length with hlt | hge
        · have hd := dlt hlt
          obtain ⟨b, off, rfl, hcA⟩ := hl.get hlt
          have hat := atB_eq hlt
          have stp := fun h => allTo_stop (p := atB l) h hlt
          have stn := allTo_succ (atB l) k
          cases q1 : (l[k].slot != (k : Int)) with
          | true =>
            repeat' (first | refine VC_seq ?_ | refine VC_region ?_ | refine VL_nil ?_ | refine VC_ret ?_ | refine VC_block ?_ | refine VC_skip ?_ | ((apply VL_q); (first | exact QS_indexAddr (k) (by rfl) (by rfl) (by omega) (by omega) | exact QS_mload1 (by rfl) (hcA 0 _ (by rfl)) | exact qmv (by rfl) | exact qas (by rfl) | exact qmf (by rfl) | exact qln (by rfl) | exact qpt (by rfl) | exact qcp (by rfl)); rfl) | refine kno ?_ | refine ctr ?_)
            show Res _ _ _ _
            refine Res.one (by rfl) (ResV_tmp (by rfl) ?_)
            rw [stp (by rw [hat, show (l[k].slot == (k : Int)) = false by simpa using q1]; rfl)]; rfl
          | false =>
            have q1' : (l[k].slot == (k : Int)) = true := by simpa using q1
            cases q2 : decide (1099511627776 < l[k].seen) with
            | true =>
              repeat' (first | refine VC_seq ?_ | refine VC_region ?_ | refine VL_nil ?_ | refine VC_ret ?_ | refine VC_block ?_ | refine VC_skip ?_ | ((apply VL_q); (first | exact QS_indexAddr (k) (by rfl) (by rfl) (by omega) (by omega) | exact QS_mload1 (by rfl) (hcA 0 _ (by rfl)) | exact QS_mload1 (by rfl) (hcA _ _ (by rfl)) | exact qmv (by rfl) | exact qas (by rfl) | exact qmf (by rfl) | exact qln (by rfl) | exact qpf (by rfl) | exact qcp (by rfl)); rfl) | refine kyes ?_ | refine ctr ?_)
              show Res _ _ _ _
              refine Res.one (by rfl) (ResV_tmp (by rfl) ?_)
              rw [stp (by rw [hat, q1', q2]; rfl)]; rfl
            | false =>
              repeat' (first | refine VC_seq ?_ | refine VC_region ?_ | refine VL_nil ?_ | refine VC_block ?_ | refine VC_skip ?_ | ((apply VL_q); (first | exact QS_indexAddr (k) (by rfl) (by rfl) (by omega) (by omega) | exact QS_mload1 (by rfl) (hcA 0 _ (by rfl)) | exact QS_mload1 (by rfl) (hcA _ _ (by rfl)) | exact qmv (by rfl) | exact qas (by rfl) | exact qmf (by rfl) | exact qln (by rfl) | exact qpf (by rfl) | exact qcp (by rfl) | exact qad (by rfl)); rfl) | refine kyes ?_ | refine ctr ?_ | refine cfa ?_)
              exact forQ_next (Q := fun _ _ => True) [0] (k + 1) ⟨rfl, rfl, ⟨rfl, trivial⟩, ⟨rfl, rfl, rfl, trivial⟩⟩ ⟨by omega, by rw [stn, hr, hat, q1', q2]; rfl⟩ (by omega)
        · have hd := dge hge
          obtain rfl : k = l.length := by omega
          repeat' (first | refine VC_seq ?_ | refine VC_region ?_ | refine VL_nil ?_ | refine VC_ret ?_ | refine VC_exit ?_ | ((apply VL_q); (first | exact QS_call (by rfl) cS | exact qmv (by rfl) | exact qas (by rfl) | exact qlA (by rfl) | exact qln (by rfl) | exact qcp (by rfl)); rfl) | refine cfa ?_)
          show Res _ _ _ _
          refine Res.one (by rfl) (ResV_tmp (by rfl) ?_)
          rw [hr]; rfl
theorem tree_facts {c : Cfg} {l : List Nd} {most : Int} (h : treeR c l most = true) : 0 < l.length ∧ lightL most 2000 l = true ∧ Placed l ∧ soundR c l = true := by
  unfold treeR at h
  simp only [Bool.and_eq_true] at h
  obtain ⟨⟨⟨⟨_, h2⟩, h3⟩, h4⟩, h5⟩ := h
  refine ⟨by have : ((l.length : Int) == 0) = false := by simpa using h2
             have := beq_eq_false_iff_ne.1 this
             omega, h3, fun j hj => ?_, h5⟩
  have := allTo_iff.1 h4 j hj
  rw [atB_eq hj, Bool.and_eq_true] at this
  exact eq_of_beq this.1
end Go.Proofs.Ytlapnbklbpeddaa
