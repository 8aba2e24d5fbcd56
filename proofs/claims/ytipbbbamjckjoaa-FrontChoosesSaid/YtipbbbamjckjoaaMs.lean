/- Effects: what they do, one behind the other, which may be: plain Lean, no program in sight. The walks of the effect layer and of its reference: each function computes what the plain effects say. The walks of the effect layer: one effect and then another one (Then), all of them (Fold), and whether all may be (All). Messages: which keys they are for, what they do, their size, which may be: plain Lean, no program in sight. The walks of the message layer and of its reference, by the logic of own blocks. The walks of the reference's messages, by the logic of own blocks. The chapter's examples of the message layer. The loops over messages: whether stamps rise, whether all may be, how many bytes they have. What a message does when it is clipped, and what two do as one: plain Lean, no program in sight. The reference's ends of spans, as a row of the caller's own. Whether any message may be, however long its texts. Sums over lists: plain Lean. -/
import Derived.Test.YtipbbbamjckjoaaA
import Derived.BigQuiet
import Derived.Test.YtipbbbamjckjoaaFc
import Derived.Test.YtipbbbamjckjoaaSp
namespace Go.Proofs.Ytipbbbamjckjoaa
open Go.RowKit
set_option linter.unusedVariables false
set_option maxRecDepth 20000
set_option linter.unusedSimpArgs false

def applyH (e : Eff) (h : Bool) : Bool := if e.kind = 1 then true else if e.kind = 2 then true else if e.kind = 3 then false else h
def applyV (e : Eff) (h : Bool) (v : ByteArray) : ByteArray :=
  if e.kind = 1 then e.val else if e.kind = 2 then tl ((if h = true then v else em) ++ e.val) else if e.kind = 3 then em else if h = true then v else em
def rightE (e : Eff) : Bool := if e.kind = 1 ∨ e.kind = 2 then decide (e.val.size ≤ 16) else if e.kind = 0 ∨ e.kind = 3 then decide (e.val = em) else false
def rowsE (e : Eff) : Bool := decide (e.kind = 1 ∨ e.kind = 2)
def thenE (a b : Eff) : Eff :=
  if b.kind = 0 then a else if b.kind ≠ 2 then b else if a.kind = 0 then b
  else if a.kind = 2 then ⟨2, tl (a.val ++ b.val)⟩ else if a.kind = 3 then ⟨1, tl (em ++ b.val)⟩ else ⟨1, tl (a.val ++ b.val)⟩
def refThenE (a b : Eff) : Eff :=
  if b.kind = 0 then a else if b.kind ≠ 2 then b else if a.kind = 0 then b
  else if a.kind = 2 then ⟨2, tl (a.val ++ b.val)⟩ else ⟨1, tl (a.val ++ b.val)⟩
theorem rightE_size {e : Eff} (h : rightE e = true) : e.val.size ≤ 16 := by
  unfold rightE at h
  split at h
  · simpa using h
  · split at h
    · have : e.val = em := by simpa using h
      rw [this, size_em]; omega
    · cases h
theorem rightE_em {e : Eff} (h : rightE e = true) (h3 : e.kind = 3 ∨ e.kind = 0) : e.val = em := by
  unfold rightE at h
  rw [if_neg (by omega), if_pos (by omega)] at h
  simpa using h
theorem rightE_kind {e : Eff} (h : rightE e = true) : e.kind = 0 ∨ e.kind = 1 ∨ e.kind = 2 ∨ e.kind = 3 := by
  unfold rightE at h
  split at h
  · omega
  · split at h
    · omega
    · cases h
theorem refThen_eq {a b : Eff} (h : rightE a = true) : refThenE a b = thenE a b := by
  unfold refThenE thenE
  by_cases h3 : a.kind = 3
  · rw [rightE_em h (.inl h3)]
    simp [h3]
  · simp [h3]
theorem em_size16 : em.size ≤ 16 := by rw [size_em]; omega
theorem right_then {a b : Eff} (ha : rightE a = true) (hb : rightE b = true) : rightE (thenE a b) = true := by
  unfold thenE
  have sz : ∀ x y : ByteArray, (tl (x ++ y)).size ≤ 16 := fun x y => by rw [size_tl]; omega
  split
  · exact ha
  · split
    · exact hb
    · split
      · exact hb
      · split
        · unfold rightE; rw [if_pos (by simp)]; simpa using sz _ _
        · split
          · unfold rightE; rw [if_pos (by simp)]; simpa using sz _ _
          · unfold rightE; rw [if_pos (by simp)]; simpa using sz _ _
theorem tl_idem (s : ByteArray) : tl (tl s) = tl s := tl_short _ (by rw [size_tl]; omega)
theorem em_app_tl (b : ByteArray) : tl (em ++ b) = tl b := by rw [em_app]
/-- What both do, one behind the other, is what their one does. -/
theorem apply_then {a b : Eff} (ha : rightE a = true) (hb : rightE b = true) (h : Bool) (v : ByteArray) (hv : v.size ≤ 16) :
    applyH b (applyH a h) = applyH (thenE a b) h ∧ applyV b (applyH a h) (applyV a h v) = applyV (thenE a b) h v := by
  have ka := rightE_kind ha
  have kb := rightE_kind hb
  have sb := rightE_size hb
  have sa := rightE_size ha
  obtain ⟨k, x⟩ := a
  obtain ⟨m, y⟩ := b
  simp only at ka kb sa sb
  have t1 : tl y = y := tl_short y sb
  have t2 : tl x = x := tl_short x sa
  have t3 : tl v = v := tl_short v hv
  rcases ka with rfl | rfl | rfl | rfl <;> rcases kb with rfl | rfl | rfl | rfl <;> cases h <;>
    simp [applyH, applyV, thenE, tl_tl, tl_app_tl, app_assoc, em_app, app_em, tl_idem, t1, t2, t3]
theorem then_assoc {a b c : Eff} (ha : rightE a = true) (hb : rightE b = true) (hc : rightE c = true) : thenE (thenE a b) c = thenE a (thenE b c) := by
  have ka := rightE_kind ha
  have kb := rightE_kind hb
  have kc := rightE_kind hc
  have sa := rightE_size ha
  have sb := rightE_size hb
  have sc := rightE_size hc
  obtain ⟨k, x⟩ := a
  obtain ⟨m, y⟩ := b
  obtain ⟨n, z⟩ := c
  simp only at ka kb kc sa sb sc
  have t1 : tl y = y := tl_short y sb
  have t2 : tl x = x := tl_short x sa
  have t3 : tl z = z := tl_short z sc
  rcases ka with rfl | rfl | rfl | rfl <;> rcases kb with rfl | rfl | rfl | rfl <;> rcases kc with rfl | rfl | rfl | rfl <;>
    simp [thenE, tl_tl, tl_app_tl, app_assoc, em_app, app_em, tl_idem, t1, t2, t3]
def keepE : Eff := ⟨0, em⟩
theorem right_keep : rightE keepE = true := by decide +kernel
theorem then_keep (a : Eff) : thenE a keepE = a := by unfold thenE keepE; simp
def foldE (a : Eff) (l : List Eff) : Eff := l.foldl thenE a
theorem right_fold : ∀ (l : List Eff) (a : Eff), rightE a = true → (∀ e ∈ l, rightE e = true) → rightE (foldE a l) = true
  | [], a, h, _ => h
  | e :: l, a, h, hl => right_fold l (thenE a e) (right_then h (hl e (by simp))) (fun x hx => hl x (by simp [hx]))
theorem fold_then : ∀ (l : List Eff) (a : Eff), rightE a = true → (∀ e ∈ l, rightE e = true) → foldE a l = thenE a (foldE keepE l)
  | [], a, _, _ => (then_keep a).symm
  | e :: l, a, h, hl => by
    have he := hl e (by simp)
    have hl' : ∀ x ∈ l, rightE x = true := fun x hx => hl x (by simp [hx])
    have h1 := fold_then l (thenE a e) (right_then h he) hl'
    have h2 := fold_then l (thenE keepE e) (right_then right_keep he) hl'
    show foldE (thenE a e) l = thenE a (foldE (thenE keepE e) l)
    rw [h1, h2]
    have hr := right_fold l keepE right_keep hl'
    rw [then_assoc h he hr, then_assoc right_keep he hr]
    rw [← then_assoc h right_keep (right_then he hr), then_keep]
theorem fold_split (l : List Eff) (k : Nat) (hl : ∀ e ∈ l, rightE e = true) : thenE (foldE keepE (l.take k)) (foldE keepE (l.drop k)) = foldE keepE l := by
  have h1 : ∀ e ∈ l.take k, rightE e = true := fun e he => hl e (List.mem_of_mem_take he)
  have h2 : ∀ e ∈ l.drop k, rightE e = true := fun e he => hl e (List.mem_of_mem_drop he)
  rw [← fold_then (l.drop k) _ (right_fold _ _ right_keep h1) h2]
  unfold foldE
  rw [← List.foldl_append, List.take_append_drop]
end Go.Proofs.Ytipbbbamjckjoaa
namespace Go.Proofs.Ytipbbbamjckjoaa
open Go.RowKit Go.Sort
set_option linter.unusedVariables false
set_option maxRecDepth 20000
set_option linter.unusedSimpArgs false

/-- A number that is none of these, as a walk's tests want it. -/
theorem ne_tests {k : Int} (h0 : k ≠ 0) (h1 : k ≠ 1) (h2 : k ≠ 2) (h3 : k ≠ 3) : (k == 0) = false ∧ (k == 1) = false ∧ (k == 2) = false ∧ (k == 3) = false := by simp [h0, h1, h2, h3]
set_option maxHeartbeats 400000 in
theorem effect_Right (e : Eff) (w : World) (hs : Sz e.val) :
    Calls Try.prog 76 #[.agg #[.int .i64 e.kind, .string e.val]] w fun x w' => x = .returned (.bool (rightE e)) ∧ Below w.heap.size w w' := by
  obtain ⟨k, v⟩ := e
  have HM := Lib.hid hs.max
  clear hs
  have he := beq_bl v em
  by_cases h1k : k = 1
  · subst h1k
    go_enter Try.func76, Try.ntmps76
    go_wp2_with fail
    (with_reducible refine (value_Right _ _ HM.out).mono ?_); rintro x w' ⟨rfl, rfl⟩
    go_wp2
    go_ret
    refine ⟨retv (boolv ?_), by go_grown⟩
    simp [rightE]; omega
  by_cases h2k : k = 2
  · subst h2k
    go_enter Try.func76, Try.ntmps76
    go_wp2_with fail
    (with_reducible refine (value_Right _ _ HM.out).mono ?_); rintro x w' ⟨rfl, rfl⟩
    go_wp2
    go_ret
    refine ⟨retv (boolv ?_), by go_grown⟩
    simp [rightE]; omega
  by_cases h3k : k = 3
  · subst h3k
    go_enter Try.func76, Try.ntmps76
    go_wp2
    go_ret
    refine ⟨retv (boolv ?_), by go_grown⟩
    simp [rightE, ← he]
  by_cases h0k : k = 0
  · subst h0k
    go_enter Try.func76, Try.ntmps76
    go_wp2
    go_ret
    refine ⟨retv (boolv ?_), by go_grown⟩
    simp [rightE, ← he]
  obtain ⟨g0k, g1k, g2k, g3k⟩ := ne_tests h0k h1k h2k h3k
  go_enter Try.func76, Try.ntmps76
  go_wp2
  go_ret
  refine ⟨retv (boolv ?_), by go_grown⟩
  simp [rightE, h0k, h1k, h2k, h3k]
set_option maxHeartbeats 400000 in
theorem effect_Apply (e : Eff) (h : Bool) (v : ByteArray) (w : World) (h1 : e.val.size ≤ 3000) (h2 : v.size ≤ 3000) :
    Calls Try.prog 119 #[.agg #[.int .i64 e.kind, .string e.val], .bool h, .string v] w fun x w' => x = .returned (.tuple #[.bool (applyH e h), .string (applyV e h v)]) ∧ Below w.heap.size w w' := by
  obtain ⟨k, x⟩ := e
  simp only at h1
  have m1 : (v ++ x).size ≤ maxLen := by rw [size_app]; unfold maxLen; omega
  have m2 : (em ++ x).size ≤ maxLen := by rw [size_app, size_em]; unfold maxLen; omega
  have M1 := Lib.hid m1
  have M2 := Lib.hid m2
  clear m1 m2
  by_cases h1k : k = 1
  · subst h1k
    cases h
    · go_enter Try.func119, Try.ntmps119
      go_wp2
      go_quiet (fail)
      go_wp2
      go_ret2
      refine ⟨retv ?_, below_drewN (by go_grown) _⟩
      simp [applyH, applyV]
    · go_enter Try.func119, Try.ntmps119
      go_wp2
      go_quiet (fail)
      go_wp2
      go_ret2
      refine ⟨retv ?_, below_drewN (by go_grown) _⟩
      simp [applyH, applyV]
  by_cases h2k : k = 2
  · subst h2k
    cases h
    · go_enter Try.func119, Try.ntmps119
      go_wp2_with fail
      (with_reducible refine (value_Add em x _ M2.out).mono ?_); rintro x w' ⟨rfl, rfl⟩
      go_wp2
      go_ret2
      refine ⟨retv ?_, by go_grown⟩
      simp [applyH, applyV]
    · go_enter Try.func119, Try.ntmps119
      go_wp2_with fail
      (with_reducible refine (value_Add v x _ M1.out).mono ?_); rintro x w' ⟨rfl, rfl⟩
      go_wp2
      go_ret2
      refine ⟨retv ?_, by go_grown⟩
      simp [applyH, applyV]
  by_cases h3k : k = 3
  · subst h3k
    cases h
    · go_enter Try.func119, Try.ntmps119
      go_wp2
      go_ret2
      refine ⟨retv ?_, by go_grown⟩
      simp [applyH, applyV]
    · go_enter Try.func119, Try.ntmps119
      go_wp2
      go_ret2
      refine ⟨retv ?_, by go_grown⟩
      simp [applyH, applyV]
  by_cases h0k : k = 0
  · subst h0k
    cases h
    · go_enter Try.func119, Try.ntmps119
      go_wp2
      go_ret2
      refine ⟨retv ?_, by go_grown⟩
      simp [applyH, applyV]
    · go_enter Try.func119, Try.ntmps119
      go_wp2
      go_ret2
      refine ⟨retv ?_, by go_grown⟩
      simp [applyH, applyV]
  obtain ⟨g0k, g1k, g2k, g3k⟩ := ne_tests h0k h1k h2k h3k
  cases h
  · go_enter Try.func119, Try.ntmps119
    go_wp2
    go_ret2
    refine ⟨retv ?_, by go_grown⟩
    simp [applyH, applyV, h1k, h2k, h3k]
  · go_enter Try.func119, Try.ntmps119
    go_wp2
    go_ret2
    refine ⟨retv ?_, by go_grown⟩
    simp [applyH, applyV, h1k, h2k, h3k]
end Go.Proofs.Ytipbbbamjckjoaa
namespace Go.Proofs.Ytipbbbamjckjoaa
open Go.RowKit Go.Sort
set_option linter.unusedVariables false
set_option maxRecDepth 20000
set_option linter.unusedSimpArgs false
set_option maxHeartbeats 400000 in
theorem effect_Then (a b : Eff) (w : World) (h1 : a.val.size ≤ 3000) (h2 : b.val.size ≤ 3000) :
    Calls Try.prog 82 #[.agg #[.int .i64 a.kind, .string a.val], .agg #[.int .i64 b.kind, .string b.val]] w fun x w' => x = .returned (.agg #[.int .i64 (thenE a b).kind, .string (thenE a b).val]) ∧ Below w.heap.size w w' := by
  obtain ⟨k, x⟩ := a
  obtain ⟨m, y⟩ := b
  simp only at h1 h2
  have HS := Lib.hid (show x.size ≤ 3000 ∧ y.size ≤ 3000 from ⟨h1, h2⟩)
  have HM := Lib.hid (show (x ++ y).size ≤ maxLen from by rw [size_app]; unfold maxLen; omega)
  by_cases h0m : m = 0
  · subst h0m
    go_enter Try.func82, Try.ntmps82
    go_wp2
    (try simp only [Exit.inBlock, Exit.then])
    refine bodyPost_ret (by simp [results, Try.results82, go_sem, thenE]; try rfl) rfl ?_
    exact ⟨retv (by simp [thenE]), by go_grown⟩
  by_cases h2m : m = 2
  · subst h2m
    by_cases h0k : k = 0
    · subst h0k
      go_enter Try.func82, Try.ntmps82
      go_wp2
      (try simp only [Exit.inBlock, Exit.then])
      refine bodyPost_ret (by simp [results, Try.results82, go_sem, thenE]; try rfl) rfl ?_
      exact ⟨retv (by simp [thenE]), by go_grown⟩
    by_cases h2k : k = 2
    · subst h2k
      go_enter Try.func82, Try.ntmps82
      go_wp2_with fail
      (with_reducible refine (effect_Apply ⟨2, y⟩ true x _ HS.out.2 HS.out.1).mono ?_); rintro e w1 ⟨rfl, hb1⟩
      obtain ⟨hc_hb1, hf_hb1⟩ := bcell hb1
      have hz_hb1 := size_le hb1
      repeat (first | simp only [World.size_alloc] at hc_hb1 | simp only [World.size_setCell] at hc_hb1 | simp only [World.size_drew] at hc_hb1)
      repeat (first | simp only [World.size_alloc] at hf_hb1 | simp only [World.size_setCell] at hf_hb1 | simp only [World.size_drew] at hf_hb1)
      repeat (first | simp only [World.size_alloc] at hz_hb1 | simp only [World.size_setCell] at hz_hb1 | simp only [World.size_drew] at hz_hb1)
      have HB := Lib.hid (below_next (w := w) (by go_grown) hb1)
      clear hb1
      have hb1 := HB.out
      go_wp2
      (try simp only [Exit.inBlock, Exit.then])
      refine bodyPost_ret (by simp [results, Try.results82, go_sem, hc_hb1]; try rfl) rfl ?_
      exact ⟨retv (by simp [thenE, applyV]), by go_grown⟩
    by_cases h3k : k = 3
    · subst h3k
      go_enter Try.func82, Try.ntmps82
      go_wp2_with fail
      (with_reducible refine (effect_Apply ⟨2, y⟩ false x _ HS.out.2 HS.out.1).mono ?_); rintro e w1 ⟨rfl, hb1⟩
      obtain ⟨hc_hb1, hf_hb1⟩ := bcell hb1
      have hz_hb1 := size_le hb1
      repeat (first | simp only [World.size_alloc] at hc_hb1 | simp only [World.size_setCell] at hc_hb1 | simp only [World.size_drew] at hc_hb1)
      repeat (first | simp only [World.size_alloc] at hf_hb1 | simp only [World.size_setCell] at hf_hb1 | simp only [World.size_drew] at hf_hb1)
      repeat (first | simp only [World.size_alloc] at hz_hb1 | simp only [World.size_setCell] at hz_hb1 | simp only [World.size_drew] at hz_hb1)
      have HB := Lib.hid (below_next (w := w) (by go_grown) hb1)
      clear hb1
      have hb1 := HB.out
      go_wp2
      (try simp only [Exit.inBlock, Exit.then])
      refine bodyPost_ret (by simp [results, Try.results82, go_sem, hc_hb1]; try rfl) rfl ?_
      exact ⟨retv (by simp [thenE, applyV]), by go_grown⟩
    obtain ⟨g0k, g2k, g3k, g3k'⟩ : (k == 0) = false ∧ (k == 2) = false ∧ (k == 3) = false ∧ (k != 3) = true := by simp [h0k, h2k, h3k]
    go_enter Try.func82, Try.ntmps82
    go_wp2_with fail
    (with_reducible refine (effect_Apply ⟨2, y⟩ true x _ HS.out.2 HS.out.1).mono ?_); rintro e w1 ⟨rfl, hb1⟩
    obtain ⟨hc_hb1, hf_hb1⟩ := bcell hb1
    have hz_hb1 := size_le hb1
    repeat (first | simp only [World.size_alloc] at hc_hb1 | simp only [World.size_setCell] at hc_hb1 | simp only [World.size_drew] at hc_hb1)
    repeat (first | simp only [World.size_alloc] at hf_hb1 | simp only [World.size_setCell] at hf_hb1 | simp only [World.size_drew] at hf_hb1)
    repeat (first | simp only [World.size_alloc] at hz_hb1 | simp only [World.size_setCell] at hz_hb1 | simp only [World.size_drew] at hz_hb1)
    have HB := Lib.hid (below_next (w := w) (by go_grown) hb1)
    clear hb1
    have hb1 := HB.out
    go_wp2
    (try simp only [Exit.inBlock, Exit.then])
    refine bodyPost_ret (by simp [results, Try.results82, go_sem, hc_hb1]; try rfl) rfl ?_
    exact ⟨retv (by simp [thenE, applyV, h0k, h2k, h3k]), by go_grown⟩
  obtain ⟨g0m, g2m, g2m'⟩ : (m == 0) = false ∧ (m == 2) = false ∧ (m != 2) = true := by simp [h0m, h2m]
  go_enter Try.func82, Try.ntmps82
  go_wp2
  (try simp only [Exit.inBlock, Exit.then])
  refine bodyPost_ret (by simp [results, Try.results82, go_sem, thenE]; try rfl) rfl ?_
  exact ⟨retv (by simp [thenE, h0m, h2m]), by go_grown⟩
set_option maxHeartbeats 400000 in
theorem ref_Then (a b : Eff) (w : World) (h1 : a.val.size ≤ 3000) (h2 : b.val.size ≤ 3000) :
    Calls Try.prog 33 #[.agg #[.int .i64 a.kind, .string a.val], .agg #[.int .i64 b.kind, .string b.val]] w fun x w' => x = .returned (.agg #[.int .i64 (refThenE a b).kind, .string (refThenE a b).val]) ∧ Below w.heap.size w w' := by
  obtain ⟨k, x⟩ := a
  obtain ⟨m, y⟩ := b
  simp only at h1 h2
  have HS := Lib.hid (show x.size ≤ 3000 ∧ y.size ≤ 3000 from ⟨h1, h2⟩)
  have HM := Lib.hid (show (x ++ y).size ≤ maxLen from by rw [size_app]; unfold maxLen; omega)
  by_cases h0m : m = 0
  · subst h0m
    go_enter Try.func33, Try.ntmps33
    go_wp2
    (try simp only [Exit.inBlock, Exit.then])
    refine bodyPost_ret (by simp [results, Try.results33, go_sem, refThenE]; try rfl) rfl ?_
    exact ⟨retv (by simp [refThenE]), by go_grown⟩
  by_cases h2m : m = 2
  · subst h2m
    by_cases h0k : k = 0
    · subst h0k
      go_enter Try.func33, Try.ntmps33
      go_wp2
      (try simp only [Exit.inBlock, Exit.then])
      refine bodyPost_ret (by simp [results, Try.results33, go_sem, refThenE]; try rfl) rfl ?_
      exact ⟨retv (by simp [refThenE]), by go_grown⟩
    by_cases h2k : k = 2
    · subst h2k
      go_enter Try.func33, Try.ntmps33
      go_wp2_with fail
      (with_reducible refine (ref_Tail (x ++ y) _ HM.out).mono ?_); rintro e w' ⟨rfl, rfl⟩
      go_wp2
      (try simp only [Exit.inBlock, Exit.then])
      refine bodyPost_ret (by simp [results, Try.results33, go_sem, refThenE]; try rfl) rfl ?_
      exact ⟨retv (by simp [refThenE]), by go_grown⟩
    by_cases h3k : k = 3
    · subst h3k
      go_enter Try.func33, Try.ntmps33
      go_wp2_with fail
      (with_reducible refine (ref_Tail (x ++ y) _ HM.out).mono ?_); rintro e w' ⟨rfl, rfl⟩
      go_wp2
      (try simp only [Exit.inBlock, Exit.then])
      refine bodyPost_ret (by simp [results, Try.results33, go_sem, refThenE]; try rfl) rfl ?_
      exact ⟨retv (by simp [refThenE]), by go_grown⟩
    obtain ⟨g0k, g2k, g3k, g3k'⟩ : (k == 0) = false ∧ (k == 2) = false ∧ (k == 3) = false ∧ (k != 3) = true := by simp [h0k, h2k, h3k]
    go_enter Try.func33, Try.ntmps33
    go_wp2_with fail
    (with_reducible refine (ref_Tail (x ++ y) _ HM.out).mono ?_); rintro e w' ⟨rfl, rfl⟩
    go_wp2
    (try simp only [Exit.inBlock, Exit.then])
    refine bodyPost_ret (by simp [results, Try.results33, go_sem, refThenE]; try rfl) rfl ?_
    exact ⟨retv (by simp [refThenE, h0k, h2k]), by go_grown⟩
  obtain ⟨g0m, g2m, g2m'⟩ : (m == 0) = false ∧ (m == 2) = false ∧ (m != 2) = true := by simp [h0m, h2m]
  go_enter Try.func33, Try.ntmps33
  go_wp2
  (try simp only [Exit.inBlock, Exit.then])
  refine bodyPost_ret (by simp [results, Try.results33, go_sem, refThenE]; try rfl) rfl ?_
  exact ⟨retv (by simp [refThenE, h0m, h2m]), by go_grown⟩
end Go.Proofs.Ytipbbbamjckjoaa
namespace Go.Proofs.Ytipbbbamjckjoaa
open Go.RowKit
set_option linter.unusedVariables false
set_option maxRecDepth 20000
set_option linter.unusedSimpArgs false

def spanM (m : Msg) : Span := if m.kind = 4 then ⟨m.key, m.hi, m.opn⟩ else point m.key
def rightM (m : Msg) : Bool :=
  decide (1 ≤ m.stamp) && decide (m.key.size ≤ 16) && (if m.kind = 4 then decide (m.val = em) && decide (m.hi.size ≤ 16) && (!m.opn || decide (m.hi = em)) && !empty (spanM m)
    else decide (m.kind ≠ 0) && decide (m.hi = em) && !m.opn && rightE ⟨m.kind, m.val⟩)
def refRightM (m : Msg) : Bool :=
  decide (1 ≤ m.stamp) && decide (m.key.size ≤ 16) && decide (m.val.size ≤ 16) && decide (m.hi.size ≤ 16) &&
  (if m.kind = 4 then decide (m.val = em) && (!m.opn || decide (m.hi = em)) && !empty (spanM m)
    else decide (m.hi = em) && !m.opn && (decide (m.kind = 1) || (decide (m.kind = 2) || (decide (m.kind = 3) && decide (m.val = em)))))
theorem refRightM_eq (m : Msg) : refRightM m = rightM m := by
  have e := size_em
  unfold refRightM rightM rightE
  by_cases h4 : m.kind = 4
  · simp only [h4, if_true]
    by_cases hv : m.val = em
    · rw [hv]; simp [e]; cases decide (1 ≤ m.stamp) <;> cases decide (m.key.size ≤ 16) <;> cases decide (m.hi.size ≤ 16) <;> simp
    · simp [hv]
  · simp only [h4, if_false]
    by_cases hh : m.hi = em
    · rw [hh]
      rcases (by omega : m.kind = 0 ∨ m.kind = 1 ∨ m.kind = 2 ∨ m.kind = 3 ∨ (m.kind ≠ 0 ∧ m.kind ≠ 1 ∧ m.kind ≠ 2 ∧ m.kind ≠ 3)) with h | h | h | h | ⟨g0, g1, g2, g3⟩
      · simp [h]
      · simp [h, e]; cases decide (1 ≤ m.stamp) <;> cases decide (m.key.size ≤ 16) <;> cases decide (m.val.size ≤ 16) <;> cases m.opn <;> simp
      · simp [h, e]; cases decide (1 ≤ m.stamp) <;> cases decide (m.key.size ≤ 16) <;> cases decide (m.val.size ≤ 16) <;> cases m.opn <;> simp
      · by_cases hv : m.val = em
        · simp [h, e, hv]
        · simp [h, e, hv]
      · simp [g0, g1, g2, g3]
    · simp [hh]
def onM (m : Msg) (k : ByteArray) : Eff :=
  if has (spanM m) k = true then (if m.kind = 1 ∨ m.kind = 2 then ⟨m.kind, m.val⟩ else if m.kind = 3 ∨ m.kind = 4 then ⟨3, em⟩ else keepE) else keepE
def sizeM (m : Msg) : Int := if m.kind = 4 then 36 else 4 + (m.key.size : Int) + (m.val.size : Int)
def msgE : Msg := ⟨0, 0, em, em, false, em⟩
def clipM (m : Msg) (s : Span) : Msg × Bool :=
  if touch (spanM m) s = true then
    (if m.kind = 4 then ⟨m.stamp, m.kind, (meet (spanM m) s).lo, (meet (spanM m) s).hi, (meet (spanM m) s).opn, m.val⟩ else m, true)
  else (msgE, false)
def joinM (a b : Msg) : Msg × Bool :=
  if b.kind = 4 ∧ within (spanM a) (spanM b) = true then (b, true)
  else if a.kind = 4 ∨ b.kind = 4 ∨ a.key ≠ b.key then (msgE, false)
  else (⟨b.stamp, (thenE (onM a a.key) (onM b b.key)).kind, b.key, b.hi, b.opn, (thenE (onM a a.key) (onM b b.key)).val⟩, true)
theorem onM_size (m : Msg) (k : ByteArray) {n : Nat} (h : m.val.size ≤ n) : (onM m k).val.size ≤ n := by
  have e : em.size = 0 := rfl
  unfold onM
  split
  · split
    · exact h
    · split <;> simp [keepE, e]
  · simp [keepE, e]
def longM (m : Msg) (most : Int) : Bool := decide ((m.key.size : Int) ≤ most) && (decide ((m.hi.size : Int) ≤ most) && decide ((m.val.size : Int) ≤ most))
/-- Do the stamps rise from one message on? -/
def risesFrom : Int → List Msg → Bool
  | _, [] => true
  | s, m :: l => decide (s < m.stamp) && risesFrom m.stamp l
def rises : List Msg → Bool
  | [] => true
  | m :: l => risesFrom m.stamp l
end Go.Proofs.Ytipbbbamjckjoaa
namespace Go.Proofs.Ytipbbbamjckjoaa
open Go Go.RowKit
set_option linter.unusedVariables false
set_option maxRecDepth 20000
set_option linter.unusedSimpArgs false
theorem key_Right (k : ByteArray) (w : World) (h : k.size ≤ maxLen) : Calls Try.prog 74 #[.string k] w fun e w' => e = .returned (.bool (decide ((k.size : Int) ≤ 16))) ∧ w = w' := by
  unfold maxLen at h
  go_enter Try.func74, Try.ntmps74
  go_wp2
  go_ret
  exact ⟨rfl, rfl⟩
theorem message_Span (m : Msg) (w : World) (hk : m.key.size ≤ 1000000) :
    Calls Try.prog 16 #[.agg #[.int .i64 m.stamp, .int .i64 m.kind, .string m.key, .string m.hi, .bool m.opn, .string m.val]] w fun e w' => e = .returned (.agg #[.string (spanM m).lo, .string (spanM m).hi, .bool (spanM m).opn]) ∧ Below w.heap.size w w' := by
  refine V_flat (args := [.agg #[.int .i64 m.stamp, .int .i64 m.kind, .string m.key, .string m.hi, .bool m.opn, .string m.val]]) (M := Mem.no) Try.func16 rfl Try.ntmps16 (by rfl) (Mem.no_le _) ?_
  repeat' (first
    | refine VC_seq ?_
    | refine VC_region ?_
    | refine VL_nil ?_
    | refine VC_ret ?_
    | refine VC_exit ?_
    | refine VC_block ?_
    | refine VC_skip ?_
    | refine kbox ?_
    | refine kall ?_
    | refine kst ?_
    | refine ksN ?_
    | refine klt ?_
    | refine kl1 ?_
    | refine klK ?_
    | refine kap ?_
    | ((first | apply VL_q | apply VG_q | apply VS_q2); (first | exact QS_call (by rfl) (fun W _ => span_Point _ hk W) | exact qmv (by rfl) | exact qas (by rfl) | exact ql1 (by rfl) | exact qlA (by rfl) | exact qfa (by rfl) | exact qmf (by rfl) | exact qfd (by rfl) | exact qm1 (by rfl) | exact qbd (by rfl) | exact qno (by rfl) | exact qex (by rfl) | exact qln (by rfl) | exact qls (by rfl) | exact qlr (by rfl) | exact qpt (by rfl) | exact qpf (by rfl) | exact qcp (by rfl) | exact qbe (by rfl) | exact qbn (by rfl) | exact qsn (by rfl) | exact qad (by rfl) | exact qsa (by rfl) | exact qsu (by rfl) | exact QS_bin (by rfl) (by rfl) (by first | exact B_slnil | exact Bq_eql_Span | exact Bq_neq_Span | exact Bq_eql_Eff | exact Bq_neq_Eff | exact Bq_eql_Msg | exact Bq_neq_Msg | exact Bq_eql_Pair | exact Bq_neq_Pair)); rfl)
    | refine sst ?_
    | refine VS_nil ?_
    | refine eeq ?_
    | refine ees ?_ (by first | exact es1 (by rfl) | exact esN (by rfl))
    | refine VE_nil ?_
    | refine kyes ?_
    | refine kno ?_
    | refine gyes ?_
    | refine gno ?_
    | refine knoU ?_
    | refine gnoU ?_
    | refine VG_nil ⟨by rfl, ?_⟩
    | refine VG_nil ?_
    | refine dT ?_
    | refine d1 ?_
    | refine dQ ?_
    | refine ctr ?_
    | refine cfa ?_
    | refine kdec (fun hq => ?_) (fun hq => ?_)
    | refine gdec (fun hq => ?_) (fun hq => ?_)
    | refine cco (fun hq => ?_) (fun hq => ?_))
  all_goals
    show Res _ _ _ _
    refine Res.one (by rfl) (ResV_agg (by rfl) (by rfl) _ (by rfl) ?_)
    simp_all [spanM, Ob.cells, sets]
theorem ref_SpanM (m : Msg) (w : World) (hk : m.key.size ≤ 1000000) :
    Calls Try.prog 19 #[.agg #[.int .i64 m.stamp, .int .i64 m.kind, .string m.key, .string m.hi, .bool m.opn, .string m.val]] w fun e w' => e = .returned (.agg #[.string (spanM m).lo, .string (spanM m).hi, .bool (spanM m).opn]) ∧ Below w.heap.size w w' := by
  have hz : (m.key ++ ⟨#[0]⟩ : ByteArray).size ≤ maxLen := by rw [size_app]; unfold maxLen; show m.key.size + 1 ≤ _; omega
  refine V_flat (args := [.agg #[.int .i64 m.stamp, .int .i64 m.kind, .string m.key, .string m.hi, .bool m.opn, .string m.val]]) (M := Mem.no) Try.func19 rfl Try.ntmps19 (by rfl) (Mem.no_le _) ?_
  repeat' (first
    | refine VC_seq ?_
    | refine VC_region ?_
    | refine VL_nil ?_
    | refine VC_ret ?_
    | refine VC_exit ?_
    | refine VC_block ?_
    | refine VC_skip ?_
    | refine kbox ?_
    | refine kall ?_
    | refine kst ?_
    | refine ksN ?_
    | refine klt ?_
    | refine kl1 ?_
    | refine klK ?_
    | refine kap ?_
    | ((first | apply VL_q | apply VG_q | apply VS_q2); (first  | exact qmv (by rfl) | exact qas (by rfl) | exact ql1 (by rfl) | exact qlA (by rfl) | exact qfa (by rfl) | exact qmf (by rfl) | exact qfd (by rfl) | exact qm1 (by rfl) | exact qbd (by rfl) | exact qno (by rfl) | exact qex (by rfl) | exact qln (by rfl) | exact qls (by rfl) | exact qlr (by rfl) | exact qpt (by rfl) | exact qpf (by rfl) | exact qcp (by rfl) | exact qbe (by rfl) | exact qbn (by rfl) | exact qsn (by rfl) | exact qad (by rfl) | exact qsa (by rfl) | exact qsu (by rfl) | exact QS_bin (by rfl) (by rfl) (by first | exact B_slnil | exact Bq_eql_Span | exact Bq_neq_Span | exact Bq_eql_Eff | exact Bq_neq_Eff | exact Bq_eql_Msg | exact Bq_neq_Msg | exact Bq_eql_Pair | exact Bq_neq_Pair)); rfl)
    | refine sst ?_
    | refine VS_nil ?_
    | refine eeq ?_
    | refine ees ?_ (by first | exact es1 (by rfl) | exact esN (by rfl))
    | refine VE_nil ?_
    | refine kyes ?_
    | refine kno ?_
    | refine gyes ?_
    | refine gno ?_
    | refine knoU ?_
    | refine gnoU ?_
    | refine VG_nil ⟨by rfl, ?_⟩
    | refine VG_nil ?_
    | refine dT ?_
    | refine d1 ?_
    | refine dQ ?_
    | refine ctr ?_
    | refine cfa ?_
    | refine kdec (fun hq => ?_) (fun hq => ?_)
    | refine gdec (fun hq => ?_) (fun hq => ?_)
    | refine cco (fun hq => ?_) (fun hq => ?_))
  all_goals
    show Res _ _ _ _
    refine Res.one (by rfl) (ResV_agg (by rfl) (by rfl) _ (by rfl) ?_)
    simp_all [spanM, Ob.cells, sets, point, nx]
theorem message_Size (m : Msg) (w : World) (h1 : m.key.size ≤ 1000000) (h2 : m.val.size ≤ 1000000) :
    Calls Try.prog 22 #[.agg #[.int .i64 m.stamp, .int .i64 m.kind, .string m.key, .string m.hi, .bool m.opn, .string m.val]] w fun e w' => e = .returned (.int .i64 (sizeM m)) ∧ Below w.heap.size w w' := by
  refine V_flat (args := [.agg #[.int .i64 m.stamp, .int .i64 m.kind, .string m.key, .string m.hi, .bool m.opn, .string m.val]]) (M := Mem.no) Try.func22 rfl Try.ntmps22 (by rfl) (Mem.no_le _) ?_
  repeat' (first
    | refine VC_seq ?_
    | refine VC_region ?_
    | refine VL_nil ?_
    | refine VC_ret ?_
    | refine VC_exit ?_
    | refine VC_block ?_
    | refine VC_skip ?_
    | refine kbox ?_
    | refine kall ?_
    | refine kst ?_
    | refine ksN ?_
    | refine klt ?_
    | refine kl1 ?_
    | refine klK ?_
    | refine kap ?_
    | ((first | apply VL_q | apply VG_q | apply VS_q2); (first  | exact qmv (by rfl) | exact qas (by rfl) | exact ql1 (by rfl) | exact qlA (by rfl) | exact qfa (by rfl) | exact qmf (by rfl) | exact qfd (by rfl) | exact qm1 (by rfl) | exact qbd (by rfl) | exact qno (by rfl) | exact qex (by rfl) | exact qln (by rfl) | exact qls (by rfl) | exact qlr (by rfl) | exact qpt (by rfl) | exact qpf (by rfl) | exact qcp (by rfl) | exact qbe (by rfl) | exact qbn (by rfl) | exact qsn (by rfl) | exact qad (by rfl) | exact qsa (by rfl) | exact qsu (by rfl) | exact QS_bin (by rfl) (by rfl) (by first | exact B_slnil | exact Bq_eql_Span | exact Bq_neq_Span | exact Bq_eql_Eff | exact Bq_neq_Eff | exact Bq_eql_Msg | exact Bq_neq_Msg | exact Bq_eql_Pair | exact Bq_neq_Pair)); rfl)
    | refine sst ?_
    | refine VS_nil ?_
    | refine eeq ?_
    | refine ees ?_ (by first | exact es1 (by rfl) | exact esN (by rfl))
    | refine VE_nil ?_
    | refine kyes ?_
    | refine kno ?_
    | refine gyes ?_
    | refine gno ?_
    | refine knoU ?_
    | refine gnoU ?_
    | refine VG_nil ⟨by rfl, ?_⟩
    | refine VG_nil ?_
    | refine dT ?_
    | refine d1 ?_
    | refine dQ ?_
    | refine ctr ?_
    | refine cfa ?_
    | refine kdec (fun hq => ?_) (fun hq => ?_)
    | refine gdec (fun hq => ?_) (fun hq => ?_)
    | refine cco (fun hq => ?_) (fun hq => ?_))
  all_goals
    show Res _ _ _ _
    refine Res.one (by rfl) (ResV_tmp (by rfl) ?_)
    simp_all [sizeM]
theorem ref_SizeM (m : Msg) (w : World) (h1 : m.key.size ≤ 1000000) (h2 : m.val.size ≤ 1000000) :
    Calls Try.prog 23 #[.agg #[.int .i64 m.stamp, .int .i64 m.kind, .string m.key, .string m.hi, .bool m.opn, .string m.val]] w fun e w' => e = .returned (.int .i64 (sizeM m)) ∧ Below w.heap.size w w' := by
  refine V_flat (args := [.agg #[.int .i64 m.stamp, .int .i64 m.kind, .string m.key, .string m.hi, .bool m.opn, .string m.val]]) (M := Mem.no) Try.func23 rfl Try.ntmps23 (by rfl) (Mem.no_le _) ?_
  repeat' (first
    | refine VC_seq ?_
    | refine VC_region ?_
    | refine VL_nil ?_
    | refine VC_ret ?_
    | refine VC_exit ?_
    | refine VC_block ?_
    | refine VC_skip ?_
    | refine kbox ?_
    | refine kall ?_
    | refine kst ?_
    | refine ksN ?_
    | refine klt ?_
    | refine kl1 ?_
    | refine klK ?_
    | refine kap ?_
    | ((first | apply VL_q | apply VG_q | apply VS_q2); (first  | exact qmv (by rfl) | exact qas (by rfl) | exact ql1 (by rfl) | exact qlA (by rfl) | exact qfa (by rfl) | exact qmf (by rfl) | exact qfd (by rfl) | exact qm1 (by rfl) | exact qbd (by rfl) | exact qno (by rfl) | exact qex (by rfl) | exact qln (by rfl) | exact qls (by rfl) | exact qlr (by rfl) | exact qpt (by rfl) | exact qpf (by rfl) | exact qcp (by rfl) | exact qbe (by rfl) | exact qbn (by rfl) | exact qsn (by rfl) | exact qad (by rfl) | exact qsa (by rfl) | exact qsu (by rfl) | exact QS_bin (by rfl) (by rfl) (by first | exact B_slnil | exact Bq_eql_Span | exact Bq_neq_Span | exact Bq_eql_Eff | exact Bq_neq_Eff | exact Bq_eql_Msg | exact Bq_neq_Msg | exact Bq_eql_Pair | exact Bq_neq_Pair)); rfl)
    | refine sst ?_
    | refine VS_nil ?_
    | refine eeq ?_
    | refine ees ?_ (by first | exact es1 (by rfl) | exact esN (by rfl))
    | refine VE_nil ?_
    | refine kyes ?_
    | refine kno ?_
    | refine gyes ?_
    | refine gno ?_
    | refine knoU ?_
    | refine gnoU ?_
    | refine VG_nil ⟨by rfl, ?_⟩
    | refine VG_nil ?_
    | refine dT ?_
    | refine d1 ?_
    | refine dQ ?_
    | refine ctr ?_
    | refine cfa ?_
    | refine kdec (fun hq => ?_) (fun hq => ?_)
    | refine gdec (fun hq => ?_) (fun hq => ?_)
    | refine cco (fun hq => ?_) (fun hq => ?_))
  all_goals
    show Res _ _ _ _
    refine Res.one (by rfl) (ResV_tmp (by rfl) ?_)
    simp_all [sizeM]
theorem message_Touches (m : Msg) (s : Span) (w : World) (hk : m.key.size ≤ 1000000) :
    Calls Try.prog 24 #[.agg #[.int .i64 m.stamp, .int .i64 m.kind, .string m.key, .string m.hi, .bool m.opn, .string m.val], .agg #[.string s.lo, .string s.hi, .bool s.opn]] w fun e w' => e = .returned (.bool (touch (spanM m) s)) ∧ Below w.heap.size w w' := by
  refine V_flat (args := [.agg #[.int .i64 m.stamp, .int .i64 m.kind, .string m.key, .string m.hi, .bool m.opn, .string m.val], .agg #[.string s.lo, .string s.hi, .bool s.opn]]) (M := Mem.no) Try.func24 rfl Try.ntmps24 (by rfl) (Mem.no_le _) ?_
  repeat' (first
    | refine VC_seq ?_
    | refine VC_region ?_
    | refine VL_nil ?_
    | refine VC_ret ?_
    | refine VC_exit ?_
    | refine VC_block ?_
    | refine VC_skip ?_
    | refine kbox ?_
    | refine kall ?_
    | refine kst ?_
    | refine ksN ?_
    | refine klt ?_
    | refine kl1 ?_
    | refine klK ?_
    | refine kap ?_
    | ((first | apply VL_q | apply VG_q | apply VS_q2); (first | exact QS_call (by rfl) (fun W _ => message_Span _ W (by assumption)) | exact QS_call (by rfl) (fun W _ => span_Touch _ _ W) | exact qmv (by rfl) | exact qas (by rfl) | exact ql1 (by rfl) | exact qlA (by rfl) | exact qfa (by rfl) | exact qmf (by rfl) | exact qfd (by rfl) | exact qm1 (by rfl) | exact qbd (by rfl) | exact qno (by rfl) | exact qex (by rfl) | exact qln (by rfl) | exact qls (by rfl) | exact qlr (by rfl) | exact qpt (by rfl) | exact qpf (by rfl) | exact qcp (by rfl) | exact qbe (by rfl) | exact qbn (by rfl) | exact qsn (by rfl) | exact qad (by rfl) | exact qsa (by rfl) | exact qsu (by rfl) | exact QS_bin (by rfl) (by rfl) (by first | exact B_slnil | exact Bq_eql_Span | exact Bq_neq_Span | exact Bq_eql_Eff | exact Bq_neq_Eff | exact Bq_eql_Msg | exact Bq_neq_Msg | exact Bq_eql_Pair | exact Bq_neq_Pair)); rfl)
    | refine sst ?_
    | refine VS_nil ?_
    | refine eeq ?_
    | refine ees ?_ (by first | exact es1 (by rfl) | exact esN (by rfl))
    | refine VE_nil ?_
    | refine kyes ?_
    | refine kno ?_
    | refine gyes ?_
    | refine gno ?_
    | refine knoU ?_
    | refine gnoU ?_
    | refine VG_nil ⟨by rfl, ?_⟩
    | refine VG_nil ?_
    | refine dT ?_
    | refine d1 ?_
    | refine dQ ?_
    | refine ctr ?_
    | refine cfa ?_
    | refine kdec (fun hq => ?_) (fun hq => ?_)
    | refine gdec (fun hq => ?_) (fun hq => ?_)
    | refine cco (fun hq => ?_) (fun hq => ?_))
  show Res _ _ _ _
  refine Res.one (by rfl) (ResV_tmp (by rfl) ?_)
  rfl
set_option maxHeartbeats 1000000 in
theorem message_Right (m : Msg) (w : World) (h1 : m.key.size ≤ 1000000) (h2 : m.hi.size ≤ 1000000) (h3 : m.val.size ≤ 1000000):
    Calls Try.prog 17 #[.agg #[.int .i64 m.stamp, .int .i64 m.kind, .string m.key, .string m.hi, .bool m.opn, .string m.val]] w fun e w' => e = .returned (.bool (rightM m)) ∧ Below w.heap.size w w' := by
  have k1 : m.key.size ≤ maxLen := by unfold maxLen; omega
  have k2 : m.hi.size ≤ maxLen := by unfold maxLen; omega
  have k3 : Sz m.val := by unfold Sz; omega
  refine V_flat (args := [.agg #[.int .i64 m.stamp, .int .i64 m.kind, .string m.key, .string m.hi, .bool m.opn, .string m.val]]) (M := Mem.no) Try.func17 rfl Try.ntmps17 (by rfl) (Mem.no_le _) ?_
  repeat' (first
    | refine VC_seq ?_
    | refine VC_region ?_
    | refine VL_nil ?_
    | refine VC_ret ?_
    | refine VC_exit ?_
    | refine VC_block ?_
    | refine VC_skip ?_
    | refine kbox ?_
    | refine kall ?_
    | refine kst ?_
    | refine ksN ?_
    | refine klt ?_
    | refine kl1 ?_
    | refine klK ?_
    | refine kap ?_
    | ((first | apply VL_q | apply VG_q | apply VS_q2); (first | exact QS_call (by rfl) (fun W _ => message_Span _ W (by assumption)) | exact QS_call0 (by rfl) (fun W _ => key_Right _ W (by assumption)) | exact QS_call (by rfl) (fun W _ => span_Empty _ W) | exact QS_call (by rfl) (fun W _ => effect_Right ⟨_, _⟩ W (by assumption)) | exact qmv (by rfl) | exact qas (by rfl) | exact ql1 (by rfl) | exact qlA (by rfl) | exact qfa (by rfl) | exact qmf (by rfl) | exact qfd (by rfl) | exact qm1 (by rfl) | exact qbd (by rfl) | exact qno (by rfl) | exact qex (by rfl) | exact qln (by rfl) | exact qls (by rfl) | exact qlr (by rfl) | exact qpt (by rfl) | exact qpf (by rfl) | exact qcp (by rfl) | exact qbe (by rfl) | exact qbn (by rfl) | exact qsn (by rfl) | exact qad (by rfl) | exact qsa (by rfl) | exact qsu (by rfl) | exact QS_bin (by rfl) (by rfl) (by first | exact B_slnil | exact Bq_eql_Span | exact Bq_neq_Span | exact Bq_eql_Eff | exact Bq_neq_Eff | exact Bq_eql_Msg | exact Bq_neq_Msg | exact Bq_eql_Pair | exact Bq_neq_Pair)); rfl)
    | refine sst ?_
    | refine VS_nil ?_
    | refine eeq ?_
    | refine ees ?_ (by first | exact es1 (by rfl) | exact esN (by rfl))
    | refine VE_nil ?_
    | refine kyes ?_
    | refine kno ?_
    | refine gyes ?_
    | refine gno ?_
    | refine knoU ?_
    | refine gnoU ?_
    | refine VG_nil ⟨by rfl, ?_⟩
    | refine VG_nil ?_
    | refine dT ?_
    | refine d1 ?_
    | refine dQ ?_
    | refine ctr ?_
    | refine cfa ?_
    | refine kdec (fun hq => ?_) (fun hq => ?_)
    | refine gdec (fun hq => ?_) (fun hq => ?_)
    | refine cco (fun hq => ?_) (fun hq => ?_))
  all_goals
    show Res _ _ _ _
    refine Res.one (by rfl) (ResV_tmp (by rfl) ?_)
    clear h1 h2 h3 k1 k2 k3
    refine congrArg Value.bool ?_
    simp_all [rightM, i16]
    try (intros; omega)
theorem message_On (m : Msg) (k : ByteArray) (w : World) (hk : m.key.size ≤ 1000000) :
    Calls Try.prog 20 #[.agg #[.int .i64 m.stamp, .int .i64 m.kind, .string m.key, .string m.hi, .bool m.opn, .string m.val], .string k] w fun e w' => e = .returned (.agg #[.int .i64 (onM m k).kind, .string (onM m k).val]) ∧ Below w.heap.size w w' := by
  refine V_flat (args := [.agg #[.int .i64 m.stamp, .int .i64 m.kind, .string m.key, .string m.hi, .bool m.opn, .string m.val], .string k]) (M := Mem.no) Try.func20 rfl Try.ntmps20 (by rfl) (Mem.no_le _) ?_
  repeat' (first
    | refine VC_seq ?_
    | refine VC_region ?_
    | refine VL_nil ?_
    | refine VC_ret ?_
    | refine VC_exit ?_
    | refine VC_block ?_
    | refine VC_skip ?_
    | refine kbox ?_
    | refine kall ?_
    | refine kst ?_
    | refine ksN ?_
    | refine klt ?_
    | refine kl1 ?_
    | refine klK ?_
    | refine kap ?_
    | ((first | apply VL_q | apply VG_q | apply VS_q2); (first | exact QS_call (by rfl) (fun W _ => message_Span _ W (by assumption)) | exact QS_call (by rfl) (fun W _ => span_Has _ _ W) | exact qmv (by rfl) | exact qas (by rfl) | exact ql1 (by rfl) | exact qlA (by rfl) | exact qfa (by rfl) | exact qmf (by rfl) | exact qfd (by rfl) | exact qm1 (by rfl) | exact qbd (by rfl) | exact qno (by rfl) | exact qex (by rfl) | exact qln (by rfl) | exact qls (by rfl) | exact qlr (by rfl) | exact qpt (by rfl) | exact qpf (by rfl) | exact qcp (by rfl) | exact qbe (by rfl) | exact qbn (by rfl) | exact qsn (by rfl) | exact qad (by rfl) | exact qsa (by rfl) | exact qsu (by rfl) | exact QS_bin (by rfl) (by rfl) (by first | exact B_slnil | exact Bq_eql_Span | exact Bq_neq_Span | exact Bq_eql_Eff | exact Bq_neq_Eff | exact Bq_eql_Msg | exact Bq_neq_Msg | exact Bq_eql_Pair | exact Bq_neq_Pair)); rfl)
    | refine sst ?_
    | refine VS_nil ?_
    | refine eeq ?_
    | refine ees ?_ (by first | exact es1 (by rfl) | exact esN (by rfl))
    | refine VE_nil ?_
    | refine kyes ?_
    | refine kno ?_
    | refine gyes ?_
    | refine gno ?_
    | refine knoU ?_
    | refine gnoU ?_
    | refine VG_nil ⟨by rfl, ?_⟩
    | refine VG_nil ?_
    | refine dT ?_
    | refine d1 ?_
    | refine dQ ?_
    | refine ctr ?_
    | refine cfa ?_
    | refine kdec (fun hq => ?_) (fun hq => ?_)
    | refine gdec (fun hq => ?_) (fun hq => ?_)
    | refine cco (fun hq => ?_) (fun hq => ?_))
  all_goals
    show Res _ _ _ _
    refine Res.one (by rfl) (ResV_agg (by rfl) (by rfl) _ (by rfl) ?_)
    simp_all [onM, Ob.cells, sets, keepE]
theorem message_Clip (m : Msg) (s : Span) (w : World) (hk : m.key.size ≤ 1000000) :
    Calls Try.prog 27 #[.agg #[.int .i64 m.stamp, .int .i64 m.kind, .string m.key, .string m.hi, .bool m.opn, .string m.val], .agg #[.string s.lo, .string s.hi, .bool s.opn]] w fun e w' => e = .returned (.tuple #[.agg #[.int .i64 (clipM m s).1.stamp, .int .i64 (clipM m s).1.kind, .string (clipM m s).1.key, .string (clipM m s).1.hi, .bool (clipM m s).1.opn, .string (clipM m s).1.val], .bool (clipM m s).2]) ∧ Below w.heap.size w w' := by
  refine V_flat (args := [.agg #[.int .i64 m.stamp, .int .i64 m.kind, .string m.key, .string m.hi, .bool m.opn, .string m.val], .agg #[.string s.lo, .string s.hi, .bool s.opn]]) (M := Mem.no) Try.func27 rfl Try.ntmps27 (by rfl) (Mem.no_le _) ?_
  repeat' (first
    | refine VC_seq ?_
    | refine VC_region ?_
    | refine VL_nil ?_
    | refine VC_ret ?_
    | refine VC_exit ?_
    | refine VC_block ?_
    | refine VC_skip ?_
    | refine kbox ?_
    | refine kall ?_
    | refine kst ?_
    | refine ksN ?_
    | refine klt ?_
    | refine kl1 ?_
    | refine klK ?_
    | refine kap ?_
    | ((first | apply VL_q | apply VG_q | apply VS_q2); (first | exact QS_call (by rfl) (fun W _ => message_Touches _ _ W (by assumption)) | exact QS_call (by rfl) (fun W _ => message_Span _ W (by assumption)) | exact QS_call (by rfl) (fun W _ => span_Meet _ _ W) | exact qmv (by rfl) | exact qas (by rfl) | exact ql1 (by rfl) | exact qlA (by rfl) | exact qfa (by rfl) | exact qmf (by rfl) | exact qfd (by rfl) | exact qm1 (by rfl) | exact qbd (by rfl) | exact qno (by rfl) | exact qex (by rfl) | exact qln (by rfl) | exact qls (by rfl) | exact qlr (by rfl) | exact qpt (by rfl) | exact qpf (by rfl) | exact qcp (by rfl) | exact qbe (by rfl) | exact qbn (by rfl) | exact qsn (by rfl) | exact qad (by rfl) | exact qsa (by rfl) | exact qsu (by rfl) | exact QS_bin (by rfl) (by rfl) (by first | exact B_slnil | exact Bq_eql_Span | exact Bq_neq_Span | exact Bq_eql_Eff | exact Bq_neq_Eff | exact Bq_eql_Msg | exact Bq_neq_Msg | exact Bq_eql_Pair | exact Bq_neq_Pair)); rfl)
    | refine sst ?_
    | refine VS_nil ?_
    | refine eeq ?_
    | refine ees ?_ (by first | exact es1 (by rfl) | exact esN (by rfl))
    | refine VE_nil ?_
    | refine kyes ?_
    | refine kno ?_
    | refine gyes ?_
    | refine gno ?_
    | refine knoU ?_
    | refine gnoU ?_
    | refine VG_nil ⟨by rfl, ?_⟩
    | refine VG_nil ?_
    | refine dT ?_
    | refine d1 ?_
    | refine dQ ?_
    | refine ctr ?_
    | refine cfa ?_
    | refine kdec (fun hq => ?_) (fun hq => ?_)
    | refine gdec (fun hq => ?_) (fun hq => ?_)
    | refine cco (fun hq => ?_) (fun hq => ?_))
  · skip
    show Res _ _ _ _
    refine Res.two (by rfl) (ResV_agg (by rfl) (by rfl) _ (by rfl) ?_) (ResV_tmp (by rfl) ?_)
    all_goals simp_all [clipM, Ob.cells, sets, msgE]
  · skip
    refine VC_drawS [0] (by decide +kernel) ?_
    repeat' (first
      | refine VC_seq ?_
      | refine VC_region ?_
      | refine VL_nil ?_
      | refine VC_ret ?_
      | refine VC_exit ?_
      | refine VC_block ?_
      | refine VC_skip ?_
      | refine kbox ?_
      | refine kall ?_
      | refine kst ?_
      | refine ksN ?_
      | refine klt ?_
      | refine kl1 ?_
      | refine klK ?_
      | refine kap ?_
      | ((first | apply VL_q | apply VG_q | apply VS_q2); (first  | exact qmv (by rfl) | exact qas (by rfl) | exact ql1 (by rfl) | exact qlA (by rfl) | exact qfa (by rfl) | exact qmf (by rfl) | exact qfd (by rfl) | exact qm1 (by rfl) | exact qbd (by rfl) | exact qno (by rfl) | exact qex (by rfl) | exact qln (by rfl) | exact qls (by rfl) | exact qlr (by rfl) | exact qpt (by rfl) | exact qpf (by rfl) | exact qcp (by rfl) | exact qbe (by rfl) | exact qbn (by rfl) | exact qsn (by rfl) | exact qad (by rfl) | exact qsa (by rfl) | exact qsu (by rfl) | exact QS_bin (by rfl) (by rfl) (by first | exact B_slnil | exact Bq_eql_Span | exact Bq_neq_Span | exact Bq_eql_Eff | exact Bq_neq_Eff | exact Bq_eql_Msg | exact Bq_neq_Msg | exact Bq_eql_Pair | exact Bq_neq_Pair)); rfl)
      | refine sst ?_
      | refine VS_nil ?_
      | refine eeq ?_
      | refine ees ?_ (by first | exact es1 (by rfl) | exact esN (by rfl))
      | refine VE_nil ?_
      | refine kyes ?_
      | refine kno ?_
      | refine gyes ?_
      | refine gno ?_
      | refine knoU ?_
      | refine gnoU ?_
      | refine VG_nil ⟨by rfl, ?_⟩
      | refine VG_nil ?_
      | refine dT ?_
      | refine d1 ?_
      | refine dQ ?_
      | refine ctr ?_
      | refine cfa ?_
      | refine kdec (fun hq => ?_) (fun hq => ?_)
      | refine gdec (fun hq => ?_) (fun hq => ?_)
      | refine cco (fun hq => ?_) (fun hq => ?_))
    show Res _ _ _ _
    refine Res.two (by rfl) (ResV_agg (by rfl) (by rfl) _ (by rfl) ?_) (ResV_tmp (by rfl) ?_)
    all_goals simp_all [clipM, Ob.cells, sets, msgE]
    all_goals rfl
  · skip
    show Res _ _ _ _
    refine Res.two (by rfl) (ResV_agg (by rfl) (by rfl) _ (by rfl) ?_) (ResV_tmp (by rfl) ?_)
    all_goals simp_all [clipM, Ob.cells, sets, msgE]
    all_goals rfl
end Go.Proofs.Ytipbbbamjckjoaa
namespace Go.Proofs.Ytipbbbamjckjoaa
open Go Go.RowKit
attribute [local irreducible] Calls
set_option linter.unusedVariables false
set_option maxRecDepth 20000
set_option linter.unusedSimpArgs false
theorem spanM_size (m : Msg) {n : Nat} (h1 : m.key.size < n) (h2 : m.hi.size ≤ n) : (spanM m).lo.size ≤ n ∧ (spanM m).hi.size ≤ n := by
  unfold spanM
  split
  · exact ⟨by simp only []; omega, h2⟩
  · refine ⟨by simp only [point]; omega, ?_⟩
    show (nx m.key).size ≤ n
    rw [size_nx]; omega
theorem meet_size (a b : Span) {n : Nat} (h1 : a.lo.size ≤ n) (h2 : a.hi.size ≤ n) (h3 : b.lo.size ≤ n) (h4 : b.hi.size ≤ n) : (meet a b).lo.size ≤ n ∧ (meet a b).hi.size ≤ n := by
  have e : em.size = 0 := rfl
  have k1 : (rawMeet a b).lo.size ≤ n := by simp only [rawMeet, meetLo, mx]; split <;> assumption
  have k2 : (rawMeet a b).hi.size ≤ n := by
    simp only [rawMeet, meetHi, mn]
    split
    · assumption
    · split
      · assumption
      · split <;> assumption
  unfold meet norm
  split
  · exact ⟨by simp [spE, e], by simp [spE, e]⟩
  · split
    · exact ⟨k1, by simp [e]⟩
    · exact ⟨k1, k2⟩
theorem ref_Long (m : Msg) (most : Int) (w : World) (h : m.In) :
    Calls Try.prog 14 #[.agg #[.int .i64 m.stamp, .int .i64 m.kind, .string m.key, .string m.hi, .bool m.opn, .string m.val], .int .i64 most] w fun e w' => e = .returned (.bool (longM m most)) ∧ Below w.heap.size w w' := by
  refine V_flat (args := [.agg #[.int .i64 m.stamp, .int .i64 m.kind, .string m.key, .string m.hi, .bool m.opn, .string m.val], .int .i64 most]) (M := Mem.no) Try.func14 rfl Try.ntmps14 (by rfl) (Mem.no_le _) ?_
  repeat' (first
    | refine VC_seq ?_
    | refine VC_region ?_
    | refine VL_nil ?_
    | refine VC_ret ?_
    | refine VC_exit ?_
    | refine VC_block ?_
    | refine VC_skip ?_
    | refine kbox ?_
    | refine kall ?_
    | refine kst ?_
    | refine ksN ?_
    | refine klt ?_
    | refine kl1 ?_
    | refine klK ?_
    | refine kap ?_
    | ((first | apply VL_q | apply VG_q | apply VS_q2); (first  | exact qmv (by rfl) | exact qas (by rfl) | exact ql1 (by rfl) | exact qlA (by rfl) | exact qfa (by rfl) | exact qmf (by rfl) | exact qfd (by rfl) | exact qm1 (by rfl) | exact qbd (by rfl) | exact qno (by rfl) | exact qex (by rfl) | exact qln (by rfl) | exact qls (by rfl) | exact qlr (by rfl) | exact qpt (by rfl) | exact qpf (by rfl) | exact qcp (by rfl) | exact qbe (by rfl) | exact qbn (by rfl) | exact qsn (by rfl) | exact qad (by rfl) | exact qsa (by rfl) | exact qsu (by rfl) | exact QS_bin (by rfl) (by rfl) (by first | exact B_slnil | exact Bq_eql_Span | exact Bq_neq_Span | exact Bq_eql_Eff | exact Bq_neq_Eff | exact Bq_eql_Msg | exact Bq_neq_Msg | exact Bq_eql_Pair | exact Bq_neq_Pair)); rfl)
    | refine sst ?_
    | refine VS_nil ?_
    | refine eeq ?_
    | refine ees ?_ (by first | exact es1 (by rfl) | exact esN (by rfl))
    | refine VE_nil ?_
    | refine kyes ?_
    | refine kno ?_
    | refine gyes ?_
    | refine gno ?_
    | refine knoU ?_
    | refine gnoU ?_
    | refine VG_nil ⟨by rfl, ?_⟩
    | refine VG_nil ?_
    | refine dT ?_
    | refine d1 ?_
    | refine dQ ?_
    | refine ctr ?_
    | refine cfa ?_
    | refine kdec (fun hq => ?_) (fun hq => ?_)
    | refine gdec (fun hq => ?_) (fun hq => ?_)
    | refine cco (fun hq => ?_) (fun hq => ?_))
  all_goals
    show Res _ _ _ _
    refine Res.one (by rfl) (ResV_tmp (by rfl) ?_)
    refine congrArg Value.bool ?_
    simp_all [longM]
    try (intros; omega)
set_option maxHeartbeats 2000000 in
theorem ref_RightM (m : Msg) (w : World) (h1 : m.key.size ≤ 1000000) (h2 : m.hi.size ≤ 1000000) (h3 : m.val.size ≤ 1000000) :
    Calls Try.prog 18 #[.agg #[.int .i64 m.stamp, .int .i64 m.kind, .string m.key, .string m.hi, .bool m.opn, .string m.val]] w fun e w' => e = .returned (.bool (refRightM m)) ∧ Below w.heap.size w w' := by
  have hs := spanM_size m (n := 1000001) (by omega) (by omega)
  have k1 : (spanM m).lo.size ≤ maxLen := by unfold maxLen; omega
  have k2 : (spanM m).hi.size ≤ maxLen := by unfold maxLen; omega
  clear hs
  refine V_flat (args := [.agg #[.int .i64 m.stamp, .int .i64 m.kind, .string m.key, .string m.hi, .bool m.opn, .string m.val]]) (M := Mem.no) Try.func18 rfl Try.ntmps18 (by rfl) (Mem.no_le _) ?_
  repeat' (first
    | refine VC_seq ?_
    | refine VC_region ?_
    | refine VL_nil ?_
    | refine VC_ret ?_
    | refine VC_exit ?_
    | refine VC_block ?_
    | refine VC_skip ?_
    | refine kbox ?_
    | refine kall ?_
    | refine kst ?_
    | refine ksN ?_
    | refine klt ?_
    | refine kl1 ?_
    | refine klK ?_
    | refine kap ?_
    | ((first | apply VL_q | apply VG_q | apply VS_q2); (first | exact QS_call (by rfl) (fun W _ => ref_SpanM _ W (by assumption)) | exact QS_call (by rfl) (fun W _ => ref_Empty (spanM m) W k1 k2) | exact qmv (by rfl) | exact qas (by rfl) | exact ql1 (by rfl) | exact qlA (by rfl) | exact qfa (by rfl) | exact qmf (by rfl) | exact qfd (by rfl) | exact qm1 (by rfl) | exact qbd (by rfl) | exact qno (by rfl) | exact qex (by rfl) | exact qln (by rfl) | exact qls (by rfl) | exact qlr (by rfl) | exact qpt (by rfl) | exact qpf (by rfl) | exact qcp (by rfl) | exact qbe (by rfl) | exact qbn (by rfl) | exact qsn (by rfl) | exact qad (by rfl) | exact qsa (by rfl) | exact qsu (by rfl) | exact QS_bin (by rfl) (by rfl) (by first | exact B_slnil | exact Bq_eql_Span | exact Bq_neq_Span | exact Bq_eql_Eff | exact Bq_neq_Eff | exact Bq_eql_Msg | exact Bq_neq_Msg | exact Bq_eql_Pair | exact Bq_neq_Pair)); rfl)
    | refine sst ?_
    | refine VS_nil ?_
    | refine eeq ?_
    | refine ees ?_ (by first | exact es1 (by rfl) | exact esN (by rfl))
    | refine VE_nil ?_
    | refine kyes ?_
    | refine kno ?_
    | refine gyes ?_
    | refine gno ?_
    | refine knoU ?_
    | refine gnoU ?_
    | refine VG_nil ⟨by rfl, ?_⟩
    | refine VG_nil ?_
    | refine dT ?_
    | refine d1 ?_
    | refine dQ ?_
    | refine ctr ?_
    | refine cfa ?_
    | refine kdec (fun hq => ?_) (fun hq => ?_)
    | refine gdec (fun hq => ?_) (fun hq => ?_)
    | refine cco (fun hq => ?_) (fun hq => ?_))
  all_goals
    show Res _ _ _ _
    refine Res.one (by rfl) (ResV_tmp (by rfl) ?_)
    clear h1 h2 h3 k1 k2
    refine congrArg Value.bool ?_
    simp_all [refRightM, i16]
    try (intros; omega)
def onM2 (m : Msg) (k : ByteArray) : Eff := if has (spanM m) k = false then keepE else if m.kind < 1 then keepE else if 4 < m.kind then keepE else if 3 ≤ m.kind then ⟨3, em⟩ else ⟨m.kind, m.val⟩
theorem onM2_eq (m : Msg) (k : ByteArray) : onM2 m k = onM m k := by
  unfold onM2 onM
  cases has (spanM m) k with
  | false => simp
  | true =>
    simp only [Bool.true_eq_false, if_false, if_true]
    by_cases h1 : m.kind < 1
    · rw [if_pos h1, if_neg (by omega), if_neg (by omega)]
    · rw [if_neg h1]
      by_cases h4 : 4 < m.kind
      · rw [if_pos h4, if_neg (by omega), if_neg (by omega)]
      · rw [if_neg h4]
        by_cases h3 : 3 ≤ m.kind
        · rw [if_pos h3, if_neg (by omega), if_pos (by omega)]
        · rw [if_neg h3, if_pos (by omega)]
theorem ref_OnM (m : Msg) (k : ByteArray) (w : World) (h1 : m.key.size ≤ 1000000) (h2 : m.hi.size ≤ 1000000) (h3 : k.size ≤ 1000000) :
    Calls Try.prog 21 #[.agg #[.int .i64 m.stamp, .int .i64 m.kind, .string m.key, .string m.hi, .bool m.opn, .string m.val], .string k] w fun e w' => e = .returned (.agg #[.int .i64 (onM m k).kind, .string (onM m k).val]) ∧ Below w.heap.size w w' := by
  have hs := spanM_size m (n := 1000001) (by omega) (by omega)
  have k1 : (spanM m).lo.size ≤ maxLen := by unfold maxLen; omega
  have k2 : (spanM m).hi.size ≤ maxLen := by unfold maxLen; omega
  have k3 : k.size ≤ maxLen := by unfold maxLen; omega
  clear hs
  rw [← onM2_eq]
  refine V_flat (args := [.agg #[.int .i64 m.stamp, .int .i64 m.kind, .string m.key, .string m.hi, .bool m.opn, .string m.val], .string k]) (M := Mem.no) Try.func21 rfl Try.ntmps21 (by rfl) (Mem.no_le _) ?_
  repeat' (first
    | refine VC_seq ?_
    | refine VC_region ?_
    | refine VL_nil ?_
    | refine VC_ret ?_
    | refine VC_exit ?_
    | refine VC_block ?_
    | refine VC_skip ?_
    | refine kbox ?_
    | refine kall ?_
    | refine kst ?_
    | refine ksN ?_
    | refine klt ?_
    | refine kl1 ?_
    | refine klK ?_
    | refine kap ?_
    | ((first | apply VL_q | apply VG_q | apply VS_q2); (first | exact QS_call (by rfl) (fun W _ => ref_SpanM _ W (by assumption)) | exact QS_call (by rfl) (fun W _ => ref_Has (spanM m) k W k1 k2 k3) | exact qmv (by rfl) | exact qas (by rfl) | exact ql1 (by rfl) | exact qlA (by rfl) | exact qfa (by rfl) | exact qmf (by rfl) | exact qfd (by rfl) | exact qm1 (by rfl) | exact qbd (by rfl) | exact qno (by rfl) | exact qex (by rfl) | exact qln (by rfl) | exact qls (by rfl) | exact qlr (by rfl) | exact qpt (by rfl) | exact qpf (by rfl) | exact qcp (by rfl) | exact qbe (by rfl) | exact qbn (by rfl) | exact qsn (by rfl) | exact qad (by rfl) | exact qsa (by rfl) | exact qsu (by rfl) | exact QS_bin (by rfl) (by rfl) (by first | exact B_slnil | exact Bq_eql_Span | exact Bq_neq_Span | exact Bq_eql_Eff | exact Bq_neq_Eff | exact Bq_eql_Msg | exact Bq_neq_Msg | exact Bq_eql_Pair | exact Bq_neq_Pair)); rfl)
    | refine sst ?_
    | refine VS_nil ?_
    | refine eeq ?_
    | refine ees ?_ (by first | exact es1 (by rfl) | exact esN (by rfl))
    | refine VE_nil ?_
    | refine kyes ?_
    | refine kno ?_
    | refine gyes ?_
    | refine gno ?_
    | refine knoU ?_
    | refine gnoU ?_
    | refine VG_nil ⟨by rfl, ?_⟩
    | refine VG_nil ?_
    | refine dT ?_
    | refine d1 ?_
    | refine dQ ?_
    | refine ctr ?_
    | refine cfa ?_
    | refine kdec (fun hq => ?_) (fun hq => ?_)
    | refine gdec (fun hq => ?_) (fun hq => ?_)
    | refine cco (fun hq => ?_) (fun hq => ?_))
  all_goals
    show Res _ _ _ _
    refine Res.one (by rfl) (ResV_agg (by rfl) (by rfl) _ (by rfl) ?_)
    clear h1 h2 h3 k1 k2 k3
    simp only [Bool.not_eq_true', Bool.not_eq_false', decide_eq_true_eq, decide_eq_false_iff_not] at *
    simp only [onM2, *, if_true, if_false, Bool.true_eq_false]
    rfl
theorem ref_ClipM (m : Msg) (s : Span) (w : World) (h1 : m.key.size ≤ 1000000) (h2 : m.hi.size ≤ 1000000) (h3 : s.lo.size ≤ 1000000) (h4 : s.hi.size ≤ 1000000) :
    Calls Try.prog 28 #[.agg #[.int .i64 m.stamp, .int .i64 m.kind, .string m.key, .string m.hi, .bool m.opn, .string m.val], .agg #[.string s.lo, .string s.hi, .bool s.opn]] w fun e w' => e = .returned (.tuple #[.agg #[.int .i64 (clipM m s).1.stamp, .int .i64 (clipM m s).1.kind, .string (clipM m s).1.key, .string (clipM m s).1.hi, .bool (clipM m s).1.opn, .string (clipM m s).1.val], .bool (clipM m s).2]) ∧ Below w.heap.size w w' := by
  have hs := spanM_size m (n := 1000001) (by omega) (by omega)
  have hm := meet_size (spanM m) s hs.1 hs.2 (by omega) (by omega)
  have k1 : (spanM m).lo.size ≤ maxLen := by unfold maxLen; omega
  have k2 : (spanM m).hi.size ≤ maxLen := by unfold maxLen; omega
  have k3 : s.lo.size ≤ maxLen := by unfold maxLen; omega
  have k4 : s.hi.size ≤ maxLen := by unfold maxLen; omega
  have k5 : (meet (spanM m) s).lo.size ≤ maxLen := by unfold maxLen; omega
  have k6 : (meet (spanM m) s).hi.size ≤ maxLen := by unfold maxLen; omega
  clear hs hm
  refine V_flat (args := [.agg #[.int .i64 m.stamp, .int .i64 m.kind, .string m.key, .string m.hi, .bool m.opn, .string m.val], .agg #[.string s.lo, .string s.hi, .bool s.opn]]) (M := Mem.no) Try.func28 rfl Try.ntmps28 (by rfl) (Mem.no_le _) ?_
  repeat' (first
    | refine VC_seq ?_
    | refine VC_region ?_
    | refine VL_nil ?_
    | refine VC_ret ?_
    | refine VC_exit ?_
    | refine VC_block ?_
    | refine VC_skip ?_
    | refine kbox ?_
    | refine kall ?_
    | refine kst ?_
    | refine ksN ?_
    | refine klt ?_
    | refine kl1 ?_
    | refine klK ?_
    | refine kap ?_
    | ((first | apply VL_q | apply VG_q | apply VS_q2); (first | exact QS_call (by rfl) (fun W _ => ref_SpanM _ W (by assumption)) | exact QS_call (by rfl) (fun W _ => ref_Meet (spanM m) s W k1 k2 k3 k4) | exact QS_call (by rfl) (fun W _ => ref_Empty (meet (spanM m) s) W k5 k6) | exact qmv (by rfl) | exact qas (by rfl) | exact ql1 (by rfl) | exact qlA (by rfl) | exact qfa (by rfl) | exact qmf (by rfl) | exact qfd (by rfl) | exact qm1 (by rfl) | exact qbd (by rfl) | exact qno (by rfl) | exact qex (by rfl) | exact qln (by rfl) | exact qls (by rfl) | exact qlr (by rfl) | exact qpt (by rfl) | exact qpf (by rfl) | exact qcp (by rfl) | exact qbe (by rfl) | exact qbn (by rfl) | exact qsn (by rfl) | exact qad (by rfl) | exact qsa (by rfl) | exact qsu (by rfl) | exact QS_bin (by rfl) (by rfl) (by first | exact B_slnil | exact Bq_eql_Span | exact Bq_neq_Span | exact Bq_eql_Eff | exact Bq_neq_Eff | exact Bq_eql_Msg | exact Bq_neq_Msg | exact Bq_eql_Pair | exact Bq_neq_Pair)); rfl)
    | refine sst ?_
    | refine VS_nil ?_
    | refine eeq ?_
    | refine ees ?_ (by first | exact es1 (by rfl) | exact esN (by rfl))
    | refine VE_nil ?_
    | refine kyes ?_
    | refine kno ?_
    | refine gyes ?_
    | refine gno ?_
    | refine knoU ?_
    | refine gnoU ?_
    | refine VG_nil ⟨by rfl, ?_⟩
    | refine VG_nil ?_
    | refine dT ?_
    | refine d1 ?_
    | refine dQ ?_
    | refine ctr ?_
    | refine cfa ?_
    | refine kdec (fun hq => ?_) (fun hq => ?_)
    | refine gdec (fun hq => ?_) (fun hq => ?_)
    | refine cco (fun hq => ?_) (fun hq => ?_))
  all_goals
    show Res _ _ _ _
    refine Res.two (by rfl) (ResV_agg (by rfl) (by rfl) _ (by rfl) ?_) (ResV_tmp (by rfl) ?_)
    all_goals clear k1 k2 k3 k4 k5 k6 h1 h2 h3 h4
    all_goals first | rfl | (simp_all [clipM, touch, Ob.cells, sets, msgE]; done) | (simp_all [clipM, touch, Ob.cells, sets, msgE]; rfl)
theorem message_Join (a b : Msg) (w : World) (h1 : a.key.size ≤ 1000000) (h2 : b.key.size ≤ 1000000) (h3 : a.val.size ≤ 3000) (h4 : b.val.size ≤ 3000) :
    Calls Try.prog 31 #[.agg #[.int .i64 a.stamp, .int .i64 a.kind, .string a.key, .string a.hi, .bool a.opn, .string a.val], .agg #[.int .i64 b.stamp, .int .i64 b.kind, .string b.key, .string b.hi, .bool b.opn, .string b.val]] w fun e w' => e = .returned (.tuple #[.agg #[.int .i64 (joinM a b).1.stamp, .int .i64 (joinM a b).1.kind, .string (joinM a b).1.key, .string (joinM a b).1.hi, .bool (joinM a b).1.opn, .string (joinM a b).1.val], .bool (joinM a b).2]) ∧ Below w.heap.size w w' := by
  have k1 : (onM a a.key).val.size ≤ 3000 := onM_size a _ h3
  have k2 : (onM b b.key).val.size ≤ 3000 := onM_size b _ h4
  refine V_flat (args := [.agg #[.int .i64 a.stamp, .int .i64 a.kind, .string a.key, .string a.hi, .bool a.opn, .string a.val], .agg #[.int .i64 b.stamp, .int .i64 b.kind, .string b.key, .string b.hi, .bool b.opn, .string b.val]]) (M := Mem.no) Try.func31 rfl Try.ntmps31 (by rfl) (Mem.no_le _) ?_
  repeat' (first
    | refine VC_seq ?_
    | refine VC_region ?_
    | refine VL_nil ?_
    | refine VC_ret ?_
    | refine VC_exit ?_
    | refine VC_block ?_
    | refine VC_skip ?_
    | refine kbox ?_
    | refine kall ?_
    | refine kst ?_
    | refine ksN ?_
    | refine klt ?_
    | refine kl1 ?_
    | refine klK ?_
    | refine kap ?_
    | ((first | apply VL_q | apply VG_q | apply VS_q2); (first | exact QS_call (by rfl) (fun W _ => message_Span _ W (by assumption)) | exact QS_call (by rfl) (fun W _ => span_Within _ _ W) | exact QS_call (by rfl) (fun W _ => message_On _ _ W (by assumption)) | exact QS_call (by rfl) (fun W _ => effect_Then (onM a a.key) (onM b b.key) W k1 k2) | exact qmv (by rfl) | exact qas (by rfl) | exact ql1 (by rfl) | exact qlA (by rfl) | exact qfa (by rfl) | exact qmf (by rfl) | exact qfd (by rfl) | exact qm1 (by rfl) | exact qbd (by rfl) | exact qno (by rfl) | exact qex (by rfl) | exact qln (by rfl) | exact qls (by rfl) | exact qlr (by rfl) | exact qpt (by rfl) | exact qpf (by rfl) | exact qcp (by rfl) | exact qbe (by rfl) | exact qbn (by rfl) | exact qsn (by rfl) | exact qad (by rfl) | exact qsa (by rfl) | exact qsu (by rfl) | exact QS_bin (by rfl) (by rfl) (by first | exact B_slnil | exact Bq_eql_Span | exact Bq_neq_Span | exact Bq_eql_Eff | exact Bq_neq_Eff | exact Bq_eql_Msg | exact Bq_neq_Msg | exact Bq_eql_Pair | exact Bq_neq_Pair)); rfl)
    | refine sst ?_
    | refine VS_nil ?_
    | refine eeq ?_
    | refine ees ?_ (by first | exact es1 (by rfl) | exact esN (by rfl))
    | refine VE_nil ?_
    | refine kyes ?_
    | refine kno ?_
    | refine gyes ?_
    | refine gno ?_
    | refine knoU ?_
    | refine gnoU ?_
    | refine VG_nil ⟨by rfl, ?_⟩
    | refine VG_nil ?_
    | refine dT ?_
    | refine d1 ?_
    | refine dQ ?_
    | refine ctr ?_
    | refine cfa ?_
    | refine kdec (fun hq => ?_) (fun hq => ?_)
    | refine gdec (fun hq => ?_) (fun hq => ?_)
    | refine cco (fun hq => ?_) (fun hq => ?_))
  all_goals try refine VC_drawS [1] (by decide +kernel) ?_
  repeat' (first
    | refine VC_seq ?_
    | refine VC_region ?_
    | refine VL_nil ?_
    | refine VC_ret ?_
    | refine VC_exit ?_
    | refine VC_block ?_
    | refine VC_skip ?_
    | refine kbox ?_
    | refine kall ?_
    | refine kst ?_
    | refine ksN ?_
    | refine klt ?_
    | refine kl1 ?_
    | refine klK ?_
    | refine kap ?_
    | ((first | apply VL_q | apply VG_q | apply VS_q2); (first  | exact qmv (by rfl) | exact qas (by rfl) | exact ql1 (by rfl) | exact qlA (by rfl) | exact qfa (by rfl) | exact qmf (by rfl) | exact qfd (by rfl) | exact qm1 (by rfl) | exact qbd (by rfl) | exact qno (by rfl) | exact qex (by rfl) | exact qln (by rfl) | exact qls (by rfl) | exact qlr (by rfl) | exact qpt (by rfl) | exact qpf (by rfl) | exact qcp (by rfl) | exact qbe (by rfl) | exact qbn (by rfl) | exact qsn (by rfl) | exact qad (by rfl) | exact qsa (by rfl) | exact qsu (by rfl) | exact QS_bin (by rfl) (by rfl) (by first | exact B_slnil | exact Bq_eql_Span | exact Bq_neq_Span | exact Bq_eql_Eff | exact Bq_neq_Eff | exact Bq_eql_Msg | exact Bq_neq_Msg | exact Bq_eql_Pair | exact Bq_neq_Pair)); rfl)
    | refine sst ?_
    | refine VS_nil ?_
    | refine eeq ?_
    | refine ees ?_ (by first | exact es1 (by rfl) | exact esN (by rfl))
    | refine VE_nil ?_
    | refine kyes ?_
    | refine kno ?_
    | refine gyes ?_
    | refine gno ?_
    | refine knoU ?_
    | refine gnoU ?_
    | refine VG_nil ⟨by rfl, ?_⟩
    | refine VG_nil ?_
    | refine dT ?_
    | refine d1 ?_
    | refine dQ ?_
    | refine ctr ?_
    | refine cfa ?_
    | refine kdec (fun hq => ?_) (fun hq => ?_)
    | refine gdec (fun hq => ?_) (fun hq => ?_)
    | refine cco (fun hq => ?_) (fun hq => ?_))
  all_goals
    show Res _ _ _ _
    refine Res.two (by rfl) (ResV_agg (by rfl) (by rfl) _ (by rfl) ?_) (ResV_tmp (by rfl) ?_)
    all_goals clear h1 h2 h3 h4 k1 k2
    all_goals first | rfl | (simp_all [joinM, Ob.cells, sets, msgE]; done) | (simp_all [joinM, Ob.cells, sets, msgE]; rfl)
end Go.Proofs.Ytipbbbamjckjoaa
namespace Go.Proofs.Ytipbbbamjckjoaa
open Go Go.RowKit
attribute [local irreducible] Calls
set_option linter.unusedVariables false
set_option maxRecDepth 20000
set_option linter.unusedSimpArgs false
theorem message_awake (w : World) : Calls Try.prog 12 #[] w fun e w' => e = .returned (.bool true) ∧ Below w.heap.size w w' := by
  have f1 : clipM ⟨1, 4, ⟨#[97]⟩, ⟨#[100]⟩, false, em⟩ ⟨⟨#[98]⟩, em, true⟩ = (⟨1, 4, ⟨#[98]⟩, ⟨#[100]⟩, false, em⟩, true) := by decide +kernel
  have f2 : rightM ⟨1, 4, ⟨#[98]⟩, ⟨#[100]⟩, false, em⟩ = true := by decide +kernel
  have f3 : rightM ⟨1, 0, em, em, false, em⟩ = false := by decide +kernel
  have f4 : sizeM ⟨0, 1, ⟨#[107]⟩, em, false, ⟨#[118]⟩⟩ = 6 := by decide +kernel
  have c1 : ∀ W, Calls Try.prog 27 #[.agg #[.int .i64 (⟨1, 4, ⟨#[97]⟩, ⟨#[100]⟩, false, em⟩ : Msg).stamp, .int .i64 (⟨1, 4, ⟨#[97]⟩, ⟨#[100]⟩, false, em⟩ : Msg).kind, .string (⟨1, 4, ⟨#[97]⟩, ⟨#[100]⟩, false, em⟩ : Msg).key, .string (⟨1, 4, ⟨#[97]⟩, ⟨#[100]⟩, false, em⟩ : Msg).hi, .bool (⟨1, 4, ⟨#[97]⟩, ⟨#[100]⟩, false, em⟩ : Msg).opn, .string (⟨1, 4, ⟨#[97]⟩, ⟨#[100]⟩, false, em⟩ : Msg).val], .agg #[.string (⟨⟨#[98]⟩, em, true⟩ : Span).lo, .string (⟨⟨#[98]⟩, em, true⟩ : Span).hi, .bool (⟨⟨#[98]⟩, em, true⟩ : Span).opn]] W fun e w' => e = .returned (.tuple #[.agg #[.int .i64 (⟨1, 4, ⟨#[98]⟩, ⟨#[100]⟩, false, em⟩ : Msg).stamp, .int .i64 (⟨1, 4, ⟨#[98]⟩, ⟨#[100]⟩, false, em⟩ : Msg).kind, .string (⟨1, 4, ⟨#[98]⟩, ⟨#[100]⟩, false, em⟩ : Msg).key, .string (⟨1, 4, ⟨#[98]⟩, ⟨#[100]⟩, false, em⟩ : Msg).hi, .bool (⟨1, 4, ⟨#[98]⟩, ⟨#[100]⟩, false, em⟩ : Msg).opn, .string (⟨1, 4, ⟨#[98]⟩, ⟨#[100]⟩, false, em⟩ : Msg).val], .bool true]) ∧ Below W.heap.size W w' := fun W => by
    have := message_Clip ⟨1, 4, ⟨#[97]⟩, ⟨#[100]⟩, false, em⟩ ⟨⟨#[98]⟩, em, true⟩ W (by decide)
    rw [f1] at this; exact this
  have c2 : ∀ W, Calls Try.prog 17 #[.agg #[.int .i64 (⟨1, 4, ⟨#[98]⟩, ⟨#[100]⟩, false, em⟩ : Msg).stamp, .int .i64 (⟨1, 4, ⟨#[98]⟩, ⟨#[100]⟩, false, em⟩ : Msg).kind, .string (⟨1, 4, ⟨#[98]⟩, ⟨#[100]⟩, false, em⟩ : Msg).key, .string (⟨1, 4, ⟨#[98]⟩, ⟨#[100]⟩, false, em⟩ : Msg).hi, .bool (⟨1, 4, ⟨#[98]⟩, ⟨#[100]⟩, false, em⟩ : Msg).opn, .string (⟨1, 4, ⟨#[98]⟩, ⟨#[100]⟩, false, em⟩ : Msg).val]] W fun e w' => e = .returned (.bool true) ∧ Below W.heap.size W w' := fun W => by
    have := message_Right ⟨1, 4, ⟨#[98]⟩, ⟨#[100]⟩, false, em⟩ W (by decide) (by decide) (by decide)
    rw [f2] at this; exact this
  have c3 : ∀ W, Calls Try.prog 17 #[.agg #[.int .i64 (⟨1, 0, em, em, false, em⟩ : Msg).stamp, .int .i64 (⟨1, 0, em, em, false, em⟩ : Msg).kind, .string (⟨1, 0, em, em, false, em⟩ : Msg).key, .string (⟨1, 0, em, em, false, em⟩ : Msg).hi, .bool (⟨1, 0, em, em, false, em⟩ : Msg).opn, .string (⟨1, 0, em, em, false, em⟩ : Msg).val]] W fun e w' => e = .returned (.bool false) ∧ Below W.heap.size W w' := fun W => by
    have := message_Right ⟨1, 0, em, em, false, em⟩ W (by decide) (by decide) (by decide)
    rw [f3] at this; exact this
  have c4 : ∀ W, Calls Try.prog 22 #[.agg #[.int .i64 (⟨0, 1, ⟨#[107]⟩, em, false, ⟨#[118]⟩⟩ : Msg).stamp, .int .i64 (⟨0, 1, ⟨#[107]⟩, em, false, ⟨#[118]⟩⟩ : Msg).kind, .string (⟨0, 1, ⟨#[107]⟩, em, false, ⟨#[118]⟩⟩ : Msg).key, .string (⟨0, 1, ⟨#[107]⟩, em, false, ⟨#[118]⟩⟩ : Msg).hi, .bool (⟨0, 1, ⟨#[107]⟩, em, false, ⟨#[118]⟩⟩ : Msg).opn, .string (⟨0, 1, ⟨#[107]⟩, em, false, ⟨#[118]⟩⟩ : Msg).val]] W fun e w' => e = .returned (.int .i64 6) ∧ Below W.heap.size W w' := fun W => by
    have := message_Size ⟨0, 1, ⟨#[107]⟩, em, false, ⟨#[118]⟩⟩ W (by decide) (by decide)
    rw [f4] at this; exact this
  have g1 : decide ((⟨#[98]⟩ : ByteArray) = ⟨#[98]⟩) = true := by decide
  have g2 : decide ((⟨#[100]⟩ : ByteArray) = ⟨#[100]⟩) = true := by decide
  refine V_flat (args := []) (M := Mem.no) Try.func12 rfl Try.ntmps12 (by rfl) (Mem.no_le _) ?_
  repeat' (first
    | refine VC_seq ?_
    | refine VC_region ?_
    | refine VL_nil ?_
    | refine VC_ret ?_
    | refine VC_exit ?_
    | refine VC_block ?_
    | refine VC_skip ?_
    | refine kbox ?_
    | refine kall ?_
    | refine kst ?_
    | refine ksN ?_
    | refine klt ?_
    | refine kl1 ?_
    | refine klK ?_
    | refine kap ?_
    | ((first | apply VL_q | apply VG_q | apply VS_q2); (first | exact QS_call (by rfl) (fun W _ => c1 W) | exact QS_call (by rfl) (fun W _ => c2 W) | exact QS_call (by rfl) (fun W _ => c3 W) | exact QS_call (by rfl) (fun W _ => c4 W) | exact qmv (by rfl) | exact qas (by rfl) | exact ql1 (by rfl) | exact qlA (by rfl) | exact qfa (by rfl) | exact qmf (by rfl) | exact qfd (by rfl) | exact qm1 (by rfl) | exact qbd (by rfl) | exact qno (by rfl) | exact qex (by rfl) | exact qln (by rfl) | exact qls (by rfl) | exact qlr (by rfl) | exact qpt (by rfl) | exact qpf (by rfl) | exact qcp (by rfl) | exact qbe (by rfl) | exact qbn (by rfl) | exact qsn (by rfl) | exact qad (by rfl) | exact qsa (by rfl) | exact qsu (by rfl) | exact QS_bin (by rfl) (by rfl) (by first | exact B_slnil | exact Bq_eql_Span | exact Bq_neq_Span | exact Bq_eql_Eff | exact Bq_neq_Eff | exact Bq_eql_Msg | exact Bq_neq_Msg | exact Bq_eql_Pair | exact Bq_neq_Pair)); rfl)
    | refine sst ?_
    | refine VS_nil ?_
    | refine eeq ?_
    | refine ees ?_ (by first | exact es1 (by rfl) | exact esN (by rfl))
    | refine VE_nil ?_
    | refine kyes ?_
    | refine kno ?_
    | refine gyes ?_
    | refine gno ?_
    | refine knoU ?_
    | refine gnoU ?_
    | refine VG_nil ⟨by rfl, ?_⟩
    | refine VG_nil ?_
    | refine dT ?_
    | refine d1 ?_
    | refine dQ ?_
    | refine ctr ?_
    | refine cfa ?_
    | refine kdec (fun hq => ?_) (fun hq => ?_)
    | refine gdec (fun hq => ?_) (fun hq => ?_)
    | refine cco (fun hq => ?_) (fun hq => ?_))
  all_goals
    show Res _ _ _ _
    refine Res.one (by rfl) (ResV_tmp (by rfl) ?_)
    rfl
end Go.Proofs.Ytipbbbamjckjoaa
namespace Go.Proofs.Ytipbbbamjckjoaa
open Go Go.RowKit
attribute [local irreducible] Calls
set_option linter.unusedVariables false
set_option maxRecDepth 20000
set_option linter.unusedSimpArgs false
def stAt (l : List Msg) (i : Nat) : Int := ((l[i]?).map Msg.stamp).getD 0
theorem stAt_eq {l : List Msg} {i : Nat} (h : i < l.length) : stAt l i = l[i].stamp := by simp [stAt, h]
/-- Do the stamps rise? -/
def riseB (l : List Msg) : Bool := (List.range l.length).all fun i => decide (i = 0 ∨ stAt l (i - 1) < stAt l i)
def riseTo (l : List Msg) (k : Nat) : Bool := (List.range k).all fun i => decide (i = 0 ∨ stAt l (i - 1) < stAt l i)
theorem riseTo_succ (l : List Msg) (k : Nat) : riseTo l (k + 1) = (riseTo l k && decide (k = 0 ∨ stAt l (k - 1) < stAt l k)) := by
  unfold riseTo
  rw [List.range_succ, List.all_append]
  simp
theorem riseTo_false {l : List Msg} {k : Nat} (h : riseTo l k = false) : ∀ n, k ≤ n → riseTo l n = false := by
  intro n hn
  induction n with
  | zero => have : k = 0 := by omega
            subst this; exact h
  | succ n ih =>
    rw [riseTo_succ]
    by_cases hk : k ≤ n
    · rw [ih hk]; rfl
    · have : k = n + 1 := by omega
      subst this
      rw [riseTo_succ] at h; exact h
theorem message_Rising (v : Value) (l : List Msg) (w : World) (hl : SlMsg w v l) :
    Calls Try.prog 13 #[v] w fun e w' => e = .returned (.bool (riseB l)) ∧ Below w.heap.size w w' := by
  obtain ⟨A, c, rfl, hc1, hc2, _⟩ := id hl
  have hM := hl.toM
  unfold maxLen at hc2
  refine V_flat (args := [.slice A l.length c]) (M := Mem.of w) Try.func13 rfl Try.ntmps13 (by rfl) (Mem.le_refl _) ?_
  repeat' (first
    | refine VC_seq ?_
    | refine VC_region ?_
    | refine VL_nil ?_
    | refine VC_ret ?_
    | refine VC_exit ?_
    | refine VC_block ?_
    | refine VC_skip ?_
    | refine kbox ?_
    | refine kall ?_
    | refine kst ?_
    | refine ksN ?_
    | refine klt ?_
    | refine kl1 ?_
    | refine klK ?_
    | refine kap ?_
    | ((first | apply VL_q | apply VG_q | apply VS_q2); (first  | exact qmv (by rfl) | exact qas (by rfl) | exact ql1 (by rfl) | exact qlA (by rfl) | exact qfa (by rfl) | exact qmf (by rfl) | exact qfd (by rfl) | exact qm1 (by rfl) | exact qbd (by rfl) | exact qno (by rfl) | exact qex (by rfl) | exact qln (by rfl) | exact qls (by rfl) | exact qlr (by rfl) | exact qpt (by rfl) | exact qpf (by rfl) | exact qcp (by rfl) | exact qbe (by rfl) | exact qbn (by rfl) | exact qsn (by rfl) | exact qad (by rfl) | exact qsa (by rfl) | exact qsu (by rfl) | exact QS_bin (by rfl) (by rfl) (by first | exact B_slnil | exact Bq_eql_Span | exact Bq_neq_Span | exact Bq_eql_Eff | exact Bq_neq_Eff | exact Bq_eql_Msg | exact Bq_neq_Msg | exact Bq_eql_Pair | exact Bq_neq_Pair)); rfl)
    | refine sst ?_
    | refine VS_nil ?_
    | refine eeq ?_
    | refine ees ?_ (by first | exact es1 (by rfl) | exact esN (by rfl))
    | refine VE_nil ?_
    | refine kyes ?_
    | refine kno ?_
    | refine gyes ?_
    | refine gno ?_
    | refine knoU ?_
    | refine gnoU ?_
    | refine VG_nil ⟨by rfl, ?_⟩
    | refine VG_nil ?_
    | refine dT ?_
    | refine d1 ?_
    | refine dQ ?_
    | refine ctr ?_
    | refine cfa ?_
    | refine kdec (fun hq => ?_) (fun hq => ?_)
    | refine gdec (fun hq => ?_) (fun hq => ?_)
    | refine cco (fun hq => ?_) (fun hq => ?_))
  refine VC_for (fun k : Nat => ⟨Mem.of w, [], [(0, .v (.slice A l.length c)), (3, .v (.int .i64 k))]⟩) (fun k => 1 ≤ k ∧ (k ≤ l.length ∨ k = 1) ∧ riseTo l k = true) (fun k => l.length + 1 - k) [] 1 ⟨rfl, rfl, trivial, ⟨rfl, rfl, trivial⟩⟩ ⟨by omega, by omega, rfl⟩ ?_
  rintro k ⟨hk1, hk2, hr⟩
  rcases Nat.lt_or_ge k l.length with hlt | hge
  · obtain ⟨b, off, rfl, hcA⟩ := hM.get hlt
    have hlt1 : k - 1 < l.length := by omega
    obtain ⟨b', off', he, hcB⟩ := hM.get hlt1
    injection he with he
    injection he with he1 he2
    subst he1 he2
    have hd := dlt hlt
    repeat' (first
      | refine VC_seq ?_
      | refine VC_region ?_
      | refine VL_nil ?_
      | refine VC_ret ?_
      | refine VC_exit ?_
      | refine VC_block ?_
      | refine VC_skip ?_
      | refine kbox ?_
      | refine kall ?_
      | refine kst ?_
      | refine ksN ?_
      | refine klt ?_
      | refine kl1 ?_
      | refine klK ?_
      | refine kap ?_
      | ((first | apply VL_q | apply VG_q | apply VS_q2); (first | exact QS_indexAddr (k) (by rfl) (by rfl) (by omega) (by omega) | exact QS_indexAddr (k - 1) (by rfl) (by rfl) (by omega) (by omega) | exact QS_mload1 (by rfl) (hcA 0 _ (by rfl)) | exact QS_mload1 (by rfl) (hcA _ _ (by rfl)) | exact QS_mloadN _ (by rfl) hcA _ (by rfl) | exact QS_mload1 (by rfl) (hcB 0 _ (by rfl)) | exact QS_mload1 (by rfl) (hcB _ _ (by rfl)) | exact QS_mloadN _ (by rfl) hcB _ (by rfl) | exact qmv (by rfl) | exact qas (by rfl) | exact ql1 (by rfl) | exact qlA (by rfl) | exact qfa (by rfl) | exact qmf (by rfl) | exact qfd (by rfl) | exact qm1 (by rfl) | exact qbd (by rfl) | exact qno (by rfl) | exact qex (by rfl) | exact qln (by rfl) | exact qls (by rfl) | exact qlr (by rfl) | exact qpt (by rfl) | exact qpf (by rfl) | exact qcp (by rfl) | exact qbe (by rfl) | exact qbn (by rfl) | exact qsn (by rfl) | exact qad (by rfl) | exact qsa (by rfl) | exact qsu (by rfl) | exact QS_bin (by rfl) (by rfl) (by first | exact B_slnil | exact Bq_eql_Span | exact Bq_neq_Span | exact Bq_eql_Eff | exact Bq_neq_Eff | exact Bq_eql_Msg | exact Bq_neq_Msg | exact Bq_eql_Pair | exact Bq_neq_Pair)); rfl)
      | refine sst ?_
      | refine VS_nil ?_
      | refine eeq ?_
      | refine ees ?_ (by first | exact es1 (by rfl) | exact esN (by rfl))
      | refine VE_nil ?_
      | refine kyes ?_
      | refine kno ?_
      | refine gyes ?_
      | refine gno ?_
      | refine knoU ?_
      | refine gnoU ?_
      | refine VG_nil ⟨by rfl, ?_⟩
      | refine VG_nil ?_
      | refine dT ?_
      | refine d1 ?_
      | refine dQ ?_
      | refine ctr ?_
      | refine cfa ?_
      | refine kdec (fun hq => ?_) (fun hq => ?_)
      | refine gdec (fun hq => ?_) (fun hq => ?_)
      | refine cco (fun hq => ?_) (fun hq => ?_))
    · skip
      show Res _ _ _ _
      refine Res.one (by rfl) (ResV_tmp (by rfl) ?_)
      refine congrArg Value.bool ?_
      have := riseTo_false (l := l) (k := k + 1) (by
        rw [riseTo_succ, hr, stAt_eq hlt, stAt_eq hlt1]
        simp only [decide_eq_true_eq] at *
        simp only [Bool.true_and, decide_eq_false_iff_not]; omega) l.length (by omega)
      exact this.symm
    · refine forQ_next [] (k + 1) ⟨rfl, rfl, trivial, ⟨rfl, rfl, trivial⟩⟩ ⟨by omega, by omega, ?_⟩ (by omega)
      rw [riseTo_succ, hr, stAt_eq hlt, stAt_eq hlt1]
      simp only [decide_eq_false_iff_not] at *
      simp only [Bool.true_and, decide_eq_true_eq]; omega
  · have hd := dge hge
    repeat' (first
      | refine VC_seq ?_
      | refine VC_region ?_
      | refine VL_nil ?_
      | refine VC_ret ?_
      | refine VC_exit ?_
      | refine VC_block ?_
      | refine VC_skip ?_
      | refine kbox ?_
      | refine kall ?_
      | refine kst ?_
      | refine ksN ?_
      | refine klt ?_
      | refine kl1 ?_
      | refine klK ?_
      | refine kap ?_
      | ((first | apply VL_q | apply VG_q | apply VS_q2); (first  | exact qmv (by rfl) | exact qas (by rfl) | exact ql1 (by rfl) | exact qlA (by rfl) | exact qfa (by rfl) | exact qmf (by rfl) | exact qfd (by rfl) | exact qm1 (by rfl) | exact qbd (by rfl) | exact qno (by rfl) | exact qex (by rfl) | exact qln (by rfl) | exact qls (by rfl) | exact qlr (by rfl) | exact qpt (by rfl) | exact qpf (by rfl) | exact qcp (by rfl) | exact qbe (by rfl) | exact qbn (by rfl) | exact qsn (by rfl) | exact qad (by rfl) | exact qsa (by rfl) | exact qsu (by rfl) | exact QS_bin (by rfl) (by rfl) (by first | exact B_slnil | exact Bq_eql_Span | exact Bq_neq_Span | exact Bq_eql_Eff | exact Bq_neq_Eff | exact Bq_eql_Msg | exact Bq_neq_Msg | exact Bq_eql_Pair | exact Bq_neq_Pair)); rfl)
      | refine sst ?_
      | refine VS_nil ?_
      | refine eeq ?_
      | refine ees ?_ (by first | exact es1 (by rfl) | exact esN (by rfl))
      | refine VE_nil ?_
      | refine kyes ?_
      | refine kno ?_
      | refine gyes ?_
      | refine gno ?_
      | refine knoU ?_
      | refine gnoU ?_
      | refine VG_nil ⟨by rfl, ?_⟩
      | refine VG_nil ?_
      | refine dT ?_
      | refine d1 ?_
      | refine dQ ?_
      | refine ctr ?_
      | refine cfa ?_
      | refine kdec (fun hq => ?_) (fun hq => ?_)
      | refine gdec (fun hq => ?_) (fun hq => ?_)
      | refine cco (fun hq => ?_) (fun hq => ?_))
    show Res _ _ _ _
    refine Res.one (by rfl) (ResV_tmp (by rfl) ?_)
    refine congrArg Value.bool ?_
    rcases hk2 with hk2 | hk2
    · have : k = l.length := by omega
      have hh : riseTo l l.length = true := this ▸ hr
      exact hh.symm
    · subst hk2
      unfold riseB
      have : l.length = 0 ∨ l.length = 1 := by omega
      rcases this with h | h <;> rw [h] <;> rfl
end Go.Proofs.Ytipbbbamjckjoaa
namespace Go.Proofs.Ytipbbbamjckjoaa
open Go.RowKit
set_option linter.unusedVariables false
set_option maxRecDepth 20000
set_option linter.unusedSimpArgs false
theorem clip_on {m : Msg} {s : Span} {x : ByteArray} (h : has s x = true) (ht : touch (spanM m) s = true) : onM (clipM m s).1 x = onM m x := by
  unfold clipM
  rw [if_pos ht]
  by_cases h4 : m.kind = 4
  · simp only [h4, if_true]
    have hs : spanM ⟨m.stamp, 4, (meet (spanM m) s).lo, (meet (spanM m) s).hi, (meet (spanM m) s).opn, m.val⟩ = meet (spanM m) s := by simp [spanM]
    unfold onM
    rw [hs, has_meet, h, Bool.and_true]
    simp [h4]
  · simp [h4]
theorem clip_off {m : Msg} {s : Span} {x : ByteArray} (h : has s x = false) (ht : touch (spanM m) s = true) (h4 : m.kind = 4) : onM (clipM m s).1 x = keepE := by
  unfold clipM
  rw [if_pos ht]
  simp only [h4, if_true]
  have hs : spanM ⟨m.stamp, 4, (meet (spanM m) s).lo, (meet (spanM m) s).hi, (meet (spanM m) s).opn, m.val⟩ = meet (spanM m) s := by simp [spanM]
  unfold onM
  rw [hs, has_meet, h, Bool.and_false]
  simp
theorem clip_size {m : Msg} {s : Span} (ht : touch (spanM m) s = true) : sizeM (clipM m s).1 = sizeM m := by
  unfold clipM
  rw [if_pos ht]
  by_cases h4 : m.kind = 4
  · simp [h4, sizeM]
  · simp [h4]
theorem clip_ok (m : Msg) (s : Span) : (clipM m s).2 = touch (spanM m) s := by
  unfold clipM
  cases touch (spanM m) s <;> simp
/-- What a message that may be does may be. -/
theorem right_on {m : Msg} (h : rightM m = true) (x : ByteArray) : rightE (onM m x) = true := by
  unfold onM
  split
  · split
    · rename_i hk
      unfold rightM at h
      rw [if_neg (by omega)] at h
      simp only [Bool.and_eq_true] at h
      exact h.2.2
    · split
      · rfl
      · exact right_keep
  · exact right_keep
theorem right_kind {m : Msg} (h : rightM m = true) : m.kind = 1 ∨ m.kind = 2 ∨ m.kind = 3 ∨ m.kind = 4 := by
  unfold rightM at h
  by_cases h4 : m.kind = 4
  · omega
  · rw [if_neg h4] at h
    simp only [Bool.and_eq_true, decide_eq_true_eq] at h
    have := rightE_kind h.2.2
    simp only at this
    omega
theorem right_key {m : Msg} (h : rightM m = true) : m.key.size ≤ 16 := by
  unfold rightM at h
  simp only [Bool.and_eq_true, decide_eq_true_eq] at h
  omega
theorem right_sizes {m : Msg} (h : refRightM m = true) : m.key.size ≤ 16 ∧ m.hi.size ≤ 16 ∧ m.val.size ≤ 16 := by
  unfold refRightM at h
  simp only [Bool.and_eq_true, decide_eq_true_eq] at h
  omega
def wholeM (a b : Msg) : Bool := decide (b.kind = 4) && within (spanM a) (spanM b)
theorem join_ok (a b : Msg) : (joinM a b).2 = (wholeM a b || (!decide (a.kind = 4) && (!decide (b.kind = 4) && decide (a.key = b.key)))) := by
  unfold joinM wholeM
  by_cases h1 : b.kind = 4
  · cases h2 : within (spanM a) (spanM b) <;> simp [h1, h2]
  · by_cases h3 : a.kind = 4
    · simp [h1, h3]
    · by_cases h5 : a.key = b.key <;> simp [h1, h3, h5]
theorem join_no {a b : Msg} (h : (joinM a b).2 = false) : (joinM a b).1 = msgE := by
  unfold joinM at *
  split at h
  · cases h
  · rename_i h1
    rw [if_neg h1]
    split at h
    · rename_i h2
      rw [if_pos h2]
    · cases h
theorem within_has {a b : Span} (h : within a b = true) {x : ByteArray} (hx : has a x = true) : has b x = true := by
  unfold within same at h
  have := has_of_norm (by simpa using h) x
  rw [has_meet, hx] at this
  simpa using this
theorem on_wipe {m : Msg} (h : m.kind = 4) (x : ByteArray) : onM m x = if has (spanM m) x = true then ⟨3, em⟩ else keepE := by
  unfold onM
  simp [h]
theorem on_point {m : Msg} (h : m.kind ≠ 4) (x : ByteArray) : onM m x = if x = m.key then (if m.kind = 1 ∨ m.kind = 2 then ⟨m.kind, m.val⟩ else if m.kind = 3 then ⟨3, em⟩ else keepE) else keepE := by
  unfold onM spanM
  rw [if_neg h, has_point]
  by_cases hx : x = m.key
  · simp [hx, h]
  · simp [hx]
theorem then_keep_l {b : Eff} (hb : rightE b = true) : thenE keepE b = b := by
  unfold thenE keepE
  by_cases h0 : b.kind = 0
  · have := rightE_em hb (.inr h0)
    cases b
    simp_all
  · simp [h0]
theorem then_ne {a b : Eff} (ha : rightE a = true) (hb : rightE b = true) (h1 : a.kind ≠ 0) : (thenE a b).kind ≠ 0 ∧ (thenE a b).kind ≠ 4 := by
  have ka := rightE_kind ha
  have kb := rightE_kind hb
  rcases ka with k | k | k | k
  · exact absurd k h1
  all_goals rcases kb with q | q | q | q <;> simp [thenE, k, q]
theorem join_key {a b : Msg} (ha : rightM a = true) (hb : rightM b = true) (ka : a.kind ≠ 4) (kb : b.kind ≠ 4) (hk : a.key = b.key) : (joinM a b).1 = ⟨b.stamp, (thenE (onM a a.key) (onM b b.key)).kind, b.key, b.hi, b.opn, (thenE (onM a a.key) (onM b b.key)).val⟩ := by
  unfold joinM
  rw [if_neg (by omega), if_neg (by simp [ka, kb, hk])]
theorem on_self {a : Msg} (ha : rightM a = true) (ka : a.kind ≠ 4) : (onM a a.key).kind ≠ 0 := by
  have := right_kind ha
  rw [on_point ka, if_pos rfl]
  split
  · show a.kind ≠ 0; omega
  · split
    · show (3 : Int) ≠ 0; omega
    · omega
theorem on_of_eff {j : Msg} {e : Eff} (he : rightE e = true) (h0 : e.kind ≠ 0) (h1 : j.kind = e.kind) (h2 : j.val = e.val) (x : ByteArray) : onM j x = if x = j.key then e else keepE := by
  have hk := rightE_kind he
  rw [on_point (by omega)]
  by_cases hx : x = j.key
  · rw [if_pos hx, if_pos hx]
    split
    · rw [h1, h2]
    · rename_i h3
      rw [if_pos (by omega)]
      have h3' : e.kind = 3 := by omega
      have := rightE_em he (.inl h3')
      cases e
      simp_all
  · rw [if_neg hx, if_neg hx]
theorem join_on {a b : Msg} (ha : rightM a = true) (hb : rightM b = true) (h : (joinM a b).2 = true) (x : ByteArray) : onM (joinM a b).1 x = thenE (onM a x) (onM b x) := by
  by_cases hw : b.kind = 4 ∧ within (spanM a) (spanM b) = true
  · have e : (joinM a b).1 = b := by unfold joinM; rw [if_pos hw]
    rw [e, on_wipe hw.1 x]
    cases hx : has (spanM b) x with
    | true => simp [thenE]
    | false =>
      have : has (spanM a) x = false := by
        cases h2 : has (spanM a) x with
        | false => rfl
        | true => rw [within_has hw.2 h2] at hx; cases hx
      have e2 : onM a x = keepE := by unfold onM; rw [this]; rfl
      rw [e2]
      simp [thenE, keepE]
  · have hn : a.kind ≠ 4 ∧ b.kind ≠ 4 ∧ a.key = b.key := by
      unfold joinM at h
      rw [if_neg hw] at h
      split at h
      · cases h
      · rename_i h2
        exact ⟨fun e => h2 (.inl e), fun e => h2 (.inr (.inl e)), Classical.byContradiction fun e => h2 (.inr (.inr e))⟩
    obtain ⟨ka, kb, hk⟩ := hn
    have hj := join_key ha hb ka kb hk
    have hr := right_then (right_on ha a.key) (right_on hb b.key)
    have hne := then_ne (right_on ha a.key) (right_on hb b.key) (on_self ha ka)
    rw [on_of_eff (j := (joinM a b).1) hr hne.1 (by rw [hj]) (by rw [hj]) x]
    rw [hj]
    simp only
    by_cases hx : x = b.key
    · rw [if_pos hx, hx, ← hk]
    · rw [if_neg hx, on_point ka, on_point kb, if_neg (by rw [hk]; exact hx), if_neg hx]
      simp [thenE, keepE]
theorem join_stamp {a b : Msg} (h : (joinM a b).2 = true) : (joinM a b).1.stamp = b.stamp := by
  unfold joinM at *
  split at h
  · rename_i h1; rw [if_pos h1]
  · rename_i h1
    rw [if_neg h1]
    split at h
    · cases h
    · rename_i h2; rw [if_neg h2]
theorem join_right {a b : Msg} (ha : rightM a = true) (hb : rightM b = true) (h : (joinM a b).2 = true) : rightM (joinM a b).1 = true := by
  by_cases hw : b.kind = 4 ∧ within (spanM a) (spanM b) = true
  · have e : (joinM a b).1 = b := by unfold joinM; rw [if_pos hw]
    rw [e]; exact hb
  · have hn : a.kind ≠ 4 ∧ b.kind ≠ 4 ∧ a.key = b.key := by
      unfold joinM at h
      rw [if_neg hw] at h
      split at h
      · cases h
      · rename_i h2
        exact ⟨fun e => h2 (.inl e), fun e => h2 (.inr (.inl e)), Classical.byContradiction fun e => h2 (.inr (.inr e))⟩
    obtain ⟨ka, kb, hk⟩ := hn
    have hj := join_key ha hb ka kb hk
    have hr := right_then (right_on ha a.key) (right_on hb b.key)
    have hne := then_ne (right_on ha a.key) (right_on hb b.key) (on_self ha ka)
    rw [hj]
    unfold rightM at hb ⊢
    rw [if_neg kb] at hb
    simp only [Bool.and_eq_true, decide_eq_true_eq] at hb
    rw [if_neg (by simpa using hne.2)]
    simp only [Bool.and_eq_true, decide_eq_true_eq]
    exact ⟨⟨hb.1.1, hb.1.2⟩, ⟨⟨by simpa using hne.1, hb.2.1.1.2⟩, hb.2.1.2⟩, hr⟩
theorem join_val_size {a b : Msg} (ha : rightM a = true) (hb : rightM b = true) (h : (joinM a b).2 = true) : (joinM a b).1.key.size ≤ 16 := right_key (join_right ha hb h)
end Go.Proofs.Ytipbbbamjckjoaa
namespace Go.Proofs.Ytipbbbamjckjoaa
open Go Go.RowKit
attribute [local irreducible] Calls
set_option linter.unusedVariables false
set_option maxRecDepth 20000
set_option linter.unusedSimpArgs false
def someV (l : List ByteArray) : List Value := (someL l).map Value.string
set_option maxHeartbeats 1000000 in
theorem ref_Some2 (v : Value) (l : List ByteArray) (w : World) (hl : SlS w v l) (hs : ∀ s ∈ l, s.size ≤ 1000000) (hn : l.length ≤ 1000) :
    Calls Try.prog 29 #[v] w (RetRow 9 1 (1 + 2 * l.length) (someV l) w) := by
  obtain ⟨A, c, rfl, hc1, hc2, _⟩ := id hl
  have hM := hl.toM
  unfold maxLen at hc2
  refine V_row (args := [.slice A l.length c]) (M := Mem.of w) Try.func29 rfl Try.ntmps29 (by rfl) (Mem.le_refl _) rfl ?_
  repeat' (first
    | refine VC_seq ?_
    | refine VC_region ?_
    | refine VL_nil ?_
    | refine VC_ret ?_
    | refine VC_exit ?_
    | refine VC_block ?_
    | refine VC_skip ?_
    | refine kbox ?_
    | refine kall ?_
    | refine kst ?_
    | refine ksN ?_
    | refine klt ?_
    | refine kl1 ?_
    | refine klK ?_
    | refine kap ?_
    | ((first | apply VL_q | apply VG_q | apply VS_q2); (first  | exact qmv (by rfl) | exact qas (by rfl) | exact ql1 (by rfl) | exact qlA (by rfl) | exact qfa (by rfl) | exact qmf (by rfl) | exact qfd (by rfl) | exact qm1 (by rfl) | exact qbd (by rfl) | exact qno (by rfl) | exact qex (by rfl) | exact qln (by rfl) | exact qls (by rfl) | exact qlr (by rfl) | exact qpt (by rfl) | exact qpf (by rfl) | exact qcp (by rfl) | exact qbe (by rfl) | exact qbn (by rfl) | exact qsn (by rfl) | exact qad (by rfl) | exact qsa (by rfl) | exact qsu (by rfl) | exact QS_bin (by rfl) (by rfl) (by first | exact B_slnil | exact Bq_eql_Span | exact Bq_neq_Span | exact Bq_eql_Eff | exact Bq_neq_Eff | exact Bq_eql_Msg | exact Bq_neq_Msg | exact Bq_eql_Pair | exact Bq_neq_Pair)); rfl)
    | refine sst ?_
    | refine VS_nil ?_
    | refine eeq ?_
    | refine ees ?_ (by first | exact es1 (by rfl) | exact esN (by rfl))
    | refine VE_nil ?_
    | refine kyes ?_
    | refine kno ?_
    | refine gyes ?_
    | refine gno ?_
    | refine knoU ?_
    | refine gnoU ?_
    | refine VG_nil ⟨by rfl, ?_⟩
    | refine VG_nil ?_
    | refine dT ?_
    | refine d1 ?_
    | refine dQ ?_
    | refine ctr ?_
    | refine cfa ?_
    | refine kdec (fun hq => ?_) (fun hq => ?_)
    | refine gdec (fun hq => ?_) (fun hq => ?_)
    | refine cco (fun hq => ?_) (fun hq => ?_))
  refine VC_for (fun k : Nat => ⟨Mem.of w, [.row 9 1 (1 + 2 * k) (someV (l.take k))], [(0, .v (.slice A l.length c)), (3, .r 0), (4, .v (.int .i64 k))]⟩) (fun k => k ≤ l.length) (fun k => l.length - k) [0] 0 ⟨rfl, rfl, ⟨rfl, trivial⟩, ⟨rfl, rfl, rfl, trivial⟩⟩ (by omega) ?_
  intro k hk
  rcases Nat.lt_or_ge k l.length with hlt | hge
  · have hd := dlt hlt
    obtain ⟨b, off, rfl, hcA⟩ := hM.get hlt
    have hz := hs l[k] (List.getElem_mem hlt)
    have hz2 : (l[k] ++ ⟨#[0]⟩ : ByteArray).size ≤ maxLen := by rw [size_app]; unfold maxLen; show l[k].size + 1 ≤ _; omega
    repeat' (first
      | refine VC_seq ?_
      | refine VC_region ?_
      | refine VL_nil ?_
      | refine VC_ret ?_
      | refine VC_exit ?_
      | refine VC_block ?_
      | refine VC_skip ?_
      | refine kbox ?_
      | refine kall ?_
      | refine kst ?_
      | refine ksN ?_
      | refine klt ?_
      | refine kl1 ?_
      | refine klK ?_
      | refine kap ?_
      | ((first | apply VL_q | apply VG_q | apply VS_q2); (first | exact QS_indexAddr (k) (by rfl) (by rfl) (by omega) (by omega) | exact QS_mload1 (by rfl) (hcA 0 _ (by rfl)) | exact QS_mload1 (by rfl) (hcA _ _ (by rfl)) | exact QS_mloadN _ (by rfl) hcA _ (by rfl) | exact qmv (by rfl) | exact qas (by rfl) | exact ql1 (by rfl) | exact qlA (by rfl) | exact qfa (by rfl) | exact qmf (by rfl) | exact qfd (by rfl) | exact qm1 (by rfl) | exact qbd (by rfl) | exact qno (by rfl) | exact qex (by rfl) | exact qln (by rfl) | exact qls (by rfl) | exact qlr (by rfl) | exact qpt (by rfl) | exact qpf (by rfl) | exact qcp (by rfl) | exact qbe (by rfl) | exact qbn (by rfl) | exact qsn (by rfl) | exact qad (by rfl) | exact qsa (by rfl) | exact qsu (by rfl) | exact QS_bin (by rfl) (by rfl) (by first | exact B_slnil | exact Bq_eql_Span | exact Bq_neq_Span | exact Bq_eql_Eff | exact Bq_neq_Eff | exact Bq_eql_Msg | exact Bq_neq_Msg | exact Bq_eql_Pair | exact Bq_neq_Pair)); rfl)
      | refine sst ?_
      | refine VS_nil ?_
      | refine eeq ?_
      | refine ees ?_ (by first | exact es1 (by rfl) | exact esN (by rfl))
      | refine VE_nil ?_
      | refine kyes ?_
      | refine kno ?_
      | refine gyes ?_
      | refine gno ?_
      | refine knoU ?_
      | refine gnoU ?_
      | refine VG_nil ⟨by rfl, ?_⟩
      | refine VG_nil ?_
      | refine dT ?_
      | refine d1 ?_
      | refine dQ ?_
      | refine ctr ?_
      | refine cfa ?_
      | refine kdec (fun hq => ?_) (fun hq => ?_)
      | refine gdec (fun hq => ?_) (fun hq => ?_)
      | refine cco (fun hq => ?_) (fun hq => ?_))
    refine VC_drawE [] [0] [10, 11, 12] (by decide +kernel) (by decide +kernel) (by rfl) ?_
    repeat' (first
      | refine VQs_nil ?_
      | refine VQs_e (by rfl) ?_
      | refine VQs_q (by rfl) _ (by first | exact wno (by first | exact QS_indexAddr (k) (by rfl) (by rfl) (by omega) (by omega) | exact QS_mload1 (by rfl) (hcA 0 _ (by rfl)) | exact QS_mload1 (by rfl) (hcA _ _ (by rfl)) | exact QS_mloadN _ (by rfl) hcA _ (by rfl) | exact qmv (by rfl) | exact qas (by rfl) | exact ql1 (by rfl) | exact qlA (by rfl) | exact qfa (by rfl) | exact qmf (by rfl) | exact qfd (by rfl) | exact qm1 (by rfl) | exact qbd (by rfl) | exact qno (by rfl) | exact qex (by rfl) | exact qln (by rfl) | exact qls (by rfl) | exact qlr (by rfl) | exact qpt (by rfl) | exact qpf (by rfl) | exact qcp (by rfl) | exact qbe (by rfl) | exact qbn (by rfl) | exact qsn (by rfl) | exact qad (by rfl) | exact qsa (by rfl) | exact qsu (by rfl) | exact QS_bin (by rfl) (by rfl) (by first | exact B_slnil | exact Bq_eql_Span | exact Bq_neq_Span | exact Bq_eql_Eff | exact Bq_neq_Eff | exact Bq_eql_Msg | exact Bq_neq_Msg | exact Bq_eql_Pair | exact Bq_neq_Pair)) | exact wnot (by rfl) | exact wU (by rfl) | exact wyes (by first | exact QS_indexAddr (k) (by rfl) (by rfl) (by omega) (by omega) | exact QS_mload1 (by rfl) (hcA 0 _ (by rfl)) | exact QS_mload1 (by rfl) (hcA _ _ (by rfl)) | exact QS_mloadN _ (by rfl) hcA _ (by rfl) | exact qmv (by rfl) | exact qas (by rfl) | exact ql1 (by rfl) | exact qlA (by rfl) | exact qfa (by rfl) | exact qmf (by rfl) | exact qfd (by rfl) | exact qm1 (by rfl) | exact qbd (by rfl) | exact qno (by rfl) | exact qex (by rfl) | exact qln (by rfl) | exact qls (by rfl) | exact qlr (by rfl) | exact qpt (by rfl) | exact qpf (by rfl) | exact qcp (by rfl) | exact qbe (by rfl) | exact qbn (by rfl) | exact qsn (by rfl) | exact qad (by rfl) | exact qsa (by rfl) | exact qsu (by rfl) | exact QS_bin (by rfl) (by rfl) (by first | exact B_slnil | exact Bq_eql_Span | exact Bq_neq_Span | exact Bq_eql_Eff | exact Bq_neq_Eff | exact Bq_eql_Msg | exact Bq_neq_Msg | exact Bq_eql_Pair | exact Bq_neq_Pair))) (by rfl) (by rfl) ?_
      | refine VT_done ?_
      | refine VT_step ?_
      | exact VTs_nil
      | refine VTs_e (by rfl) _ _ (by first | exact fno (by first  | exact EF_alloc | exact elt (by rfl) | exact el1 (by rfl) | exact elK (by rfl) | exact eap (by rfl) | exact fst1 (by rfl) | exact fstN (by rfl) | exact fq (by first | exact QS_indexAddr (k) (by rfl) (by rfl) (by omega) (by omega) | exact QS_mload1 (by rfl) (hcA 0 _ (by rfl)) | exact QS_mload1 (by rfl) (hcA _ _ (by rfl)) | exact QS_mloadN _ (by rfl) hcA _ (by rfl) | exact qmv (by rfl) | exact qas (by rfl) | exact ql1 (by rfl) | exact qlA (by rfl) | exact qfa (by rfl) | exact qmf (by rfl) | exact qfd (by rfl) | exact qm1 (by rfl) | exact qbd (by rfl) | exact qno (by rfl) | exact qex (by rfl) | exact qln (by rfl) | exact qls (by rfl) | exact qlr (by rfl) | exact qpt (by rfl) | exact qpf (by rfl) | exact qcp (by rfl) | exact qbe (by rfl) | exact qbn (by rfl) | exact qsn (by rfl) | exact qad (by rfl) | exact qsa (by rfl) | exact qsu (by rfl) | exact QS_bin (by rfl) (by rfl) (by first | exact B_slnil | exact Bq_eql_Span | exact Bq_neq_Span | exact Bq_eql_Eff | exact Bq_neq_Eff | exact Bq_eql_Msg | exact Bq_neq_Msg | exact Bq_eql_Pair | exact Bq_neq_Pair))) | exact fnot (by rfl) | exact fU (by rfl) | exact fyes (by first  | exact EF_alloc | exact elt (by rfl) | exact el1 (by rfl) | exact elK (by rfl) | exact eap (by rfl) | exact fst1 (by rfl) | exact fstN (by rfl) | exact fq (by first | exact QS_indexAddr (k) (by rfl) (by rfl) (by omega) (by omega) | exact QS_mload1 (by rfl) (hcA 0 _ (by rfl)) | exact QS_mload1 (by rfl) (hcA _ _ (by rfl)) | exact QS_mloadN _ (by rfl) hcA _ (by rfl) | exact qmv (by rfl) | exact qas (by rfl) | exact ql1 (by rfl) | exact qlA (by rfl) | exact qfa (by rfl) | exact qmf (by rfl) | exact qfd (by rfl) | exact qm1 (by rfl) | exact qbd (by rfl) | exact qno (by rfl) | exact qex (by rfl) | exact qln (by rfl) | exact qls (by rfl) | exact qlr (by rfl) | exact qpt (by rfl) | exact qpf (by rfl) | exact qcp (by rfl) | exact qbe (by rfl) | exact qbn (by rfl) | exact qsn (by rfl) | exact qad (by rfl) | exact qsa (by rfl) | exact qsu (by rfl) | exact QS_bin (by rfl) (by rfl) (by first | exact B_slnil | exact Bq_eql_Span | exact Bq_neq_Span | exact Bq_eql_Eff | exact Bq_neq_Eff | exact Bq_eql_Msg | exact Bq_neq_Msg | exact Bq_eql_Pair | exact Bq_neq_Pair)))) (by rfl) (by rfl) ?_ ?_
      | refine VQs_dec _ _ _ (by rfl) (by rfl) (by rfl) (fun hq => ?_) (fun hq => ?_))
    have e : someV (l.take (k + 1)) = someV (l.take k) ++ [.string l[k], .string (nx l[k])] := by
      unfold someV
      rw [someL_step l k hlt, List.map_append]; rfl
    repeat' (first
      | refine VC_seq ?_
      | refine VC_region ?_
      | refine VL_nil ?_
      | refine VC_ret ?_
      | refine VC_exit ?_
      | refine VC_block ?_
      | refine VC_skip ?_
      | refine kbox ?_
      | refine kall ?_
      | refine kst ?_
      | refine ksN ?_
      | refine klt ?_
      | refine kl1 ?_
      | refine klK ?_
      | refine kap ?_
      | ((first | apply VL_q | apply VG_q | apply VS_q2); (first  | exact qmv (by rfl) | exact qas (by rfl) | exact ql1 (by rfl) | exact qlA (by rfl) | exact qfa (by rfl) | exact qmf (by rfl) | exact qfd (by rfl) | exact qm1 (by rfl) | exact qbd (by rfl) | exact qno (by rfl) | exact qex (by rfl) | exact qln (by rfl) | exact qls (by rfl) | exact qlr (by rfl) | exact qpt (by rfl) | exact qpf (by rfl) | exact qcp (by rfl) | exact qbe (by rfl) | exact qbn (by rfl) | exact qsn (by rfl) | exact qad (by rfl) | exact qsa (by rfl) | exact qsu (by rfl) | exact QS_bin (by rfl) (by rfl) (by first | exact B_slnil | exact Bq_eql_Span | exact Bq_neq_Span | exact Bq_eql_Eff | exact Bq_neq_Eff | exact Bq_eql_Msg | exact Bq_neq_Msg | exact Bq_eql_Pair | exact Bq_neq_Pair)); rfl)
      | refine sst ?_
      | refine VS_nil ?_
      | refine eeq ?_
      | refine ees ?_ (by first | exact es1 (by rfl) | exact esN (by rfl))
      | refine VE_nil ?_
      | refine kyes ?_
      | refine kno ?_
      | refine gyes ?_
      | refine gno ?_
      | refine knoU ?_
      | refine gnoU ?_
      | refine VG_nil ⟨by rfl, ?_⟩
      | refine VG_nil ?_
      | refine dT ?_
      | refine d1 ?_
      | refine dQ ?_
      | refine ctr ?_
      | refine cfa ?_
      | refine kdec (fun hq => ?_) (fun hq => ?_)
      | refine gdec (fun hq => ?_) (fun hq => ?_)
      | refine cco (fun hq => ?_) (fun hq => ?_))
    exact forQ_next [2] (k + 1) ⟨rfl, rfl, ⟨by rw [e]; rfl, trivial⟩, ⟨rfl, rfl, rfl, trivial⟩⟩ (by omega) (by omega)
  · have hd := dge hge
    obtain rfl : k = l.length := by omega
    repeat' (first
      | refine VC_seq ?_
      | refine VC_region ?_
      | refine VL_nil ?_
      | refine VC_ret ?_
      | refine VC_exit ?_
      | refine VC_block ?_
      | refine VC_skip ?_
      | refine kbox ?_
      | refine kall ?_
      | refine kst ?_
      | refine ksN ?_
      | refine klt ?_
      | refine kl1 ?_
      | refine klK ?_
      | refine kap ?_
      | ((first | apply VL_q | apply VG_q | apply VS_q2); (first  | exact qmv (by rfl) | exact qas (by rfl) | exact ql1 (by rfl) | exact qlA (by rfl) | exact qfa (by rfl) | exact qmf (by rfl) | exact qfd (by rfl) | exact qm1 (by rfl) | exact qbd (by rfl) | exact qno (by rfl) | exact qex (by rfl) | exact qln (by rfl) | exact qls (by rfl) | exact qlr (by rfl) | exact qpt (by rfl) | exact qpf (by rfl) | exact qcp (by rfl) | exact qbe (by rfl) | exact qbn (by rfl) | exact qsn (by rfl) | exact qad (by rfl) | exact qsa (by rfl) | exact qsu (by rfl) | exact QS_bin (by rfl) (by rfl) (by first | exact B_slnil | exact Bq_eql_Span | exact Bq_neq_Span | exact Bq_eql_Eff | exact Bq_neq_Eff | exact Bq_eql_Msg | exact Bq_neq_Msg | exact Bq_eql_Pair | exact Bq_neq_Pair)); rfl)
      | refine sst ?_
      | refine VS_nil ?_
      | refine eeq ?_
      | refine ees ?_ (by first | exact es1 (by rfl) | exact esN (by rfl))
      | refine VE_nil ?_
      | refine kyes ?_
      | refine kno ?_
      | refine gyes ?_
      | refine gno ?_
      | refine knoU ?_
      | refine gnoU ?_
      | refine VG_nil ⟨by rfl, ?_⟩
      | refine VG_nil ?_
      | refine dT ?_
      | refine d1 ?_
      | refine dQ ?_
      | refine ctr ?_
      | refine cfa ?_
      | refine kdec (fun hq => ?_) (fun hq => ?_)
      | refine gdec (fun hq => ?_) (fun hq => ?_)
      | refine cco (fun hq => ?_) (fun hq => ?_))
    rw [List.take_length]
    exact ⟨0, rfl, rfl⟩
end Go.Proofs.Ytipbbbamjckjoaa
namespace Go.Proofs.Ytipbbbamjckjoaa
open Go Go.RowKit
attribute [local irreducible] Calls
set_option linter.unusedVariables false
set_option maxRecDepth 20000
set_option linter.unusedSimpArgs false
set_option maxHeartbeats 2000000 in
theorem ref_RightM' (m : Msg) (w : World) (h : m.In) :
    Calls Try.prog 18 #[.agg #[.int .i64 m.stamp, .int .i64 m.kind, .string m.key, .string m.hi, .bool m.opn, .string m.val]] w fun e w' => e = .returned (.bool (refRightM m)) ∧ Below w.heap.size w w' := by
  obtain ⟨_, _, h1, h2, h3⟩ := h
  have h1 := h1.le
  have h2 := h2.le
  have h3 := h3.le
  by_cases hz : m.key.size ≤ 16 ∧ m.val.size ≤ 16 ∧ m.hi.size ≤ 16
  · exact ref_RightM m w (by omega) (by omega) (by omega)
  · have hf : refRightM m = false := by
      unfold refRightM
      by_cases c1 : m.key.size ≤ 16
      · by_cases c2 : m.val.size ≤ 16
        · have c3 : ¬ m.hi.size ≤ 16 := fun c3 => hz ⟨c1, c2, c3⟩
          simp [c3]
        · simp [c2]
      · simp [c1]
    rw [hf]
    rcases (by omega : 16 < m.key.size ∨ 16 < m.val.size ∨ 16 < m.hi.size) with c | c | c
    all_goals
      have g0 := decide_eq_true (Int.ofNat_lt.2 c)
      refine V_flat (args := [.agg #[.int .i64 m.stamp, .int .i64 m.kind, .string m.key, .string m.hi, .bool m.opn, .string m.val]]) (M := Mem.no) Try.func18 rfl Try.ntmps18 (by rfl) (Mem.no_le _) ?_
      repeat' (first
        | refine VC_seq ?_
        | refine VC_region ?_
        | refine VL_nil ?_
        | refine VC_ret ?_
        | refine VC_exit ?_
        | refine VC_block ?_
        | refine VC_skip ?_
        | refine kbox ?_
        | refine kall ?_
        | refine kst ?_
        | refine ksN ?_
        | refine klt ?_
        | refine kl1 ?_
        | refine klK ?_
        | refine kap ?_
        | ((first | apply VL_q | apply VG_q | apply VS_q2); (first  | exact qmv (by rfl) | exact qas (by rfl) | exact ql1 (by rfl) | exact qlA (by rfl) | exact qfa (by rfl) | exact qmf (by rfl) | exact qfd (by rfl) | exact qm1 (by rfl) | exact qbd (by rfl) | exact qno (by rfl) | exact qex (by rfl) | exact qln (by rfl) | exact qls (by rfl) | exact qlr (by rfl) | exact qpt (by rfl) | exact qpf (by rfl) | exact qcp (by rfl) | exact qbe (by rfl) | exact qbn (by rfl) | exact qsn (by rfl) | exact qad (by rfl) | exact qsa (by rfl) | exact qsu (by rfl) | exact QS_bin (by rfl) (by rfl) (by first | exact B_slnil | exact Bq_eql_Span | exact Bq_neq_Span | exact Bq_eql_Eff | exact Bq_neq_Eff | exact Bq_eql_Msg | exact Bq_neq_Msg | exact Bq_eql_Pair | exact Bq_neq_Pair)); rfl)
        | refine sst ?_
        | refine VS_nil ?_
        | refine eeq ?_
        | refine ees ?_ (by first | exact es1 (by rfl) | exact esN (by rfl))
        | refine VE_nil ?_
        | refine kyes ?_
        | refine kno ?_
        | refine gyes ?_
        | refine gno ?_
        | refine knoU ?_
        | refine gnoU ?_
        | refine VG_nil ⟨by rfl, ?_⟩
        | refine VG_nil ?_
        | refine dT ?_
        | refine d1 ?_
        | refine dQ ?_
        | refine ctr ?_
        | refine cfa ?_
        | refine kdec (fun hq => ?_) (fun hq => ?_)
        | refine gdec (fun hq => ?_) (fun hq => ?_)
        | refine cco (fun hq => ?_) (fun hq => ?_))
      all_goals
        show Res _ _ _ _
        refine Res.one (by rfl) (ResV_tmp (by rfl) ?_)
        rfl
end Go.Proofs.Ytipbbbamjckjoaa
namespace Go.Proofs.Ytipbbbamjckjoaa
set_option linter.unusedVariables false
set_option maxRecDepth 20000
set_option linter.unusedSimpArgs false
def sumBy {α : Type} (f : α → Int) : List α → Int
  | [] => 0
  | a :: l => f a + sumBy f l
section
variable {α : Type} {f : α → Int}
theorem sumBy_app : ∀ (l m : List α), sumBy f (l ++ m) = sumBy f l + sumBy f m
  | [], m => by simp [sumBy]
  | a :: l, m => by simp only [List.cons_append, sumBy, sumBy_app l m]; omega
theorem sumBy_step {l : List α} {k : Nat} (h : k < l.length) : sumBy f (l.take (k + 1)) = sumBy f (l.take k) + f l[k] := by
  rw [List.take_succ_eq_append_getElem h, sumBy_app]; simp [sumBy]
theorem sumBy_nonneg : ∀ (l : List α), (∀ a ∈ l, 0 ≤ f a) → 0 ≤ sumBy f l
  | [], _ => by simp [sumBy]
  | a :: l, h => by
    have := sumBy_nonneg l (fun x hx => h x (by simp [hx]))
    have := h a (by simp)
    simp only [sumBy]; omega
theorem sumBy_take_le (l : List α) (h : ∀ a ∈ l, 0 ≤ f a) (k : Nat) : sumBy f (l.take k) ≤ sumBy f l := by
  have h1 := sumBy_app (f := f) (l.take k) (l.drop k)
  rw [List.take_append_drop] at h1
  have := sumBy_nonneg (f := f) (l.drop k) (fun a ha => h a (List.mem_of_mem_drop ha))
  omega
theorem sumBy_le (c : Int) : ∀ (l : List α), (∀ a ∈ l, f a ≤ c) → sumBy f l ≤ l.length * c
  | [], _ => by simp [sumBy]
  | a :: l, h => by
    have h1 := sumBy_le c l (fun x hx => h x (by simp [hx]))
    have h2 := h a (by simp)
    simp only [sumBy, List.length_cons]
    have : ((l.length + 1 : Nat) : Int) * c = (l.length : Int) * c + c := by rw [Int.natCast_add, Int.add_mul]; simp
    omega
theorem sumBy_mem (l : List α) (h : ∀ a ∈ l, 0 ≤ f a) {a : α} (ha : a ∈ l) : f a ≤ sumBy f l := by
  induction l with
  | nil => cases ha
  | cons b l ih =>
    have h1 := sumBy_nonneg (f := f) l (fun x hx => h x (by simp [hx]))
    have h2 := h b (by simp)
    simp only [sumBy]
    rcases List.mem_cons.1 ha with rfl | ha
    · omega
    · have := ih (fun x hx => h x (by simp [hx])) ha; omega
theorem sumBy_len (l : List α) (h : ∀ a ∈ l, 1 ≤ f a) : (l.length : Int) ≤ sumBy f l := by
  induction l with
  | nil => simp [sumBy]
  | cons b l ih =>
    have h2 := h b (by simp)
    have := ih (fun x hx => h x (by simp [hx]))
    simp only [sumBy, List.length_cons]; omega
end
def wtM (m : Msg) : Int := 1 + (m.key.size : Int) + (m.hi.size : Int) + (m.val.size : Int)
theorem wtM_pos (m : Msg) : 1 ≤ wtM m := by unfold wtM; omega
/-- Few messages: how many bytes their texts have at most. -/
theorem few_bounds {l : List Msg} {n : Int} (h : sumBy wtM l ≤ n) : (l.length : Int) ≤ n ∧ ∀ m ∈ l, (m.key.size : Int) ≤ n ∧ (m.hi.size : Int) ≤ n ∧ (m.val.size : Int) ≤ n := by
  have h1 := sumBy_len l (fun a _ => wtM_pos a)
  refine ⟨by omega, fun m hm => ?_⟩
  have h2 := sumBy_mem (f := wtM) l (fun a _ => by have := wtM_pos a; omega) hm
  have h3 : wtM m = 1 + (m.key.size : Int) + (m.hi.size : Int) + (m.val.size : Int) := rfl
  omega
def allM (l : List Msg) : Bool := l.all refRightM && (List.range l.length).all fun i => decide (i = 0 ∨ ((l[i - 1]?).map Msg.stamp).getD 0 < ((l[i]?).map Msg.stamp).getD 0)
def lastSt (l : List Msg) : Int := ((l.getLast?).map Msg.stamp).getD 0
def sizeL (l : List Msg) : Int := sumBy sizeM l
theorem sizeM_pos (m : Msg) : 0 ≤ sizeM m := by unfold sizeM; split <;> omega
theorem sizeM_le {m : Msg} {n : Int} (h1 : (m.key.size : Int) ≤ n) (h2 : (m.val.size : Int) ≤ n) (h0 : 0 ≤ n) : sizeM m ≤ 36 + 2 * n := by unfold sizeM; split <;> omega
end Go.Proofs.Ytipbbbamjckjoaa
