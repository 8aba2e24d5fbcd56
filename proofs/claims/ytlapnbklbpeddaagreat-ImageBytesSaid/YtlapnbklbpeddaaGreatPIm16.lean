/- An eye reads what was written (plain). -/
import Derived.Test.YtlapnbklbpeddaaGreatPIm15
namespace Go.Proofs.YtlapnbklbpeddaaGreat
open Go Go.RowKit
set_option linter.unusedVariables false
set_option maxRecDepth 20000
set_option linter.unusedSimpArgs false
theorem tk_app (a b : ByteArray) (k : Bool) {n : Nat} (h : a.size = n) : tkV (a ++ b) n = a ∧ tkS (a ++ b) n = b ∧ tkK (a ++ b) k n = k := by
  have hz : ¬ (a ++ b).size < n := by rw [size_app]; omega
  have hl : (bl a).length = n := by rw [bl_len]; exact h
  unfold tkV tkS tkK
  rw [if_neg hz, if_neg hz, if_neg hz]
  refine ⟨bl_inj ?_, bl_inj ?_, rfl⟩
  · rw [bl_ext, bl_app, List.drop_zero, List.take_append_of_le_length (by omega), List.take_of_length_le (by omega)]
  · rw [bl_ext, bl_app, List.take_of_length_le (by rw [← bl_app, bl_len]; exact Nat.le_refl _), List.drop_append_of_le_length (by omega), List.drop_of_length_le (by omega), List.nil_append]
theorem eN_back (n : Int) (h : I0 n) (r : ByteArray) (k : Bool) : eN (numB n ++ r, k) = (n, (r, k)) := by
  obtain ⟨h1, h2, h3⟩ := tk_app (numB n) r k (numB_size n)
  unfold eN
  dsimp only
  rw [h1, h2, h3]
  exact congrArg (fun x => (x, (r, k))) (num_back n h.1 h.2)
theorem eF_back (b : Bool) (r : ByteArray) (k : Bool) : eF (flgB b ++ r, k) = (b, (r, k)) := by
  obtain ⟨h1, h2, h3⟩ := tk_app (flgB b) r k (flgB_size b)
  unfold eF fgV
  dsimp only
  rw [h1, h2, h3]
  cases b <;> rfl
theorem eT_back (t : ByteArray) (h : t.size ≤ 255) (r : ByteArray) (k : Bool) : eT (textR t ++ r, k) = (t, (r, k)) := by
  have hb : bl (textR t ++ r) = b8 t.size :: (bl t ++ bl r) := by rw [bl_app, bl_textR]; rfl
  have h8 : (b8 (t.size : Int)).toNat = t.size := by
    unfold b8
    rw [show ((t.size : Int) % 256).toNat = t.size by omega, UInt8.toNat_ofNat']
    omega
  have hy : byt (textR t ++ r) 0 = (t.size : Int) := by
    rw [byt_bl, hb]
    show (((b8 (t.size : Int)).toNat : Nat) : Int) = _
    rw [h8]
  have hs : (textR t ++ r).size = 1 + t.size + r.size := by rw [size_app, size_textR]
  have hok : okT (textR t ++ r) = true := by
    unfold okT
    rw [hy, hs]
    simp only [Bool.and_eq_true, decide_eq_true_eq]
    omega
  have hh : hd1 (textR t ++ r) = 1 + t.size := by unfold hd1; rw [hy]; simp
  have e1 : (textR t ++ r).extract 1 (1 + t.size) = t := bl_inj (by
    rw [bl_ext, hb, Nat.add_comm 1, List.take_succ_cons, List.drop_succ_cons, List.drop_zero, List.take_append_of_le_length (by rw [bl_len]; exact Nat.le_refl _), List.take_of_length_le (by rw [bl_len]; exact Nat.le_refl _)])
  have e2 : (textR t ++ r).extract (1 + t.size) (textR t ++ r).size = r := bl_inj (by
    rw [bl_ext, List.take_of_length_le (by rw [bl_len]; exact Nat.le_refl _), hb, Nat.add_comm 1, List.drop_succ_cons, List.drop_append_of_le_length (by rw [bl_len]; exact Nat.le_refl _), List.drop_of_length_le (by rw [bl_len]; exact Nat.le_refl _), List.nil_append])
  unfold eT takeT
  dsimp only
  rw [if_pos hok, hh, e1, e2]
  dsimp only
  rw [Bool.and_true]
theorem eC_back (n : Nat) (r : ByteArray) (k : Bool) (h : n ≤ r.size) (h2 : n ≤ 1000000000) : eC (numB n ++ r, k) = (n, (r, k)) := by
  obtain ⟨h1, h2, h3⟩ := tk_app (numB n) r k (numB_size n)
  have h4 : numV (bl (numB n)) = (n : Int) := num_back n (by omega) (by omega)
  have hb : ctB (numB n ++ r) = false := by
    unfold ctB
    rw [h1, h2, h4, Bool.or_eq_false_iff, decide_eq_false_iff_not, decide_eq_false_iff_not]
    omega
  unfold eC ctV ctS ctK
  dsimp only
  rw [hb, h1, h2, h3, h4]
  simp
theorem eR_back {α : Type} (f : Ey → α × Ey) (g : α → ByteArray) (k : Bool) : ∀ (l : List α) (r : ByteArray), (∀ a ∈ l, ∀ r, f (g a ++ r, k) = (a, (r, k))) → eR f l.length (catB g l ++ r, k) = (l, (r, k))
  | [], r, _ => by
    show ([], (em ++ r, k)) = _
    rw [nil_ba]
  | a :: l, r, h => by
    have h1 := h a (by simp) (catB g l ++ r)
    have h2 := eR_back f g k l r (fun x hx => h x (by simp [hx]))
    show ((f ((g a ++ catB g l) ++ r, k)).1 :: (eR f l.length (f ((g a ++ catB g l) ++ r, k)).2).1, (eR f l.length (f ((g a ++ catB g l) ++ r, k)).2).2) = _
    rw [ba_assoc, h1]
    dsimp only
    rw [h2]
theorem catB_ge {α : Type} (f : α → ByteArray) : ∀ l : List α, (∀ a ∈ l, 1 ≤ (f a).size) → l.length ≤ (catB f l).size
  | [], _ => Nat.zero_le _
  | a :: l, h => by
    have h1 := catB_ge f l (fun x hx => h x (by simp [hx]))
    have h2 := h a (by simp)
    show l.length + 1 ≤ (f a ++ catB f l).size
    rw [size_app]; omega
theorem eM_back {m : Msg} (h : MsgFit m) (r : ByteArray) (k : Bool) : eM (msgB m ++ r, k) = (m, (r, k)) := by
  have h1 := h.key
  have h2 := h.hi
  have h3 := h.val
  unfold msgB eM
  simp only [ba_assoc]
  rw [eN_back _ h.stamp]
  dsimp only
  rw [eN_back _ h.kind]
  dsimp only
  rw [eT_back _ (by omega)]
  dsimp only
  rw [eF_back]
  dsimp only
  rw [eT_back _ (by omega)]
  dsimp only
  rw [eT_back _ (by omega)]
theorem eP_back {p : Pair} (h : PairFit p) (r : ByteArray) (k : Bool) : eP (pairB p ++ r, k) = (p, (r, k)) := by
  have h1 := h.key
  have h3 := h.val
  unfold pairB eP
  simp only [ba_assoc]
  rw [eT_back _ (by omega)]
  dsimp only
  rw [eT_back _ (by omega)]
theorem eA_back {n : Nd} (h : NdFit n) (slot : Int) (pv kv mv rv : Value) (r : ByteArray) (k : Bool) : eA slot (nodeB n ++ r, k) pv kv mv rv = (⟨slot, n.level, pv, n.ps, kv, n.ks, n.high, n.top, n.right, n.seen, mv, n.ms, rv, n.rs⟩, (r, k)) := by
  have h1 := h.high
  have h2 := h.right
  have l1 := h.psn
  have l2 := h.ksn
  have l3 := h.msn
  have l4 := h.rsn
  have g1 := catB_ge textR n.ps (fun s hs => by rw [size_textR]; omega)
  have g2 := catB_ge numB n.ks (fun s hs => by rw [numB_size]; omega)
  have g3 := catB_ge msgB n.ms (fun m hm => by unfold msgB; simp only [size_app, numB_size]; omega)
  have g4 := catB_ge pairB n.rs (fun m hm => by unfold pairB; simp only [size_app, size_textR]; omega)
  unfold nodeB headB eA
  simp only [ba_assoc]
  rw [eN_back _ h.level]
  dsimp only
  rw [eN_back _ h.seen]
  dsimp only
  rw [eN_back _ ⟨by omega, by omega⟩]
  dsimp only
  rw [eF_back]
  dsimp only
  rw [eT_back _ (by omega)]
  dsimp only
  rw [eC_back _ _ _ (by rw [size_app]; omega) (by omega)]
  dsimp only
  rw [eR_back eT textR k n.ps _ (fun a ha r => eT_back a (by have := h.ps a ha; omega) r k)]
  dsimp only
  rw [eC_back _ _ _ (by rw [size_app]; omega) (by omega)]
  dsimp only
  rw [eR_back eN numB k n.ks _ (fun a ha r => eN_back a (h.ks a ha) r k)]
  dsimp only
  rw [eC_back _ _ _ (by rw [size_app]; omega) (by omega)]
  dsimp only
  rw [eR_back eM msgB k n.ms _ (fun a ha r => eM_back (h.ms a ha) r k)]
  dsimp only
  rw [eC_back _ _ _ (by rw [size_app]; omega) (by omega)]
  dsimp only
  rw [eR_back eP pairB k n.rs _ (fun a ha r => eP_back (h.rs a ha) r k)]
  dsimp only
  rw [wrap64 (by omega) (by omega), show n.right + 1 - 1 = n.right by omega]
/-! A whole image. -/
def eG (e : Ey) : Cfg × Ey :=
  let a := eN e; let b := eN a.2; let c := eN b.2; let d := eN c.2; let r := eN d.2
  (⟨a.1, b.1, c.1, d.1, r.1⟩, r.2)
/-- Up to r nodes, from slot i on, while the eye is well. -/
def eL : Nat → Nat → Ey → List Nd × Ey
  | 0, _, e => ([], e)
  | r + 1, i, e => if e.2 = true then ((eA i e nil0 nil0 nil0 nil0).1 :: (eL r (i + 1) (eA i e nil0 nil0 nil0 nil0).2).1, (eL r (i + 1) (eA i e nil0 nil0 nil0 nil0).2).2) else ([], e)
def rd0 (s : ByteArray) : Ey := cutP s markB
def rdC (s : ByteArray) : Cfg × Ey := eG (rd0 s)
def rdN (s : ByteArray) : Nat × Ey := eC (rdC s).2
def rdL (s : ByteArray) : List Nd × Ey := eL (rdN s).1 0 (rdN s).2
/-- Is s an image? -/
def rdB (s : ByteArray) : Bool := (rdL s).2.2 && okC (rdC s).1 && placedB (rdL s).1 && soundR (rdC s).1 (rdL s).1 && decide (imgB (rdC s).1 (rdL s).1 = s)
theorem eG_back {c : Cfg} (hc : okC c = true) (r : ByteArray) (k : Bool) : eG (numB c.fanout ++ (numB c.leaf ++ (numB c.budget ++ (numB c.slots ++ (numB c.restarts ++ r)))), k) = (c, (r, k)) := by
  have hb := okC_bounds hc
  unfold eG
  rw [eN_back _ ⟨by omega, by omega⟩]
  dsimp only
  rw [eN_back _ ⟨by omega, by omega⟩]
  dsimp only
  rw [eN_back _ ⟨by omega, by omega⟩]
  dsimp only
  rw [eN_back _ ⟨by omega, by omega⟩]
  dsimp only
  rw [eN_back _ ⟨by omega, by omega⟩]
theorem eL_back (r : ByteArray) : ∀ (l : List Nd) (i : Nat), (∀ a ∈ l, NdFit a) → (∀ j (h : j < l.length), l[j].slot = ((i + j : Nat) : Int)) → eL l.length i (catB nodeB l ++ r, true) = (l.map strip, (r, true))
  | [], i, _, _ => by
    show ([], (em ++ r, true)) = _
    rw [nil_ba]; rfl
  | a :: l, i, h, hs => by
    have h0 := hs 0 (by simp)
    have e1 : eA i (nodeB a ++ (catB nodeB l ++ r), true) nil0 nil0 nil0 nil0 = (strip a, (catB nodeB l ++ r, true)) := by
      rw [eA_back (h a (by simp))]
      have h0' : a.slot = (i : Int) := h0
      unfold strip
      rw [h0']
    have h2 := eL_back r l (i + 1) (fun x hx => h x (by simp [hx])) (fun j hj => by
      have h3 : l[j].slot = ((i + (j + 1) : Nat) : Int) := hs (j + 1) (by simp; omega)
      rw [h3]; omega)
    have e0 : catB nodeB (a :: l) ++ r = nodeB a ++ (catB nodeB l ++ r) := ba_assoc _ _ _
    show eL (l.length + 1) i (catB nodeB (a :: l) ++ r, true) = _
    rw [e0, eL, if_pos rfl, e1]
    dsimp only
    rw [h2]; rfl
theorem nodeB_pos (n : Nd) : 1 ≤ (nodeB n).size := by
  unfold nodeB headB
  simp only [size_app, numB_size]; omega
theorem cut_app (p r : ByteArray) : cutP (p ++ r) p = (r, true) := by
  have hl : (bl p).length = p.size := bl_len p
  have e1 : (p ++ r).extract 0 p.size = p := bl_inj (by
    rw [bl_ext, bl_app, List.drop_zero, List.take_append_of_le_length (by omega), List.take_of_length_le (by omega)])
  have e2 : (p ++ r).extract p.size (p ++ r).size = r := bl_inj (by
    rw [bl_ext, bl_app, List.take_of_length_le (by rw [← bl_app, bl_len]; exact Nat.le_refl _), List.drop_append_of_le_length (by omega), List.drop_of_length_le (by omega), List.nil_append])
  unfold cutP hasP
  rw [e1, if_pos (by simp [size_app]), e2]
theorem rd_back {c : Cfg} {l : List Nd} (hc : okC c = true) (hp : placedB l = true) (hs : soundR c l = true) (hn : l.length ≤ 4096) (hf : ∀ a ∈ l, NdFit a) :
    rdC (imgB c l) = (c, (numB l.length ++ catB nodeB l, true)) ∧ rdL (imgB c l) = (l.map strip, (em, true)) ∧ rdB (imgB c l) = true := by
  have h0 : rd0 (imgB c l) = (numB c.fanout ++ (numB c.leaf ++ (numB c.budget ++ (numB c.slots ++ (numB c.restarts ++ (numB l.length ++ catB nodeB l))))), true) := by
    unfold rd0 imgB cfgB
    rw [ba_assoc markB, cut_app]
    simp only [ba_assoc]
  have h1 : rdC (imgB c l) = (c, (numB l.length ++ catB nodeB l, true)) := by
    unfold rdC
    rw [h0]
    exact eG_back hc _ _
  have g := catB_ge nodeB l (fun a _ => nodeB_pos a)
  have h2 : rdN (imgB c l) = (l.length, (catB nodeB l, true)) := by
    unfold rdN
    rw [h1]
    exact eC_back _ _ _ g (by omega)
  have h3 : rdL (imgB c l) = (l.map strip, (em, true)) := by
    unfold rdL
    rw [h2]
    have h4 := eL_back em l 0 hf (fun j hj => by
      have h5 := of_decide_eq_true hp j hj
      rw [Nat.zero_add]; exact h5)
    rw [ba_nil] at h4
    exact h4
  refine ⟨h1, h3, ?_⟩
  unfold rdB
  rw [h1, h3]
  dsimp only
  rw [placedB_strip, soundR_strip, imgB_strip, hc, hp, hs]
  simp
end Go.Proofs.YtlapnbklbpeddaaGreat
