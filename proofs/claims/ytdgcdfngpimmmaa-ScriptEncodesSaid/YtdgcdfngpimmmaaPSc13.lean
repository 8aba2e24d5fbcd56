/- Entries as bytes and back: plain Lean, no program in sight. -/
import Derived.Test.YtdgcdfngpimmmaaPSc12
namespace Go.Proofs.Ytdgcdfngpimmmaa
open Go Go.RowKit
set_option linter.unusedVariables false
set_option maxRecDepth 20000
set_option linter.unusedSimpArgs false
theorem ofO_em : (ofO em).1 = opE := ofO_bad (by rfl)
attribute [local irreducible] takeT ofO textR b1 r1
def encR : List Ent → ByteArray
  | [] => em
  | e :: l => textR (bodyE e) ++ encR l
theorem bl_encR : ∀ l : List Ent, bl (encR l) = l.flatMap fun e => bl (textR (bodyE e))
  | [] => rfl
  | e :: l => by unfold encR; rw [bl_app, List.flatMap_cons, bl_encR l]
theorem encR_step {l : List Ent} {k : Nat} (h : k < l.length) : encR (l.take k) ++ textR (bodyE l[k]) = encR (l.take (k + 1)) := bl_inj (by
  rw [bl_app, bl_encR, bl_encR, List.take_succ_eq_append_getElem h, List.flatMap_append]
  simp only [List.flatMap_cons, List.flatMap_nil, List.append_nil])
theorem size_encR : ∀ (l : List Ent) (n : Nat), (∀ e ∈ l, (bodyE e).size ≤ n) → (encR l).size ≤ l.length * (n + 1)
  | [], n, _ => by simp [encR]; rfl
  | e :: l, n, h => by
    have h1 := h e (by simp)
    have h2 := size_encR l n (fun x hx => h x (by simp [hx]))
    unfold encR
    rw [size_app, size_textR, List.length_cons, Nat.add_mul]
    omega
theorem bodiesF_cons {s r : ByteArray} (h : s.size ≤ 255) : bodiesF (textR s ++ r) = s :: bodiesF r := by
  have ht : takeT (textR s ++ r) = (s, r, true) := takeT_text (bl_app _ _) h
  have ho : okT (textR s ++ r) = true := by rw [← takeT_ok, ht]
  rw [bodiesF_ok ho, ht]
theorem bodiesF_enc : ∀ l : List Ent, (∀ e ∈ l, (bodyE e).size ≤ 255) → bodiesF (encR l) = l.map bodyE
  | [], _ => by
    have ho : okT em = false := rfl
    unfold encR
    rw [bodiesF_no ho]; rfl
  | e :: l, h => by
    unfold encR
    rw [bodiesF_cons (h e (by simp)), bodiesF_enc l (fun x hx => h x (by simp [hx])), List.map_cons]
theorem right_parts {o : Op} (h : rightO o = true) : (valuedO o = true ∨ o.val = em) ∧ (o.opn = true → o.hi = em) ∧ (rangedO o = false → o.hi = em ∧ o.opn = false) ∧ (o.kind = 6 → 1 ≤ o.limit ∧ o.limit ≤ 64) ∧ (o.kind ≠ 6 → o.limit = 0) := by
  unfold rightO at h
  simp only [Bool.and_eq_true, Bool.or_eq_true, decide_eq_true_eq, Bool.not_eq_true'] at h
  obtain ⟨⟨⟨⟨_, hv⟩, ho⟩, hr⟩, hl⟩ := h
  refine ⟨hv, fun e => ?_, fun e => ?_, fun e => ?_, fun e => ?_⟩
  · rcases ho with h | h
    · rw [e] at h; cases h
    · exact h
  · rw [if_neg (by rw [e]; simp)] at hr
    simpa using hr
  · rw [if_pos e] at hl
    simpa using hl
  · rw [if_neg e] at hl
    simpa using hl
theorem byte_b8 {n : Int} (h0 : 0 ≤ n) (h1 : n ≤ 255) : ((b8 n).toNat : Int) = n := by
  unfold b8
  have : (n % 256).toNat = n.toNat := by omega
  rw [this]
  simp
  omega
theorem b1_cons {s : ByteArray} {n : Int} {l : List UInt8} (h : bl s = b8 n :: l) (h0 : 0 ≤ n) (h1 : n ≤ 255) : b1 s = n := by rw [b1_bl h, byte_b8 h0 h1]
theorem r1_eq {s r : ByteArray} {x : UInt8} (h : bl s = x :: bl r) : r1 s = r := bl_inj (r1_bl h)
theorem fin_yes {o : Op} (h : rightO o = true) : fin o em true = (o, true) := by
  unfold fin
  rw [h]; rfl
theorem size_ne {s : ByteArray} {x : UInt8} {l : List UInt8} (h : bl s = x :: l) : decide (s.size = 0) = false := decide_eq_false (by rw [← bl_len, h]; simp)
theorem ofO_bytes {o : Op} (h : rightO o = true) : ofO (bytesO o) = (o, true) := by
  obtain ⟨z1, z2, z3, k1, k6⟩ := rightO_small h
  obtain ⟨pv, po, pr, pl, pn⟩ := right_parts h
  obtain ⟨kind, key, hi, opn, val, limit⟩ := o
  dsimp only at *
  cases hv : valuedO ⟨kind, key, hi, opn, val, limit⟩ with
  | true =>
    have hkk : kind = 1 ∨ kind = 2 := by
      unfold valuedO at hv
      simpa using hv
    have hg : rangedO ⟨kind, key, hi, opn, val, limit⟩ = false := by
      unfold rangedO
      rcases hkk with h | h <;> rw [h] <;> rfl
    obtain ⟨rfl, rfl⟩ := pr hg
    obtain rfl := pn (by omega)
    have hs : bl (bytesO ⟨kind, key, em, false, val, 0⟩) = b8 kind :: bl (textR key ++ textR val) := by
      unfold bytesO
      rw [hg]
      dsimp only
      rw [if_neg (show ¬ kind = 6 by omega), if_neg (show ¬ (false = true) by simp), if_pos (show kind ≤ 2 by omega), bl_app, bl_app, bl_one, bl_app]
      simp
    generalize bytesO ⟨kind, key, em, false, val, 0⟩ = s at *
    have e1 := b1_cons hs (by omega) (by omega)
    have e2 := r1_eq hs
    have e3 : takeT (textR key ++ textR val) = (key, textR val, true) := takeT_text (bl_app _ _) (by omega)
    have e4 : takeT (textR val) = (val, em, true) := takeT_text (by rw [bl_em, List.append_nil]) (by omega)
    unfold ofO
    rw [e1, e2, e3]
    dsimp only
    rw [e4, size_ne hs, if_pos (by rcases hkk with h | h <;> rw [h] <;> rfl)]
    exact fin_yes h
  | false =>
    have hkk : ¬ (kind = 1 ∨ kind = 2) := fun e => by
      unfold valuedO at hv
      rcases e with e | e <;> rw [e] at hv <;> cases hv
    have hk2 : ¬ kind ≤ 2 := by omega
    have hk12 : ¬ ((kind == 1 || kind == 2) = true) := by simp; omega
    have hval : val = em := by
      rcases pv with e | e
      · rw [hv] at e; cases e
      · exact e
    subst hval
    cases hg : rangedO ⟨kind, key, hi, opn, em, limit⟩ with
    | false =>
      obtain ⟨rfl, rfl⟩ := pr hg
      have h6 : ¬ kind = 6 := fun e => by rw [e] at hg; cases hg
      have h4 : ¬ kind = 4 := fun e => by rw [e] at hg; cases hg
      obtain rfl := pn h6
      have hs : bl (bytesO ⟨kind, key, em, false, em, 0⟩) = b8 kind :: bl (textR key) := by
        unfold bytesO
        rw [hg]
        dsimp only
        rw [if_neg h6, if_neg (show ¬ (false = true) by simp), if_neg hk2, bl_app, bl_one]
        simp
      generalize bytesO ⟨kind, key, em, false, em, 0⟩ = s at *
      have e1 := b1_cons hs (by omega) (by omega)
      have e2 := r1_eq hs
      have e3 : takeT (textR key) = (key, em, true) := takeT_text (by rw [bl_em, List.append_nil]) (by omega)
      unfold ofO
      rw [e1, e2, e3, size_ne hs, if_neg hk12, if_neg h4, if_neg h6]
      exact fin_yes h
    | true =>
      have hk : kind = 4 ∨ kind = 6 := by
        unfold rangedO at hg
        simpa using hg
      cases opn with
      | true =>
        obtain rfl := po rfl
        rcases hk with rfl | rfl
        · obtain rfl := pn (by omega)
          have hs : bl (bytesO ⟨4, key, em, true, em, 0⟩) = b8 4 :: bl (textR key ++ ⟨#[1]⟩) := by
            unfold bytesO
            rw [hg]
            dsimp only
            rw [if_neg (show ¬ (4 : Int) = 6 by omega), if_pos (show true = true from rfl), if_pos (show true = true from rfl), if_neg (show ¬ (4 : Int) ≤ 2 by omega), bl_app, bl_app, bl_app, bl_one, bl_one]
            simp
          generalize bytesO ⟨4, key, em, true, em, 0⟩ = s at *
          have e1 := b1_cons hs (by omega) (by omega)
          have e2 := r1_eq hs
          have e3 : takeT (textR key ++ ⟨#[1]⟩) = (key, ⟨#[1]⟩, true) := takeT_text (bl_app _ _) (by omega)
          have hb : bl (⟨#[1]⟩ : ByteArray) = b8 1 :: bl em := rfl
          have e4 := b1_cons hb (by omega) (by omega)
          have e5 := r1_eq hb
          unfold ofO
          rw [e1, e2, e3, size_ne hs]
          dsimp only
          rw [e4, e5, size_ne hb, if_neg (by decide), if_pos rfl, if_neg (by decide), if_pos rfl]
          exact fin_yes h
        · obtain ⟨l1, l2⟩ := pl rfl
          have hs : bl (bytesO ⟨6, key, em, true, em, limit⟩) = b8 6 :: bl (textR key ++ ⟨#[1, b8 limit]⟩) := by
            unfold bytesO
            rw [hg]
            dsimp only
            rw [if_pos rfl, if_pos (show true = true from rfl), if_pos (show true = true from rfl), if_neg (show ¬ (6 : Int) ≤ 2 by omega), bl_app, bl_app, bl_app, bl_app, bl_one, bl_one, bl_one]
            simp [bl]
          generalize bytesO ⟨6, key, em, true, em, limit⟩ = s at *
          have e1 := b1_cons hs (by omega) (by omega)
          have e2 := r1_eq hs
          have e3 : takeT (textR key ++ ⟨#[1, b8 limit]⟩) = (key, ⟨#[1, b8 limit]⟩, true) := takeT_text (bl_app _ _) (by omega)
          have hb : bl (⟨#[1, b8 limit]⟩ : ByteArray) = b8 1 :: bl ⟨#[b8 limit]⟩ := rfl
          have e4 := b1_cons hb (by omega) (by omega)
          have e5 := r1_eq hb
          have hc : bl (⟨#[b8 limit]⟩ : ByteArray) = b8 limit :: bl em := rfl
          have e6 := b1_cons hc (by omega) (by omega)
          have e7 := r1_eq hc
          unfold ofO
          rw [e1, e2, e3, size_ne hs]
          dsimp only
          rw [e4, e5, size_ne hb, e6, e7, size_ne hc, if_neg (by decide), if_neg (by decide), if_pos rfl, if_neg (by decide), if_pos rfl]
          exact fin_yes h
      | false =>
        rcases hk with rfl | rfl
        · obtain rfl := pn (by omega)
          have hs : bl (bytesO ⟨4, key, hi, false, em, 0⟩) = b8 4 :: bl (textR key ++ (⟨#[0]⟩ ++ textR hi)) := by
            unfold bytesO
            rw [hg]
            dsimp only
            rw [if_neg (show ¬ (4 : Int) = 6 by omega), if_pos (show true = true from rfl), if_neg (show ¬ (false = true) by simp), if_neg (show ¬ (4 : Int) ≤ 2 by omega), bl_app, bl_app, bl_app, bl_app, bl_one, bl_one]
            simp
          generalize bytesO ⟨4, key, hi, false, em, 0⟩ = s at *
          have e1 := b1_cons hs (by omega) (by omega)
          have e2 := r1_eq hs
          have e3 : takeT (textR key ++ (⟨#[0]⟩ ++ textR hi)) = (key, ⟨#[0]⟩ ++ textR hi, true) := takeT_text (bl_app _ _) (by omega)
          have hb : bl ((⟨#[0]⟩ : ByteArray) ++ textR hi) = b8 0 :: bl (textR hi) := by rw [bl_app]; rfl
          have e4 := b1_cons hb (by omega) (by omega)
          have e5 := r1_eq hb
          have e6 : takeT (textR hi) = (hi, em, true) := takeT_text (by rw [bl_em, List.append_nil]) (by omega)
          unfold ofO
          rw [e1, e2, e3, size_ne hs]
          dsimp only
          rw [e4, e5, size_ne hb, e6, if_neg (by decide), if_pos rfl, if_pos rfl]
          exact fin_yes h
        · obtain ⟨l1, l2⟩ := pl rfl
          have hs : bl (bytesO ⟨6, key, hi, false, em, limit⟩) = b8 6 :: bl (textR key ++ (⟨#[0]⟩ ++ (textR hi ++ ⟨#[b8 limit]⟩))) := by
            unfold bytesO
            rw [hg]
            dsimp only
            rw [if_pos rfl, if_pos (show true = true from rfl), if_neg (show ¬ (false = true) by simp), if_neg (show ¬ (6 : Int) ≤ 2 by omega), bl_app, bl_app, bl_app, bl_app, bl_app, bl_app, bl_app, bl_one, bl_one, bl_one]
            simp
          generalize bytesO ⟨6, key, hi, false, em, limit⟩ = s at *
          have e1 := b1_cons hs (by omega) (by omega)
          have e2 := r1_eq hs
          have e3 : takeT (textR key ++ (⟨#[0]⟩ ++ (textR hi ++ ⟨#[b8 limit]⟩))) = (key, ⟨#[0]⟩ ++ (textR hi ++ ⟨#[b8 limit]⟩), true) := takeT_text (bl_app _ _) (by omega)
          have hb : bl ((⟨#[0]⟩ : ByteArray) ++ (textR hi ++ ⟨#[b8 limit]⟩)) = b8 0 :: bl (textR hi ++ ⟨#[b8 limit]⟩) := by rw [bl_app]; rfl
          have e4 := b1_cons hb (by omega) (by omega)
          have e5 := r1_eq hb
          have e6 : takeT (textR hi ++ ⟨#[b8 limit]⟩) = (hi, ⟨#[b8 limit]⟩, true) := takeT_text (bl_app _ _) (by omega)
          have hc : bl (⟨#[b8 limit]⟩ : ByteArray) = b8 limit :: bl em := rfl
          have e7 := b1_cons hc (by omega) (by omega)
          have e8 := r1_eq hc
          unfold ofO
          rw [e1, e2, e3, size_ne hs]
          dsimp only
          rw [e4, e5, size_ne hb, e6]
          dsimp only
          rw [e7, e8, size_ne hc, if_neg (by decide), if_neg (by decide), if_pos rfl, if_pos rfl]
          exact fin_yes h
theorem bodyE_size {e : Ent} (h : rightE e = true) : (bodyE e).size ≤ 255 := by
  unfold bodyE
  unfold rightE at h
  by_cases hk : e.kind = 1
  · rw [if_pos hk] at h ⊢
    by_cases he : eqv e.o opE = true
    · rw [if_pos he]; show 2 ≤ 255; omega
    · rw [if_neg he]
      simp only [Bool.and_eq_true, Bool.or_eq_true] at h
      have := rightO_small (h.2.resolve_left he)
      have := size_bytesO e.o
      rw [size_app, sz2]; omega
  · rw [if_neg hk] at h ⊢
    simp only [Bool.and_eq_true, decide_eq_true_eq] at h
    rw [size_pkB]
    have := h.1.2
    omega
theorem entS_body {e : Ent} (h : rightE e = true) : entS (bodyE e) = e.st := by
  have hsz := bodyE_size h
  unfold rightE at h
  rw [entS_eq]
  by_cases hk : e.kind = 1
  · rw [if_pos hk] at h
    simp only [Bool.and_eq_true, Bool.or_eq_true, decide_eq_true_eq] at h
    obtain ⟨⟨⟨c0, c1⟩, hp⟩, ho⟩ := h
    have hps : e.ps = [] := List.length_eq_zero_iff.1 hp
    have hb : ∃ r : ByteArray, bl (bodyE e) = 1 :: b8 e.client :: bl r ∧ (ofO r).1 = e.o := by
      unfold bodyE
      rw [if_pos hk]
      by_cases he : eqv e.o opE = true
      · rw [if_pos he]
        exact ⟨em, rfl, by rw [ofO_em]; exact (of_decide_eq_true he).symm⟩
      · rw [if_neg he]
        exact ⟨bytesO e.o, by rw [bl_app]; rfl, by rw [ofO_bytes (ho.resolve_left he)]⟩
    obtain ⟨r, hr, hro⟩ := hb
    have hz : 1 < (bodyE e).size := by rw [← bl_len, hr]; simp
    have hb0 : byt (bodyE e) 0 = 1 := by rw [byt_bl, hr]; rfl
    have hb1 : byt (bodyE e) 1 = e.client := by rw [byt_bl, hr]; exact byte_b8 c0 c1
    have hex : (bodyE e).extract 2 (bodyE e).size = r := bl_inj (by
      rw [bl_ext, List.take_of_length_le (by rw [bl_len]; exact Nat.le_refl _), hr]; rfl)
    rw [if_pos ⟨hz, hb0⟩, hb1, hex, hro, ← hk, ← hps]
  · rw [if_neg hk] at h
    simp only [Bool.and_eq_true, decide_eq_true_eq] at h
    obtain ⟨⟨⟨⟨h2, hc⟩, ho⟩, hl⟩, hall⟩ := h
    have hbe : bodyE e = pkB e.ps := by unfold bodyE; rw [if_neg hk]
    rw [hbe]
    have hb0 : byt (pkB e.ps) 0 = 2 := by rw [byt_bl, bl_pkB]; rfl
    have hz : 0 < (pkB e.ps).size := by rw [size_pkB]; omega
    have hpk : picksB (pkB e.ps) = e.ps := by
      unfold picksB
      rw [bl_pkB]
      show (e.ps.map b8).map _ = e.ps
      rw [List.map_map]
      conv => rhs; rw [← List.map_id e.ps]
      apply List.map_congr_left
      intro n hn
      have := List.all_eq_true.1 hall n hn
      unfold byteI at this
      simp only [Bool.and_eq_true, decide_eq_true_eq] at this
      exact byte_b8 this.1 this.2
    have hoe : e.o = opE := of_decide_eq_true ho
    rw [if_neg (fun hh => by rw [hb0] at hh; exact absurd hh.2 (by decide)), if_pos ⟨hz, hb0⟩, hpk, ← h2, ← hoe]
    show _ = (e.kind, e.client, e.o, e.ps)
    rw [hc]
theorem decode_enc {l : List Ent} (h : l.all rightE = true) : (bodiesF (encR l)).map entS = l.map Ent.st := by
  rw [List.all_eq_true] at h
  rw [bodiesF_enc l (fun e he => bodyE_size (h e he)), List.map_map]
  exact List.map_congr_left fun e he => entS_body (h e he)
end Go.Proofs.Ytdgcdfngpimmmaa
