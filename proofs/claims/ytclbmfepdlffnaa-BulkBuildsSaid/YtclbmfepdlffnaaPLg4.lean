/- The logic's rule for drawn regions whose effects yield what is known by a name alone: named rows, memory that a call has laid. No program in sight. -/
import Derived.Test.YtclbmfepdlffnaaPLg3
namespace Go.Proofs.Ytclbmfepdlffnaa
open Go Go.RowKit
set_option linter.unusedVariables false
set_option maxRecDepth 20000
set_option linter.unusedSimpArgs false
section
variable {P : Program} {w : World} {M0 : Mem} {N : Nat}
/-- An effect whose result is one of a family. -/
structure EX (P : Program) (w : World) (M0 : Mem) (N : Nat) (ops : Array Oper) (o : Oper) (s : St) (ι : Type) (M' : ι → Mem) (own' : ι → List Ob) (sv : ι → SV) : Prop where
  go : ∀ hd a W, Rel w M0 N hd s a W → if Region.wanted o (yielded ops a.tmps) = true then EffRun P (fun u W' => ∃ (x : ι) (hd' : Nat → Value), (∀ i, i < s.own.length → hd' i = hd i) ∧ Wd w M0 hd' (M' x) (own' x) W' ∧ u = (sv x).den hd') ((execOp a.eval o).run P W)
    else ∃ (x : ι) (hd' : Nat → Value), (∀ i, i < s.own.length → hd' i = hd i) ∧ Wd w M0 hd' (M' x) (own' x) W ∧ undef = (sv x).den hd'
  len : ∀ x, s.own.length ≤ (own' x).length
  ok : ∀ x, (sv x).okB (own' x).length = true
/-- The effects, in every order in which they may come. -/
def VF (P : Program) (w : World) (M0 : Mem) (N : Nat) (gs : List Nat) (n0 : Nat) (l : List Oper) : Nat → List Nat → St → (St → Prop) → Prop
  | 0, rem, s, Q => rem = [] → Q s
  | n + 1, rem, s, Q => (rem = [] → Q s) ∧ ∀ i ∈ rem.filter (rdy l rem), ∀ o, l[i]? = some o → ∃ (ι : Type) (M' : ι → Mem) (own' : ι → List Ob) (sv : ι → SV), EX P w M0 N l.toArray o s ι M' own' sv ∧ dstOk N o.dst = true ∧ ∀ x, s.M.le (M' x) ∧ (goneAt gs (own' x)).take n0 = (goneAt gs s.own).take n0 ∧ VF P w M0 N gs n0 l n (rem.erase i) ⟨M' x, own' x, s.env.put o.dst (sv x)⟩ Q
theorem VF.fin {gs : List Nat} {n0 : Nat} {l : List Oper} {s : St} {Q : St → Prop} : ∀ {n : Nat}, VF P w M0 N gs n0 l n [] s Q → Q s
  | 0, h => h rfl
  | n + 1, h => h.1 rfl
theorem VF_done {gs : List Nat} {n0 : Nat} {l : List Oper} {s : St} {Q : St → Prop} {n : Nat} (h : Q s) : VF P w M0 N gs n0 l n [] s Q := by
  cases n with
  | zero => exact fun _ => h
  | succ n => exact ⟨fun _ => h, fun i hi => by simp at hi⟩
structure VFs (P : Program) (w : World) (M0 : Mem) (N : Nat) (gs : List Nat) (n0 : Nat) (l : List Oper) (n : Nat) (rem ks : List Nat) (s : St) (Q : St → Prop) : Prop where
  go : ∀ i ∈ ks, ∀ o, l[i]? = some o → ∃ (ι : Type) (M' : ι → Mem) (own' : ι → List Ob) (sv : ι → SV), EX P w M0 N l.toArray o s ι M' own' sv ∧ dstOk N o.dst = true ∧ ∀ x, s.M.le (M' x) ∧ (goneAt gs (own' x)).take n0 = (goneAt gs s.own).take n0 ∧ VF P w M0 N gs n0 l n (rem.erase i) ⟨M' x, own' x, s.env.put o.dst (sv x)⟩ Q
theorem VF_step {gs : List Nat} {n0 : Nat} {l : List Oper} {s : St} {Q : St → Prop} {n k : Nat} {rem : List Nat} (h : VFs P w M0 N gs n0 l n (k :: rem) ((k :: rem).filter (rdy l (k :: rem))) s Q) : VF P w M0 N gs n0 l (n + 1) (k :: rem) s Q := ⟨fun e => (by cases e), h.go⟩
theorem VFs_nil {gs : List Nat} {n0 : Nat} {l : List Oper} {s : St} {Q : St → Prop} {n : Nat} {rem : List Nat} : VFs P w M0 N gs n0 l n rem [] s Q := ⟨fun i hi => by simp at hi⟩
theorem VFs_x {gs : List Nat} {n0 : Nat} {l : List Oper} {M : Mem} {own : List Ob} {env : Env} {Q : St → Prop} {n i : Nat} {rem ks : List Nat} {o : Oper} (ι : Type) (M' : ι → Mem) (own' : ι → List Ob) (sv : ι → SV) (ho : l[i]? = some o) (he : EX P w M0 N l.toArray o ⟨M, own, env⟩ ι M' own' sv) (hk : dstOk N o.dst = true)
    (h : ∀ x, M.le (M' x) ∧ (goneAt gs (own' x)).take n0 = (goneAt gs own).take n0 ∧ VF P w M0 N gs n0 l n (rem.erase i) ⟨M' x, own' x, env.put o.dst (sv x)⟩ Q) (h2 : VFs P w M0 N gs n0 l n rem ks ⟨M, own, env⟩ Q) : VFs P w M0 N gs n0 l n rem (i :: ks) ⟨M, own, env⟩ Q := ⟨fun j hj p hp => by
  rcases List.mem_cons.1 hj with rfl | hj
  · rw [ho] at hp
    obtain rfl := Option.some.inj hp
    exact ⟨ι, M', own', sv, he, hk, h⟩
  · exact h2.go j hj p hp⟩
/-- A plain effect. -/
theorem VFs_e {gs : List Nat} {n0 : Nat} {l : List Oper} {M : Mem} {own : List Ob} {env : Env} {Q : St → Prop} {n i : Nat} {rem ks : List Nat} {o : Oper} (ho : l[i]? = some o) (own' : List Ob) (sv : SV) (he : EW P w M0 N l.toArray o ⟨M, own, env⟩ own' sv) (hg : (goneAt gs own').take n0 = (goneAt gs own).take n0) (hk : dstOk N o.dst = true)
    (h : VF P w M0 N gs n0 l n (rem.erase i) ⟨M, own', env.put o.dst sv⟩ Q) (h2 : VFs P w M0 N gs n0 l n rem ks ⟨M, own, env⟩ Q) : VFs P w M0 N gs n0 l n rem (i :: ks) ⟨M, own, env⟩ Q :=
  VFs_x Unit (fun _ => M) (fun _ => own') (fun _ => sv) ho ⟨fun hd a W hR => by
    have := he.go hd a W hR
    split
    · rename_i hw
      rw [if_pos hw] at this
      generalize (execOp a.eval o).run P W = r at *
      cases r with
      | ok nx W' =>
        cases nx <;> simp only [EffRun] at this ⊢
        case value u => obtain ⟨hd', h⟩ := this; exact ⟨(), hd', h⟩
        case skip => obtain ⟨hd', h⟩ := this; exact ⟨(), hd', h⟩
        case enter f args => exact this.mono fun e W'' ⟨z, he, hd', h⟩ => ⟨z, he, (), hd', h⟩
      | halt x w' => simp only [EffRun] at this
    · rename_i hw
      rw [if_neg hw] at this
      obtain ⟨hd', h⟩ := this
      exact ⟨(), hd', h⟩, fun _ => he.len, fun _ => he.ok⟩ hk (fun _ => ⟨Mem.le_refl _, hg, h⟩) h2
theorem VC_drawF {id : Nat} {l : List Oper} {M : Mem} {own : List Ob} {env : Env} {Q : Post} (L : List FOp) (gs : List Nat) (es : List Nat) [hm : Mix P] (hLm : L.map (·.2) = l) (hB : efB l L = true) (hes : effI 0 L = es) (hold : envB env own.length = true)
    (hV : VQ P w M0 N l.toArray L ⟨M, goneAt gs own, env⟩ (fun envF => VF P w M0 N gs own.length l l.length es ⟨M, own, envF⟩ (fun s => Q .normal s))) :
    VC P w M0 N (.region id l.toArray true) ⟨M, own, env⟩ Q := .mk fun hd0 a0 W0 hR0 => by
  have hLl : L.length = l.length := by rw [← hLm]; simp
  have hS := EfOk.of hLl hB
  have hLo : ∀ (i : Nat) (o : Oper), l[i]? = some o → ∃ f, L[i]? = some (f, o) := fun i o ho => by
    rw [← hLm, List.getElem?_map] at ho
    cases hL : L[i]? with
    | none => rw [hL] at ho; cases ho
    | some fo =>
      rw [hL] at ho
      cases ho
      exact ⟨fo.1, rfl⟩
  have hoL : ∀ (i : Nat) (f : Bool) (o : Oper), L[i]? = some (f, o) → l[i]? = some o := fun i f o h => by
    rw [← hLm, List.getElem?_map, h]; rfl
  obtain ⟨vs, hvl, hq, hE⟩ := hV
  have hdkq : ∀ fo ∈ L, fo.1 = false → dstOk N fo.2.dst = true := fun fo hfo hf => by
    obtain ⟨i, hi⟩ := List.getElem?_of_mem hfo
    obtain ⟨f, o⟩ := fo
    have hf' : f = false := hf
    subst hf'
    have hil := (List.getElem?_eq_some_iff.1 hi).1
    exact (hq i o vs[i] hi (by simp [hvl, hil])).2.1
  have hvsz : ∀ i, i < L.length → ∃ u, vs[i]? = some u := fun i hi => ⟨vs[i]'(by omega), List.getElem?_eq_getElem (by omega)⟩
  have hdk : ∀ (i : Nat) (o : Oper) (t : Tmp), L[i]? = some (false, o) → o.dst = some t → t < N := fun i o t hi ht => by
    have : dstOk N o.dst = true := hdkq (false, o) (List.mem_of_getElem? hi) rfl
    rw [ht] at this
    simpa [dstOk, Nat.blt_eq] using this
  have hdis : ∀ (i : Nat) (o : Oper) (j : Nat) (g : Bool) (p : Oper) (t : Tmp), L[i]? = some (false, o) → L[j]? = some (g, p) → o.dst = some t → p.dst = some t → i = j := fun i o j g p t h1 h2 h3 h4 =>
    (hS.dis i false o j g p t h1 h2 h3 h4).resolve_left (fun h => by cases h.1)
  have hFq : Fr N hd0 (envK false env L vs) (frK false hd0 a0 L vs) := frK_fr L vs env a0 hdkq hR0.2
  have hokq : ∀ t sv, (envK false env L vs).get t = some sv → sv.okB own.length = true := by
    have key : ∀ (L' : List FOp) (vs' : List SV) (e : Env), (∀ t sv, e.get t = some sv → sv.okB own.length = true) → (∀ (i : Nat) (o : Oper) (sv : SV), L'[i]? = some (false, o) → vs'[i]? = some sv → sv.okB own.length = true) → ∀ t sv, (envK false e L' vs').get t = some sv → sv.okB own.length = true := by
      intro L'
      induction L' with
      | nil => intro vs' e h1 _; unfold envK; exact h1
      | cons fo L' ihL =>
        intro vs' e h1 h2
        cases vs' with
        | nil => unfold envK; exact h1
        | cons v vs' =>
          unfold envK
          refine ihL vs' _ ?_ (fun i o sv hi hv => h2 (i + 1) o sv (by simpa using hi) (by simpa using hv))
          obtain ⟨f, o⟩ := fo
          cases f with
          | true => exact h1
          | false =>
            intro t sv ht
            simp only [beq_self_eq_true] at ht
            cases hd' : o.dst with
            | none => rw [hd'] at ht; exact h1 t sv ht
            | some d =>
              rw [hd'] at ht
              simp only [Env.put, Env.get] at ht
              split at ht
              · cases ht; exact h2 0 o v rfl rfl
              · exact h1 t sv ht
    refine key L vs env (fun t sv ht => envB_get hold t sv ht) (fun i o sv hi hv => ?_)
    have := (hq i o sv hi hv).2.2
    rwa [len_goneAt] at this
  have ovq : ∀ (b : Act) (i : Nat) (o : Oper) (v : SV) (t : Tmp), b.tmps.size = N → L[i]? = some (false, o) → vs[i]? = some v → o.dst = some t → (frK false hd0 b L vs).tmps[t]? = some (v.den hd0) := fun b i o v t hb hi hv ht =>
    frK_at L vs b i o v hi hv ht (by rw [hb]; exact hdk i o t hi ht) (fun j g p hj hp e => by have := hdis i o j g p t hi hp ht e; omega)
  have ovn : ∀ (b : Act) (t : Tmp), (∀ (i : Nat) (o : Oper), L[i]? = some (false, o) → o.dst ≠ some t) → (frK false hd0 b L vs).tmps[t]? = b.tmps[t]? := fun b t h =>
    frK_other L vs b (fun fo hfo hf e => by
      obtain ⟨j, hj⟩ := List.getElem?_of_mem hfo
      obtain ⟨g, p⟩ := fo
      have hg : g = false := hf
      subst hg
      exact h j p hj e)
  -- the walk in whatever order
  have main : ∀ (fuel : Nat) (listed : Array Bool) (a : Act) (W : World) (hd : Nat → Value) (n : Nat) (rem : List Nat) (x : List Ob) (envE : Env) (Mx : Mem), M.le Mx → listed.size = L.length → (listed.toList.filter (!·)).length = fuel → (∀ i, i < own.length → hd i = hd0 i) →
      (∀ (i : Nat) (o : Oper) (sv : SV) (d : Tmp), L[i]? = some (false, o) → vs[i]? = some sv → listed.getD i false = true → o.dst = some d → a.tmps[d]? = some (sv.den hd0)) →
      (∀ t, (∀ (i : Nat) (f : Bool) (o : Oper), L[i]? = some (f, o) → listed.getD i false = true → o.dst ≠ some t) → a.tmps[t]? = a0.tmps[t]?) → a.tmps.size = N → a.defers = [] →
      (∀ (j : Nat) (g : Bool) (p : Oper), L[j]? = some (g, p) → listed.getD j false = true → ∀ e ∈ p.after, Region.binds .any e = true → listed.getD e.on false = true) →
      (∀ i, i ∈ rem ↔ ∃ o, L[i]? = some (true, o) ∧ listed.getD i false = false) → rem.Nodup → rem.length ≤ n → Wd w M0 hd Mx x W → (goneAt gs x).take own.length = (goneAt gs own).take own.length → own.length ≤ x.length →
      Fr N hd envE (frK false hd0 a L vs) → (∀ t sv, envE.get t = some sv → sv.okB x.length = true) → VF P w M0 N gs own.length l n rem ⟨Mx, x, envE⟩ (fun s => Q .normal s) →
      wpAny P .any l.toArray (post w M0 N Q) fuel listed a W := by
    intro fuel
    induction fuel with
    | zero =>
      intro listed a W hd n rem x envE Mx hMx hls hfu hag hT hC hN hD hdn hrem hnd hnl hWd hgx hlx hFr hok4 hVT
      have hall : ∀ i, i < L.length → listed.getD i false = true := fun i hi => by
        have hnil : listed.toList.filter (!·) = [] := List.eq_nil_of_length_eq_zero hfu
        cases hb : listed.getD i false with
        | true => rfl
        | false =>
          have hil : i < listed.toList.length := by simp [hls, hi]
          have : listed.toList[i] = false := by
            have : i < listed.size := by omega
            simp [this] at hb
            simpa using hb
          have hm' : listed.toList[i] ∈ listed.toList.filter (!·) := List.mem_filter.2 ⟨List.getElem_mem hil, by rw [this]; rfl⟩
          rw [hnil] at hm'; cases hm'
      refine ⟨?_, ?_⟩
      · refine List.eq_nil_iff_forall_not_mem.2 fun i hi => ?_
        obtain ⟨h1, o, ho, _⟩ := mem_ready.1 hi
        have ho' : l[i]? = some o := by simpa using ho
        have := hall i (by rw [hLl]; exact (List.getElem?_eq_some_iff.1 ho').1)
        rw [getD_both h1] at this; cases this
      · have hr0 : rem = [] := List.eq_nil_iff_forall_not_mem.2 fun i hi => by
          obtain ⟨o, h1, h2⟩ := (hrem i).1 hi
          rw [hall i (List.getElem?_eq_some_iff.1 h1).1] at h2; cases h2
        subst hr0
        refine ⟨hd, ⟨Mx, x, envE⟩, ⟨hWd, hFr.congr (fun t => ?_) hN hD⟩, hVT.fin⟩
        by_cases hex : ∃ (i : Nat) (o : Oper), L[i]? = some (false, o) ∧ o.dst = some t
        · obtain ⟨i, o, ho, hd'⟩ := hex
          have hil := (List.getElem?_eq_some_iff.1 ho).1
          obtain ⟨u, hu⟩ := hvsz i hil
          rw [hT i o u t ho hu (hall i hil) hd', ovq a i o u t hN ho hu hd']
        · exact (ovn a t (fun i o ho e => hex ⟨i, o, ho, e⟩)).symm
    | succ fuel ih =>
      intro listed a W hd n rem x envE Mx hMx hls hfu hag hT hC hN hD hdn hrem hnd hnl hWd hgx hlx hFr hok4 hVT
      refine ⟨fun hr => ?_, fun i hi => ?_⟩
      · exfalso
        have hex : ∃ i, i < L.length ∧ listed.getD i false = false := by
          have hne : (listed.toList.filter (!·)) ≠ [] := fun e => by rw [e] at hfu; simp at hfu
          obtain ⟨b, hb⟩ := List.exists_mem_of_ne_nil _ hne
          obtain ⟨hb1, hb2⟩ := List.mem_filter.1 hb
          have : b = false := by simpa using hb2
          subst this
          obtain ⟨i, hi, he⟩ := List.mem_iff_getElem.1 hb1
          have hil : i < listed.size := by simpa using hi
          exact ⟨i, by omega, by simp [hil]; simpa using he⟩
        have hmin : ∃ i, (i < L.length ∧ listed.getD i false = false) ∧ ∀ j, j < i → listed.getD j false = true := by
          obtain ⟨i, hi⟩ := hex
          induction i using Nat.strongRecOn with
          | _ i ihh =>
            by_cases hj : ∃ j, j < i ∧ listed.getD j false = false
            · obtain ⟨j, hj1, hj2⟩ := hj
              exact ihh j hj1 ⟨by omega, hj2⟩
            · exact ⟨i, hi, fun j hj' => by
                cases hb : listed.getD j false with
                | true => rfl
                | false => exact (hj ⟨j, hj', hb⟩).elim⟩
        obtain ⟨i, ⟨hil, hiu⟩, hlow⟩ := hmin
        have hli : i < l.length := by omega
        obtain ⟨f, hf⟩ := hLo i l[i] (by simp [hli])
        have : i ∈ Region.ready .any l.toArray listed := mem_ready.2 ⟨getD_in (by omega) hiu, l[i], by simp [hli], fun e he hbe => hlow e.on (hS.low i f l[i] hf e he hbe)⟩
        rw [hr] at this; cases this
      · obtain ⟨hun, o, ho, hdep⟩ := mem_ready.1 hi
        have ho' : l[i]? = some o := by simpa using ho
        obtain ⟨f, hLi⟩ := hLo i o ho'
        have hil := (List.getElem?_eq_some_iff.1 hLi).1
        have hun' := getD_both hun
        have hls' : (listed.setIfInBounds i true).size = L.length := by simp [hls]
        have hfu' : ((listed.setIfInBounds i true).toList.filter (!·)).length = fuel := by
          have key : ∀ (bs : List Bool) (i : Nat), bs[i]? = some false → ((bs.set i true).filter (!·)).length + 1 = (bs.filter (!·)).length := by
            intro bs
            induction bs with
            | nil => intro i h; simp at h
            | cons b bs ihb =>
              intro i h
              cases i with
              | zero => simp at h; subst h; simp
              | succ i =>
                have := ihb i (by simpa using h)
                cases b <;> simp [List.filter_cons] at this ⊢ <;> omega
          have h1 : listed.toList[i]? = some false := by
            have hl2 : i < listed.size := by omega
            simp [hl2] at hun' ⊢
            exact hun'
          have := key listed.toList i h1
          rw [Array.toList_setIfInBounds]
          omega
        have lset : ∀ j, (listed.setIfInBounds i true).getD j false = true → j = i ∨ listed.getD j false = true := fun j hj => by
          by_cases hji : j = i
          · exact .inl hji
          · rw [getD_set_ne false (fun e => hji e.symm)] at hj; exact .inr hj
        have lself : (listed.setIfInBounds i true).getD i false = true := by
          have : i < listed.size := by omega
          simp [this]
        have unl : ∀ (j : Nat) (g : Bool) (p : Oper), L[j]? = some (g, p) → (∃ e ∈ p.after, Region.binds .any e = true ∧ e.on = i) → listed.getD j false = false := fun j g p hp ⟨e, he, hbd, heq⟩ => by
          cases hb : listed.getD j false with
          | false => rfl
          | true =>
            have := hdn j g p hp hb e he hbd
            rw [heq, hun'] at this; cases this
        have hdn' : ∀ (j : Nat) (g : Bool) (p : Oper), L[j]? = some (g, p) → (listed.setIfInBounds i true).getD j false = true → ∀ e ∈ p.after, Region.binds .any e = true → (listed.setIfInBounds i true).getD e.on false = true := fun j g p hp hj e he hbd => by
          refine getD_set_true ?_
          by_cases hji : j = i
          · subst hji
            rw [hLi] at hp
            cases hp
            exact hdep e he hbd
          · exact hdn j g p hp ((lset j hj).resolve_left hji) e he hbd
        have lookq : ∀ (b : Act), (∀ t ∈ o.looksAt l.toArray, a.tmps[t]? = b.tmps[t]?) → execOp a.eval o = execOp b.eval o := fun b hb => by
          refine execOp_congr o (hS.sel i f o hLi) fun x hx => ?_
          cases x with
          | tmp t =>
            have ht : t ∈ o.looksAt l.toArray := List.mem_append_left _ (List.mem_filterMap.2 ⟨.tmp t, by simpa using hx, rfl⟩)
            simp [Act.eval, hb t ht]
          | const v => rfl
          | global g => rfl
          | func f => rfl
        have free : ∀ t, (∀ (j : Nat) (g : Bool) (p : Oper), L[j]? = some (g, p) → p.dst = some t → listed.getD j false = false) → a.tmps[t]? = a0.tmps[t]? := fun t ht => hC t (fun j g p hp hj e => by
          have := ht j g p hp e
          rw [hj] at this; cases this)
        have hrs : ∀ q, q ≠ i → (listed.setIfInBounds i true).getD q false = listed.getD q false := fun q hq => getD_set_ne false (fun e => hq e.symm)
        unfold wpOp
        simp only [ho]
        cases f with
        | false =>
          obtain ⟨v, hv⟩ := hvsz i hil
          obtain ⟨hQS, hdo, _⟩ := hq i o v hLi hv
          have hWG : Wd w M0 hd0 M (goneAt gs own) W := by
            have h1 := ((hWd.forget hMx hR0.1.grew hR0.1.old).gones gs).take own.length
            rw [hgx, List.take_of_length_le (by rw [len_goneAt]; exact Nat.le_refl _)] at h1
            exact h1.hd_agree (fun q hq' => (hag q (by rwa [len_goneAt] at hq')).symm)
          have hFi := frK_fr (k := false) (hd := hd0) (L.take i) (vs.take i) env a0 (fun fo hfo => hdkq fo (List.mem_of_mem_take hfo)) hR0.2
          have h1 := hQS.go hd0 _ W ⟨hWG, hFi⟩
          have look : ∀ t ∈ o.looksAt l.toArray, a.tmps[t]? = (frK false hd0 a0 (L.take i) (vs.take i)).tmps[t]? := fun t ht => by
            by_cases hex : ∃ (j : Nat) (g : Bool) (p : Oper), L[j]? = some (g, p) ∧ p.dst = some t
            · obtain ⟨j, g, p, hp, hpd⟩ := hex
              have hjl := (List.getElem?_eq_some_iff.1 hp).1
              rcases (hS.use i false o hLi t ht j g p hp hpd).resolve_left (fun h => by cases h.1) with ⟨hji, hfg, e, he, hbd, heq⟩ | ⟨hij, hfg, hdj⟩
              · have hg : g = false := hfg.resolve_left (by simp)
                subst hg
                have hlj := hdep e he hbd
                rw [heq] at hlj
                obtain ⟨u, hu⟩ := hvsz j hjl
                rw [hT j p u t hp hu hlj hpd]
                refine (frK_at (L.take i) (vs.take i) a0 j p u (by rw [List.getElem?_take, if_pos hji]; exact hp) (by rw [List.getElem?_take, if_pos hji]; exact hu) hpd (by rw [hR0.2.size]; exact hdk j p t hp hpd) (fun q g' p' hq' hp' e' => ?_)).symm
                rw [List.getElem?_take] at hp'
                split at hp'
                · have := hdis j p q g' p' t hp hp' hpd e'; omega
                · cases hp'
              · have un : ∀ (q : Nat) (g' : Bool) (p' : Oper), L[q]? = some (g', p') → p'.dst = some t → listed.getD q false = false := fun q g' p' hp' hpd' => by
                  rcases (hS.use i false o hLi t ht q g' p' hp' hpd').resolve_left (fun h => by cases h.1) with ⟨hqi, hfg', e', he', hbd', heq'⟩ | ⟨hiq, _, hdq⟩
                  · have hg' : g' = false := hfg'.resolve_left (by simp)
                    subst hg'
                    have := hdis q p' j g p t hp' hp hpd' hpd
                    omega
                  · exact unl q g' p' hp' hdq
                rw [free t un]
                refine (frK_other _ _ _ (fun fo hfo hf e => ?_)).symm
                obtain ⟨q, hq'⟩ := List.getElem?_of_mem hfo
                rw [List.getElem?_take] at hq'
                split at hq'
                · obtain ⟨g', p'⟩ := fo
                  have hg' : g' = false := hf
                  subst hg'
                  have := hdis q p' j g p t hq' hp e hpd; omega
                · cases hq'
            · rw [free t (fun q g' p' hp' hpd' => (hex ⟨q, g', p', hp', hpd'⟩).elim)]
              refine (frK_other _ _ _ (fun fo hfo _ e => ?_)).symm
              obtain ⟨q, hq'⟩ := List.getElem?_of_mem (List.mem_of_mem_take hfo)
              exact hex ⟨q, fo.1, fo.2, hq', e⟩
          have key : ∀ W', Below W.heap.size W W' → wpAny P .any l.toArray (post w M0 N Q) fuel (listed.setIfInBounds i true) (a.put o.dst (v.den hd0)) W' := fun W' hb => by
            have hsz' : (a.put o.dst (v.den hd0)).tmps.size = N := by cases o.dst <;> simp [Act.put, hN]
            have hdf' : (a.put o.dst (v.den hd0)).defers = [] := by cases o.dst <;> exact hD
            refine ih _ _ W' hd n rem x envE Mx hMx hls' hfu' hag (fun q p sv d hp hv' hql hpd => ?_) (fun t ht => ?_) hsz' hdf' hdn' (fun q => ?_) hnd hnl (hWd.idle hb) hgx hlx (hFr.congr (fun t => ?_) (by rw [frK_size]; exact hsz') (by rw [frK_defers]; exact hdf')) hok4 hVT
            · by_cases hqi : q = i
              · subst hqi
                rw [hLi] at hp; rw [hv] at hv'
                cases hp; cases hv'
                rw [hpd]
                refine put_eq ?_
                rw [hN]; exact hdk q _ d hLi hpd
              · have hne : o.dst ≠ some d := fun e => hqi (hdis q p i _ o d hp hLi hpd e)
                rw [put_ne hne]
                exact hT q p sv d hp hv' ((lset q hql).resolve_left hqi) hpd
            · have hne : o.dst ≠ some t := ht i _ o hLi lself
              rw [put_ne hne]
              exact hC t (fun q g p hp hql => ht q g p hp (getD_set_true hql))
            · rw [hrem q]
              constructor
              · rintro ⟨p, h2, h3⟩
                refine ⟨p, h2, ?_⟩
                rw [hrs q (fun e => by subst e; rw [hLi] at h2; cases h2)]; exact h3
              · rintro ⟨p, h2, h3⟩
                refine ⟨p, h2, ?_⟩
                rw [hrs q (fun e => by subst e; rw [hLi] at h2; cases h2)] at h3; exact h3
            · by_cases hex : ∃ (j : Nat) (p : Oper), L[j]? = some (false, p) ∧ p.dst = some t
              · obtain ⟨j, p, hp, hpd⟩ := hex
                obtain ⟨u, hu⟩ := hvsz j (List.getElem?_eq_some_iff.1 hp).1
                rw [ovq _ j p u t hsz' hp hu hpd, ovq a j p u t hN hp hu hpd]
              · rw [ovn _ t (fun j p hp e => hex ⟨j, p, hp, e⟩), ovn a t (fun j p hp e => hex ⟨j, p, hp, e⟩), put_ne (fun e => hex ⟨i, o, hLi, e⟩)]
          rw [wanted_congr look]
          cases hw : Region.wanted o (yielded l.toArray (frK false hd0 a0 (L.take i) (vs.take i)).tmps) with
          | false =>
            rw [hw] at h1
            simp only [Bool.false_eq_true, if_false] at h1 ⊢
            rw [← h1]
            exact key W (Below.refl _ _)
          | true =>
            rw [hw] at h1
            simp only [if_true] at h1 ⊢
            refine .inl ?_
            unfold Oper.wp
            rw [lookq _ look]
            unfold Oper.quietAt at h1
            generalize (execOp (frK false hd0 a0 (L.take i) (vs.take i)).eval o).run P W = r at *
            cases r with
            | ok nx W' =>
              cases nx <;> simp only [Oper.quietUpon] at h1 <;> simp only [Oper.upon]
              case value u =>
                obtain ⟨e1, e2⟩ := h1
                rw [e1, e2]; exact key _ (Below.refl _ _)
              case skip =>
                obtain ⟨e1, e2⟩ := h1
                rw [e1, ← e2]; exact key _ (Below.refl _ _)
              case enter f args =>
                obtain ⟨e1, hc⟩ := h1
                rw [e1]
                exact hc.mono fun e W'' ⟨he, hb⟩ => by subst he; exact key _ hb
            | halt x w' => simp only [Oper.quietUpon] at h1
        | true =>
          have hir : i ∈ rem := (hrem i).2 ⟨o, hLi, hun'⟩
          have hrd : i ∈ rem.filter (rdy l rem) := List.mem_filter.2 ⟨hir, by
            unfold rdy
            refine List.all_eq_true.2 fun j hj => ?_
            cases hb : anc l 4 i j with
            | false => rfl
            | true =>
              have := anc_listed (listed := listed) (fun q p hp hq' => by
                obtain ⟨g, hg⟩ := hLo q p hp
                exact hdn q g p hg hq') 4 i j o ho' hdep hb
              obtain ⟨p, _, h3⟩ := (hrem j).1 hj
              rw [h3] at this; cases this⟩
          cases n with
          | zero =>
            have : rem = [] := List.eq_nil_of_length_eq_zero (by omega)
            rw [this] at hir; cases hir
          | succ n =>
          obtain ⟨ι, Mf, ownf, uf, hEW, hkd, hVT''⟩ := hVT.2 i hrd o ho'
          have h1 := hEW.go hd _ W ⟨hWd, hFr⟩
          have look : ∀ t ∈ o.looksAt l.toArray, a.tmps[t]? = (frK false hd0 a L vs).tmps[t]? := fun t ht => by
            by_cases hex : ∃ (j : Nat) (p : Oper), L[j]? = some (false, p) ∧ p.dst = some t
            · obtain ⟨j, p, hp, hpd⟩ := hex
              obtain ⟨v, hv⟩ := hvsz j (List.getElem?_eq_some_iff.1 hp).1
              rcases (hS.use i true o hLi t ht j false p hp hpd).resolve_left (fun h => by cases h.2) with ⟨_, _, e, he, hbd, heq⟩ | ⟨_, hfg, _⟩
              · have hlj := hdep e he hbd
                rw [heq] at hlj
                rw [hT j p v t hp hv hlj hpd, ovq a j p v t hN hp hv hpd]
              · rcases hfg with h | h <;> cases h
            · exact (ovn a t (fun j p hp e => hex ⟨j, p, hp, e⟩)).symm
          have key : ∀ z W', (∃ (xx : ι) (hd' : Nat → Value), (∀ i, i < x.length → hd' i = hd i) ∧ Wd w M0 hd' (Mf xx) (ownf xx) W' ∧ z = (uf xx).den hd') → wpAny P .any l.toArray (post w M0 N Q) fuel (listed.setIfInBounds i true) (a.put o.dst z) W' := fun z W' ⟨xx, hd', hag', hWd', hz⟩ => by
            subst hz
            obtain ⟨hle2, hgo, hVT'⟩ := hVT'' xx
            have hlen : x.length ≤ (ownf xx).length := hEW.len xx
            have hokx := hEW.ok xx
            generalize uf xx = u at *
            generalize ownf xx = own' at *
            generalize Mf xx = My at *
            have hsz' : (a.put o.dst (u.den hd')).tmps.size = N := by cases o.dst <;> simp [Act.put, hN]
            have hdf' : (a.put o.dst (u.den hd')).defers = [] := by cases o.dst <;> exact hD
            have hF2 := (hFr.upd (hd' := hd') (fun t sv ht => den_agree hag' (hok4 t sv ht))).put (dst := o.dst) hkd u
            refine ih _ _ W' hd' n (rem.erase i) own' (envE.put o.dst u) My (hMx.trans hle2) hls' hfu' (fun q hq' => (hag' q (by omega)).trans (hag q hq')) (fun q p sv d hp hv' hql hpd => ?_) (fun t ht => ?_) hsz' hdf' hdn' (fun q => ?_) (hnd.erase i) (by rw [List.length_erase_of_mem hir]; omega) hWd' (hgo.trans hgx) (by omega) (hF2.congr (fun t => ?_) (by rw [frK_size]; exact hsz') (by rw [frK_defers]; exact hdf')) (fun t sv ht => ?_) hVT'
            · have hqi : q ≠ i := fun e => by subst e; rw [hLi] at hp; cases hp
              have hne : o.dst ≠ some d := fun e => hqi (hdis q p i _ o d hp hLi hpd e)
              rw [put_ne hne]
              exact hT q p sv d hp hv' ((lset q hql).resolve_left hqi) hpd
            · have hne : o.dst ≠ some t := ht i _ o hLi lself
              rw [put_ne hne]
              exact hC t (fun q g p hp hql => ht q g p hp (getD_set_true hql))
            · rw [hnd.mem_erase_iff, hrem q]
              constructor
              · rintro ⟨hne, p, h2, h3⟩
                exact ⟨p, h2, by rw [hrs q hne]; exact h3⟩
              · rintro ⟨p, h2, h3⟩
                have hne : q ≠ i := fun e => by subst e; rw [lself] at h3; cases h3
                rw [hrs q hne] at h3
                exact ⟨hne, p, h2, h3⟩
            · by_cases hex : ∃ (j : Nat) (p : Oper), L[j]? = some (false, p) ∧ p.dst = some t
              · obtain ⟨j, p, hp, hpd⟩ := hex
                obtain ⟨v, hv⟩ := hvsz j (List.getElem?_eq_some_iff.1 hp).1
                have hji : j ≠ i := fun e => by subst e; rw [hLi] at hp; cases hp
                rw [ovq _ j p v t hsz' hp hv hpd, put_ne (fun e => hji (hdis j p i true o t hp hLi hpd e)), ovq a j p v t hN hp hv hpd]
              · have e1 := ovn a t (fun j p hp e => hex ⟨j, p, hp, e⟩)
                rw [ovn _ t (fun j p hp e => hex ⟨j, p, hp, e⟩)]
                by_cases hdt : o.dst = some t
                · have htN : t < N := by rw [hdt] at hkd; simpa [dstOk, Nat.blt_eq] using hkd
                  rw [hdt, put_eq (by rw [hN]; exact htN), put_eq (by rw [frK_size, hN]; exact htN)]
                · rw [put_ne hdt, put_ne hdt, e1]
            · cases hd2 : o.dst with
              | none => rw [hd2] at ht; exact okB_mono hlen (hok4 t sv ht)
              | some d =>
                rw [hd2] at ht
                simp only [Env.put, Env.get] at ht
                split at ht
                · cases ht; exact hokx
                · exact okB_mono hlen (hok4 t sv ht)
          rw [wanted_congr look]
          cases hw : Region.wanted o (yielded l.toArray (frK false hd0 a L vs).tmps) with
          | false =>
            rw [hw] at h1
            simp only [Bool.false_eq_true, if_false] at h1 ⊢
            exact key _ W h1
          | true =>
            rw [hw] at h1
            simp only [if_true] at h1 ⊢
            refine .inl ?_
            unfold Oper.wp
            rw [lookq _ look]
            generalize (execOp (frK false hd0 a L vs).eval o).run P W = r at *
            cases r with
            | ok nx W' =>
              cases nx <;> simp only [EffRun] at h1 <;> simp only [Oper.upon]
              case value z => exact key _ _ h1
              case skip => exact key _ _ h1
              case enter f args => exact h1.mono fun e W'' ⟨z, he, hz⟩ => by subst he; exact key _ _ hz
            | halt x w' => simp only [EffRun] at h1
  refine wp_region_any hm.h ?_
  have hb0 : Below W0.heap.size W0 { W0 with drawn := W0.drawn + 1 } := by
    have := below_regrown W0 (W0.drawn + 1) #[]
    rw [Go.Sort.grow_empty] at this
    exact this
  have hsz : l.toArray.size = L.length := by simp [hLl]
  rw [hsz]
  refine main L.length _ a0 _ hd0 l.length es own (envK false env L vs) M (Mem.le_refl _) (by simp) ?_ (fun _ _ => rfl) (fun i o sv d _ _ h => (by rw [getD_replicate_false] at h; cases h)) (fun t _ => rfl) hR0.2.size hR0.2.defers (fun j g p _ h => (by rw [getD_replicate_false] at h; cases h)) (fun i => ?_) ?_ ?_ (hR0.1.idle hb0) rfl (Nat.le_refl _) hFq hokq hE
  · rw [Array.toList_replicate]
    induction L.length with
    | zero => rfl
    | succ n ihn => rw [List.replicate_succ]; simp
  · rw [← hes, effI_mem]
    constructor
    · rintro ⟨o, _, h⟩; exact ⟨o, h, getD_replicate_false _ _⟩
    · rintro ⟨o, h, _⟩; exact ⟨o, Nat.zero_le _, h⟩
  · rw [← hes]; exact effI_nodup L 0
  · rw [← hes, ← hLl]; exact effI_len L 0
/-- Which operations are looked at one by one, in every order. -/
def mkL (es : List Nat) : Nat → List Oper → List FOp
  | _, [] => []
  | k, o :: l => (es.contains k, o) :: mkL es (k + 1) l
theorem mkL_map (es : List Nat) : ∀ (l : List Oper) (k : Nat), (mkL es k l).map (·.2) = l
  | [], _ => rfl
  | o :: l, k => by unfold mkL; rw [List.map_cons, mkL_map es l (k + 1)]
theorem VC_drawG {id : Nat} {l : List Oper} {M : Mem} {own : List Ob} {env : Env} {Q : Post} (gs : List Nat) (es : List Nat) [hm : Mix P] (hB : efB l (mkL es 0 l) = true) (hes : effI 0 (mkL es 0 l) = es) (hold : envB env own.length = true)
    (hV : VQ P w M0 N l.toArray (mkL es 0 l) ⟨M, goneAt gs own, env⟩ (fun envF => VF P w M0 N gs own.length l l.length es ⟨M, own, envF⟩ (fun s => Q .normal s))) :
    VC P w M0 N (.region id l.toArray true) ⟨M, own, env⟩ Q := VC_drawF (mkL es 0 l) gs es (mkL_map es l 0) hB hes hold hV
section
variable {ops : Array Oper} {es : List Nat} {k : Nat} {l : List Oper} {M : Mem} {own : List Ob} {env : Env} {K : Env → Prop}
theorem VQm_nil {s : St} (h : K s.env) : VQ P w M0 N ops (mkL es k []) s K := VQ_nil h
theorem VQm_q {o : Oper} (hf : es.contains k = false) (sv : SV) (hq : QW P w M0 N ops o ⟨M, own, env⟩ sv) (hk : dstOk N o.dst = true) (ho : sv.okB own.length = true) (h : VQ P w M0 N ops (mkL es (k + 1) l) ⟨M, own, env.put o.dst sv⟩ K) :
    VQ P w M0 N ops (mkL es k (o :: l)) ⟨M, own, env⟩ K := by
  unfold mkL
  rw [hf]
  exact VQ_q sv hq hk ho h
theorem VQm_e {o : Oper} {s : St} (hf : es.contains k = true) (h : VQ P w M0 N ops (mkL es (k + 1) l) s K) : VQ P w M0 N ops (mkL es k (o :: l)) s K := by
  unfold mkL
  rw [hf]
  exact VQ_e h
end
end
end Go.Proofs.Ytclbmfepdlffnaa
