import Derived.Test.YtlapnbklbpeddaaGreatPLg10
import Derived.Lib.AppendStr
import Derived.Lib.Builder
import Derived.Lib.UnsafeStr
/- The logic's rules: pointers held against nil and each other, a string appended to a row of bytes, unsafe strings, function values with captured variables. No program in sight. -/
namespace Go.Proofs.YtlapnbklbpeddaaGreat
open Go Go.RowKit
set_option linter.unusedVariables false
set_option maxRecDepth 20000
set_option linter.unusedSimpArgs false
/-- Pointers to what has a size. -/
def ptrB (P : Program) (t te : TypeId) : Bool := (match P.underlying t with | some (.pointer e) => Nat.beq e te | _ => false) && (match P.info? te with | some i => !(Nat.beq i.size 0) | none => false)
class PtrT (P : Program) (t : TypeId) (te : outParam TypeId) : Prop where
  h : ptrB P t te = true
theorem PtrT.parts {P : Program} {t te : TypeId} [h : PtrT P t te] : P.underlying t = some (.pointer te) ∧ ∃ i, P.info? te = some i ∧ i.size ≠ 0 := by
  have h1 := h.h
  unfold ptrB at h1
  simp only [Bool.and_eq_true] at h1
  obtain ⟨h1, h2⟩ := h1
  split at h1
  · rename_i e hu
    obtain rfl := Nat.eq_of_beq_eq_true h1
    split at h2
    · rename_i i hi
      refine ⟨hu, i, hi, fun e => ?_⟩
      rw [e] at h2; cases h2
    · cases h2
  · cases h1
section
variable {P : Program} {t : TypeId} {x y : Operand}
theorem run_equalIn_nil (W : World) (d : Nat) {te : TypeId} (hp : P.underlying t = some (.pointer te)) (a : Option Addr) {i : TypeInfo} (hi : P.info? te = some i) : (Op.equalIn (d + 1) t (.pointer a) (.pointer none)).run P W = .ok a.isNone W := by
  cases a <;> simp [Op.equalIn, run_underlying hp, sizeOf, typeInfo, hi]
theorem B_pnil {te : TypeId} [h : PtrT P t te] {a : Option Addr} : Bin P .eql t x y (.pointer a) (.pointer none) (.bool a.isNone) := .mk fun W => by
  obtain ⟨hp, i, hi, _⟩ := h.parts
  have := run_equalIn_nil W 9999 hp a hi
  have h2 : (binOp .eql t (.pointer a) (.pointer none)).run P W = .ok (.bool a.isNone) W := by
    simp only [binOp]
    simp [Op.equal, Op.maxDepth, this]
  simp [go_sem, h2]
theorem B_pne {te : TypeId} [h : PtrT P t te] {a : Addr} : Bin P .neq t x y (.pointer (some a)) (.pointer (some a)) (.bool false) := .mk fun W => by
  obtain ⟨hp, i, hi, _⟩ := h.parts
  have h2 := Lib.run_neq_ptr_same W (tp := t) a hp hi
  simp [go_sem, h2]
end
/-- The element type of rows of bytes. -/
def u8B (P : Program) (e : TypeId) : Bool := match P.info? e with
  | some i => (match i.zero with | some (.int .u8 0) => true | _ => false) && Nat.beq i.size 1 && Nat.beq i.bytes 1
  | none => false
class U8T (P : Program) (e : TypeId) : Prop where
  h : u8B P e = true
theorem U8T.parts {P : Program} {e : TypeId} [h : U8T P e] : ∃ i, P.info? e = some i ∧ i.zero = some (.int .u8 0) ∧ i.size = 1 ∧ i.bytes = 1 := by
  have h1 := h.h
  unfold u8B at h1
  split at h1
  · rename_i i hi
    simp only [Bool.and_eq_true] at h1
    obtain ⟨⟨h1, h2⟩, h3⟩ := h1
    split at h1
    · rename_i hz
      exact ⟨i, hi, hz, Nat.eq_of_beq_eq_true h2, Nat.eq_of_beq_eq_true h3⟩
    · cases h1
  · cases h1
section
variable {P : Program} {w : World} {M0 : Mem} {N : Nat} {dst : Option Tmp} {ty : TypeId} {pos : String} {aft : Array Edge} {g : Option (Nat × Bool)} {M : Mem} {own : List Ob} {env : Env}
/-- A string's bytes behind an own row. -/
theorem run_append_whereS {t u ty e : TypeId} {base : Nat} (ht : P.underlying t = some (.slice e)) (hu : P.underlying u = some .string) {i : TypeInfo} (hi : P.info? e = some i) (hz : i.zero = some (.int .u8 0)) (hs : i.size = 1) (hb : i.bytes = 1) {W : World} {v : Value} {n : Nat} {xs : List Value} (hown : W.ownsRow base e 1 v n xs) (s : ByteArray)
    (h63 : n + s.size ≤ 1000000000) (hbase : base ≤ W.heap.size) :
    ∃ v' W', (Builtin.append_ #[t, u] ty #[v, .string s]).run P W = .ok v' W' ∧ W'.ownsRow base e 1 v' (n + s.size) (xs ++ bcells s) ∧ W.grownBy W' v.ownBlock ∧ (∀ b, foot v' = some b → foot v = some b ∨ W.heap.size ≤ b) := by
  have hmax : n + s.size ≤ maxLen := by unfold maxLen; omega
  rcases id hown.2 with ⟨hv, hn0⟩ | ⟨g, cap, cur, hv, hbg, hg, hnc, hcm, hcs, htake⟩
  · have hown' : W.ownsRow W.heap.size e 1 v n xs := ⟨hown.1, .inl ⟨hv, hn0⟩⟩
    obtain ⟨v', W', r1, r2, r3, _⟩ := Lib.run_append_own_string W W.heap.size t u ty e i ht hu hi hz hs hb v n xs hown' s hmax (by omega) (Nat.le_refl _)
    refine ⟨v', W', r1, ⟨r2.1, ?_⟩, r3, fun b hb' => .inr ?_⟩
    · rcases r2.2 with h | ⟨g, cap, cur, h2, h3, h4⟩
      · exact .inl h
      · exact .inr ⟨g, cap, cur, h2, by omega, h4⟩
    · rcases r2.2 with ⟨h, _⟩ | ⟨g, cap, cur, h2, h3, h4⟩
      · rw [h] at hb'; cases hb'
      · rw [h2] at hb'
        obtain rfl : g = b := by simpa [foot] using hb'
        exact h3
  · obtain ⟨v', W', r1, r2, r3, _⟩ := Lib.run_append_own_string W base t u ty e i ht hu hi hz hs hb v n xs hown s hmax (by omega) hbase
    refine ⟨v', W', r1, r2, r3, fun b hb' => ?_⟩
    subst hv
    have hsrc : Src P i.size u (.string s) s.size (byteCells s) W := by rw [hs]; exact Src.ofString W hu s
    by_cases hroom : n + s.size ≤ cap
    · have q1 := run_append_room_src (P := P) W t u ty e i ht hi g 0 n cap (.string s) s.size (byteCells s) hsrc hroom
        (fun j hj => by
          rw [byteCells_length] at hj
          have : (0 + n * i.size + j) < cur.size := by rw [hs, hcs]; omega
          rw [Nat.zero_add] at this
          simp [World.cell?, hg, this]) (fun j hj => by simp [World.frozen?, hg])
      rw [q1] at r1
      injection r1 with r1 _
      subst r1
      exact .inl hb'
    · have holds : ∀ j x, xs[j]? = some x → W.cell? ((⟨g, 0, none⟩ : Addr).add j) = some x := hown.cells (g := g) rfl
      have q1 := run_append_grow_src (P := P) W t u ty e i _ ht hi hz (some ⟨g, 0, none⟩) n cap xs (by
        rw [hs]
        exact run_firstCells_some W.drew 1 n ⟨g, 0, none⟩ n cap xs (by have := hown.1; omega) (fun j x hj => holds j x hj)) (.string s) s.size (byteCells s) hsrc (by omega) (by omega) (growslice_fits (by omega) (by rw [hb]; omega))
      rw [q1] at r1
      injection r1 with r1 _
      subst r1
      refine .inr ?_
      obtain rfl : W.heap.size = b := by simpa [foot] using hb'
      exact Nat.le_refl _
theorem EF_appendS {x y : Operand} {t u e : TypeId} {i n : Nat} {xs : List Value} {b : ByteArray} (hx : env.op x = some (.r i)) (hy : env.op y = some (.v (.string b))) (hi : own[i]? = some (.row e 1 n xs)) [hE : ByteT P t e] [hu : StrT P u] [h8 : U8T P e] (h63 : n + b.size ≤ 1000000000) :
    EF P w M0 N ⟨dst, .call ⟨.builtin .append, #[x, y], #[t, u]⟩, ty, pos, aft, g⟩ ⟨M, own, env⟩ (own.set i .gone ++ [.row e 1 (n + b.size) (xs ++ bcells b)]) (.r own.length) := ⟨fun hd a W hR => by
  have hO := hR.1.own i _ hi
  obtain ⟨inf, hinf, hz, hs, hb⟩ := h8.parts
  obtain ⟨v', W', r1, r2, r3, r4⟩ := run_append_whereS (P := P) (ty := ty) hE.h (isStrB_u hu.h) hinf hz hs hb hO b h63 hR.1.below.size
  have hvx := hR.2.eval hx
  have hvy := hR.2.eval hy
  simp only [SV.den] at hvx hvy
  have hex : (execOp a.eval ⟨dst, .call ⟨.builtin .append, #[x, y], #[t, u]⟩, ty, pos, aft, g⟩).run P W = .ok (.value v') W' := by
    simp only [execOp, resolve, invoke, builtin, List.map_toArray, List.map_cons, List.map_nil, hvx, hvy, Sem.run_bind, Sem.run_pure, Result.andThen_ok]
    rw [r1]; rfl
  rw [hex]
  simp only [EffRun]
  have hrow : ∀ b, (hd i).ownBlock = some b → foot (hd i) = some b := fun b hb => by
    unfold Value.ownBlock at hb
    unfold foot
    split at hb
    · rename_i a' _ _ he; rw [he]; simpa using hb
    · cases hb
  have hup := hR.1.upd (o' := .gone) hi (by simp) r3 hrow trivial
  have hadd := hup.add (o' := .row e 1 (n + b.size) (xs ++ bcells b)) (v' := v') r2 (fun b hb => by
    rcases r4 b hb with h2 | h2
    · refine ⟨hR.1.sep i _ b hi (by simp) h2, fun q oq hq hqn hqf => ?_⟩
      by_cases hqi : q = i
      · subst hqi
        rw [List.getElem?_set_self (List.getElem?_eq_some_iff.1 hi).1] at hq
        exact hqn (Option.some.inj hq).symm
      · rw [List.getElem?_set_ne (Ne.symm hqi)] at hq
        exact hqi (hR.1.dis q i oq _ b hq hi hqn (by simp) hqf h2)
    · refine ⟨(hR.1.fresh h2).1, fun q oq hq hqn hqf => ?_⟩
      by_cases hqi : q = i
      · subst hqi
        rw [List.getElem?_set_self (List.getElem?_eq_some_iff.1 hi).1] at hq
        exact hqn (Option.some.inj hq).symm
      · rw [List.getElem?_set_ne (Ne.symm hqi)] at hq
        exact (hR.1.fresh h2).2 q oq hq hqn hqf)
  rw [List.length_set] at hadd
  exact ⟨setH hd own.length v', fun q hq => setH_ne _ _ (by have : q < own.length := hq; omega), hadd, by simp only [SV.den, setH_same]⟩, by simp, by simp [SV.okB, Nat.blt_eq]⟩
/-- unsafe.SliceData, unsafe.String of a row that is given up. -/
theorem QS_sdata {x : Operand} {t : TypeId} {a : Addr} {n c : Nat} {s : St} (hx : s.env.op x = some (.v (.slice (some a) n c))) (hc : c ≠ 0) : QS P w M0 N ⟨dst, .call ⟨.builtin .unsafeSliceData, #[x], #[t]⟩, ty, pos, aft, g⟩ s (.v (.pointer (some a))) := QS_run fun hd A W hR => by
  have hvx := hR.2.eval hx
  simp only [SV.den] at hvx
  simp only [execOp, resolve, invoke, builtin, List.map_toArray, List.map_cons, List.map_nil, hvx, Sem.run_bind, Sem.run_pure, Result.andThen_ok]
  rw [Lib.run_unsafeSliceData_row (P := P) W #[t] ty a n c hc]; rfl
class CelT (P : Program) (e : TypeId) : Prop where
  h : P.cellsOf e = 1
theorem grown_freeze (W : World) (g n : Nat) : W.grownBy (W.freeze ⟨g, 0, none⟩ n) (some g) := by
  unfold World.freeze
  split
  · exact ⟨rfl, rfl, rfl, Nat.le_refl _, fun k _ _ => rfl⟩
  · refine ⟨rfl, rfl, rfl, by simp, fun k hk hne => ?_⟩
    simp only [Array.getElem?_modify]
    rw [if_neg (fun e => hne (by rw [e]))]
theorem EF_ustr {x y : Operand} {t u e : TypeId} {i gb n : Nat} {u0 : Value} {b : ByteArray} (hx : env.op x = some (.v (.pointer (some ⟨gb, 0, none⟩)))) (hy : env.op y = some (.v (.int .i64 n))) (hi : own[i]? = some (.nrow u0 e 1 n (bcells b))) (hf : foot u0 = some gb) [hp : PtrT P t e] [hc : CelT P e] (h0 : 0 < n) :
    EF P w M0 N ⟨dst, .call ⟨.builtin .unsafeString, #[x, y], #[t, u]⟩, ty, pos, aft, g⟩ ⟨M, own, env⟩ (own.set i .gone) (.v (.string b)) := ⟨fun hd a W hR => by
  have hO := hR.1.own i _ hi
  obtain ⟨hhd, hlen, ⟨_, h0'⟩ | ⟨b', cap, cur, hv, hb1, hb2, hnc, hcm, hcs, htake⟩⟩ := id hO
  · omega
  have hfoot : foot (hd i) = some b' := by rw [hv]; rfl
  have hfoot' : foot (hd i) = some gb := by rw [hhd]; exact hf
  obtain rfl : b' = gb := by rw [hfoot] at hfoot'; exact Option.some.inj hfoot'
  have hbl : b.data.toList.length = n := by rw [bcells_length] at hlen; simp; omega
  have hvx := hR.2.eval hx
  have hvy := hR.2.eval hy
  simp only [SV.den] at hvx hvy
  have hrun := Lib.run_unsafeString_row (P := P) W t u ty e hp.parts.1 hc.h b' cur.size (by simp [World.shape?, hb2]) b.data.toList (by intro e; rw [e] at hbl; simp at hbl; omega) (by omega) (by unfold maxLen at hcm; omega) (fun j x hx => by
    have h1 := ob_cell hO (off := j) (u := .int .u8 x.toNat) (by simp [Ob.cells, bcells, hx])
    rw [hfoot] at h1
    simpa [Addr.add_lit] using h1)
  rw [hbl] at hrun
  have hex : (execOp a.eval ⟨dst, .call ⟨.builtin .unsafeString, #[x, y], #[t, u]⟩, ty, pos, aft, g⟩).run P W = .ok (.value (.string b)) (W.freeze ⟨b', 0, none⟩ n) := by
    simp only [execOp, resolve, invoke, builtin, List.map_toArray, List.map_cons, List.map_nil, hvx, hvy, Sem.run_bind, Sem.run_pure, Result.andThen_ok]
    rw [hrun]; rfl
  rw [hex]
  exact ⟨hd, fun _ _ => rfl, hR.1.upd (o' := .gone) hi (by simp) (grown_freeze W b' n) (fun q hq => by rw [hfoot]; exact hq) trivial, rfl⟩, by rw [List.length_set]; exact Nat.le_refl _, rfl⟩
/-- An own pointer as an unsafe one, and back. -/
def unsB (P : Program) (t : TypeId) : Bool := match P.underlying t with | some .unsafePointer => true | _ => false
class UnsT (P : Program) (t : TypeId) : Prop where
  h : unsB P t = true
theorem UnsT.u {P : Program} {t : TypeId} [h : UnsT P t] : P.underlying t = some .unsafePointer := by
  have h1 := h.h
  unfold unsB at h1
  split at h1
  · assumption
  · cases h1
class LieT (P : Program) (t : TypeId) (n : outParam Nat) : Prop where
  h : liesAt P P.depth t (n / P.cellsOf t) 0 t 1 = true
theorem nblk_shape {hd : Nat → Value} {W : World} {w : World} {i bb : Nat} {t : TypeId} {cs : List Value} {own : List Ob} (hO : ObOk w.heap.size W (hd i) (.nblk (.pointer (some ⟨bb, 0, none⟩)) t cs)) : W.shape? bb = some (t, cs.length) := by
  obtain ⟨h1, b', h2, h3, h4⟩ := hO
  rw [h2] at h1
  obtain rfl : b' = bb := by simpa using h1
  simp [World.shape?, h4]
/-- internal/abi.NoEscape. -/
class NoeT (P : Program) (f : FuncId) : Prop where
  h : ∀ (args : Array Value) (W : World), (callFunc f args).run P W = ((Extern.AbiNoEscape.same args).run P W).andThen fun v w' => .ok (.value v) w'
theorem QS_noe {f : FuncId} {x : Operand} {ats : Array TypeId} {v : Value} {s : St} [hf : NoeT P f] (hx : s.env.op x = some (.v v)) : QS P w M0 N ⟨dst, .call ⟨.value (.func f), #[x], ats⟩, ty, pos, aft, g⟩ s (.v v) := QS_run fun hd A W hR => by
  have hvx := hR.2.eval hx
  simp only [SV.den] at hvx
  show (callFunc f (#[] ++ #[x].map A.eval ++ #[])).run P W = _
  rw [hf.h]
  have : (#[] ++ #[x].map A.eval ++ #[] : Array Value) = #[v] := by simp [hvx]
  rw [this, Lib.run_noEscape]; rfl
end
end Go.Proofs.YtlapnbklbpeddaaGreat
