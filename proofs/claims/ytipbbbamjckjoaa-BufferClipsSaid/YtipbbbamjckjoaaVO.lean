/- The rules of the logic, an operation each. No program in sight. -/
import Derived.Test.YtipbbbamjckjoaaV
namespace Go.Proofs.Ytipbbbamjckjoaa
open Go Go.RowKit
set_option linter.unusedVariables false
set_option maxRecDepth 20000
set_option linter.unusedSimpArgs false
section
variable {P : Program} {w : World} {M0 : Mem} {N : Nat} {dst : Option Tmp} {ty : TypeId} {pos : String} {aft : Array Edge} {g : Option (Nat × Bool)} {s : St}
def sizeB (P : Program) (t : TypeId) (n : Nat) : Bool := (P.info? t).map (·.size) == some n
def oneB (P : Program) (t : TypeId) : Bool := match P.underlying t with | some (.struct _) | some (.array _ _) | none => false | some _ => true
def aggB (P : Program) (t : TypeId) (n : Nat) : Bool := (match P.underlying t with | some (.struct _) | some (.array _ _) => true | _ => false) && sizeB P t n
theorem run_sizeOf_of {t : TypeId} {n : Nat} (h : sizeB P t n = true) (W : World) : (sizeOf t).run P W = .ok n W := by
  unfold sizeB at h
  cases hi : P.info? t with
  | none => rw [hi] at h; cases h
  | some i => rw [hi] at h; simp at h; simp [sizeOf, typeInfo, hi, h]
theorem run_isAgg_one {t : TypeId} (h : oneB P t = true) (W : World) : (isAgg t).run P W = .ok false W := by
  unfold oneB at h
  unfold isAgg
  cases hu : P.underlying t with
  | none => rw [hu] at h; cases h
  | some d =>
    rw [Sem.run_bind, run_underlying hu W]
    rw [hu] at h
    cases d <;> simp_all
theorem run_isAgg_agg {t : TypeId} {n : Nat} (h : aggB P t n = true) (W : World) : (isAgg t).run P W = .ok true W := by
  unfold aggB at h
  unfold isAgg
  simp only [Bool.and_eq_true] at h
  cases hu : P.underlying t with
  | none => rw [hu] at h; simp at h
  | some d =>
    rw [Sem.run_bind, run_underlying hu W]
    rw [hu] at h
    cases d <;> simp_all
theorem aggB_size {t : TypeId} {n : Nat} (h : aggB P t n = true) : sizeB P t n = true := by
  unfold aggB at h
  simp only [Bool.and_eq_true] at h
  exact h.2
/-! ### Facts of the program that are looked up by their numbers -/
class OneT (P : Program) (t : TypeId) : Prop where
  h : oneB P t = true
class AggT (P : Program) (t : TypeId) (n : outParam Nat) : Prop where
  h : aggB P t n = true
class SizT (P : Program) (t : TypeId) (n : outParam Nat) : Prop where
  h : sizeB P t n = true
class ZerT (P : Program) (t : TypeId) (z : outParam Value) : Prop where
  h : ∀ W, (zeroValue t).run P W = .ok z W
theorem QS_run {o : Oper} {sv : SV} (h : ∀ hd a W, Rel w M0 N hd s a W → (execOp a.eval o).run P W = .ok (.value (sv.den hd)) W) : QS P w M0 N o s sv := .mk fun hd a W hR => by
  unfold Oper.quietAt
  rw [h hd a W hR]
  exact ⟨rfl, rfl⟩
theorem QS_move {x : Operand} {sv : SV} (hx : s.env.op x = some sv) : QS P w M0 N ⟨dst, .move x, ty, pos, aft, g⟩ s sv := QS_run fun hd a W hR => by
  show Result.ok (Next.value (a.eval x)) W = _
  rw [hR.2.eval hx]
theorem QS_assign {x : Operand} {sv : SV} (hx : s.env.op x = some sv) : QS P w M0 N ⟨dst, .assign x, ty, pos, aft, g⟩ s sv := QS_run fun hd a W hR => by
  show Result.ok (Next.value (a.eval x)) W = _
  rw [hR.2.eval hx]
theorem QS_pick_t {c x y : Operand} {sv : SV} {b : Bool} (hc : s.env.op c = some (.v (.bool b))) (hb : b = true) (hx : s.env.op x = some sv) : QS P w M0 N ⟨dst, .pick c x y, ty, pos, aft, g⟩ s sv := QS_run fun hd a W hR => by
  have h1 := hR.2.eval hc
  have h2 := hR.2.eval hx
  subst hb
  simp [execOp, h1, h2, SV.den, asBool]
theorem QS_pick_f {c x y : Operand} {sv : SV} {b : Bool} (hc : s.env.op c = some (.v (.bool b))) (hb : b = false) (hy : s.env.op y = some sv) : QS P w M0 N ⟨dst, .pick c x y, ty, pos, aft, g⟩ s sv := QS_run fun hd a W hR => by
  have h1 := hR.2.eval hc
  have h2 := hR.2.eval hy
  subst hb
  simp [execOp, h1, h2, SV.den, asBool]
/-- What an operator of two operands yields. -/
structure Bin (P : Program) (op : BinOp) (t : TypeId) (x y : Operand) (u v r : Value) : Prop where
  h : ∀ W, (do eqGuard op t x y u v; binOp op t u v : Sem Value).run P W = .ok r W
theorem QS_bin {op : BinOp} {t t2 : TypeId} {x y : Operand} {u v r : Value} (hx : s.env.op x = some (.v u)) (hy : s.env.op y = some (.v v)) (hr : Bin P op t x y u v r) : QS P w M0 N ⟨dst, .binOp op t x y t2, ty, pos, aft, g⟩ s (.v r) := QS_run fun hd a W hR => by
  have h1 := hR.2.eval hx
  have h2 := hR.2.eval hy
  have h3 := hr.h W
  simp only [SV.den] at h1 h2
  simp only [execOp, h1, h2, Sem.run_bind] at h3 ⊢
  rw [h3]; rfl
theorem QS_not {t : TypeId} {x : Operand} {b : Bool} (hx : s.env.op x = some (.v (.bool b))) : QS P w M0 N ⟨dst, .unOp .not t x, ty, pos, aft, g⟩ s (.v (.bool (!b))) := QS_run fun hd a W hR => by
  have h1 := hR.2.eval hx
  simp only [SV.den] at h1
  simp only [execOp, h1]
  rfl
/-- A load out of an own block: one cell. -/
def Ob.cells : Ob → List Value
  | .blk _ cs => cs
  | .row _ _ _ cs => cs
  | .gone => []
theorem ob_cell {base : Nat} {W : World} {v : Value} {o : Ob} (h : ObOk base W v o) {off : Nat} {u : Value} (hu : o.cells[off]? = some u) : W.cell? ⟨(foot v).getD 0, off, none⟩ = some u := by
  cases o with
  | blk t cs =>
    obtain ⟨b, rfl, _, h2⟩ := h
    show W.cell? ⟨b, off, none⟩ = some u
    rw [cell_of_row W b off _ t _ h2]
    simpa [Ob.cells] using hu
  | row e k n cs =>
    obtain ⟨hl, ⟨rfl, h0⟩ | ⟨g, cap, cur, rfl, _, h2, _, _, _, h6⟩⟩ := h
    · subst h0
      have : cs = [] := List.eq_nil_of_length_eq_zero (by omega)
      subst this; simp [Ob.cells] at hu
    · show W.cell? ⟨g, off, none⟩ = some u
      rw [cell_of_row W g off _ e _ h2]
      simp only [Ob.cells] at hu
      rw [← h6, List.getElem?_take] at hu
      split at hu
      · simpa using hu
      · cases hu
  | gone => simp [Ob.cells] at hu
theorem QS_load1 {t : TypeId} {x : Operand} {i off : Nat} {o : Ob} {u : Value} (hx : s.env.op x = some (.p i off)) (ho : s.own[i]? = some o) (hu : o.cells[off]? = some u) [ht : OneT P t] : QS P w M0 N ⟨dst, .load t x, ty, pos, aft, g⟩ s (.v u) := QS_run fun hd a W hR => by
  have h1 := hR.2.eval hx
  have h2 := ob_cell (hR.1.own i o ho) hu
  simp only [SV.den] at h1
  simp [execOp, h1, Instr.loadAt, Instr.sureAddr, loadVar, run_isAgg_one ht.h, h2, SV.den]
theorem run_load_agg {t : TypeId} {cs : List Value} {b off : Nat} {W : World} (hc : ∀ j u, cs[j]? = some u → W.cell? ⟨b, off + j, none⟩ = some u) (ht : aggB P t cs.length = true) :
    (loadVar t ⟨b, off, none⟩).run P W = .ok (.agg cs.toArray) W := by
  have hl := run_loadCells_list (P := P) W ⟨b, off, none⟩ cs (fun j v hv => by rw [Addr.add_lit]; exact hc j v hv)
  simp [loadVar, run_isAgg_agg ht, run_sizeOf_of (aggB_size ht), hl]
/-- A load of a whole struct that begins at a cell of an own block. -/
theorem QS_loadN {t : TypeId} {x : Operand} {i off : Nat} {o : Ob} (n : Nat) (hx : s.env.op x = some (.p i off)) (ho : s.own[i]? = some o) (hn : Nat.ble (off + n) o.cells.length = true) (ht : aggB P t n = true) :
    QS P w M0 N ⟨dst, .load t x, ty, pos, aft, g⟩ s (.v (.agg ((o.cells.drop off).take n).toArray)) := QS_run fun hd a W hR => by
  have h1 := hR.2.eval hx
  have hn' : off + n ≤ o.cells.length := Nat.le_of_ble_eq_true hn
  have hlen : ((o.cells.drop off).take n).length = n := by rw [List.length_take, List.length_drop]; omega
  have h3 := run_load_agg (P := P) (t := t) (cs := (o.cells.drop off).take n) (b := (foot (hd i)).getD 0) (off := off) (W := W) (fun j u hu => by
    rw [List.getElem?_take] at hu
    split at hu
    · rw [List.getElem?_drop] at hu
      exact ob_cell (hR.1.own i o ho) hu
    · cases hu) (by rw [hlen]; exact ht)
  simp only [SV.den] at h1
  simp only [execOp, h1, Instr.loadAt, Instr.sureAddr, Sem.run_bind, Sem.run_pure, Result.andThen_ok, h3]
  rfl
theorem QS_loadA {t : TypeId} {x : Operand} {i : Nat} {o : Ob} (hx : s.env.op x = some (.p i 0)) (ho : s.own[i]? = some o) (n : Nat) [ht : AggT P t n] (hn : o.cells.length = n) : QS P w M0 N ⟨dst, .load t x, ty, pos, aft, g⟩ s (.v (.agg o.cells.toArray)) := QS_run fun hd a W hR => by
  have h1 := hR.2.eval hx
  have h3 := run_load_agg (P := P) (t := t) (cs := o.cells) (b := (foot (hd i)).getD 0) (off := 0) (W := W) (fun j u hu => by rw [Nat.zero_add]; exact ob_cell (hR.1.own i o ho) hu) (by rw [hn]; exact ht.h)
  simp only [SV.den] at h1
  simp only [execOp, h1, Instr.loadAt, Instr.sureAddr, Sem.run_bind, Sem.run_pure, Result.andThen_ok, h3]
  rfl
/-- A load out of memory that nobody writes. -/
theorem QS_mload1 {t : TypeId} {x : Operand} {b off : Nat} {u : Value} (hx : s.env.op x = some (.v (.pointer (some ⟨b, off, none⟩)))) (hu : s.M.cell b off = some u) [ht : OneT P t] : QS P w M0 N ⟨dst, .load t x, ty, pos, aft, g⟩ s (.v u) := QS_run fun hd a W hR => by
  have h1 := hR.2.eval hx
  have h2 : W.cell? ⟨b, off, none⟩ = some u := by rw [← Mem.of_cell]; exact hR.1.mem.cell hu
  simp only [SV.den] at h1
  simp [execOp, h1, Instr.loadAt, Instr.sureAddr, loadVar, run_isAgg_one ht.h, h2, SV.den]
theorem QS_mloadN {t : TypeId} {x : Operand} {b off : Nat} (cs : List Value) (hx : s.env.op x = some (.v (.pointer (some ⟨b, off, none⟩)))) (hu : ∀ j u, cs[j]? = some u → s.M.cell b (off + j) = some u) (n : Nat) [ht : AggT P t n] (hn : cs.length = n) :
    QS P w M0 N ⟨dst, .load t x, ty, pos, aft, g⟩ s (.v (.agg cs.toArray)) := QS_run fun hd a W hR => by
  have h1 := hR.2.eval hx
  have h3 := run_load_agg (P := P) (t := t) (cs := cs) (b := b) (off := off) (W := W) (fun j u h => by rw [← Mem.of_cell]; exact hR.1.mem.cell (hu j u h)) (by rw [hn]; exact ht.h)
  simp only [SV.den] at h1
  simp only [execOp, h1, Instr.loadAt, Instr.sureAddr, Sem.run_bind, Sem.run_pure, Result.andThen_ok, h3]
  rfl
/-- The address of a field. -/
def fieldB (P : Program) (t : TypeId) (f off : Nat) : Bool :=
  match P.underlying t with
  | some (.struct fs) => match fs[f]? with
    | some fd => Nat.beq fd.offset off && !sizeB P fd.type 0 && (P.info? fd.type).isSome
    | none => false
  | _ => false
class FldT (P : Program) (t : TypeId) (f : Nat) (off : outParam Nat) : Prop where
  h : fieldB P t f off = true
theorem run_fieldAt {t : TypeId} {f off : Nat} (h : fieldB P t f off = true) (b o : Nat) (W : World) : (Instr.fieldAt t (.pointer (some ⟨b, o, none⟩)) f).run P W = .ok (.pointer (some ⟨b, o + off, none⟩)) W := by
  unfold fieldB at h
  split at h
  · rename_i fs hu
    split at h
    · rename_i fd hf
      simp only [Bool.and_eq_true, Bool.not_eq_true'] at h
      obtain ⟨⟨h1, h2⟩, h3⟩ := h
      have h1' := Nat.eq_of_beq_eq_true h1
      cases hi : P.info? fd.type with
      | none => rw [hi] at h3; cases h3
      | some i =>
        have hs : i.size ≠ 0 := by
          intro e
          unfold sizeB at h2
          rw [hi] at h2
          simp [e] at h2
        simp [Instr.fieldAt, run_underlying hu, hf, Instr.sureAddr, fieldPlace, sizeOf, typeInfo, hi, hs, Addr.add_lit, h1']
    · cases h
  · cases h
theorem QS_fieldAddr {t : TypeId} {x : Operand} {f i o off : Nat} (hx : s.env.op x = some (.p i o)) [hf : FldT P t f off] : QS P w M0 N ⟨dst, .fieldAddr t x f, ty, pos, aft, g⟩ s (.p i (o + off)) := QS_run fun hd a W hR => by
  have h1 := hR.2.eval hx
  simp only [SV.den] at h1
  simp only [execOp, h1, Sem.run_bind, run_fieldAt hf.h]
  rfl
theorem QS_mfieldAddr {t : TypeId} {x : Operand} {f b o off : Nat} (hx : s.env.op x = some (.v (.pointer (some ⟨b, o, none⟩)))) [hf : FldT P t f off] : QS P w M0 N ⟨dst, .fieldAddr t x f, ty, pos, aft, g⟩ s (.v (.pointer (some ⟨b, o + off, none⟩))) := QS_run fun hd a W hR => by
  have h1 := hR.2.eval hx
  simp only [SV.den] at h1
  simp only [execOp, h1, Sem.run_bind, run_fieldAt hf.h]
  rfl
/-- A field of a struct's value: one cell. -/
def fieldVB (P : Program) (t : TypeId) (f off : Nat) : Bool :=
  match P.underlying t with
  | some (.struct fs) => match fs[f]? with
    | some fd => Nat.beq fd.offset off && oneB P fd.type
    | none => false
  | _ => false
class FvlT (P : Program) (t : TypeId) (f : Nat) (off : outParam Nat) : Prop where
  h : fieldVB P t f off = true
theorem QS_field {t : TypeId} {x : Operand} {f off : Nat} {cs : Array Value} {u : Value} (hx : s.env.op x = some (.v (.agg cs))) [hft : FvlT P t f off] (hu : cs[off]? = some u) : QS P w M0 N ⟨dst, .field t x f, ty, pos, aft, g⟩ s (.v u) := QS_run fun hd a W hR => by
  have h1 := hR.2.eval hx
  simp only [SV.den] at h1
  have hf := hft.h
  unfold fieldVB at hf
  split at hf
  · rename_i fs hus
    split at hf
    · rename_i fd hfd
      simp only [Bool.and_eq_true] at hf
      obtain ⟨h2, h3⟩ := hf
      have h2' := Nat.eq_of_beq_eq_true h2
      simp only [execOp, h1, Instr.field, Sem.run_bind, run_underlying hus, Result.andThen_ok, hfd, asAgg, Sem.run_pure, part, run_isAgg_one h3, h2', hu, SV.den]
      simp
    · cases hf
  · cases hf
/-- A struct put together, each of its fields of one cell. -/
def flatB (P : Program) (t : TypeId) (n : Nat) : Bool :=
  match P.underlying t with
  | some (.struct fs) => Nat.beq fs.size n && (List.range n).all fun j => match fs[j]? with | some fd => Nat.beq fd.offset j && sizeB P fd.type 1 | none => false
  | _ => false
class FltT (P : Program) (t : TypeId) (n : outParam Nat) : Prop where
  h : flatB P t n = true
def sets : List Value → List (Nat × Value) → List Value
  | cs, [] => cs
  | cs, (i, v) :: l => sets (cs.set i v) l
def Env.parts (e : Env) : List (Nat × Operand) → Option (List (Nat × Value))
  | [] => some []
  | (i, x) :: l => match e.op x, e.parts l with | some (.v v), some r => some ((i, v) :: r) | _, _ => none
theorem Env.parts_eval {hd : Nat → Value} {env : Env} {a : Act} (h : Fr N hd env a) : ∀ (l : List (Nat × Operand)) (ps : List (Nat × Value)), env.parts l = some ps → l.map (fun (i, x) => (i, a.eval x)) = ps
  | [], ps, hp => by cases hp; rfl
  | (i, x) :: l, ps, hp => by
    unfold Env.parts at hp
    split at hp
    · rename_i v r hx hr
      cases hp
      show (i, a.eval x) :: l.map (fun (i, x) => (i, a.eval x)) = _
      rw [Env.parts_eval h l r hr, h.eval hx]; rfl
    · cases hp
theorem run_placesOf {fs : Array Field} : ∀ (n k : Nat), k + n = fs.size → (∀ j, k ≤ j → j < k + n → ∃ fd, fs[j]? = some fd ∧ fd.offset = j ∧ sizeB P fd.type 1 = true) → ∀ W : World,
    ((fs.toList.drop k).mapM (fun f => do pure (f.offset, ← sizeOf f.type) : Field → Sem (Nat × Nat))).run P W = .ok ((List.range' k n).map fun j => (j, 1)) W
  | 0, k, hk, h, W => by
    rw [List.drop_eq_nil_of_le (by simp; omega)]; rfl
  | n + 1, k, hk, h, W => by
    obtain ⟨fd, h1, h2, h3⟩ := h k (Nat.le_refl _) (by omega)
    have hlt : k < fs.toList.length := by simp; omega
    have he : fs.toList[k] = fd := by
      have := Array.getElem?_eq_some_iff.1 h1
      simpa using this.2
    rw [List.drop_eq_getElem_cons hlt, List.mapM_cons, he]
    have ih := run_placesOf n (k + 1) (by omega) (fun j hj hj2 => h j (by omega) (by omega)) W
    simp only [Sem.run_bind, run_sizeOf_of h3, Result.andThen_ok, Sem.run_pure, ih, h2, List.range'_succ, List.map_cons]
theorem fill_flat (n : Nat) : ∀ (ps : List (Nat × Value)) (cs : List Value), cs.length = n → (ps.all fun p => Nat.blt p.1 n && p.2.oneCell') = true → Instr.fill (((List.range n).map fun j => (j, 1)).toArray[·]?) cs.toArray ps = some (sets cs ps).toArray
  | [], cs, _, _ => rfl
  | (i, v) :: l, cs, hl, h => by
    simp only [List.all_cons, Bool.and_eq_true] at h
    obtain ⟨⟨h1, h2⟩, h3⟩ := h
    have h1' : i < n := by simpa [Nat.blt_eq] using h1
    have hv : v.cells = #[v] := by cases v <;> first | rfl | cases h2
    have ih := fill_flat n l (cs.set i v) (by simp [hl]) h3
    unfold Instr.fill
    simp only [List.getElem?_toArray, List.getElem?_map, List.getElem?_range h1', Option.map_some, hv]
    rw [if_neg (by simp; omega)]
    simp only [sets]
    rw [← ih]
    congr 1
    · funext x; simp
    · show ((cs.toArray).setIfInBounds (i + 0) v) = _
      simp
theorem QS_build {t : TypeId} {parts : Array (Nat × Operand)} {zs : Array Value} {ps : List (Nat × Value)} [hz : ZerT P t (.agg zs)] (n : Nat) [hft : FltT P t n] (hn : zs.toList.length = n) (hp : s.env.parts parts.toList = some ps)
    (h1 : (ps.all fun p => Nat.blt p.1 n && p.2.oneCell') = true) : QS P w M0 N ⟨dst, .build t parts, ty, pos, aft, g⟩ s (.v (.agg (sets zs.toList ps).toArray)) := QS_run fun hd a W hR => by
  have hpe := Env.parts_eval hR.2 parts.toList ps hp
  have hf : flatB P t zs.size = true := by have := hft.h; rw [← hn] at this; simpa using this
  unfold flatB at hf
  split at hf
  · rename_i fs hu
    simp only [Bool.and_eq_true] at hf
    have hsz := Nat.eq_of_beq_eq_true hf.1
    have hpl := run_placesOf (P := P) (fs := fs) zs.size 0 (by omega) (fun j _ hj => by
      have := List.all_eq_true.1 hf.2 j (by simp; omega)
      split at this
      · rename_i fd hfd
        simp only [Bool.and_eq_true] at this
        exact ⟨fd, hfd, Nat.eq_of_beq_eq_true this.1, this.2⟩
      · cases this) W
    have hfl := fill_flat zs.size ps zs.toList (by simp) (by rw [← hn] at h1; simpa using h1)
    have hparts : (parts.map fun (i, x) => (i, a.eval x)).toList = ps := by rw [Array.toList_map]; exact hpe
    have hpl' : (fs.mapM (fun f => do pure (f.offset, ← sizeOf f.type) : Field → Sem (Nat × Nat))).run P W = .ok ((List.range zs.size).map fun j => (j, 1)).toArray W := by
      obtain ⟨fl⟩ := fs
      simp only [List.drop_zero] at hpl
      rw [List.mapM_toArray, Sem.run_map, hpl]
      simp [List.range_eq_range']
    simp only [execOp, Instr.build, Sem.run_bind, hz.h, Result.andThen_ok, run_underlying hu, Value.cells, hparts]
    simp only [hpl', Result.andThen_ok]
    simp only [Array.toArray_toList] at hfl
    rw [hfl]
    rfl
  · cases hf
/-- A call of a named function that touches nothing that is there. -/
def callB (P : Program) (f : FuncId) : Bool := match P.funcs[f]? with | some fn => !(fn.name == "runtime.NumGoroutine") && fn.body.isSome | none => false
class CalT (P : Program) (f : FuncId) : Prop where
  h : callB P f = true
def Env.vals (e : Env) : List Operand → Option (List Value)
  | [] => some []
  | x :: l => match e.op x, e.vals l with | some (.v v), some r => some (v :: r) | _, _ => none
theorem Env.vals_eval {hd : Nat → Value} {env : Env} {a : Act} (h : Fr N hd env a) : ∀ (l : List Operand) (vs : List Value), env.vals l = some vs → l.map a.eval = vs
  | [], vs, hp => by cases hp; rfl
  | x :: l, vs, hp => by
    unfold Env.vals at hp
    split at hp
    · rename_i v r hx hr
      cases hp
      rw [List.map_cons, Env.vals_eval h l r hr, h.eval hx]; rfl
    · cases hp
theorem run_call {f : FuncId} (h : callB P f = true) (args : Array Value) (W : World) : (callFunc f args).run P W = .ok (.enter f args) W := by
  unfold callB at h
  split at h
  · rename_i fn hf
    simp only [Bool.and_eq_true, Bool.not_eq_true'] at h
    have h2 : fn.body.isNone = false := by
      cases hb : fn.body with
      | none => rw [hb] at h; simp at h
      | some c => rfl
    simp only [callFunc, Sem.run_bind, run_program, Result.andThen_ok, hf, h.1, h2, Bool.false_eq_true, if_false, Sem.run_pure]
  · cases h
theorem exec_call {hd : Nat → Value} {a : Act} {W : World} {f : FuncId} {xs : Array Operand} {ats : Array TypeId} {vs : List Value} (hF : Fr N hd s.env a) (hf : callB P f = true) (hv : s.env.vals xs.toList = some vs) :
    (execOp a.eval ⟨dst, .call ⟨.value (.func f), xs, ats⟩, ty, pos, aft, g⟩).run P W = .ok (.enter f vs.toArray) W := by
  have h1 := Env.vals_eval hF _ _ hv
  show (callFunc f (#[] ++ xs.map a.eval ++ #[])).run P W = _
  rw [run_call hf]
  have : (#[] ++ xs.map a.eval ++ #[] : Array Value) = vs.toArray := by rw [← h1]; cases xs; simp
  rw [this]
theorem QS_call {f : FuncId} {xs : Array Operand} {ats : Array TypeId} {vs : List Value} {r : Value} [hf : CalT P f] (hv : s.env.vals xs.toList = some vs) (hc : ∀ W, s.M.le (Mem.of W) → Calls P f vs.toArray W fun e W' => e = .returned r ∧ Below W.heap.size W W') :
    QS P w M0 N ⟨dst, .call ⟨.value (.func f), xs, ats⟩, ty, pos, aft, g⟩ s (.v r) := .mk fun hd a W hR => by
  unfold Oper.quietAt
  rw [exec_call hR.2 hf.h hv]
  exact ⟨rfl, hc W hR.1.mem⟩
theorem QS_call0 {f : FuncId} {xs : Array Operand} {ats : Array TypeId} {vs : List Value} {r : Value} [hf : CalT P f] (hv : s.env.vals xs.toList = some vs) (hc : ∀ W, s.M.le (Mem.of W) → Calls P f vs.toArray W fun e W' => e = .returned r ∧ W = W') :
    QS P w M0 N ⟨dst, .call ⟨.value (.func f), xs, ats⟩, ty, pos, aft, g⟩ s (.v r) :=
  QS_call hv fun W hW => (hc W hW).mono fun e W' ⟨he, hw⟩ => ⟨he, by subst hw; exact Below.refl _ _⟩
/-- A part of a tuple. -/
theorem QS_extract {x : Operand} {k : Nat} {vs : Array Value} {u : Value} (hx : s.env.op x = some (.v (.tuple vs))) (hu : vs[k]? = some u) : QS P w M0 N ⟨dst, .extract x k, ty, pos, aft, g⟩ s (.v u) := QS_run fun hd a W hR => by
  have h1 := hR.2.eval hx
  simp only [SV.den] at h1
  simp [execOp, h1, Instr.extract, hu, SV.den]
/-- No slot speaks of an own object that there isn't. -/
def SV.okB (n : Nat) : SV → Bool
  | .v _ => true
  | .p i _ => Nat.blt i n
  | .r i => Nat.blt i n
def envB : Env → Nat → Bool
  | [], _ => true
  | (_, sv) :: l, n => match sv.okB n with | true => envB l n | false => false
theorem envB_get {n : Nat} : ∀ {env : Env}, envB env n = true → ∀ t sv, env.get t = some sv → sv.okB n = true
  | [], _, t, sv, h => by cases h
  | (k, s) :: l, hB, t, sv, h => by
    unfold envB at hB
    split at hB
    · rename_i hs
      unfold Env.get at h
      split at h
      · cases h; exact hs
      · exact envB_get hB t sv h
    · cases hB
/-- New variables. -/
theorem VL_new {ops : Array Oper} {o : Oper} {l : List Oper} {Q : Post} {ob : Ob} {M : Mem} {own : List Ob} {env : Env} (hg : o.guard = none) (hk : dstOk N o.dst = true) (t : TypeId) (cs : List Value) (hob : ob = .blk t cs)
    (hr : ∀ hd a W, Rel w M0 N hd ⟨M, own, env⟩ a W → (execOp a.eval o).run P W = .ok (.value (.pointer (some ⟨W.heap.size, 0, none⟩))) (W.alloc (.cells cs.toArray t))) (h : VL P w M0 N ops l ⟨M, own ++ [ob], env.put o.dst (.p own.length 0)⟩ Q)
    (hold : envB env own.length = true) : VL P w M0 N ops (o :: l) ⟨M, own, env⟩ Q := .mk fun hd a W hR => by
  subst hob
  refine wpList_plain hg fun K hK => ?_
  unfold Oper.wp
  rw [hr hd a W hR]
  simp only [Oper.upon]
  have hnew := hR.1.new (W' := W.alloc (.cells cs.toArray t)) (o' := .blk t cs) (v' := .pointer (some ⟨W.heap.size, 0, none⟩)) (World.grownBy_alloc W _ none) ⟨W.heap.size, rfl, hR.1.below.size, heap_alloc_new W _⟩ (fun b hb => by
    obtain rfl : W.heap.size = b := by simpa [foot] using hb
    exact Nat.le_refl _)
  have hfr : Fr N (setH hd own.length (.pointer (some ⟨W.heap.size, 0, none⟩))) env a := hR.2.upd fun t sv hs => by
    have h2 := envB_get hold t sv hs
    cases sv with
    | v x => rfl
    | p i off =>
      have h3 : i < own.length := by simpa [SV.okB, Nat.blt_eq] using h2
      simp only [SV.den]; rw [setH_ne _ _ (by omega)]
    | r i =>
      have h3 : i < own.length := by simpa [SV.okB, Nat.blt_eq] using h2
      simp only [SV.den]; rw [setH_ne _ _ (by omega)]
  have hput := hfr.put hk (.p own.length 0)
  have e : SV.den (setH hd own.length (.pointer (some ⟨W.heap.size, 0, none⟩))) (.p own.length 0) = .pointer (some ⟨W.heap.size, 0, none⟩) := by
    simp only [SV.den, setH_same]; rfl
  rw [e] at hput
  exact hK _ _ (h.go _ _ _ ⟨hnew, hput⟩)
theorem VL_box {ops : Array Oper} {t : TypeId} {x : Operand} {l : List Oper} {Q : Post} {M : Mem} {own : List Ob} {env : Env} {u : Value} (hx : env.op x = some (.v u)) (hk : dstOk N dst = true) (hold : envB env own.length = true)
    (h : VL P w M0 N ops l ⟨M, own ++ [.blk t u.cells.toList], env.put dst (.p own.length 0)⟩ Q) : VL P w M0 N ops (⟨dst, .box t x, ty, pos, aft, none⟩ :: l) ⟨M, own, env⟩ Q :=
  VL_new (o := ⟨dst, .box t x, ty, pos, aft, none⟩) rfl hk t u.cells.toList rfl (fun hd a W hR => by
    have h1 := hR.2.eval hx
    simp only [SV.den] at h1
    simp [execOp, h1, Instr.box, newVar, newRow]) h hold
theorem VL_alloc {ops : Array Oper} {t : TypeId} {l : List Oper} {Q : Post} {M : Mem} {own : List Ob} {env : Env} {z : Value} [hz : ZerT P t z] (hk : dstOk N dst = true) (hold : envB env own.length = true)
    (h : VL P w M0 N ops l ⟨M, own ++ [.blk t z.cells.toList], env.put dst (.p own.length 0)⟩ Q) : VL P w M0 N ops (⟨dst, .alloc t, ty, pos, aft, none⟩ :: l) ⟨M, own, env⟩ Q :=
  VL_new (o := ⟨dst, .alloc t, ty, pos, aft, none⟩) rfl hk t z.cells.toList rfl (fun hd a W hR => by
    simp [execOp, Instr.alloc, hz.h, newVar, newRow]) h hold
/-- A store into an own block. -/
theorem Wd.store {hd : Nat → Value} {M : Mem} {ow : List Ob} {W W' : World} {i b : Nat} {t : TypeId} {cs cs' : List Value} (h : Wd w M0 hd M ow W) (hi : ow[i]? = some (.blk t cs)) (hb : hd i = .pointer (some ⟨b, 0, none⟩)) (hg : W.grownBy W' (some b))
    (hn : W'.heap[b]? = some (.cells cs'.toArray t (0, 0))) : Wd w M0 hd M (ow.set i (.blk t cs')) W' := by
  have hlt := (foot_lt (h.own i _ hi) (by simp) (b := b) (by rw [hb]; rfl))
  exact h.upd hi (by simp) hg (fun c hc => by cases hc; rw [hb]; rfl) (o' := .blk t cs') ⟨b, hb, hlt.1, hn⟩
theorem VL_store1 {ops : Array Oper} {t t' : TypeId} {x y : Operand} {l : List Oper} {Q : Post} {M : Mem} {own : List Ob} {env : Env} {i off : Nat} {cs : List Value} {u : Value} (hx : env.op x = some (.p i off)) (hy : env.op y = some (.v u)) (hi : own[i]? = some (.blk t' cs))
    (hoff : Nat.blt off cs.length = true) (hu : u.oneCell' = true) [ht : SizT P t 1] (hk : dstOk N dst = true) (h : VL P w M0 N ops l ⟨M, own.set i (.blk t' (cs.set off u)), env.put dst (.v undef)⟩ Q) :
    VL P w M0 N ops (⟨dst, .store t x y, ty, pos, aft, none⟩ :: l) ⟨M, own, env⟩ Q := .mk fun hd a W hR => by
  have h1 := hR.2.eval hx
  have h2 := hR.2.eval hy
  simp only [SV.den] at h1 h2
  obtain ⟨b, hb, hb1, hb2⟩ := hR.1.own i _ hi
  have hoff' : off < cs.length := by simpa [Nat.blt_eq] using hoff
  rw [hb] at h1
  have hc : W.cell? ⟨b, off, none⟩ = some (cs[off]) := by rw [cell_of_row W b off _ t' _ hb2]; simp [hoff']
  have hz : W.frozen? ⟨b, off, none⟩ = false := frozen_of_row W b off _ t' hb2
  have hv : u.cells = #[u] := by cases u <;> first | rfl | cases hu
  refine wpList_plain rfl fun K hK => ?_
  unfold Oper.wp
  have hrun : (execOp a.eval ⟨dst, .store t x y, ty, pos, aft, none⟩).run P W = .ok .skip (W.setCell ⟨b, off, none⟩ u) := by
    simp [execOp, h1, h2, foot, Instr.storeAt, Instr.sureAddr, storeVar, run_sizeOf_of ht.h, hv, storeCells, run_store P W _ u _ hu, hc, hz, Addr.add_zero']
  rw [hrun]
  simp only [Oper.upon]
  have hg : W.grownBy (W.setCell ⟨b, off, none⟩ u) (some b) := ⟨rfl, rfl, rfl, by simp, fun k hk hne => heap_setCell_other W ⟨b, off, none⟩ k u (fun e => hne (by rw [e]))⟩
  have hn : (W.setCell ⟨b, off, none⟩ u).heap[b]? = some (.cells (cs.set off u).toArray t' (0, 0)) := by
    rw [heap_setCell_same W b off _ t' u hb2]; simp
  exact hK _ _ (h.go hd _ _ ⟨hR.1.store hi hb hg hn, hR.2.put hk (.v undef)⟩)
theorem VL_storeN {ops : Array Oper} {t t' : TypeId} {x y : Operand} {l : List Oper} {Q : Post} {M : Mem} {own : List Ob} {env : Env} {i : Nat} {cs : List Value} {us : Array Value} (hx : env.op x = some (.p i 0)) (hy : env.op y = some (.v (.agg us))) (hi : own[i]? = some (.blk t' cs))
    (hn : cs.length = us.toList.length) (hu : us.toList.all (·.oneCell') = true) (n : Nat) [ht : SizT P t n] (hsz : us.toList.length = n) (hk : dstOk N dst = true) (h : VL P w M0 N ops l ⟨M, own.set i (.blk t' us.toList), env.put dst (.v undef)⟩ Q) :
    VL P w M0 N ops (⟨dst, .store t x y, ty, pos, aft, none⟩ :: l) ⟨M, own, env⟩ Q := .mk fun hd a W hR => by
  have h1 := hR.2.eval hx
  have h2 := hR.2.eval hy
  simp only [SV.den] at h1 h2
  obtain ⟨b, hb, hb1, hb2⟩ := hR.1.own i _ hi
  rw [hb] at h1
  refine wpList_plain rfl fun K hK => ?_
  unfold Oper.wp
  have hi' : (P.info? t).map (·.size) = some us.size := by have := ht.h; rw [← hsz] at this; unfold sizeB at this; simpa using this
  have hu' : us.all (·.oneCell') = true := by simpa using hu
  have hrun : (execOp a.eval ⟨dst, .store t x y, ty, pos, aft, none⟩).run P W = .ok .skip (W.setRow b us) := by
    have h3 := run_storeVar_row (P := P) W b t' t cs.toArray us hb2 hi' (by simpa using hn) hu'
    have h1' : a.eval x = .pointer (some ⟨b, 0, none⟩) := h1
    simp only [execOp, h1', h2, Instr.storeAt, Instr.sureAddr, Sem.run_bind, Sem.run_pure, Result.andThen_ok, h3]
  rw [hrun]
  simp only [Oper.upon]
  have hg : W.grownBy (W.setRow b us) (some b) := ⟨rfl, rfl, rfl, by simp, fun k hk hne => setRow_other W b k us (fun e => hne (by rw [e]))⟩
  have hnn : (W.setRow b us).heap[b]? = some (.cells us.toList.toArray t' (0, 0)) := by
    rw [setRow_heap W b _ us t' _ hb2]
  exact hK _ _ (h.go hd _ _ ⟨hR.1.store hi hb hg hnn, hR.2.put hk (.v undef)⟩)

/-! ### A function's end and its beginning -/
def ResV (P : Program) (s : St) : ResultVar → Value → Prop
  | .tmp t, v => s.env.get t = some (.v v)
  | .cell p t, v => ∃ i o, s.env.get p = some (.p i 0) ∧ s.own[i]? = some o ∧ ((oneB P t = true ∧ o.cells[0]? = some v) ∨ (aggB P t o.cells.length = true ∧ v = .agg o.cells.toArray))
def resOf (P : Program) (tmps : Array Value) : ResultVar → Sem Value
  | .tmp t => pure (tmps.getD t undef)
  | .cell a t => do loadVar t (← asAddr (tmps.getD a undef))
theorem resOf_run {hd : Nat → Value} {a : Act} {W : World} (hR : Rel w M0 N hd s a W) {r : ResultVar} {v : Value} (h : ResV P s r v) : (resOf P a.tmps r).run P W = .ok v W := by
  cases r with
  | tmp t =>
    have := hR.2.env t _ h
    simp [resOf, this, SV.den]
  | cell p t =>
    obtain ⟨i, o, h1, h2, h3⟩ := h
    have h4 := hR.2.env p _ h1
    have h5 : a.tmps.getD p undef = .pointer (some ⟨(foot (hd i)).getD 0, 0, none⟩) := by simp [h4, SV.den]
    simp only [resOf, h5, asAddr, Sem.run_bind, Sem.run_pure, Result.andThen_ok]
    rcases h3 with ⟨h3, h6⟩ | ⟨h3, rfl⟩
    · simp [loadVar, run_isAgg_one h3, ob_cell (hR.1.own i o h2) h6]
    · exact run_load_agg (fun j u hu => by rw [Nat.zero_add]; exact ob_cell (hR.1.own i o h2) hu) h3
def Res (P : Program) (fn : Func) (s : St) (v : Value) : Prop :=
  (∃ r, fn.results = #[r] ∧ ResV P s r v) ∨ (∃ r1 r2 v1 v2, fn.results = #[r1, r2] ∧ v = .tuple #[v1, v2] ∧ ResV P s r1 v1 ∧ ResV P s r2 v2) ∨
  (∃ r1 r2 r3 v1 v2 v3, fn.results = #[r1, r2, r3] ∧ v = .tuple #[v1, v2, v3] ∧ ResV P s r1 v1 ∧ ResV P s r2 v2 ∧ ResV P s r3 v3) ∨ (fn.results = #[] ∧ v = .tuple #[])
theorem results_eq (fn : Func) (tmps : Array Value) : results fn tmps = (do let vs ← fn.results.mapM (resOf P tmps); pure (if h : vs.size = 1 then vs[0] else .tuple vs)) := by
  unfold results
  congr 1
theorem Res.run {fn : Func} {hd : Nat → Value} {a : Act} {W : World} (hR : Rel w M0 N hd s a W) {v : Value} (h : Res P fn s v) : (results fn a.tmps).run P W = .ok v W := by
  rw [results_eq (P := P)]
  rcases h with ⟨r, h1, h2⟩ | ⟨r1, r2, v1, v2, h1, rfl, h2, h3⟩ | ⟨r1, r2, r3, v1, v2, v3, h1, rfl, h2, h3, h4⟩ | ⟨h1, rfl⟩
  · rw [h1]; simp [resOf_run hR h2]
  · rw [h1]; simp [resOf_run hR h2, resOf_run hR h3]
  · rw [h1]; simp [resOf_run hR h2, resOf_run hR h3, resOf_run hR h4]
  · rw [h1]; simp
theorem Res.one {fn : Func} {r : ResultVar} {v : Value} (h : fn.results = #[r]) (h1 : ResV P s r v) : Res P fn s v := .inl ⟨r, h, h1⟩
theorem Res.two {fn : Func} {r1 r2 : ResultVar} {v1 v2 : Value} (h : fn.results = #[r1, r2]) (h1 : ResV P s r1 v1) (h2 : ResV P s r2 v2) : Res P fn s (.tuple #[v1, v2]) := .inr (.inl ⟨r1, r2, v1, v2, h, rfl, h1, h2⟩)
theorem Res.three {fn : Func} {r1 r2 r3 : ResultVar} {v1 v2 v3 : Value} (h : fn.results = #[r1, r2, r3]) (h1 : ResV P s r1 v1) (h2 : ResV P s r2 v2) (h3 : ResV P s r3 v3) : Res P fn s (.tuple #[v1, v2, v3]) := .inr (.inr (.inl ⟨r1, r2, r3, v1, v2, v3, h, rfl, h1, h2, h3⟩))
theorem ResV_agg {p : Tmp} {t : TypeId} {i : Nat} {o : Ob} {v : Value} (hp : s.env.get p = some (.p i 0)) (ho : s.own[i]? = some o) (n : Nat) [ht : AggT P t n] (hn : o.cells.length = n) (hv : Value.agg o.cells.toArray = v) : ResV P s (.cell p t) v := ⟨i, o, hp, ho, .inr ⟨by rw [hn]; exact ht.h, hv.symm⟩⟩
theorem ResV_one {p : Tmp} {t : TypeId} {i : Nat} {o : Ob} {u v : Value} (hp : s.env.get p = some (.p i 0)) (ho : s.own[i]? = some o) [ht : OneT P t] (hu : o.cells[0]? = some u) (hv : u = v) : ResV P s (.cell p t) v := ⟨i, o, hp, ho, .inl ⟨ht.h, by rw [hu, hv]⟩⟩
theorem ResV_tmp {t : Tmp} {u v : Value} (hp : s.env.get t = some (.v u)) (hv : u = v) : ResV P s (.tmp t) v := by rw [← hv]; exact hp
def finQ (R : St → Prop) : Post
  | .ret, s => R s
  | .normal, s => R s
  | _, _ => False
def envFrom : Nat → List Value → Env
  | _, [] => []
  | k, v :: l => (k, .v v) :: envFrom (k + 1) l
theorem envFrom_get : ∀ (l : List Value) (k t : Nat) (sv : SV), (envFrom k l).get t = some sv → ∃ v, k ≤ t ∧ l[t - k]? = some v ∧ sv = .v v
  | [], _, _, _, h => by cases h
  | v :: l, k, t, sv, h => by
    unfold envFrom Env.get at h
    split at h
    · rename_i hb
      obtain rfl := Nat.eq_of_beq_eq_true hb
      cases h
      exact ⟨v, Nat.le_refl _, by simp, rfl⟩
    · rename_i hb
      obtain ⟨u, h1, h2, h3⟩ := envFrom_get l (k + 1) t sv h
      exact ⟨u, by omega, by rw [show t - k = (t - (k + 1)) + 1 by omega]; simpa using h2, h3⟩
/-- A call, by its body: what is known of its result and of memory. -/
theorem V_fun {f : FuncId} {fn : Func} {c : Code} {args : List Value} {M : Mem} (hf : P.funcs[f]? = some fn) (hb : fn.body = some c) (hn : fn.ntmps = N) (hk : Nat.ble args.length N = true) (hM : M.le (Mem.of w)) (Post : Value → Mem → Prop)
    (h : VC P w M N c ⟨M, [], envFrom 0 args⟩ (finQ fun s => ∃ v, Res P fn s v ∧ Post v s.M)) :
    Calls P f args.toArray w fun e W' => ∃ v M', e = .returned v ∧ Below w.heap.size w W' ∧ M.le M' ∧ M'.le (Mem.of W') ∧ (∀ b, b < w.heap.size → M b = none → M' b = none) ∧ Post v M' := by
  have hk' : args.length ≤ N := Nat.le_of_ble_eq_true hk
  refine calls_of_wp hf hb (wp_mono (h.go (fun _ => .nilFunc) _ w ⟨⟨Below.refl _ _, hM, fun b _ h => h, Mem.le_refl _, fun i o hi => by simp at hi, fun i o b hi => by simp at hi, fun i j oi oj b hi => by simp at hi⟩, fun t sv ht => ?_, ?_, rfl⟩) ?_)
  · obtain ⟨v, _, h1, rfl⟩ := envFrom_get args 0 t sv ht
    have h1' : args[t]? = some v := by simpa using h1
    have hlt := (List.getElem?_eq_some_iff.1 h1').1
    show (args.toArray ++ _)[t]? = some v
    rw [Array.getElem?_append_left (by simpa using hlt)]
    simpa using h1'
  · simp [hn]; omega
  · rintro e a' W' ⟨hd', s', hR', hq⟩
    cases e with
    | ret =>
      obtain ⟨v, h1, h2⟩ := hq
      exact ⟨hR'.2.defers, v, h1.run hR', v, s'.M, rfl, hR'.1.below, hR'.1.grew, hR'.1.mem, hR'.1.old, h2⟩
    | normal =>
      obtain ⟨v, h1, h2⟩ := hq
      exact ⟨hR'.2.defers, v, h1.run hR', v, s'.M, rfl, hR'.1.below, hR'.1.grew, hR'.1.mem, hR'.1.old, h2⟩
    | exit id => exact hq.elim
    | goto l => exact hq.elim
    | panic c => exact hq.elim
    | outgrown => exact hq.elim
/-- The same where the result is a plain value. -/
theorem V_flat {f : FuncId} {fn : Func} {c : Code} {args : List Value} {M : Mem} {r : Value} (hf : P.funcs[f]? = some fn) (hb : fn.body = some c) (hn : fn.ntmps = N) (hk : Nat.ble args.length N = true) (hM : M.le (Mem.of w))
    (h : VC P w M N c ⟨M, [], envFrom 0 args⟩ (finQ fun s => Res P fn s r)) : Calls P f args.toArray w fun e W' => e = .returned r ∧ Below w.heap.size w W' :=
  (V_fun hf hb hn hk hM (fun v _ => v = r) (VC_mono h fun e s hq => by cases e <;> first | exact hq.elim | exact ⟨r, hq, rfl⟩)).mono fun e W' ⟨v, M', he, hb, _, _, _, hv⟩ => ⟨by rw [he, hv], hb⟩

/-! ### Statements that draw their order -/
theorem VC_drawq {id : Nat} {l : List Oper} {Q : Post} (hm : P.follows .mixedOrders = true) (hB : Region.lexB .any l.toArray = true) (h : VG P w M0 N l.toArray l s (fun s' => Q .normal s')) : VC P w M0 N (.region id l.toArray true) s Q := .mk fun hd a W hR => by
  have h1 := h.go hd a W hR
  have conv : ∀ (l' : List Oper) (a : Act), wpGrow P l.toArray W (fun a' => ∃ env', Fr N hd env' a' ∧ Q .normal { s with env := env' }) l' a →
      wpQuiet P l.toArray (fun W' => Below W.heap.size W W') (fun a' => ∀ W', Below W.heap.size W W' → post w M0 N Q .normal a' W') l' a := by
    intro l'
    induction l' with
    | nil =>
      rintro a ⟨env', hF, hq⟩ W' hb
      exact ⟨hd, { s with env := env' }, ⟨hR.1.idle hb, hF⟩, hq⟩
    | cons o l' ih =>
      rintro a ⟨v, hy, hK⟩
      unfold wpQuiet
      rcases hy with ⟨hw, hq⟩ | ⟨hw, rfl⟩
      · rw [if_pos hw]
        refine ⟨v, fun W' hb => ?_, ih _ hK⟩
        have h2 := hq W' hb
        unfold Oper.quietAt at *
        generalize (execOp a.eval o).run P W' = r at *
        cases r with
        | ok nx w' =>
          cases nx <;> simp only [Oper.quietUpon] at h2 ⊢
          case value u => exact h2
          case skip => exact h2
          case enter fn args => exact ⟨h2.1, h2.2.mono fun e W'' ⟨he, hb2⟩ => ⟨he, hb.trans (hb2.mono hb.size)⟩⟩
        | halt x w' => simp only [Oper.quietUpon] at h2
      · rw [if_neg (by rw [hw]; simp)]
        exact ih _ hK
  refine wp_region_quiet (C := fun W' => Below W.heap.size W W') hm hB ?_ (conv l a h1)
  have := below_regrown W (W.drawn + 1) #[]
  rw [Go.Sort.grow_empty] at this
  exact this
/-- New variables of a statement that draws its order. -/
def pushAls (als : List (Tmp × TypeId × List Value)) (s : St) : St := als.foldl (fun s x => ⟨s.M, s.own ++ [.blk x.2.1 x.2.2], s.env.put (some x.1) (.p s.own.length 0)⟩) s
end
end Go.Proofs.Ytipbbbamjckjoaa
