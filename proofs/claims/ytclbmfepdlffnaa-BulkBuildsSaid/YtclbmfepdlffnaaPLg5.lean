/- The logic's rules for strings as bytes: index, cut, []byte(s), string(row). No program in sight. -/
import Derived.Test.YtclbmfepdlffnaaPLg4
import Derived.Laws.Strings3
import Derived.Laws.Strings
import Derived.Laws.IdiomStrings
namespace Go.Proofs.Ytclbmfepdlffnaa
open Go Go.RowKit
set_option linter.unusedVariables false
set_option maxRecDepth 20000
set_option linter.unusedSimpArgs false
/-- The byte at a place. -/
def byt (s : ByteArray) (j : Nat) : Int := ((s.data.toList.getD j 0).toNat : Int)
theorem byt_get {s : ByteArray} {j : Nat} (h : j < s.size) : byt s j = ((s[j]).toNat : Int) := by
  unfold byt
  have h' : j < s.data.toList.length := by simpa using h
  rw [List.getD, List.getElem?_eq_getElem h']
  rfl
section
variable {P : Program} {w : World} {M0 : Mem} {N : Nat} {dst : Option Tmp} {ty : TypeId} {pos : String} {aft : Array Edge} {g : Option (Nat × Bool)} {s : St}
theorem QS_index {t : TypeId} {x y : Operand} {b : ByteArray} {kd : IntKind} {i : Int} (j : Nat) (hx : s.env.op x = some (.v (.string b))) (hy : s.env.op y = some (.v (.int kd i))) [ht : StrT P t] (hi : i = (j : Int)) (hj : j < b.size) : QS P w M0 N ⟨dst, .index t x y, ty, pos, aft, g⟩ s (.v (.int .u8 (byt b j))) := QS_run fun hd a W hR => by
  have h1 := hR.2.eval hx
  have h2 := hR.2.eval hy
  subst hi
  simp only [SV.den] at h1 h2
  have h3 := run_index_string (P := P) W t b kd (j : Int) (isStrB_u ht.h)
  rw [dif_pos ⟨by omega, by omega⟩] at h3
  simp only [execOp, h1, h2, Sem.run_bind, h3]
  simp only [Result.andThen, SV.den, byt_get hj, Int.toNat_natCast]
  rfl
theorem run_sliceAt_str {W : World} {t : TypeId} {b : ByteArray} {l h m : Option Value} (ht : P.underlying t = some .string) : (Instr.sliceAt t (.string b) l h m).run P W = (Instr.slice t (.string b) l h m).run P W := by
  simp [Instr.sliceAt, run_underlying ht]
theorem QS_cutS {t : TypeId} {x : Operand} {b : ByteArray} {lo hi : Option Operand} (p q : Nat) (hx : s.env.op x = some (.v (.string b))) [ht : StrT P t]
    (hlo : match lo with | none => p = 0 | some o => s.env.op o = some (.v (.int .i64 p))) (hhi : match hi with | none => q = b.size | some o => s.env.op o = some (.v (.int .i64 q))) (h1 : p ≤ q) (h2 : q ≤ b.size) : QS P w M0 N ⟨dst, .slice t x lo hi none, ty, pos, aft, g⟩ s (.v (.string (b.extract p q))) := QS_run fun hd a W hR => by
  have hvx := hR.2.eval hx
  simp only [SV.den] at hvx
  have hu := isStrB_u ht.h
  have ev : ∀ {o : Operand} {z : Nat}, s.env.op o = some (.v (.int .i64 z)) → a.eval o = .int .i64 z := fun ho => hR.2.eval ho
  cases lo with
  | none =>
    simp only at hlo; subst hlo
    cases hi with
    | none =>
      simp only at hhi; subst hhi
      simp only [execOp, hvx, Option.map_none, Sem.run_bind, run_sliceAt_str hu, run_slice_string_all W t b hu]; rfl
    | some o =>
      have := ev hhi
      simp only [execOp, hvx, Option.map_none, Option.map_some, this, Sem.run_bind, run_sliceAt_str hu, run_slice_string_to_if W t b _ _ hu]
      rw [if_pos ⟨by omega, by omega⟩]; rfl
  | some o1 =>
    have e1 := ev hlo
    cases hi with
    | none =>
      simp only at hhi; subst hhi
      simp only [execOp, hvx, Option.map_none, Option.map_some, e1, Sem.run_bind, run_sliceAt_str hu, run_slice_string_from_if W t b _ _ hu]
      rw [if_pos ⟨by omega, by omega⟩]; rfl
    | some o =>
      have e2 := ev hhi
      simp only [execOp, hvx, Option.map_none, Option.map_some, e1, e2, Sem.run_bind, run_sliceAt_str hu, run_slice_string W t b _ _ _ _ hu (show (0 : Int) ≤ (p : Int) by omega) (show (p : Int) ≤ (q : Int) by omega) (show (q : Int) ≤ (b.size : Int) by omega)]; rfl
/-- 'string(b)' of an own row of bytes. -/
class ByteT (P : Program) (t : TypeId) (e : outParam TypeId) : Prop where
  h : P.underlying t = some (.slice e)
  he : P.underlying e = some (.int .u8)
def byteB (P : Program) (t e : TypeId) : Bool := (match P.underlying t with | some (.slice e') => Nat.beq e' e | _ => false) && (match P.underlying e with | some (.int .u8) => true | _ => false)
theorem ByteT.mk' {t e : TypeId} (h : byteB P t e = true) : ByteT P t e := by
  unfold byteB at h
  simp only [Bool.and_eq_true] at h
  obtain ⟨h1, h2⟩ := h
  split at h1
  · rename_i e' hu
    obtain rfl := Nat.eq_of_beq_eq_true h1
    split at h2
    · rename_i hv; exact ⟨hu, hv⟩
    · cases h2
  · cases h1
/-- The low byte of a number. -/
def b8 (n : Int) : UInt8 := UInt8.ofNat (n % 256).toNat
/-- A struct put together, its fields of any size. -/
def placesB (P : Program) (t : TypeId) (pl : List (Nat × Nat)) : Bool := match P.underlying t with
  | some (.struct fs) => Nat.beq fs.toList.length pl.length && (fs.toList.zip pl).all fun x => Nat.beq x.1.offset x.2.1 && sizeB P x.1.type x.2.2
  | _ => false
class PlcT (P : Program) (t : TypeId) (pl : outParam (List (Nat × Nat))) : Prop where
  h : placesB P t pl = true
theorem run_placesL : ∀ (fs : List Field) (pl : List (Nat × Nat)), fs.length = pl.length → ((fs.zip pl).all fun x => Nat.beq x.1.offset x.2.1 && sizeB P x.1.type x.2.2) = true → ∀ W : World,
    (fs.mapM (fun f => do pure (f.offset, ← sizeOf f.type) : Field → Sem (Nat × Nat))).run P W = .ok pl W
  | [], [], _, _, W => rfl
  | [], _ :: _, h, _, _ => by cases h
  | _ :: _, [], h, _, _ => by cases h
  | f :: fs, (o, n) :: pl, hl, h, W => by
    simp only [List.zip_cons_cons, List.all_cons, Bool.and_eq_true] at h
    obtain ⟨⟨h1, h2⟩, h3⟩ := h
    have ih := run_placesL fs pl (by simpa using hl) h3 W
    rw [List.mapM_cons]
    simp only [Sem.run_bind, run_sizeOf_of h2, Result.andThen_ok, Sem.run_pure, ih, Nat.eq_of_beq_eq_true h1]
def setsAt : List Value → Nat → List Value → List Value
  | cs, _, [] => cs
  | cs, o, v :: vs => setsAt (cs.set o v) (o + 1) vs
theorem setsAt_length : ∀ (vs cs : List Value) (o : Nat), (setsAt cs o vs).length = cs.length
  | [], _, _ => rfl
  | v :: vs, cs, o => by unfold setsAt; rw [setsAt_length vs, List.length_set]
theorem foldl_setsAt (o : Nat) : ∀ (vs : List Value) (j : Nat) (cs : List Value), (vs.zipIdx j).foldl (fun (cs : Array Value) (x : Value × Nat) => cs.setIfInBounds (o + x.2) x.1) cs.toArray = (setsAt cs (o + j) vs).toArray
  | [], _, _ => rfl
  | v :: vs, j, cs => by
    rw [List.zipIdx_cons, List.foldl_cons]
    unfold setsAt
    have : cs.toArray.setIfInBounds (o + j) v = (cs.set (o + j) v).toArray := by simp
    simp only [this]
    exact foldl_setsAt o vs (j + 1) _
def fillL (pl : List (Nat × Nat)) : List Value → List (Nat × Value) → List Value
  | cs, [] => cs
  | cs, (i, v) :: l => match pl[i]? with
    | some (o, _) => fillL pl (setsAt cs o v.cells.toList) l
    | none => cs
def fillB (pl : List (Nat × Nat)) (m : Nat) (ps : List (Nat × Value)) : Bool := ps.all fun x => match pl[x.1]? with
  | some (o, n) => Nat.beq x.2.cells.toList.length n && Nat.ble (o + n) m
  | none => false
theorem fill_L (pl : List (Nat × Nat)) (m : Nat) : ∀ (ps : List (Nat × Value)) (cs : List Value), cs.length = m → fillB pl m ps = true → Instr.fill (pl.toArray[·]?) cs.toArray ps = some (fillL pl cs ps).toArray
  | [], cs, _, _ => rfl
  | (i, v) :: l, cs, hl, h => by
    unfold fillB at h
    simp only [List.all_cons, Bool.and_eq_true] at h
    obtain ⟨h1, h2⟩ := h
    unfold Instr.fill fillL
    simp only [List.getElem?_toArray]
    cases hp : pl[i]? with
    | none => rw [hp] at h1; cases h1
    | some x =>
      obtain ⟨o, n⟩ := x
      rw [hp] at h1
      simp only [Bool.and_eq_true] at h1
      have e1 := Nat.eq_of_beq_eq_true h1.1
      have e2 := Nat.le_of_ble_eq_true h1.2
      have e3 : v.cells.size = n := by simpa using e1
      have e4 := foldl_setsAt o v.cells.toList 0 cs
      have e5 : (v.cells.zipIdx.foldl (fun cs (x : Value × Nat) => cs.setIfInBounds (o + x.2) x.1) cs.toArray) = (setsAt cs o v.cells.toList).toArray := by
        rw [← Array.foldl_toList, Array.toList_zipIdx]
        simpa using e4
      have ih := fill_L pl m l (setsAt cs o v.cells.toList) (by rw [setsAt_length, hl]) h2
      dsimp only
      rw [if_neg (by simp [e3]; omega)]
      exact (congrArg (fun c => Instr.fill (fun x => pl[x]?) c l) e5).trans (by simpa using ih)
theorem QS_buildK {t : TypeId} {parts : Array (Nat × Operand)} {zs : Array Value} {ps : List (Nat × Value)} {pl : List (Nat × Nat)} [hz : ZerT P t (.agg zs)] [hpt : PlcT P t pl] (hp : s.env.parts parts.toList = some ps)
    (h1 : fillB pl zs.toList.length ps = true) : QS P w M0 N ⟨dst, .build t parts, ty, pos, aft, g⟩ s (.v (.agg (fillL pl zs.toList ps).toArray)) := QS_run fun hd a W hR => by
  have hpe := Env.parts_eval hR.2 parts.toList ps hp
  have hf := hpt.h
  unfold placesB at hf
  split at hf
  · rename_i fs hu
    simp only [Bool.and_eq_true] at hf
    have hpl := run_placesL (P := P) fs.toList pl (Nat.eq_of_beq_eq_true hf.1) hf.2 W
    have hfl := fill_L pl _ ps zs.toList rfl h1
    have hparts : (parts.map fun (i, x) => (i, a.eval x)).toList = ps := by rw [Array.toList_map]; exact hpe
    have hpl' : (fs.mapM (fun f => do pure (f.offset, ← sizeOf f.type) : Field → Sem (Nat × Nat))).run P W = .ok pl.toArray W := by
      obtain ⟨fl⟩ := fs
      rw [List.mapM_toArray, Sem.run_map, hpl]
      rfl
    simp only [execOp, Instr.build, Sem.run_bind, hz.h, Result.andThen_ok, run_underlying hu, Value.cells, hparts]
    simp only [hpl', Result.andThen_ok]
    simp only [Array.toArray_toList] at hfl
    rw [hfl]
    rfl
  · cases hf
end
section
variable {P : Program} {w : World} {M0 : Mem} {N : Nat} {dst : Option Tmp} {ty : TypeId} {pos : String} {aft : Array Edge} {ops : Array Oper} {l : List Oper} {Q : Post} {M : Mem} {own : List Ob} {env : Env}
end
section
variable {P : Program} {w : World} {M0 : Mem} {N : Nat} {dst : Option Tmp} {ty : TypeId} {pos : String} {aft : Array Edge} {g : Option (Nat × Bool)} {s : St}
theorem qbk {t : TypeId} {parts : Array (Nat × Operand)} {zs : Array Value} {ps : List (Nat × Value)} {pl : List (Nat × Nat)} [hz : ZerT P t (.agg zs)] [hpt : PlcT P t pl] (hp : s.env.parts parts.toList = some ps) (h1 : fillB pl zs.toList.length ps = true := by rfl) : QS P w M0 N ⟨dst, .build t parts, ty, pos, aft, g⟩ s (.v (.agg (fillL pl zs.toList ps).toArray)) := QS_buildK hp h1
theorem qlN {t : TypeId} {x : Operand} {i off n : Nat} {o : Ob} [ht : AggT P t n] (hx : s.env.op x = some (.p i off)) (ho : s.own[i]? = some o := by rfl) (hn : Nat.ble (off + n) o.cells.length = true := by rfl) : QS P w M0 N ⟨dst, .load t x, ty, pos, aft, g⟩ s (.v (.agg ((o.cells.drop off).take n).toArray)) := QS_loadN n hx ho hn ht.h
end
end Go.Proofs.Ytclbmfepdlffnaa
