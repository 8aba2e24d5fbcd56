/- The logic's rules for strings as bytes: index, cut, []byte(s), string(row). No program in sight. -/
import Derived.Test.YtlapnbklbpeddaaGreatPLg4
import Derived.Laws.Strings3
import Derived.Laws.Strings
import Derived.Laws.IdiomStrings
namespace Go.Proofs.YtlapnbklbpeddaaGreat
open Go Go.RowKit
set_option linter.unusedVariables false
set_option maxRecDepth 20000
set_option linter.unusedSimpArgs false
/-- The byte at a place. -/
def byt (s : ByteArray) (j : Nat) : Int := ((s.data.toList.getD j 0).toNat : Int)
theorem byt_lt (s : ByteArray) (j : Nat) : 0 ≤ byt s j ∧ byt s j < 256 := by
  unfold byt
  have := UInt8.toNat_lt (s.data.toList.getD j 0)
  omega
theorem byt_get {s : ByteArray} {j : Nat} (h : j < s.size) : byt s j = ((s[j]).toNat : Int) := by
  unfold byt
  have h' : j < s.data.toList.length := by simpa using h
  rw [List.getD, List.getElem?_eq_getElem h']
  rfl
/-- A string's cells as bytes. -/
def bcells (s : ByteArray) : List Value := s.data.toList.map fun b => Value.int .u8 b.toNat
theorem bcells_length (s : ByteArray) : (bcells s).length = s.size := by simp [bcells]
section
variable {P : Program} {w : World} {M0 : Mem} {N : Nat} {dst : Option Tmp} {ty : TypeId} {pos : String} {aft : Array Edge} {g : Option (Nat × Bool)} {s : St}
theorem QS_index {t : TypeId} {x y : Operand} {b : ByteArray} {kd : IntKind} {i : Int} (j : Nat) (hx : s.env.op x = some (.v (.string b))) (hy : s.env.op y = some (.v (.int kd i))) [ht : StrT P t] (hi : i = (j : Int)) (hj : j < b.size) : QS P w M0 N ⟨dst, .index t x y, ty, pos, aft, g⟩ s (.v (.int .u8 (byt b j))) := QS_run fun hd a W hR => by
  have h1 := hR.2.eval hx
  have h2 := hR.2.eval hy
  subst hi
  simp only [SV.den] at h1 h2
  have h3 := run_index_string (P := P) W t b kd (j : Int) (isStrB_u ht.h)
  rw [dif_pos ⟨by omega, by omega⟩] at h3
  simp only [execOp, h1, h2, Sem.run_bind, h3]
  simp only [Result.andThen, SV.den, byt_get hj, Int.toNat_natCast]
  rfl
theorem run_sliceAt_str {W : World} {t : TypeId} {b : ByteArray} {l h m : Option Value} (ht : P.underlying t = some .string) : (Instr.sliceAt t (.string b) l h m).run P W = (Instr.slice t (.string b) l h m).run P W := by
  simp [Instr.sliceAt, run_underlying ht]
theorem QS_cutS {t : TypeId} {x : Operand} {b : ByteArray} {lo hi : Option Operand} (p q : Nat) (hx : s.env.op x = some (.v (.string b))) [ht : StrT P t]
    (hlo : match lo with | none => p = 0 | some o => s.env.op o = some (.v (.int .i64 p))) (hhi : match hi with | none => q = b.size | some o => s.env.op o = some (.v (.int .i64 q))) (h1 : p ≤ q) (h2 : q ≤ b.size) : QS P w M0 N ⟨dst, .slice t x lo hi none, ty, pos, aft, g⟩ s (.v (.string (b.extract p q))) := QS_run fun hd a W hR => by
  have hvx := hR.2.eval hx
  simp only [SV.den] at hvx
  have hu := isStrB_u ht.h
  have ev : ∀ {o : Operand} {z : Nat}, s.env.op o = some (.v (.int .i64 z)) → a.eval o = .int .i64 z := fun ho => hR.2.eval ho
  cases lo with
  | none =>
    simp only at hlo; subst hlo
    cases hi with
    | none =>
      simp only at hhi; subst hhi
      simp only [execOp, hvx, Option.map_none, Sem.run_bind, run_sliceAt_str hu, run_slice_string_all W t b hu]; rfl
    | some o =>
      have := ev hhi
      simp only [execOp, hvx, Option.map_none, Option.map_some, this, Sem.run_bind, run_sliceAt_str hu, run_slice_string_to_if W t b _ _ hu]
      rw [if_pos ⟨by omega, by omega⟩]; rfl
  | some o1 =>
    have e1 := ev hlo
    cases hi with
    | none =>
      simp only at hhi; subst hhi
      simp only [execOp, hvx, Option.map_none, Option.map_some, e1, Sem.run_bind, run_sliceAt_str hu, run_slice_string_from_if W t b _ _ hu]
      rw [if_pos ⟨by omega, by omega⟩]; rfl
    | some o =>
      have e2 := ev hhi
      simp only [execOp, hvx, Option.map_none, Option.map_some, e1, e2, Sem.run_bind, run_sliceAt_str hu, run_slice_string W t b _ _ _ _ hu (show (0 : Int) ≤ (p : Int) by omega) (show (p : Int) ≤ (q : Int) by omega) (show (q : Int) ≤ (b.size : Int) by omega)]; rfl
/-- 'string(b)' of an own row of bytes. -/
class ByteT (P : Program) (t : TypeId) (e : outParam TypeId) : Prop where
  h : P.underlying t = some (.slice e)
  he : P.underlying e = some (.int .u8)
def byteB (P : Program) (t e : TypeId) : Bool := (match P.underlying t with | some (.slice e') => Nat.beq e' e | _ => false) && (match P.underlying e with | some (.int .u8) => true | _ => false)
theorem ByteT.mk' {t e : TypeId} (h : byteB P t e = true) : ByteT P t e := by
  unfold byteB at h
  simp only [Bool.and_eq_true] at h
  obtain ⟨h1, h2⟩ := h
  split at h1
  · rename_i e' hu
    obtain rfl := Nat.eq_of_beq_eq_true h1
    split at h2
    · rename_i hv; exact ⟨hu, hv⟩
    · cases h2
  · cases h1
/-- The bytes that cells are. -/
def unb (cs : List Value) : List UInt8 := cs.map fun | .int .u8 n => UInt8.ofNat n.toNat | _ => 0
theorem bcells_unb (cs : List Value) (h : ∀ v ∈ cs, ∃ u : UInt8, v = .int .u8 (u.toNat : Int)) : bcells ⟨(unb cs).toArray⟩ = cs := by
  unfold bcells unb
  simp only [List.map_map]
  conv => rhs; rw [← List.map_id cs]
  apply List.map_congr_left
  intro v hv
  obtain ⟨u, rfl⟩ := h v hv
  simp
theorem QS_bytesS {src t e e2 : TypeId} {x : Operand} {i n : Nat} {cs : List Value} [hB : ByteT P src e] [ht : StrT P t] (hx : s.env.op x = some (.r i)) (ho : s.own[i]? = some (.row e2 1 n cs)) (hc : ∀ v ∈ cs, ∃ u : UInt8, v = .int .u8 (u.toNat : Int)) : QS P w M0 N ⟨dst, .convert src t x, ty, pos, aft, g⟩ s (.v (.string ⟨(unb cs).toArray⟩)) := QS_run fun hd a W hR => by
  have hcs := bcells_unb cs hc
  generalize hbb : (⟨(unb cs).toArray⟩ : ByteArray) = b at hcs ⊢
  subst hcs
  have h1 := hR.2.eval hx
  simp only [SV.den] at h1
  obtain ⟨hl, h2⟩ := hR.1.own i _ ho
  have hl' : b.size = n := by rw [bcells_length] at hl; omega
  rcases h2 with ⟨h2, h3⟩ | ⟨bk, cap, cur, h2, _, hh, hc1, hc2, hc3, hc4⟩
  · subst h3
    have hb : b = ByteArray.empty := by
      have : b.data.toList = [] := List.length_eq_zero_iff.1 (by simpa using hl')
      cases b; rename_i d; cases d; simp_all
    clear hbb
    subst hb
    simp only [execOp, h1, h2, Sem.run_bind, run_convert_bytes_string W src t e none 0 0 hB.h hB.he (isStrB_u ht.h)]
    simp [Conv.bytesToString, SV.den, Result.andThen, Sem.run_pure]
  · have hcells : ∀ j (hj : j < b.data.toList.length), W.cell? ((⟨bk, 0, none⟩ : Addr).add j) = some (.int .u8 ((b.data.toList[j]).toNat : Int)) := fun j hj => by
      have e1 : (bcells b)[j]? = some (.int .u8 ((b.data.toList[j]).toNat : Int)) := by simp [bcells, List.getElem?_eq_getElem hj]
      rw [← hc4, List.getElem?_take] at e1
      split at e1
      · have ea : (⟨bk, 0, none⟩ : Addr).add j = ⟨bk, j, none⟩ := by
          unfold Addr.add
          split <;> simp_all
        rw [ea]
        simp [World.cell?, hh]; simpa using e1
      · cases e1
    have h4 := run_convert_bytes_back W src t e ⟨bk, 0, none⟩ cap b.data.toList hB.h hB.he (isStrB_u ht.h) hcells
    have hn : b.data.toList.length = n := by simpa using hl'
    rw [hn] at h4
    simp only [execOp, h1, h2, Sem.run_bind, h4]
    rfl
/-- The low byte of a number. -/
def b8 (n : Int) : UInt8 := UInt8.ofNat (n % 256).toNat
theorem wrap_u8 (n : Int) : IntKind.u8.wrap n = ((b8 n).toNat : Int) := by
  unfold IntKind.wrap b8
  simp only [IntKind.bits, IntKind.signed, Bool.false_and, Bool.false_eq_true, if_false]
  simp
  omega
theorem QS_narrow {src dt : TypeId} {x : Operand} {n : Int} [h1 : IntT P src .i64] [h2 : IntT P dt .u8] (hx : s.env.op x = some (.v (.int .i64 n))) : QS P w M0 N ⟨dst, .convert src dt x, ty, pos, aft, g⟩ s (.v (.int .u8 ((b8 n).toNat : Int))) := QS_convertI hx (wrap_u8 n)
theorem QS_wide {src dt : TypeId} {x : Operand} {n : Int} [h1 : IntT P src .u8] [h2 : IntT P dt .i64] (hx : s.env.op x = some (.v (.int .u8 n))) (h0 : 0 ≤ n ∧ n < 256) : QS P w M0 N ⟨dst, .convert src dt x, ty, pos, aft, g⟩ s (.v (.int .i64 n)) := QS_convertI hx (by
  unfold IntKind.wrap
  simp only [IntKind.bits, IntKind.signed]
  simp
  omega)
/-- A struct put together, its fields of any size. -/
def placesB (P : Program) (t : TypeId) (pl : List (Nat × Nat)) : Bool := match P.underlying t with
  | some (.struct fs) => Nat.beq fs.toList.length pl.length && (fs.toList.zip pl).all fun x => Nat.beq x.1.offset x.2.1 && sizeB P x.1.type x.2.2
  | _ => false
class PlcT (P : Program) (t : TypeId) (pl : outParam (List (Nat × Nat))) : Prop where
  h : placesB P t pl = true
theorem run_placesL : ∀ (fs : List Field) (pl : List (Nat × Nat)), fs.length = pl.length → ((fs.zip pl).all fun x => Nat.beq x.1.offset x.2.1 && sizeB P x.1.type x.2.2) = true → ∀ W : World,
    (fs.mapM (fun f => do pure (f.offset, ← sizeOf f.type) : Field → Sem (Nat × Nat))).run P W = .ok pl W
  | [], [], _, _, W => rfl
  | [], _ :: _, h, _, _ => by cases h
  | _ :: _, [], h, _, _ => by cases h
  | f :: fs, (o, n) :: pl, hl, h, W => by
    simp only [List.zip_cons_cons, List.all_cons, Bool.and_eq_true] at h
    obtain ⟨⟨h1, h2⟩, h3⟩ := h
    have ih := run_placesL fs pl (by simpa using hl) h3 W
    rw [List.mapM_cons]
    simp only [Sem.run_bind, run_sizeOf_of h2, Result.andThen_ok, Sem.run_pure, ih, Nat.eq_of_beq_eq_true h1]
def setsAt : List Value → Nat → List Value → List Value
  | cs, _, [] => cs
  | cs, o, v :: vs => setsAt (cs.set o v) (o + 1) vs
theorem setsAt_length : ∀ (vs cs : List Value) (o : Nat), (setsAt cs o vs).length = cs.length
  | [], _, _ => rfl
  | v :: vs, cs, o => by unfold setsAt; rw [setsAt_length vs, List.length_set]
theorem foldl_setsAt (o : Nat) : ∀ (vs : List Value) (j : Nat) (cs : List Value), (vs.zipIdx j).foldl (fun (cs : Array Value) (x : Value × Nat) => cs.setIfInBounds (o + x.2) x.1) cs.toArray = (setsAt cs (o + j) vs).toArray
  | [], _, _ => rfl
  | v :: vs, j, cs => by
    rw [List.zipIdx_cons, List.foldl_cons]
    unfold setsAt
    have : cs.toArray.setIfInBounds (o + j) v = (cs.set (o + j) v).toArray := by simp
    simp only [this]
    exact foldl_setsAt o vs (j + 1) _
def fillL (pl : List (Nat × Nat)) : List Value → List (Nat × Value) → List Value
  | cs, [] => cs
  | cs, (i, v) :: l => match pl[i]? with
    | some (o, _) => fillL pl (setsAt cs o v.cells.toList) l
    | none => cs
def fillB (pl : List (Nat × Nat)) (m : Nat) (ps : List (Nat × Value)) : Bool := ps.all fun x => match pl[x.1]? with
  | some (o, n) => Nat.beq x.2.cells.toList.length n && Nat.ble (o + n) m
  | none => false
theorem fill_L (pl : List (Nat × Nat)) (m : Nat) : ∀ (ps : List (Nat × Value)) (cs : List Value), cs.length = m → fillB pl m ps = true → Instr.fill (pl.toArray[·]?) cs.toArray ps = some (fillL pl cs ps).toArray
  | [], cs, _, _ => rfl
  | (i, v) :: l, cs, hl, h => by
    unfold fillB at h
    simp only [List.all_cons, Bool.and_eq_true] at h
    obtain ⟨h1, h2⟩ := h
    unfold Instr.fill fillL
    simp only [List.getElem?_toArray]
    cases hp : pl[i]? with
    | none => rw [hp] at h1; cases h1
    | some x =>
      obtain ⟨o, n⟩ := x
      rw [hp] at h1
      simp only [Bool.and_eq_true] at h1
      have e1 := Nat.eq_of_beq_eq_true h1.1
      have e2 := Nat.le_of_ble_eq_true h1.2
      have e3 : v.cells.size = n := by simpa using e1
      have e4 := foldl_setsAt o v.cells.toList 0 cs
      have e5 : (v.cells.zipIdx.foldl (fun cs (x : Value × Nat) => cs.setIfInBounds (o + x.2) x.1) cs.toArray) = (setsAt cs o v.cells.toList).toArray := by
        rw [← Array.foldl_toList, Array.toList_zipIdx]
        simpa using e4
      have ih := fill_L pl m l (setsAt cs o v.cells.toList) (by rw [setsAt_length, hl]) h2
      dsimp only
      rw [if_neg (by simp [e3]; omega)]
      exact (congrArg (fun c => Instr.fill (fun x => pl[x]?) c l) e5).trans (by simpa using ih)
theorem QS_buildK {t : TypeId} {parts : Array (Nat × Operand)} {zs : Array Value} {ps : List (Nat × Value)} {pl : List (Nat × Nat)} [hz : ZerT P t (.agg zs)] [hpt : PlcT P t pl] (hp : s.env.parts parts.toList = some ps)
    (h1 : fillB pl zs.toList.length ps = true) : QS P w M0 N ⟨dst, .build t parts, ty, pos, aft, g⟩ s (.v (.agg (fillL pl zs.toList ps).toArray)) := QS_run fun hd a W hR => by
  have hpe := Env.parts_eval hR.2 parts.toList ps hp
  have hf := hpt.h
  unfold placesB at hf
  split at hf
  · rename_i fs hu
    simp only [Bool.and_eq_true] at hf
    have hpl := run_placesL (P := P) fs.toList pl (Nat.eq_of_beq_eq_true hf.1) hf.2 W
    have hfl := fill_L pl _ ps zs.toList rfl h1
    have hparts : (parts.map fun (i, x) => (i, a.eval x)).toList = ps := by rw [Array.toList_map]; exact hpe
    have hpl' : (fs.mapM (fun f => do pure (f.offset, ← sizeOf f.type) : Field → Sem (Nat × Nat))).run P W = .ok pl.toArray W := by
      obtain ⟨fl⟩ := fs
      rw [List.mapM_toArray, Sem.run_map, hpl]
      rfl
    simp only [execOp, Instr.build, Sem.run_bind, hz.h, Result.andThen_ok, run_underlying hu, Value.cells, hparts]
    simp only [hpl', Result.andThen_ok]
    simp only [Array.toArray_toList] at hfl
    rw [hfl]
    rfl
  · cases hf
end
section
variable {P : Program} {w : World} {M0 : Mem} {N : Nat} {dst : Option Tmp} {ty : TypeId} {pos : String} {aft : Array Edge} {ops : Array Oper} {l : List Oper} {Q : Post} {M : Mem} {own : List Ob} {env : Env}
/-- '[]byte(s)', read only: memory. -/
theorem VL_bytes {src dt e : TypeId} {x : Operand} {b : ByteArray} [hs : StrT P src] [hB : ByteT P dt e] (hx : env.op x = some (.v (.string b))) (hm : b.size ≤ maxLen) (hk : dstOk N dst = true)
    (h : ∀ v M', M.le M' → RowM M' 1 b.size (bcells b) v → VL P w M0 N ops l ⟨M', own, env.put dst (.v v)⟩ Q) :
    VL P w M0 N ops (⟨dst, .convert src dt x, ty, pos, aft, none⟩ :: l) ⟨M, own, env⟩ Q := .mk fun hd a W hR => by
  refine wpList_plain rfl fun K hK => ?_
  unfold Oper.wp
  have h1 := hR.2.eval hx
  simp only [SV.den] at h1
  have hex : (execOp a.eval ⟨dst, .convert src dt x, ty, pos, aft, none⟩).run P W = .ok (.value (.slice (some ⟨W.heap.size, 0, none⟩) b.size (grownCap W b.size 0 e))) (W.drew.alloc (.cells (bytesRow b (grownCap W b.size 0 e)) e ((bytesRow b (grownCap W b.size 0 e)).size, (bytesRow b (grownCap W b.size 0 e)).size + 1))) := by
    simp only [execOp, h1, Sem.run_bind, run_bytes_of_string W src dt e b (isStrB_u hs.h) hB.h hB.he]
    rfl
  rw [hex]
  simp only [Oper.upon]
  generalize hob : (Obj.cells (bytesRow b (grownCap W b.size 0 e)) e ((bytesRow b (grownCap W b.size 0 e)).size, (bytesRow b (grownCap W b.size 0 e)).size + 1)) = ob
  have hbel : Below W.heap.size W (W.drew.alloc ob) := by
    have h0 : Below W.heap.size W W.drew := ⟨rfl, rfl, rfl, Nat.le_refl _, fun _ _ => rfl⟩
    exact h0.alloc (Nat.le_refl _) ob
  have hsz : W.drew.heap.size = W.heap.size := rfl
  have hheap : ∀ j, (W.drew.alloc ob).heap[j]? = if j = W.heap.size then some ob else W.heap[j]? := fun j => by
    show (W.heap.push ob)[j]? = _
    rw [Array.getElem?_push]
  let M' : Mem := fun j => if j = W.heap.size then some ob else M j
  have hfree : ∀ j o, M j = some o → j ≠ W.heap.size := fun j o hj hjs => by
    subst hjs
    have := hR.1.mem _ _ hj
    unfold Mem.of at this
    rw [Array.getElem?_eq_none (Nat.le_refl _)] at this
    cases this
  have hle : M.le M' := fun j o hj => by
    show (if j = W.heap.size then some ob else M j) = some o
    rw [if_neg (hfree j o hj)]; exact hj
  have hi := hR.1.idle hbel
  have hrow : RowM M' 1 b.size (bcells b) (.slice (some ⟨W.heap.size, 0, none⟩) b.size (grownCap W b.size 0 e)) := by
    refine ⟨by rw [bcells_length]; omega, .inr ⟨W.heap.size, _, rfl, grownCap_ge _ _ _ _, grownCap_le_maxLen _ _ _ _ hm, by show (if _ then _ else _ : Option Obj).isSome = true; simp, fun j u hj => ?_⟩⟩
    show Mem.cell M' _ _ = _
    have : M' W.heap.size = some ob := if_pos rfl
    unfold Mem.cell
    rw [this, ← hob]
    have hlt : j < (bcells b).length := (List.getElem?_eq_some_iff.1 hj).1
    rw [bcells_length] at hlt
    simp only [bytesRow]
    rw [Array.getElem?_append_left (by simpa using hlt)]
    rw [← hj]
    simp [bcells]
  refine hK _ _ ((h _ M' hle hrow).go hd _ _ ⟨⟨hi.below, fun j o hj => ?_, fun j hj h0 => ?_, hi.grew.trans hle, hi.own, fun i o j hi' hne hf' => ?_, hi.dis⟩, hR.2.put hk (.v _)⟩)
  · show (W.drew.alloc ob).heap[j]? = _
    rw [hheap]
    have hj' : (if j = W.heap.size then some ob else M j) = some o := hj
    split
    · rename_i he; rw [if_pos he] at hj'; exact hj'
    · rename_i he; rw [if_neg he] at hj'; exact hR.1.mem j o hj'
  · have : j ≠ W.heap.size := by have := hR.1.below.size; omega
    show (if j = W.heap.size then some ob else M j) = none
    rw [if_neg this]; exact hR.1.old j hj h0
  · have h5 := (foot_lt (hR.1.own i o hi') hne hf').2
    show (if j = W.heap.size then some ob else M j) = none
    rw [if_neg (by omega)]
    exact hR.1.sep i o j hi' hne hf'
end
section
variable {P : Program} {w : World} {M0 : Mem} {N : Nat} {dst : Option Tmp} {ty : TypeId} {pos : String} {aft : Array Edge} {g : Option (Nat × Bool)} {s : St}
theorem qi0 {t : TypeId} {x : Operand} {b : ByteArray} {kd : IntKind} [ht : StrT P t] (hx : s.env.op x = some (.v (.string b))) (hj : 0 < b.size := by omega) : QS P w M0 N ⟨dst, .index t x (.const (.int kd 0)), ty, pos, aft, g⟩ s (.v (.int .u8 (byt b 0))) := QS_index 0 hx rfl rfl hj
theorem qwd {src dt : TypeId} {x : Operand} {n : Int} [h1 : IntT P src .u8] [h2 : IntT P dt .i64] (hx : s.env.op x = some (.v (.int .u8 n))) (h0 : 0 ≤ n ∧ n < 256 := by first | exact byt_lt _ _ | omega) : QS P w M0 N ⟨dst, .convert src dt x, ty, pos, aft, g⟩ s (.v (.int .i64 n)) := QS_wide hx h0
theorem qnr {src dt : TypeId} {x : Operand} {n : Int} [h1 : IntT P src .i64] [h2 : IntT P dt .u8] (hx : s.env.op x = some (.v (.int .i64 n))) : QS P w M0 N ⟨dst, .convert src dt x, ty, pos, aft, g⟩ s (.v (.int .u8 ((b8 n).toNat : Int))) := QS_narrow hx
theorem qbk {t : TypeId} {parts : Array (Nat × Operand)} {zs : Array Value} {ps : List (Nat × Value)} {pl : List (Nat × Nat)} [hz : ZerT P t (.agg zs)] [hpt : PlcT P t pl] (hp : s.env.parts parts.toList = some ps) (h1 : fillB pl zs.toList.length ps = true := by rfl) : QS P w M0 N ⟨dst, .build t parts, ty, pos, aft, g⟩ s (.v (.agg (fillL pl zs.toList ps).toArray)) := QS_buildK hp h1
theorem qlN {t : TypeId} {x : Operand} {i off n : Nat} {o : Ob} [ht : AggT P t n] (hx : s.env.op x = some (.p i off)) (ho : s.own[i]? = some o := by rfl) (hn : Nat.ble (off + n) o.cells.length = true := by rfl) : QS P w M0 N ⟨dst, .load t x, ty, pos, aft, g⟩ s (.v (.agg ((o.cells.drop off).take n).toArray)) := QS_loadN n hx ho hn ht.h
end
end Go.Proofs.YtlapnbklbpeddaaGreat
