/- The reference's bytes of an operation and of an entry; whether an entry may be: plain Lean and walks. -/
import Derived.Test.YtdgcdfngpimmmaaPScP
namespace Go.Proofs.Ytdgcdfngpimmmaa
open Go Go.RowKit
attribute [local irreducible] Calls
set_option linter.unusedVariables false
set_option maxRecDepth 20000
set_option linter.unusedSimpArgs false
set_option maxHeartbeats 4000000
theorem allE_step {α : Type} {l : List α} {k : Nat} (h : k < l.length) (p : α → Bool) : (l.take (k + 1)).all p = ((l.take k).all p && p l[k]) := by
  rw [List.take_succ_eq_append_getElem h, List.all_append]; simp
theorem allE_stop {α : Type} {l : List α} {k : Nat} (h : k < l.length) (p : α → Bool) (hp : p l[k] = false) : l.all p = false := by
  cases ha : l.all p with
  | false => rfl
  | true => rw [List.all_eq_true] at ha; rw [ha _ (List.getElem_mem h)] at hp; cases hp
theorem sz1 (x : UInt8) : (⟨#[x]⟩ : ByteArray).size = 1 := rfl
theorem sz2 (x y : UInt8) : (⟨#[x, y]⟩ : ByteArray).size = 2 := rfl
theorem size_textR (s : ByteArray) : (textR s).size = 1 + s.size := by unfold textR; rw [size_app, sz1]
section
variable {P : Program} {w : World} {M0 : Mem} {N : Nat} {dst : Option Tmp} {ty : TypeId} {pos : String} {aft : Array Edge} {g : Option (Nat × Bool)} {s : St}
theorem qb1 {src t e e2 : TypeId} {x : Operand} {i n : Nat} {u : UInt8} [hB : ByteT P src e] [ht : StrT P t] (hx : s.env.op x = some (.r i)) (ho : s.own[i]? = some (.row e2 1 n [.int .u8 (u.toNat : Int)]) := by rfl) : QS P w M0 N ⟨dst, .convert src t x, ty, pos, aft, g⟩ s (.v (.string ⟨#[u]⟩)) := by
  have h := QS_bytesS (P := P) (w := w) (M0 := M0) (N := N) (dst := dst) (ty := ty) (pos := pos) (aft := aft) (g := g) (t := t) (src := src) (hx := hx) (ho := ho) (hB := hB) (ht := ht) (fun v hv => ⟨u, List.mem_singleton.1 hv⟩)
  have e1 : unb [Value.int .u8 (u.toNat : Int)] = [u] := by simp [unb]
  rw [e1] at h
  exact h
theorem qb2 {src t e e2 : TypeId} {x : Operand} {i n : Nat} {u : UInt8} [hB : ByteT P src e] [ht : StrT P t] (hx : s.env.op x = some (.r i)) (ho : s.own[i]? = some (.row e2 1 n [.int .u8 1, .int .u8 (u.toNat : Int)]) := by rfl) : QS P w M0 N ⟨dst, .convert src t x, ty, pos, aft, g⟩ s (.v (.string ⟨#[1, u]⟩)) := by
  have h := QS_bytesS (P := P) (w := w) (M0 := M0) (N := N) (dst := dst) (ty := ty) (pos := pos) (aft := aft) (g := g) (t := t) (src := src) (hx := hx) (ho := ho) (hB := hB) (ht := ht) (fun v hv => by
    rcases List.mem_cons.1 hv with h | h
    · exact ⟨1, h⟩
    · exact ⟨u, List.mem_singleton.1 h⟩)
  have e1 : unb [Value.int .u8 1, Value.int .u8 (u.toNat : Int)] = [1, u] := by simp [unb]
  rw [e1] at h
  exact h
theorem qsz {t t2 : TypeId} {x y : Operand} {a b : ByteArray} (hx : s.env.op x = some (.v (.string a))) (hy : s.env.op y = some (.v (.string b)) := by rfl) (h : (a ++ b).size ≤ maxLen := by first | assumption | (simp only [size_app, size_textR, sz1, sz2]; unfold maxLen; omega)) : QS P w M0 N ⟨dst, .binOp .add t x y t2, ty, pos, aft, g⟩ s (.v (.string (a ++ b))) := QS_bin hx hy (B_sadd h)
end
theorem ref_Text (s : ByteArray) (w : World) (hs : s.size ≤ 1000000) : Calls Try.prog 93 #[.string s] w fun e w' => e = .returned (.string (textR s)) ∧ Below w.heap.size w w' := by
  unfold textR
  refine V_flat (args := [.string s]) (M := Mem.no) Try.func93 rfl Try.ntmps93 (by rfl) (Mem.no_le _) ?_
  repeat' (first
    | refine VC_seq ?_
    | refine VC_region ?_
    | refine VL_nil ?_
    | refine VC_ret ?_
    | refine VC_exit ?_
    | refine VC_block ?_
    | refine VC_skip ?_
    | refine kbox ?_
    | refine kall ?_
    | refine kst ?_
    | refine ksN ?_
    | refine klt ?_
    | refine kl1 ?_
    | refine klK ?_
    | refine kap ?_
    | ((first | apply VL_q | apply VG_q | apply VS_q2); (first | exact qi0 (by rfl) | exact qi1 (by rfl) | exact qwd (by rfl) | exact qnr (by rfl) | exact qni (by rfl) | exact qb1 (by rfl) | exact qsz (by rfl) | exact qmv (by rfl) | exact qas (by rfl) | exact ql1 (by rfl) | exact qlA (by rfl) | exact qfa (by rfl) | exact qmf (by rfl) | exact qfd (by rfl) | exact qm1 (by rfl) | exact qbd (by rfl) | exact qno (by rfl) | exact qex (by rfl) | exact qln (by rfl) | exact qls (by rfl) | exact qlr (by rfl) | exact qpt (by rfl) | exact qpf (by rfl) | exact qcp (by rfl) | exact qbe (by rfl) | exact qbn (by rfl) | exact qsn (by rfl) | exact qad (by rfl) | exact qsa (by rfl) | exact qsu (by rfl) | exact QS_bin (by rfl) (by rfl) (by first | exact B_slnil | exact Bq_eql_Pair | exact Bq_neq_Pair | exact Bq_eql_Op | exact Bq_neq_Op | exact Bq_eql_Cfg | exact Bq_neq_Cfg)); rfl)
    | refine sst ?_
    | refine VS_nil ?_
    | refine eeq ?_
    | refine ees ?_ (by first | exact es1 (by rfl) | exact esN (by rfl))
    | refine VE_nil ?_
    | refine kyes ?_
    | refine kno ?_
    | refine gyes ?_
    | refine gno ?_
    | refine knoU ?_
    | refine gnoU ?_
    | refine VG_nil ⟨by rfl, ?_⟩
    | refine VG_nil ?_
    | refine dT ?_
    | refine d1 ?_
    | refine dQ ?_
    | refine ctr ?_
    | refine cfa ?_
    | refine kdec (fun hq => ?_) (fun hq => ?_)
    | refine gdec (fun hq => ?_) (fun hq => ?_)
    | refine cco (fun hq => ?_) (fun hq => ?_))
  show Res _ _ _ _
  refine Res.one (by rfl) (ResV_tmp (by rfl) ?_)
  rfl
theorem size_bytesO (o : Op) : (bytesO o).size ≤ 5 + o.key.size + o.hi.size + o.val.size := by
  unfold bytesO
  dsimp only
  have e1 := size_textR o.key
  have e2 := size_textR o.hi
  have e3 := size_textR o.val
  repeat' split
  all_goals
    simp only [size_app, sz1]
    omega
attribute [local irreducible] textR
theorem ref_Bytes (o : Op) (w : World) (h1 : o.key.size ≤ 1000000) (h2 : o.hi.size ≤ 1000000) (h3 : o.val.size ≤ 1000000) : Calls Try.prog 56 #[.agg #[.int .i64 o.kind, .string o.key, .string o.hi, .bool o.opn, .string o.val, .int .i64 o.limit]] w fun e w' => e = .returned (.string (bytesO o)) ∧ Below w.heap.size w w' := by
  refine V_flat (args := [.agg #[.int .i64 o.kind, .string o.key, .string o.hi, .bool o.opn, .string o.val, .int .i64 o.limit]]) (M := Mem.no) Try.func56 rfl Try.ntmps56 (by rfl) (Mem.no_le _) ?_
  repeat' (first
    | refine VC_seq ?_
    | refine VC_region ?_
    | refine VL_nil ?_
    | refine VC_ret ?_
    | refine VC_exit ?_
    | refine VC_block ?_
    | refine VC_skip ?_
    | refine kbox ?_
    | refine kall ?_
    | refine kst ?_
    | refine ksN ?_
    | refine klt ?_
    | refine kl1 ?_
    | refine klK ?_
    | refine kap ?_
    | ((first | apply VL_q | apply VG_q | apply VS_q2); (first  | exact qmv (by rfl) | exact qas (by rfl) | exact ql1 (by rfl) | exact qlA (by rfl) | exact qfa (by rfl) | exact qmf (by rfl) | exact qfd (by rfl) | exact qm1 (by rfl) | exact qbd (by rfl) | exact qno (by rfl) | exact qex (by rfl) | exact qln (by rfl) | exact qls (by rfl) | exact qlr (by rfl) | exact qpt (by rfl) | exact qpf (by rfl) | exact qcp (by rfl) | exact qbe (by rfl) | exact qbn (by rfl) | exact qsn (by rfl) | exact qad (by rfl) | exact qsa (by rfl) | exact qsu (by rfl) | exact QS_bin (by rfl) (by rfl) (by first | exact B_slnil | exact Bq_eql_Pair | exact Bq_neq_Pair | exact Bq_eql_Op | exact Bq_neq_Op | exact Bq_eql_Cfg | exact Bq_neq_Cfg)); rfl)
    | refine sst ?_
    | refine VS_nil ?_
    | refine eeq ?_
    | refine ees ?_ (by first | exact es1 (by rfl) | exact esN (by rfl))
    | refine VE_nil ?_
    | refine kyes ?_
    | refine kno ?_
    | refine gyes ?_
    | refine gno ?_
    | refine knoU ?_
    | refine gnoU ?_
    | refine VG_nil ⟨by rfl, ?_⟩
    | refine VG_nil ?_
    | refine dT ?_
    | refine d1 ?_
    | refine dQ ?_
    | refine ctr ?_
    | refine cfa ?_
    | refine kdec (fun hq => ?_) (fun hq => ?_)
    | refine gdec (fun hq => ?_) (fun hq => ?_)
    | refine cco (fun hq => ?_) (fun hq => ?_))
  refine VC_drawE [] [] [3, 4, 8, 9] (by decide +kernel) (by decide +kernel) (by rfl) ?_
  repeat' (first
    | refine VQs_nil ?_
    | refine VQs_e (by rfl) ?_
    | refine VQs_q (by rfl) _ (by first | exact wno (by first | exact qi0 (by rfl) | exact qi1 (by rfl) | exact qwd (by rfl) | exact qnr (by rfl) | exact qni (by rfl) | exact QS_call (by rfl) (fun W _ => ref_Text _ W h1) | exact qb1 (by rfl) | exact qsz (by rfl) | exact qmv (by rfl) | exact qas (by rfl) | exact ql1 (by rfl) | exact qlA (by rfl) | exact qfa (by rfl) | exact qmf (by rfl) | exact qfd (by rfl) | exact qm1 (by rfl) | exact qbd (by rfl) | exact qno (by rfl) | exact qex (by rfl) | exact qln (by rfl) | exact qls (by rfl) | exact qlr (by rfl) | exact qpt (by rfl) | exact qpf (by rfl) | exact qcp (by rfl) | exact qbe (by rfl) | exact qbn (by rfl) | exact qsn (by rfl) | exact qad (by rfl) | exact qsa (by rfl) | exact qsu (by rfl) | exact QS_bin (by rfl) (by rfl) (by first | exact B_slnil | exact Bq_eql_Pair | exact Bq_neq_Pair | exact Bq_eql_Op | exact Bq_neq_Op | exact Bq_eql_Cfg | exact Bq_neq_Cfg)) | exact wnot (by rfl) | exact wU (by rfl) | exact wyes (by first | exact qi0 (by rfl) | exact qi1 (by rfl) | exact qwd (by rfl) | exact qnr (by rfl) | exact qni (by rfl) | exact QS_call (by rfl) (fun W _ => ref_Text _ W h1) | exact qb1 (by rfl) | exact qsz (by rfl) | exact qmv (by rfl) | exact qas (by rfl) | exact ql1 (by rfl) | exact qlA (by rfl) | exact qfa (by rfl) | exact qmf (by rfl) | exact qfd (by rfl) | exact qm1 (by rfl) | exact qbd (by rfl) | exact qno (by rfl) | exact qex (by rfl) | exact qln (by rfl) | exact qls (by rfl) | exact qlr (by rfl) | exact qpt (by rfl) | exact qpf (by rfl) | exact qcp (by rfl) | exact qbe (by rfl) | exact qbn (by rfl) | exact qsn (by rfl) | exact qad (by rfl) | exact qsa (by rfl) | exact qsu (by rfl) | exact QS_bin (by rfl) (by rfl) (by first | exact B_slnil | exact Bq_eql_Pair | exact Bq_neq_Pair | exact Bq_eql_Op | exact Bq_neq_Op | exact Bq_eql_Cfg | exact Bq_neq_Cfg))) (by rfl) (by rfl) ?_
    | refine VT_done ?_
    | refine VT_step ?_
    | exact VTs_nil
    | refine VTs_e (by rfl) _ _ (by first | exact fno (by first  | exact EF_alloc | exact elt (by rfl) | exact el1 (by rfl) | exact elK (by rfl) | exact eap (by rfl) | exact fst1 (by rfl) | exact fstN (by rfl) | exact fq (by first | exact qi0 (by rfl) | exact qi1 (by rfl) | exact qwd (by rfl) | exact qnr (by rfl) | exact qni (by rfl) | exact QS_call (by rfl) (fun W _ => ref_Text _ W h1) | exact qb1 (by rfl) | exact qsz (by rfl) | exact qmv (by rfl) | exact qas (by rfl) | exact ql1 (by rfl) | exact qlA (by rfl) | exact qfa (by rfl) | exact qmf (by rfl) | exact qfd (by rfl) | exact qm1 (by rfl) | exact qbd (by rfl) | exact qno (by rfl) | exact qex (by rfl) | exact qln (by rfl) | exact qls (by rfl) | exact qlr (by rfl) | exact qpt (by rfl) | exact qpf (by rfl) | exact qcp (by rfl) | exact qbe (by rfl) | exact qbn (by rfl) | exact qsn (by rfl) | exact qad (by rfl) | exact qsa (by rfl) | exact qsu (by rfl) | exact QS_bin (by rfl) (by rfl) (by first | exact B_slnil | exact Bq_eql_Pair | exact Bq_neq_Pair | exact Bq_eql_Op | exact Bq_neq_Op | exact Bq_eql_Cfg | exact Bq_neq_Cfg))) | exact fnot (by rfl) | exact fU (by rfl) | exact fyes (by first  | exact EF_alloc | exact elt (by rfl) | exact el1 (by rfl) | exact elK (by rfl) | exact eap (by rfl) | exact fst1 (by rfl) | exact fstN (by rfl) | exact fq (by first | exact qi0 (by rfl) | exact qi1 (by rfl) | exact qwd (by rfl) | exact qnr (by rfl) | exact qni (by rfl) | exact QS_call (by rfl) (fun W _ => ref_Text _ W h1) | exact qb1 (by rfl) | exact qsz (by rfl) | exact qmv (by rfl) | exact qas (by rfl) | exact ql1 (by rfl) | exact qlA (by rfl) | exact qfa (by rfl) | exact qmf (by rfl) | exact qfd (by rfl) | exact qm1 (by rfl) | exact qbd (by rfl) | exact qno (by rfl) | exact qex (by rfl) | exact qln (by rfl) | exact qls (by rfl) | exact qlr (by rfl) | exact qpt (by rfl) | exact qpf (by rfl) | exact qcp (by rfl) | exact qbe (by rfl) | exact qbn (by rfl) | exact qsn (by rfl) | exact qad (by rfl) | exact qsa (by rfl) | exact qsu (by rfl) | exact QS_bin (by rfl) (by rfl) (by first | exact B_slnil | exact Bq_eql_Pair | exact Bq_neq_Pair | exact Bq_eql_Op | exact Bq_neq_Op | exact Bq_eql_Cfg | exact Bq_neq_Cfg)))) (by rfl) (by rfl) ?_ ?_
    | refine VQs_dec _ _ _ (by rfl) (by rfl) (by rfl) (fun hq => ?_) (fun hq => ?_))
  repeat' (first
    | refine VC_seq ?_
    | refine VC_region ?_
    | refine VL_nil ?_
    | refine VC_ret ?_
    | refine VC_exit ?_
    | refine VC_block ?_
    | refine VC_skip ?_
    | refine kbox ?_
    | refine kall ?_
    | refine kst ?_
    | refine ksN ?_
    | refine klt ?_
    | refine kl1 ?_
    | refine klK ?_
    | refine kap ?_
    | ((first | apply VL_q | apply VG_q | apply VS_q2); (first | exact qi0 (by rfl) | exact qi1 (by rfl) | exact qwd (by rfl) | exact qnr (by rfl) | exact qni (by rfl) | exact QS_call (by rfl) (fun W _ => ref_Text _ W h1) | exact QS_call (by rfl) (fun W _ => ref_Text _ W h2) | exact QS_call (by rfl) (fun W _ => ref_Text _ W h3) | exact qb1 (by rfl) | exact qsz (by rfl) | exact qmv (by rfl) | exact qas (by rfl) | exact ql1 (by rfl) | exact qlA (by rfl) | exact qfa (by rfl) | exact qmf (by rfl) | exact qfd (by rfl) | exact qm1 (by rfl) | exact qbd (by rfl) | exact qno (by rfl) | exact qex (by rfl) | exact qln (by rfl) | exact qls (by rfl) | exact qlr (by rfl) | exact qpt (by rfl) | exact qpf (by rfl) | exact qcp (by rfl) | exact qbe (by rfl) | exact qbn (by rfl) | exact qsn (by rfl) | exact qad (by rfl) | exact qsa (by rfl) | exact qsu (by rfl) | exact QS_bin (by rfl) (by rfl) (by first | exact B_slnil | exact Bq_eql_Pair | exact Bq_neq_Pair | exact Bq_eql_Op | exact Bq_neq_Op | exact Bq_eql_Cfg | exact Bq_neq_Cfg)); rfl)
    | refine sst ?_
    | refine VS_nil ?_
    | refine eeq ?_
    | refine ees ?_ (by first | exact es1 (by rfl) | exact esN (by rfl))
    | refine VE_nil ?_
    | refine kyes ?_
    | refine kno ?_
    | refine gyes ?_
    | refine gno ?_
    | refine knoU ?_
    | refine gnoU ?_
    | refine VG_nil ⟨by rfl, ?_⟩
    | refine VG_nil ?_
    | refine dT ?_
    | refine d1 ?_
    | refine dQ ?_
    | refine ctr ?_
    | refine cfa ?_
    | refine kdec (fun hq => ?_) (fun hq => ?_)
    | refine gdec (fun hq => ?_) (fun hq => ?_)
    | refine cco (fun hq => ?_) (fun hq => ?_))
  all_goals
    show Res _ _ _ _
    refine Res.one (by rfl) (ResV_tmp (by rfl) ?_)
    refine congrArg Value.string ?_
    unfold bytesO rangedO
    simp_all
    try (intro hh; exfalso; omega)
/-- An entry of a script; its picks lie in memory. -/
structure Ent where
  kind : Int
  client : Int
  o : Op
  pv : Value
  ps : List Int
abbrev enCells (e : Ent) : List Value := [.int .i64 e.kind, .int .i64 e.client, .int .i64 e.o.kind, .string e.o.key, .string e.o.hi, .bool e.o.opn, .string e.o.val, .int .i64 e.o.limit, e.pv]
abbrev intC (n : Int) : List Value := [.int .i64 n]
def Ent.Ok (M : Mem) (e : Ent) : Prop := SlM M 1 intC e.pv e.ps
theorem Ent.Ok.mono {M M' : Mem} {e : Ent} (h : e.Ok M) (hM : M.le M') : e.Ok M' := SlM.mono h hM
def byteI (n : Int) : Bool := decide (0 ≤ n) && decide (n ≤ 255)
def rightE (e : Ent) : Bool :=
  if e.kind = 1 then decide (0 ≤ e.client) && decide (e.client ≤ 255) && decide (e.ps.length = 0) && (eqv e.o opE || rightO e.o)
  else decide (e.kind = 2) && decide (e.client = 0) && eqv e.o opE && decide (e.ps.length ≤ 254) && e.ps.all byteI
def pkB (l : List Int) : ByteArray := ⟨((2 : UInt8) :: l.map b8).toArray⟩
theorem bl_pkB (l : List Int) : bl (pkB l) = 2 :: l.map b8 := rfl
theorem size_pkB (l : List Int) : (pkB l).size = 1 + l.length := by rw [← bl_len, bl_pkB, List.length_cons, List.length_map, Nat.add_comm]
theorem pkB_step {l : List Int} {k : Nat} (h : k < l.length) : pkB (l.take k) ++ (⟨#[b8 l[k]]⟩ : ByteArray) = pkB (l.take (k + 1)) := bl_inj (by
  rw [bl_app, bl_pkB, bl_pkB, List.take_succ_eq_append_getElem h, List.map_append]; rfl)
def bodyE (e : Ent) : ByteArray := if e.kind = 1 then (if eqv e.o opE = true then ⟨#[1, b8 e.client]⟩ else (⟨#[1, b8 e.client]⟩ : ByteArray) ++ bytesO e.o) else pkB e.ps
theorem ref_RightE (e : Ent) (w : World) (M : Mem) (hM : M.le (Mem.of w)) (he : e.Ok M) (h1 : e.o.key.size ≤ 1000000) (h2 : e.o.hi.size ≤ 1000000) : Calls Try.prog 15 #[.agg #[.int .i64 e.kind, .int .i64 e.client, .int .i64 e.o.kind, .string e.o.key, .string e.o.hi, .bool e.o.opn, .string e.o.val, .int .i64 e.o.limit, e.pv]] w fun r w' => r = .returned (.bool (rightE e)) ∧ Below w.heap.size w w' := by
  obtain ⟨kind, client, o, pv, ps⟩ := e
  unfold Ent.Ok at he
  dsimp only at *
  obtain ⟨A, c, rfl, hc1, hc2, _⟩ := id he
  have cR := fun W => ref_RightO o W h1 h2
  unfold maxLen at hc2
  by_cases hk : kind = 1
  · subst hk
    refine V_flat (args := [.agg #[.int .i64 1, .int .i64 client, .int .i64 o.kind, .string o.key, .string o.hi, .bool o.opn, .string o.val, .int .i64 o.limit, .slice A ps.length c]]) (M := M) Try.func15 rfl Try.ntmps15 (by rfl) (hM) ?_
    repeat' (first
      | refine VC_seq ?_
      | refine VC_region ?_
      | refine VL_nil ?_
      | refine VC_ret ?_
      | refine VC_exit ?_
      | refine VC_block ?_
      | refine VC_skip ?_
      | refine kbox ?_
      | refine kall ?_
      | refine kst ?_
      | refine ksN ?_
      | refine klt ?_
      | refine kl1 ?_
      | refine klK ?_
      | refine kap ?_
      | ((first | apply VL_q | apply VG_q | apply VS_q2); (first | exact qlN (by rfl) | exact QS_call (by rfl) (fun W _ => cR W) | exact qmv (by rfl) | exact qas (by rfl) | exact ql1 (by rfl) | exact qlA (by rfl) | exact qfa (by rfl) | exact qmf (by rfl) | exact qfd (by rfl) | exact qm1 (by rfl) | exact qbd (by rfl) | exact qno (by rfl) | exact qex (by rfl) | exact qln (by rfl) | exact qls (by rfl) | exact qlr (by rfl) | exact qpt (by rfl) | exact qpf (by rfl) | exact qcp (by rfl) | exact qbe (by rfl) | exact qbn (by rfl) | exact qsn (by rfl) | exact qad (by rfl) | exact qsa (by rfl) | exact qsu (by rfl) | exact QS_bin (by rfl) (by rfl) (by first | exact B_slnil | exact Bq_eql_Pair | exact Bq_neq_Pair | exact Bq_eql_Op | exact Bq_neq_Op | exact Bq_eql_Cfg | exact Bq_neq_Cfg)); rfl)
      | refine sst ?_
      | refine VS_nil ?_
      | refine eeq ?_
      | refine ees ?_ (by first | exact es1 (by rfl) | exact esN (by rfl))
      | refine VE_nil ?_
      | refine kyes ?_
      | refine kno ?_
      | refine gyes ?_
      | refine gno ?_
      | refine knoU ?_
      | refine gnoU ?_
      | refine VG_nil ⟨by rfl, ?_⟩
      | refine VG_nil ?_
      | refine dT ?_
      | refine d1 ?_
      | refine dQ ?_
      | refine ctr ?_
      | refine cfa ?_
      | refine kdec (fun hq => ?_) (fun hq => ?_)
      | refine gdec (fun hq => ?_) (fun hq => ?_)
      | refine cco (fun hq => ?_) (fun hq => ?_))
    all_goals
      show Res _ _ _ _
      refine Res.one (by rfl) (ResV_tmp (by rfl) ?_)
      refine congrArg Value.bool ?_
      simp_all [rightE, Ob.cells, sets, opE, e_em]
      try omega
  · have hk1 : (kind == 1) = false := by simp [hk]
    have hre : rightE ⟨kind, client, o, .slice A ps.length c, ps⟩ = (decide (kind = 2) && decide (client = 0) && eqv o opE && decide (ps.length ≤ 254) && ps.all byteI) := by unfold rightE; rw [if_neg hk]
    rw [hre]
    by_cases hk2 : kind = 2
    · have q1 : (kind != 2) = false := by simp [hk2]
      by_cases hcl : client = 0
      · have q2 : (client != 0) = false := by simp [hcl]
        cases ho : eqv o opE with
        | false =>
          have q3 : (!eqv o opE) = true := by rw [ho]; rfl
          refine V_flat (args := [.agg #[.int .i64 kind, .int .i64 client, .int .i64 o.kind, .string o.key, .string o.hi, .bool o.opn, .string o.val, .int .i64 o.limit, .slice A ps.length c]]) (M := M) Try.func15 rfl Try.ntmps15 (by rfl) (hM) ?_
          repeat' (first
            | refine VC_seq ?_
            | refine VC_region ?_
            | refine VL_nil ?_
            | refine VC_ret ?_
            | refine VC_exit ?_
            | refine VC_block ?_
            | refine VC_skip ?_
            | refine kbox ?_
            | refine kall ?_
            | refine kst ?_
            | refine ksN ?_
            | refine klt ?_
            | refine kl1 ?_
            | refine klK ?_
            | refine kap ?_
            | ((first | apply VL_q | apply VG_q | apply VS_q2); (first | exact qlN (by rfl) | exact qmv (by rfl) | exact qas (by rfl) | exact ql1 (by rfl) | exact qlA (by rfl) | exact qfa (by rfl) | exact qmf (by rfl) | exact qfd (by rfl) | exact qm1 (by rfl) | exact qbd (by rfl) | exact qno (by rfl) | exact qex (by rfl) | exact qln (by rfl) | exact qls (by rfl) | exact qlr (by rfl) | exact qpt (by rfl) | exact qpf (by rfl) | exact qcp (by rfl) | exact qbe (by rfl) | exact qbn (by rfl) | exact qsn (by rfl) | exact qad (by rfl) | exact qsa (by rfl) | exact qsu (by rfl) | exact QS_bin (by rfl) (by rfl) (by first | exact B_slnil | exact Bq_eql_Pair | exact Bq_neq_Pair | exact Bq_eql_Op | exact Bq_neq_Op | exact Bq_eql_Cfg | exact Bq_neq_Cfg)); rfl)
            | refine sst ?_
            | refine VS_nil ?_
            | refine eeq ?_
            | refine ees ?_ (by first | exact es1 (by rfl) | exact esN (by rfl))
            | refine VE_nil ?_
            | refine kyes ?_
            | refine kno ?_
            | refine gyes ?_
            | refine gno ?_
            | refine knoU ?_
            | refine gnoU ?_
            | refine VG_nil ⟨by rfl, ?_⟩
            | refine VG_nil ?_
            | refine dT ?_
            | refine d1 ?_
            | refine dQ ?_
            | refine ctr ?_
            | refine cfa ?_
            | refine kdec (fun hq => ?_) (fun hq => ?_)
            | refine gdec (fun hq => ?_) (fun hq => ?_)
            | refine cco (fun hq => ?_) (fun hq => ?_))
          show Res _ _ _ _
          refine Res.one (by rfl) (ResV_tmp (by rfl) ?_)
          simp
        | true =>
          have q3 : (!eqv o opE) = false := by rw [ho]; rfl
          by_cases hl : ps.length ≤ 254
          · have q4 : decide ((254 : Int) < (ps.length : Int)) = false := decide_eq_false (by omega)
            refine V_flat (args := [.agg #[.int .i64 kind, .int .i64 client, .int .i64 o.kind, .string o.key, .string o.hi, .bool o.opn, .string o.val, .int .i64 o.limit, .slice A ps.length c]]) (M := M) Try.func15 rfl Try.ntmps15 (by rfl) (hM) ?_
            repeat' (first
              | refine VC_seq ?_
              | refine VC_region ?_
              | refine VL_nil ?_
              | refine VC_ret ?_
              | refine VC_exit ?_
              | refine VC_block ?_
              | refine VC_skip ?_
              | refine kbox ?_
              | refine kall ?_
              | refine kst ?_
              | refine ksN ?_
              | refine klt ?_
              | refine kl1 ?_
              | refine klK ?_
              | refine kap ?_
              | ((first | apply VL_q | apply VG_q | apply VS_q2); (first | exact qlN (by rfl) | exact qmv (by rfl) | exact qas (by rfl) | exact ql1 (by rfl) | exact qlA (by rfl) | exact qfa (by rfl) | exact qmf (by rfl) | exact qfd (by rfl) | exact qm1 (by rfl) | exact qbd (by rfl) | exact qno (by rfl) | exact qex (by rfl) | exact qln (by rfl) | exact qls (by rfl) | exact qlr (by rfl) | exact qpt (by rfl) | exact qpf (by rfl) | exact qcp (by rfl) | exact qbe (by rfl) | exact qbn (by rfl) | exact qsn (by rfl) | exact qad (by rfl) | exact qsa (by rfl) | exact qsu (by rfl) | exact QS_bin (by rfl) (by rfl) (by first | exact B_slnil | exact Bq_eql_Pair | exact Bq_neq_Pair | exact Bq_eql_Op | exact Bq_neq_Op | exact Bq_eql_Cfg | exact Bq_neq_Cfg)); rfl)
              | refine sst ?_
              | refine VS_nil ?_
              | refine eeq ?_
              | refine ees ?_ (by first | exact es1 (by rfl) | exact esN (by rfl))
              | refine VE_nil ?_
              | refine kyes ?_
              | refine kno ?_
              | refine gyes ?_
              | refine gno ?_
              | refine knoU ?_
              | refine gnoU ?_
              | refine VG_nil ⟨by rfl, ?_⟩
              | refine VG_nil ?_
              | refine dT ?_
              | refine d1 ?_
              | refine dQ ?_
              | refine ctr ?_
              | refine cfa ?_
              | refine kdec (fun hq => ?_) (fun hq => ?_)
              | refine gdec (fun hq => ?_) (fun hq => ?_)
              | refine cco (fun hq => ?_) (fun hq => ?_))
            refine VC_for (fun k : Nat => ⟨M, [.blk 33 [.int .i64 kind, .int .i64 client, .int .i64 o.kind, .string o.key, .string o.hi, .bool o.opn, .string o.val, .int .i64 o.limit, .slice A ps.length c]], [(1, .p 0 0), (3, .v (.int .i64 k))]⟩) (fun k => k ≤ ps.length ∧ (ps.take k).all byteI = true) (fun k => ps.length - k) [0] 0 ⟨rfl, rfl, ⟨rfl, trivial⟩, ⟨rfl, rfl, trivial⟩⟩ ⟨by omega, rfl⟩ ?_
            rintro k ⟨hk, hr⟩
            rcases Nat.lt_or_ge k ps.length with hlt | hge
            · have hd := dlt hlt
              obtain ⟨b, off, rfl, hcA⟩ := he.get hlt
              by_cases g0 : ps[k] < 0
              · have f0 : decide (ps[k] < 0) = true := decide_eq_true g0
                repeat' (first
                  | refine VC_seq ?_
                  | refine VC_region ?_
                  | refine VL_nil ?_
                  | refine VC_ret ?_
                  | refine VC_exit ?_
                  | refine VC_block ?_
                  | refine VC_skip ?_
                  | refine kbox ?_
                  | refine kall ?_
                  | refine kst ?_
                  | refine ksN ?_
                  | refine klt ?_
                  | refine kl1 ?_
                  | refine klK ?_
                  | refine kap ?_
                  | ((first | apply VL_q | apply VG_q | apply VS_q2); (first | exact QS_indexAddr (k) (by rfl) (by rfl) (by omega) (by omega) | exact QS_mload1 (by rfl) (hcA 0 _ (by rfl)) | exact QS_mload1 (by rfl) (hcA _ _ (by rfl)) | exact QS_mloadN _ (by rfl) hcA _ (by rfl) | exact qmv (by rfl) | exact qas (by rfl) | exact ql1 (by rfl) | exact qlA (by rfl) | exact qfa (by rfl) | exact qmf (by rfl) | exact qfd (by rfl) | exact qm1 (by rfl) | exact qbd (by rfl) | exact qno (by rfl) | exact qex (by rfl) | exact qln (by rfl) | exact qls (by rfl) | exact qlr (by rfl) | exact qpt (by rfl) | exact qpf (by rfl) | exact qcp (by rfl) | exact qbe (by rfl) | exact qbn (by rfl) | exact qsn (by rfl) | exact qad (by rfl) | exact qsa (by rfl) | exact qsu (by rfl) | exact QS_bin (by rfl) (by rfl) (by first | exact B_slnil | exact Bq_eql_Pair | exact Bq_neq_Pair | exact Bq_eql_Op | exact Bq_neq_Op | exact Bq_eql_Cfg | exact Bq_neq_Cfg)); rfl)
                  | refine sst ?_
                  | refine VS_nil ?_
                  | refine eeq ?_
                  | refine ees ?_ (by first | exact es1 (by rfl) | exact esN (by rfl))
                  | refine VE_nil ?_
                  | refine kyes ?_
                  | refine kno ?_
                  | refine gyes ?_
                  | refine gno ?_
                  | refine knoU ?_
                  | refine gnoU ?_
                  | refine VG_nil ⟨by rfl, ?_⟩
                  | refine VG_nil ?_
                  | refine dT ?_
                  | refine d1 ?_
                  | refine dQ ?_
                  | refine ctr ?_
                  | refine cfa ?_
                  | refine kdec (fun hq => ?_) (fun hq => ?_)
                  | refine gdec (fun hq => ?_) (fun hq => ?_)
                  | refine cco (fun hq => ?_) (fun hq => ?_))
                show Res _ _ _ _
                refine Res.one (by rfl) (ResV_tmp (by rfl) ?_)
                refine congrArg Value.bool ?_
                rw [allE_stop hlt byteI (by unfold byteI; simp; omega)]; simp
              · have f0 : decide (ps[k] < 0) = false := decide_eq_false g0
                by_cases g1 : 255 < ps[k]
                · have f1 : decide ((255 : Int) < ps[k]) = true := decide_eq_true g1
                  repeat' (first
                    | refine VC_seq ?_
                    | refine VC_region ?_
                    | refine VL_nil ?_
                    | refine VC_ret ?_
                    | refine VC_exit ?_
                    | refine VC_block ?_
                    | refine VC_skip ?_
                    | refine kbox ?_
                    | refine kall ?_
                    | refine kst ?_
                    | refine ksN ?_
                    | refine klt ?_
                    | refine kl1 ?_
                    | refine klK ?_
                    | refine kap ?_
                    | ((first | apply VL_q | apply VG_q | apply VS_q2); (first | exact QS_indexAddr (k) (by rfl) (by rfl) (by omega) (by omega) | exact QS_mload1 (by rfl) (hcA 0 _ (by rfl)) | exact QS_mload1 (by rfl) (hcA _ _ (by rfl)) | exact QS_mloadN _ (by rfl) hcA _ (by rfl) | exact qmv (by rfl) | exact qas (by rfl) | exact ql1 (by rfl) | exact qlA (by rfl) | exact qfa (by rfl) | exact qmf (by rfl) | exact qfd (by rfl) | exact qm1 (by rfl) | exact qbd (by rfl) | exact qno (by rfl) | exact qex (by rfl) | exact qln (by rfl) | exact qls (by rfl) | exact qlr (by rfl) | exact qpt (by rfl) | exact qpf (by rfl) | exact qcp (by rfl) | exact qbe (by rfl) | exact qbn (by rfl) | exact qsn (by rfl) | exact qad (by rfl) | exact qsa (by rfl) | exact qsu (by rfl) | exact QS_bin (by rfl) (by rfl) (by first | exact B_slnil | exact Bq_eql_Pair | exact Bq_neq_Pair | exact Bq_eql_Op | exact Bq_neq_Op | exact Bq_eql_Cfg | exact Bq_neq_Cfg)); rfl)
                    | refine sst ?_
                    | refine VS_nil ?_
                    | refine eeq ?_
                    | refine ees ?_ (by first | exact es1 (by rfl) | exact esN (by rfl))
                    | refine VE_nil ?_
                    | refine kyes ?_
                    | refine kno ?_
                    | refine gyes ?_
                    | refine gno ?_
                    | refine knoU ?_
                    | refine gnoU ?_
                    | refine VG_nil ⟨by rfl, ?_⟩
                    | refine VG_nil ?_
                    | refine dT ?_
                    | refine d1 ?_
                    | refine dQ ?_
                    | refine ctr ?_
                    | refine cfa ?_
                    | refine kdec (fun hq => ?_) (fun hq => ?_)
                    | refine gdec (fun hq => ?_) (fun hq => ?_)
                    | refine cco (fun hq => ?_) (fun hq => ?_))
                  show Res _ _ _ _
                  refine Res.one (by rfl) (ResV_tmp (by rfl) ?_)
                  refine congrArg Value.bool ?_
                  rw [allE_stop hlt byteI (by unfold byteI; simp; omega)]; simp
                · have f1 : decide ((255 : Int) < ps[k]) = false := decide_eq_false g1
                  repeat' (first
                    | refine VC_seq ?_
                    | refine VC_region ?_
                    | refine VL_nil ?_
                    | refine VC_ret ?_
                    | refine VC_exit ?_
                    | refine VC_block ?_
                    | refine VC_skip ?_
                    | refine kbox ?_
                    | refine kall ?_
                    | refine kst ?_
                    | refine ksN ?_
                    | refine klt ?_
                    | refine kl1 ?_
                    | refine klK ?_
                    | refine kap ?_
                    | ((first | apply VL_q | apply VG_q | apply VS_q2); (first | exact QS_indexAddr (k) (by rfl) (by rfl) (by omega) (by omega) | exact QS_mload1 (by rfl) (hcA 0 _ (by rfl)) | exact QS_mload1 (by rfl) (hcA _ _ (by rfl)) | exact QS_mloadN _ (by rfl) hcA _ (by rfl) | exact qmv (by rfl) | exact qas (by rfl) | exact ql1 (by rfl) | exact qlA (by rfl) | exact qfa (by rfl) | exact qmf (by rfl) | exact qfd (by rfl) | exact qm1 (by rfl) | exact qbd (by rfl) | exact qno (by rfl) | exact qex (by rfl) | exact qln (by rfl) | exact qls (by rfl) | exact qlr (by rfl) | exact qpt (by rfl) | exact qpf (by rfl) | exact qcp (by rfl) | exact qbe (by rfl) | exact qbn (by rfl) | exact qsn (by rfl) | exact qad (by rfl) | exact qsa (by rfl) | exact qsu (by rfl) | exact QS_bin (by rfl) (by rfl) (by first | exact B_slnil | exact Bq_eql_Pair | exact Bq_neq_Pair | exact Bq_eql_Op | exact Bq_neq_Op | exact Bq_eql_Cfg | exact Bq_neq_Cfg)); rfl)
                    | refine sst ?_
                    | refine VS_nil ?_
                    | refine eeq ?_
                    | refine ees ?_ (by first | exact es1 (by rfl) | exact esN (by rfl))
                    | refine VE_nil ?_
                    | refine kyes ?_
                    | refine kno ?_
                    | refine gyes ?_
                    | refine gno ?_
                    | refine knoU ?_
                    | refine gnoU ?_
                    | refine VG_nil ⟨by rfl, ?_⟩
                    | refine VG_nil ?_
                    | refine dT ?_
                    | refine d1 ?_
                    | refine dQ ?_
                    | refine ctr ?_
                    | refine cfa ?_
                    | refine kdec (fun hq => ?_) (fun hq => ?_)
                    | refine gdec (fun hq => ?_) (fun hq => ?_)
                    | refine cco (fun hq => ?_) (fun hq => ?_))
                  refine forQ_next (Q := fun _ _ => True) [0] (k + 1) ⟨rfl, rfl, ⟨rfl, trivial⟩, ⟨rfl, rfl, trivial⟩⟩ ⟨by omega, ?_⟩ (by omega)
                  rw [allE_step hlt byteI, hr]; unfold byteI; simp; omega
            · have hd := dge hge
              obtain rfl : k = ps.length := by omega
              rw [List.take_length] at hr
              repeat' (first
                | refine VC_seq ?_
                | refine VC_region ?_
                | refine VL_nil ?_
                | refine VC_ret ?_
                | refine VC_exit ?_
                | refine VC_block ?_
                | refine VC_skip ?_
                | refine kbox ?_
                | refine kall ?_
                | refine kst ?_
                | refine ksN ?_
                | refine klt ?_
                | refine kl1 ?_
                | refine klK ?_
                | refine kap ?_
                | ((first | apply VL_q | apply VG_q | apply VS_q2); (first  | exact qmv (by rfl) | exact qas (by rfl) | exact ql1 (by rfl) | exact qlA (by rfl) | exact qfa (by rfl) | exact qmf (by rfl) | exact qfd (by rfl) | exact qm1 (by rfl) | exact qbd (by rfl) | exact qno (by rfl) | exact qex (by rfl) | exact qln (by rfl) | exact qls (by rfl) | exact qlr (by rfl) | exact qpt (by rfl) | exact qpf (by rfl) | exact qcp (by rfl) | exact qbe (by rfl) | exact qbn (by rfl) | exact qsn (by rfl) | exact qad (by rfl) | exact qsa (by rfl) | exact qsu (by rfl) | exact QS_bin (by rfl) (by rfl) (by first | exact B_slnil | exact Bq_eql_Pair | exact Bq_neq_Pair | exact Bq_eql_Op | exact Bq_neq_Op | exact Bq_eql_Cfg | exact Bq_neq_Cfg)); rfl)
                | refine sst ?_
                | refine VS_nil ?_
                | refine eeq ?_
                | refine ees ?_ (by first | exact es1 (by rfl) | exact esN (by rfl))
                | refine VE_nil ?_
                | refine kyes ?_
                | refine kno ?_
                | refine gyes ?_
                | refine gno ?_
                | refine knoU ?_
                | refine gnoU ?_
                | refine VG_nil ⟨by rfl, ?_⟩
                | refine VG_nil ?_
                | refine dT ?_
                | refine d1 ?_
                | refine dQ ?_
                | refine ctr ?_
                | refine cfa ?_
                | refine kdec (fun hq => ?_) (fun hq => ?_)
                | refine gdec (fun hq => ?_) (fun hq => ?_)
                | refine cco (fun hq => ?_) (fun hq => ?_))
              show Res _ _ _ _
              refine Res.one (by rfl) (ResV_tmp (by rfl) ?_)
              refine congrArg Value.bool ?_
              rw [hr]; simp [hk2, hcl, hl]
          · have q4 : decide ((254 : Int) < (ps.length : Int)) = true := decide_eq_true (by omega)
            refine V_flat (args := [.agg #[.int .i64 kind, .int .i64 client, .int .i64 o.kind, .string o.key, .string o.hi, .bool o.opn, .string o.val, .int .i64 o.limit, .slice A ps.length c]]) (M := M) Try.func15 rfl Try.ntmps15 (by rfl) (hM) ?_
            repeat' (first
              | refine VC_seq ?_
              | refine VC_region ?_
              | refine VL_nil ?_
              | refine VC_ret ?_
              | refine VC_exit ?_
              | refine VC_block ?_
              | refine VC_skip ?_
              | refine kbox ?_
              | refine kall ?_
              | refine kst ?_
              | refine ksN ?_
              | refine klt ?_
              | refine kl1 ?_
              | refine klK ?_
              | refine kap ?_
              | ((first | apply VL_q | apply VG_q | apply VS_q2); (first | exact qlN (by rfl) | exact qmv (by rfl) | exact qas (by rfl) | exact ql1 (by rfl) | exact qlA (by rfl) | exact qfa (by rfl) | exact qmf (by rfl) | exact qfd (by rfl) | exact qm1 (by rfl) | exact qbd (by rfl) | exact qno (by rfl) | exact qex (by rfl) | exact qln (by rfl) | exact qls (by rfl) | exact qlr (by rfl) | exact qpt (by rfl) | exact qpf (by rfl) | exact qcp (by rfl) | exact qbe (by rfl) | exact qbn (by rfl) | exact qsn (by rfl) | exact qad (by rfl) | exact qsa (by rfl) | exact qsu (by rfl) | exact QS_bin (by rfl) (by rfl) (by first | exact B_slnil | exact Bq_eql_Pair | exact Bq_neq_Pair | exact Bq_eql_Op | exact Bq_neq_Op | exact Bq_eql_Cfg | exact Bq_neq_Cfg)); rfl)
              | refine sst ?_
              | refine VS_nil ?_
              | refine eeq ?_
              | refine ees ?_ (by first | exact es1 (by rfl) | exact esN (by rfl))
              | refine VE_nil ?_
              | refine kyes ?_
              | refine kno ?_
              | refine gyes ?_
              | refine gno ?_
              | refine knoU ?_
              | refine gnoU ?_
              | refine VG_nil ⟨by rfl, ?_⟩
              | refine VG_nil ?_
              | refine dT ?_
              | refine d1 ?_
              | refine dQ ?_
              | refine ctr ?_
              | refine cfa ?_
              | refine kdec (fun hq => ?_) (fun hq => ?_)
              | refine gdec (fun hq => ?_) (fun hq => ?_)
              | refine cco (fun hq => ?_) (fun hq => ?_))
            show Res _ _ _ _
            refine Res.one (by rfl) (ResV_tmp (by rfl) ?_)
            simp [hl]
      · have q2 : (client != 0) = true := by simp [hcl]
        refine V_flat (args := [.agg #[.int .i64 kind, .int .i64 client, .int .i64 o.kind, .string o.key, .string o.hi, .bool o.opn, .string o.val, .int .i64 o.limit, .slice A ps.length c]]) (M := M) Try.func15 rfl Try.ntmps15 (by rfl) (hM) ?_
        repeat' (first
          | refine VC_seq ?_
          | refine VC_region ?_
          | refine VL_nil ?_
          | refine VC_ret ?_
          | refine VC_exit ?_
          | refine VC_block ?_
          | refine VC_skip ?_
          | refine kbox ?_
          | refine kall ?_
          | refine kst ?_
          | refine ksN ?_
          | refine klt ?_
          | refine kl1 ?_
          | refine klK ?_
          | refine kap ?_
          | ((first | apply VL_q | apply VG_q | apply VS_q2); (first | exact qlN (by rfl) | exact qmv (by rfl) | exact qas (by rfl) | exact ql1 (by rfl) | exact qlA (by rfl) | exact qfa (by rfl) | exact qmf (by rfl) | exact qfd (by rfl) | exact qm1 (by rfl) | exact qbd (by rfl) | exact qno (by rfl) | exact qex (by rfl) | exact qln (by rfl) | exact qls (by rfl) | exact qlr (by rfl) | exact qpt (by rfl) | exact qpf (by rfl) | exact qcp (by rfl) | exact qbe (by rfl) | exact qbn (by rfl) | exact qsn (by rfl) | exact qad (by rfl) | exact qsa (by rfl) | exact qsu (by rfl) | exact QS_bin (by rfl) (by rfl) (by first | exact B_slnil | exact Bq_eql_Pair | exact Bq_neq_Pair | exact Bq_eql_Op | exact Bq_neq_Op | exact Bq_eql_Cfg | exact Bq_neq_Cfg)); rfl)
          | refine sst ?_
          | refine VS_nil ?_
          | refine eeq ?_
          | refine ees ?_ (by first | exact es1 (by rfl) | exact esN (by rfl))
          | refine VE_nil ?_
          | refine kyes ?_
          | refine kno ?_
          | refine gyes ?_
          | refine gno ?_
          | refine knoU ?_
          | refine gnoU ?_
          | refine VG_nil ⟨by rfl, ?_⟩
          | refine VG_nil ?_
          | refine dT ?_
          | refine d1 ?_
          | refine dQ ?_
          | refine ctr ?_
          | refine cfa ?_
          | refine kdec (fun hq => ?_) (fun hq => ?_)
          | refine gdec (fun hq => ?_) (fun hq => ?_)
          | refine cco (fun hq => ?_) (fun hq => ?_))
        show Res _ _ _ _
        refine Res.one (by rfl) (ResV_tmp (by rfl) ?_)
        simp [hcl]
    · have q1 : (kind != 2) = true := by simp [hk2]
      refine V_flat (args := [.agg #[.int .i64 kind, .int .i64 client, .int .i64 o.kind, .string o.key, .string o.hi, .bool o.opn, .string o.val, .int .i64 o.limit, .slice A ps.length c]]) (M := M) Try.func15 rfl Try.ntmps15 (by rfl) (hM) ?_
      repeat' (first
        | refine VC_seq ?_
        | refine VC_region ?_
        | refine VL_nil ?_
        | refine VC_ret ?_
        | refine VC_exit ?_
        | refine VC_block ?_
        | refine VC_skip ?_
        | refine kbox ?_
        | refine kall ?_
        | refine kst ?_
        | refine ksN ?_
        | refine klt ?_
        | refine kl1 ?_
        | refine klK ?_
        | refine kap ?_
        | ((first | apply VL_q | apply VG_q | apply VS_q2); (first | exact qlN (by rfl) | exact qmv (by rfl) | exact qas (by rfl) | exact ql1 (by rfl) | exact qlA (by rfl) | exact qfa (by rfl) | exact qmf (by rfl) | exact qfd (by rfl) | exact qm1 (by rfl) | exact qbd (by rfl) | exact qno (by rfl) | exact qex (by rfl) | exact qln (by rfl) | exact qls (by rfl) | exact qlr (by rfl) | exact qpt (by rfl) | exact qpf (by rfl) | exact qcp (by rfl) | exact qbe (by rfl) | exact qbn (by rfl) | exact qsn (by rfl) | exact qad (by rfl) | exact qsa (by rfl) | exact qsu (by rfl) | exact QS_bin (by rfl) (by rfl) (by first | exact B_slnil | exact Bq_eql_Pair | exact Bq_neq_Pair | exact Bq_eql_Op | exact Bq_neq_Op | exact Bq_eql_Cfg | exact Bq_neq_Cfg)); rfl)
        | refine sst ?_
        | refine VS_nil ?_
        | refine eeq ?_
        | refine ees ?_ (by first | exact es1 (by rfl) | exact esN (by rfl))
        | refine VE_nil ?_
        | refine kyes ?_
        | refine kno ?_
        | refine gyes ?_
        | refine gno ?_
        | refine knoU ?_
        | refine gnoU ?_
        | refine VG_nil ⟨by rfl, ?_⟩
        | refine VG_nil ?_
        | refine dT ?_
        | refine d1 ?_
        | refine dQ ?_
        | refine ctr ?_
        | refine cfa ?_
        | refine kdec (fun hq => ?_) (fun hq => ?_)
        | refine gdec (fun hq => ?_) (fun hq => ?_)
        | refine cco (fun hq => ?_) (fun hq => ?_))
      show Res _ _ _ _
      refine Res.one (by rfl) (ResV_tmp (by rfl) ?_)
      simp [hk2]
theorem ref_Body (e : Ent) (w : World) (M : Mem) (hM : M.le (Mem.of w)) (he : e.Ok M) (hn : e.ps.length ≤ 1000000) (h1 : e.o.key.size ≤ 1000000) (h2 : e.o.hi.size ≤ 1000000) (h3 : e.o.val.size ≤ 1000000) : Calls Try.prog 16 #[.agg #[.int .i64 e.kind, .int .i64 e.client, .int .i64 e.o.kind, .string e.o.key, .string e.o.hi, .bool e.o.opn, .string e.o.val, .int .i64 e.o.limit, e.pv]] w fun r w' => r = .returned (.string (bodyE e)) ∧ Below w.heap.size w w' := by
  obtain ⟨kind, client, o, pv, ps⟩ := e
  unfold Ent.Ok at he
  dsimp only at *
  obtain ⟨A, c, rfl, hc1, hc2, _⟩ := id he
  have cB := fun W => ref_Bytes o W h1 h2 h3
  have hbz := size_bytesO o
  by_cases hk : kind = 1
  · subst hk
    cases ho : eqv o opE with
    | true =>
      have q3 : (!eqv o opE) = false := by rw [ho]; rfl
      refine V_flat (args := [.agg #[.int .i64 1, .int .i64 client, .int .i64 o.kind, .string o.key, .string o.hi, .bool o.opn, .string o.val, .int .i64 o.limit, .slice A ps.length c]]) (M := M) Try.func16 rfl Try.ntmps16 (by rfl) (hM) ?_
      repeat' (first
        | refine VC_seq ?_
        | refine VC_region ?_
        | refine VL_nil ?_
        | refine VC_ret ?_
        | refine VC_exit ?_
        | refine VC_block ?_
        | refine VC_skip ?_
        | refine kbox ?_
        | refine kall ?_
        | refine kst ?_
        | refine ksN ?_
        | refine klt ?_
        | refine kl1 ?_
        | refine klK ?_
        | refine kap ?_
        | ((first | apply VL_q | apply VG_q | apply VS_q2); (first | exact qi0 (by rfl) | exact qi1 (by rfl) | exact qwd (by rfl) | exact qnr (by rfl) | exact qni (by rfl) | exact qlN (by rfl) | exact qb2 (by rfl) | exact qmv (by rfl) | exact qas (by rfl) | exact ql1 (by rfl) | exact qlA (by rfl) | exact qfa (by rfl) | exact qmf (by rfl) | exact qfd (by rfl) | exact qm1 (by rfl) | exact qbd (by rfl) | exact qno (by rfl) | exact qex (by rfl) | exact qln (by rfl) | exact qls (by rfl) | exact qlr (by rfl) | exact qpt (by rfl) | exact qpf (by rfl) | exact qcp (by rfl) | exact qbe (by rfl) | exact qbn (by rfl) | exact qsn (by rfl) | exact qad (by rfl) | exact qsa (by rfl) | exact qsu (by rfl) | exact QS_bin (by rfl) (by rfl) (by first | exact B_slnil | exact Bq_eql_Pair | exact Bq_neq_Pair | exact Bq_eql_Op | exact Bq_neq_Op | exact Bq_eql_Cfg | exact Bq_neq_Cfg)); rfl)
        | refine sst ?_
        | refine VS_nil ?_
        | refine eeq ?_
        | refine ees ?_ (by first | exact es1 (by rfl) | exact esN (by rfl))
        | refine VE_nil ?_
        | refine kyes ?_
        | refine kno ?_
        | refine gyes ?_
        | refine gno ?_
        | refine knoU ?_
        | refine gnoU ?_
        | refine VG_nil ⟨by rfl, ?_⟩
        | refine VG_nil ?_
        | refine dT ?_
        | refine d1 ?_
        | refine dQ ?_
        | refine ctr ?_
        | refine cfa ?_
        | refine kdec (fun hq => ?_) (fun hq => ?_)
        | refine gdec (fun hq => ?_) (fun hq => ?_)
        | refine cco (fun hq => ?_) (fun hq => ?_))
      show Res _ _ _ _
      refine Res.one (by rfl) (ResV_tmp (by rfl) ?_)
      unfold bodyE
      rw [if_pos rfl, if_pos ho]
    | false =>
      have q3 : (!eqv o opE) = true := by rw [ho]; rfl
      refine V_flat (args := [.agg #[.int .i64 1, .int .i64 client, .int .i64 o.kind, .string o.key, .string o.hi, .bool o.opn, .string o.val, .int .i64 o.limit, .slice A ps.length c]]) (M := M) Try.func16 rfl Try.ntmps16 (by rfl) (hM) ?_
      repeat' (first
        | refine VC_seq ?_
        | refine VC_region ?_
        | refine VL_nil ?_
        | refine VC_ret ?_
        | refine VC_exit ?_
        | refine VC_block ?_
        | refine VC_skip ?_
        | refine kbox ?_
        | refine kall ?_
        | refine kst ?_
        | refine ksN ?_
        | refine klt ?_
        | refine kl1 ?_
        | refine klK ?_
        | refine kap ?_
        | ((first | apply VL_q | apply VG_q | apply VS_q2); (first | exact qi0 (by rfl) | exact qi1 (by rfl) | exact qwd (by rfl) | exact qnr (by rfl) | exact qni (by rfl) | exact qlN (by rfl) | exact qb2 (by rfl) | exact qsz (by rfl) | exact QS_call (by rfl) (fun W _ => cB W) | exact qmv (by rfl) | exact qas (by rfl) | exact ql1 (by rfl) | exact qlA (by rfl) | exact qfa (by rfl) | exact qmf (by rfl) | exact qfd (by rfl) | exact qm1 (by rfl) | exact qbd (by rfl) | exact qno (by rfl) | exact qex (by rfl) | exact qln (by rfl) | exact qls (by rfl) | exact qlr (by rfl) | exact qpt (by rfl) | exact qpf (by rfl) | exact qcp (by rfl) | exact qbe (by rfl) | exact qbn (by rfl) | exact qsn (by rfl) | exact qad (by rfl) | exact qsa (by rfl) | exact qsu (by rfl) | exact QS_bin (by rfl) (by rfl) (by first | exact B_slnil | exact Bq_eql_Pair | exact Bq_neq_Pair | exact Bq_eql_Op | exact Bq_neq_Op | exact Bq_eql_Cfg | exact Bq_neq_Cfg)); rfl)
        | refine sst ?_
        | refine VS_nil ?_
        | refine eeq ?_
        | refine ees ?_ (by first | exact es1 (by rfl) | exact esN (by rfl))
        | refine VE_nil ?_
        | refine kyes ?_
        | refine kno ?_
        | refine gyes ?_
        | refine gno ?_
        | refine knoU ?_
        | refine gnoU ?_
        | refine VG_nil ⟨by rfl, ?_⟩
        | refine VG_nil ?_
        | refine dT ?_
        | refine d1 ?_
        | refine dQ ?_
        | refine ctr ?_
        | refine cfa ?_
        | refine kdec (fun hq => ?_) (fun hq => ?_)
        | refine gdec (fun hq => ?_) (fun hq => ?_)
        | refine cco (fun hq => ?_) (fun hq => ?_))
      show Res _ _ _ _
      refine Res.one (by rfl) (ResV_tmp (by rfl) ?_)
      unfold bodyE
      rw [if_pos rfl, if_neg (by rw [ho]; simp)]
  · have hk1 : (kind == 1) = false := by simp [hk]
    have hbe : bodyE ⟨kind, client, o, .slice A ps.length c, ps⟩ = pkB ps := by unfold bodyE; rw [if_neg hk]
    rw [hbe]
    refine V_flat (args := [.agg #[.int .i64 kind, .int .i64 client, .int .i64 o.kind, .string o.key, .string o.hi, .bool o.opn, .string o.val, .int .i64 o.limit, .slice A ps.length c]]) (M := M) Try.func16 rfl Try.ntmps16 (by rfl) (hM) ?_
    repeat' (first
      | refine VC_seq ?_
      | refine VC_region ?_
      | refine VL_nil ?_
      | refine VC_ret ?_
      | refine VC_exit ?_
      | refine VC_block ?_
      | refine VC_skip ?_
      | refine kbox ?_
      | refine kall ?_
      | refine kst ?_
      | refine ksN ?_
      | refine klt ?_
      | refine kl1 ?_
      | refine klK ?_
      | refine kap ?_
      | ((first | apply VL_q | apply VG_q | apply VS_q2); (first | exact qi0 (by rfl) | exact qi1 (by rfl) | exact qwd (by rfl) | exact qnr (by rfl) | exact qni (by rfl) | exact qlN (by rfl) | exact qmv (by rfl) | exact qas (by rfl) | exact ql1 (by rfl) | exact qlA (by rfl) | exact qfa (by rfl) | exact qmf (by rfl) | exact qfd (by rfl) | exact qm1 (by rfl) | exact qbd (by rfl) | exact qno (by rfl) | exact qex (by rfl) | exact qln (by rfl) | exact qls (by rfl) | exact qlr (by rfl) | exact qpt (by rfl) | exact qpf (by rfl) | exact qcp (by rfl) | exact qbe (by rfl) | exact qbn (by rfl) | exact qsn (by rfl) | exact qad (by rfl) | exact qsa (by rfl) | exact qsu (by rfl) | exact QS_bin (by rfl) (by rfl) (by first | exact B_slnil | exact Bq_eql_Pair | exact Bq_neq_Pair | exact Bq_eql_Op | exact Bq_neq_Op | exact Bq_eql_Cfg | exact Bq_neq_Cfg)); rfl)
      | refine sst ?_
      | refine VS_nil ?_
      | refine eeq ?_
      | refine ees ?_ (by first | exact es1 (by rfl) | exact esN (by rfl))
      | refine VE_nil ?_
      | refine kyes ?_
      | refine kno ?_
      | refine gyes ?_
      | refine gno ?_
      | refine knoU ?_
      | refine gnoU ?_
      | refine VG_nil ⟨by rfl, ?_⟩
      | refine VG_nil ?_
      | refine dT ?_
      | refine d1 ?_
      | refine dQ ?_
      | refine ctr ?_
      | refine cfa ?_
      | refine kdec (fun hq => ?_) (fun hq => ?_)
      | refine gdec (fun hq => ?_) (fun hq => ?_)
      | refine cco (fun hq => ?_) (fun hq => ?_))
    refine VC_for (fun k : Nat => ⟨M, [.blk 33 [.int .i64 kind, .int .i64 client, .int .i64 o.kind, .string o.key, .string o.hi, .bool o.opn, .string o.val, .int .i64 o.limit, .slice A ps.length c]], [(1, .p 0 0), (4, .v (.string (pkB (ps.take k)))), (5, .v (.int .i64 k))]⟩) (fun k => k ≤ ps.length) (fun k => ps.length - k) [0] 0 ⟨rfl, rfl, ⟨rfl, trivial⟩, ⟨rfl, rfl, rfl, trivial⟩⟩ (by omega) ?_
    intro k hk
    have hz := size_pkB (ps.take k)
    rw [List.length_take] at hz
    rcases Nat.lt_or_ge k ps.length with hlt | hge
    · have hd := dlt hlt
      obtain ⟨b, off, rfl, hcA⟩ := he.get hlt
      have hz2 : (pkB (ps.take k) ++ (⟨#[b8 ps[k]]⟩ : ByteArray)).size ≤ maxLen := by rw [size_app, sz1]; unfold maxLen; omega
      repeat' (first
        | refine VC_seq ?_
        | refine VC_region ?_
        | refine VL_nil ?_
        | refine VC_ret ?_
        | refine VC_exit ?_
        | refine VC_block ?_
        | refine VC_skip ?_
        | refine kbox ?_
        | refine kall ?_
        | refine kst ?_
        | refine ksN ?_
        | refine klt ?_
        | refine kl1 ?_
        | refine klK ?_
        | refine kap ?_
        | ((first | apply VL_q | apply VG_q | apply VS_q2); (first | exact QS_indexAddr (k) (by rfl) (by rfl) (by omega) (by omega) | exact QS_mload1 (by rfl) (hcA 0 _ (by rfl)) | exact QS_mload1 (by rfl) (hcA _ _ (by rfl)) | exact QS_mloadN _ (by rfl) hcA _ (by rfl) | exact qi0 (by rfl) | exact qi1 (by rfl) | exact qwd (by rfl) | exact qnr (by rfl) | exact qni (by rfl) | exact qb1 (by rfl) | exact qsz (by rfl) | exact qmv (by rfl) | exact qas (by rfl) | exact ql1 (by rfl) | exact qlA (by rfl) | exact qfa (by rfl) | exact qmf (by rfl) | exact qfd (by rfl) | exact qm1 (by rfl) | exact qbd (by rfl) | exact qno (by rfl) | exact qex (by rfl) | exact qln (by rfl) | exact qls (by rfl) | exact qlr (by rfl) | exact qpt (by rfl) | exact qpf (by rfl) | exact qcp (by rfl) | exact qbe (by rfl) | exact qbn (by rfl) | exact qsn (by rfl) | exact qad (by rfl) | exact qsa (by rfl) | exact qsu (by rfl) | exact QS_bin (by rfl) (by rfl) (by first | exact B_slnil | exact Bq_eql_Pair | exact Bq_neq_Pair | exact Bq_eql_Op | exact Bq_neq_Op | exact Bq_eql_Cfg | exact Bq_neq_Cfg)); rfl)
        | refine sst ?_
        | refine VS_nil ?_
        | refine eeq ?_
        | refine ees ?_ (by first | exact es1 (by rfl) | exact esN (by rfl))
        | refine VE_nil ?_
        | refine kyes ?_
        | refine kno ?_
        | refine gyes ?_
        | refine gno ?_
        | refine knoU ?_
        | refine gnoU ?_
        | refine VG_nil ⟨by rfl, ?_⟩
        | refine VG_nil ?_
        | refine dT ?_
        | refine d1 ?_
        | refine dQ ?_
        | refine ctr ?_
        | refine cfa ?_
        | refine kdec (fun hq => ?_) (fun hq => ?_)
        | refine gdec (fun hq => ?_) (fun hq => ?_)
        | refine cco (fun hq => ?_) (fun hq => ?_))
      refine forQ_next (Q := fun _ _ => True) [0] (k + 1) ⟨rfl, rfl, ⟨rfl, trivial⟩, ⟨rfl, ?_, rfl, trivial⟩⟩ (by omega) (by omega)
      rw [← pkB_step hlt]; rfl
    · have hd := dge hge
      obtain rfl : k = ps.length := by omega
      repeat' (first
        | refine VC_seq ?_
        | refine VC_region ?_
        | refine VL_nil ?_
        | refine VC_ret ?_
        | refine VC_exit ?_
        | refine VC_block ?_
        | refine VC_skip ?_
        | refine kbox ?_
        | refine kall ?_
        | refine kst ?_
        | refine ksN ?_
        | refine klt ?_
        | refine kl1 ?_
        | refine klK ?_
        | refine kap ?_
        | ((first | apply VL_q | apply VG_q | apply VS_q2); (first  | exact qmv (by rfl) | exact qas (by rfl) | exact ql1 (by rfl) | exact qlA (by rfl) | exact qfa (by rfl) | exact qmf (by rfl) | exact qfd (by rfl) | exact qm1 (by rfl) | exact qbd (by rfl) | exact qno (by rfl) | exact qex (by rfl) | exact qln (by rfl) | exact qls (by rfl) | exact qlr (by rfl) | exact qpt (by rfl) | exact qpf (by rfl) | exact qcp (by rfl) | exact qbe (by rfl) | exact qbn (by rfl) | exact qsn (by rfl) | exact qad (by rfl) | exact qsa (by rfl) | exact qsu (by rfl) | exact QS_bin (by rfl) (by rfl) (by first | exact B_slnil | exact Bq_eql_Pair | exact Bq_neq_Pair | exact Bq_eql_Op | exact Bq_neq_Op | exact Bq_eql_Cfg | exact Bq_neq_Cfg)); rfl)
        | refine sst ?_
        | refine VS_nil ?_
        | refine eeq ?_
        | refine ees ?_ (by first | exact es1 (by rfl) | exact esN (by rfl))
        | refine VE_nil ?_
        | refine kyes ?_
        | refine kno ?_
        | refine gyes ?_
        | refine gno ?_
        | refine knoU ?_
        | refine gnoU ?_
        | refine VG_nil ⟨by rfl, ?_⟩
        | refine VG_nil ?_
        | refine dT ?_
        | refine d1 ?_
        | refine dQ ?_
        | refine ctr ?_
        | refine cfa ?_
        | refine kdec (fun hq => ?_) (fun hq => ?_)
        | refine gdec (fun hq => ?_) (fun hq => ?_)
        | refine cco (fun hq => ?_) (fun hq => ?_))
      show Res _ _ _ _
      refine Res.one (by rfl) (ResV_tmp (by rfl) ?_)
      rw [List.take_length]
end Go.Proofs.Ytdgcdfngpimmmaa
