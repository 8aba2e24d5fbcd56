/- A part of the proof of TopPrefix; no conditions. -/
import Derived.WalkKit
import Derived.WalkSpells
import Derived.WalkLawsBesides
import Derived.Lib.Strings
import Derived.Lib.Hide
import Derived.Test.YtaibdpjjojihmaaGreatRows
import Derived.ProofKit
import Derived.OpenShut
import Derived.ShutString
import Derived.Handy
import Derived.SizedLaws
import Derived.Deep.Slices
import Derived.Deep.Fields
import Derived.BigQuiet
import Derived.Lib.QuietBelow
import Derived.StillTail
set_option linter.unusedVariables false
set_option linter.unusedSimpArgs false
set_option maxRecDepth 20000
set_option maxHeartbeats 400000
namespace Go.Proofs.YtaibdpjjojihmaaGreat
section
abbrev Sn:=@List.findIdx?_eq_some_iff_getElem
abbrev aiz:=@List.set_eq_take_append_cons_drop
abbrev aiy:=@Go.ChangeMaps.heap_setBlock_other
abbrev vF:=@List.take_succ_eq_append_getElem
abbrev aix:=@Go.ChangeMaps.heap_setBlock_same
abbrev abu:=@Array.getElem?_setIfInBounds_ne
abbrev aiw:=@List.eq_nil_iff_forall_not_mem
abbrev dm:=@List.eq_nil_of_length_eq_zero
abbrev aiv:=@List.getLast?_eq_some_getLast
abbrev GF:=@List.take_append_of_le_length
abbrev Sm:=@List.drop_append_of_le_length
abbrev acQ:=@List.dropLast_concat_getLast
abbrev Sk:=@List.take_length_add_append
abbrev Sj:=@List.drop_length_add_append
abbrev XL:=@Array.getElem?_eq_some_iff
abbrev kF:=@List.getElem?_append_right
abbrev dv:=@List.getD_eq_getElem?_getD
abbrev du:=@Array.getElem?_append_left
abbrev acP:=@List.getElem_concat_length
abbrev acO:=@Int.fdiv_eq_ediv_of_nonneg
abbrev DG:=@Array.toList_setIfInBounds
abbrev xI:=@List.getElem?_eq_some_iff
abbrev wE:=@List.getElem?_append_left
abbrev Zc:=@List.drop_eq_getElem_cons
abbrev gz:=@List.mem_take_iff_getElem
abbrev rQ:=@List.findIdx?_eq_none_iff
abbrev DF:=@List.pairwise_iff_getElem
abbrev dr:=@List.mem_or_eq_of_mem_set
abbrev I0:=@List.mem_drop_iff_getElem
abbrev acN:=@Array.getElem?_eq_getElem
abbrev acM:=@Go.Lib.run_append_own_string
abbrev Si:=@List.getLast?_eq_getElem?
abbrev jA:=@List.getElem?_eq_getElem
abbrev IZ:=@Array.setIfInBounds_comm
abbrev XK:=@Bool.eq_false_or_eq_true
abbrev m7:=@List.eq_of_mem_replicate
abbrev gy:=@List.length_eq_zero_iff
abbrev JG:=@Nat.add_sub_cancel_left
abbrev gx:=@decide_eq_false_iff_not
abbrev wD:=@List.take_of_length_le
abbrev Sh:=@Go.DataW.weights_mem_each
abbrev DE:=@ByteArray.size_extract
abbrev Ut:=@List.drop_eq_nil_of_le
abbrev wC:=@List.getElem?_set_self
abbrev Sg:=@Array.getElem?_eq_none
abbrev Sf:=@List.Perm.append_right
abbrev Se:=@Array.getElem?_toList
abbrev IY:=@List.contains_iff_mem
abbrev Us:=@List.take_append_drop
abbrev Ql:=@List.length_filter_le
abbrev dq:=@List.getElem?_eq_none
abbrev YF:=@List.set_append_right
abbrev uQ:=@List.perm_append_comm
abbrev Xk:=@Nat.le_of_ble_eq_true
abbrev rP:=@List.mem_append_right
abbrev Sd:=@List.countP_le_length
abbrev IX:=@List.set_getElem_self
abbrev m6:=@List.length_replicate
abbrev qA:=@Nat.eq_of_beq_eq_true
abbrev IW:=@List.mem_iff_getElem?
abbrev DD:=@List.length_singleton
abbrev Sc:=@List.getElem_set_self
abbrev uB:=@Nat.mul_le_mul_right
abbrev IV:=@Bool.or_eq_false_iff
abbrev Xj:=@List.mem_of_getElem?
abbrev wB:=@List.mem_of_mem_take
abbrev IU:=@List.pairwise_append
abbrev dp:=@List.mem_of_mem_drop
abbrev XJ:=@List.mem_cons_of_mem
abbrev rO:=@List.length_dropLast
abbrev IT:=@List.dropLast_subset
abbrev rN:=@List.mem_append_left
abbrev Zb:=@List.getElem?_set_ne
abbrev rM:=@List.getElem?_of_mem
abbrev IS:=@List.mem_iff_getElem
abbrev Sb:=@Array.toArray_toList
abbrev Sa:=@List.mem_of_getLast?
abbrev R9:=@List.getElem?_modify
abbrev rL:=@Go.getD_replicate_false
abbrev IR:=@Go.run_storeCells_cells
abbrev m5:=@List.mem_map_of_mem
abbrev Qk:=@List.length_pos_iff
abbrev JF:=@List.flatMap_append
abbrev YE:=@List.take_succ_cons
abbrev gw:=@List.drop_succ_cons
abbrev rK:=@List.countP_eq_zero
abbrev IQ:=@List.filter_sublist
abbrev rJ:=@List.drop_set_of_lt
abbrev rI:=@Go.World.grownBy_alloc
abbrev Kc:=@List.perm_iff_count
abbrev mZ:=@Array.length_toList
abbrev R8:=@List.filterMap_cons
abbrev IP:=@List.map_congr_left
abbrev R7:=@List.getElem_of_mem
abbrev IN:=@Array.toList_append
abbrev rH:=@beq_eq_false_iff_ne
abbrev IM:=@Go.run_callFunc_extern
abbrev wA:=@List.getElem?_take
abbrev IL:=@Nat.lt_of_lt_of_le
abbrev Vk:=@List.getElem?_drop
abbrev jQ:=@Go.World.size_setCell
abbrev yK:=@List.length_append
abbrev Vr:=@Nat.eq_zero_or_pos
abbrev aY:=@List.pairwise_cons
abbrev Yq:=@List.mem_cons_self
abbrev jx:=@List.mem_singleton
abbrev Vq:=@Bool.false_eq_true
abbrev aX:=@List.filter_append
abbrev aW:=@List.set_cons_zero
abbrev Ub:=@List.set_cons_succ
abbrev G8:=@List.map_replicate
abbrev G7:=@List.erase_sublist
abbrev G6:=@Array.foldl_toList
abbrev G5:=@Nat.pos_of_ne_zero
abbrev G4:=@List.length_modify
abbrev G3:=@Int.emod_lt_of_pos
abbrev wc:=@of_decide_eq_false
abbrev nK:=@Go.heap_setCell_other
abbrev AC:=@Go.grownCap_le_maxLen
abbrev j6:=@List.flatMap_cons
abbrev qd:=@List.getElem?_map
abbrev KB:=@Bool.not_eq_true'
abbrev nJ:=@List.foldl_append
abbrev G2:=@Nat.le_succ_of_le
abbrev Ua:=@Option.some.injEq
abbrev G1:=@List.take_sublist
abbrev G0:=@List.drop_sublist
abbrev xY:=@List.append_assoc
abbrev Yp:=@Int.toNat_natCast
abbrev xh:=@Go.Result.andThen_ok
abbrev AB:=@List.ext_getElem?
abbrev AA:=@List.mem_range'_1
abbrev Yo:=@List.count_append
abbrev fm:=@List.length_range
abbrev GZ:=@List.getElem?_set
abbrev At:=@Go.World.ownsRow_nil
abbrev As:=@Array.size_append
abbrev GY:=@List.size_toArray
abbrev j5:=@decide_eq_true_eq
abbrev qc:=@of_decide_eq_true
abbrev Ar:=@Go.heap_setCell_same
abbrev GX:=@not_true_eq_false
abbrev nI:=@Go.run_sliceAt_slice
abbrev kI:=@List.length_drop
abbrev yw:=@List.all_eq_true
abbrev yD:=@List.getElem_mem
abbrev Q9:=@Go.Proofs.Tryz.underlying3
abbrev yF:=@Bool.and_eq_true
abbrev xd:=@List.length_cons
abbrev jP:=@Go.World.size_alloc
abbrev wQ:=@List.cons_append
abbrev yC:=@List.length_take
abbrev xk:=@List.take_length
abbrev aV:=@List.all_flatMap
abbrev fj:=@List.ext_getElem
abbrev nH:=@List.getElem_set
abbrev KA:=@List.mem_flatMap
abbrev GW:=@List.getLast_mem
abbrev GV:=@Nat.succ_le_succ
abbrev Aq:=@List.any_eq_true
abbrev fi:=@Array.toList_map
abbrev fh:=@Nat.lt_succ_self
abbrev aU:=@List.perm_middle
abbrev GU:=@List.countP_cons
abbrev XD:=@List.getElem_map
abbrev Kz:=@Option.getD_some
abbrev wP:=@List.map_toArray
abbrev GS:=@Nat.min_eq_right
abbrev nG:=@List.drop_length
abbrev GR:=@Option.bind_some
abbrev fg:=@List.range'_succ
abbrev GQ:=@List.zipIdx_cons
abbrev ff:=@List.filter_cons
abbrev An:=@Go.RowKit.Below.heap_alloc
abbrev YZ:=@beq_self_eq_true
abbrev fe:=@Go.Lib.toList_data
abbrev jH:=@List.mem_append
abbrev xR:=@List.append_nil
abbrev fa:=@Bool.eq_iff_iff
abbrev GP:=@UInt8.toNat_inj
abbrev YY:=@Bool.or_eq_true
abbrev qt:=@Option.some.inj
abbrev GO:=@List.nodup_cons
abbrev e9:=@Go.Proofs.Tryz.results241
abbrev jO:=@Go.World.size_drew
abbrev Al:=@List.all_append
abbrev xj:=@List.length_set
abbrev yo:=@List.length_map
abbrev ur:=@Option.map_some
abbrev jo:=@List.map_append
abbrev Yn:=@List.nil_append
abbrev jn:=@Nat.min_eq_left
abbrev nF:=@List.range_succ
abbrev ZE:=@List.mem_filter
abbrev Aj:=@List.length_nil
abbrev Ym:=@List.count_cons
abbrev GN:=@List.sum_append
abbrev GM:=@List.find?_cons
abbrev GL:=@List.drop_left'
abbrev GK:=@List.foldl_cons
abbrev Yl:=@Option.map_none
abbrev Ai:=@List.take_left'
abbrev GJ:=@Int.emod_nonneg
abbrev z6:=@decide_eq_false
abbrev Q8:=@List.drop_drop
abbrev wO:=@List.take_take
abbrev ua:=@List.take_left
abbrev JJ:=@List.drop_zero
abbrev eZ:=@List.take_zero
abbrev nE:=@List.count_nil
abbrev Ah:=@Bool.false_and
abbrev Ag:=@Go.Addr.add_zero'
abbrev Af:=@UInt8.toNat_lt
abbrev GI:=@List.mem_range
abbrev GH:=@List.drop_take
abbrev GG:=@List.drop_left
abbrev Ad:=@Go.Proofs.Tryz.results93
abbrev nD:=@List.Perm.symm
abbrev yk:=@decide_eq_true
abbrev JI:=@Go.heap_alloc_new
abbrev jG:=@Go.run_underlying
abbrev aT:=@Go.size_zeroCells
abbrev XC:=@Bool.true_and
abbrev nC:=@Bool.false_or
abbrev nB:=@Nat.add_assoc
abbrev xw:=@List.map_cons
abbrev nA:=@Go.Proofs.Tryz.ntmps259
abbrev Ky:=@Go.Proofs.Tryz.ntmps203
abbrev eY:=@Go.Proofs.Tryz.ntmps241
abbrev jm:=@List.mem_cons
abbrev eX:=@List.map_take
abbrev JH:=@Prod.mk.injEq
abbrev ny:=@Go.Proofs.Tryz.ntmps212
abbrev Q7:=@List.take_set
abbrev Ab:=@Go.Proofs.Tryz.ntmps129
abbrev aS:=@List.all_cons
abbrev eW:=@Go.Proofs.Tryz.ntmps124
abbrev eV:=@Go.Proofs.Tryz.ntmps194
abbrev Aa:=@Go.Proofs.Tryz.ntmps216
abbrev eU:=@Go.Proofs.Tryz.ntmps197
abbrev t9:=@Go.Proofs.Tryz.ntmps134
abbrev Kw:=@Go.Proofs.Tryz.ntmps186
abbrev eT:=@Go.Proofs.Tryz.ntmps133
abbrev nt:=@Go.Proofs.Tryz.ntmps185
abbrev t8:=@Go.Proofs.Tryz.ntmps225
abbrev nr:=@Go.wp_region_lit
abbrev Kv:=@Go.frozen_of_row
abbrev Vp:=@Nat.zero_mul
abbrev xu:=@Nat.zero_add
abbrev uq:=@Nat.succ_mul
abbrev yq:=@Nat.lt_or_ge
abbrev Q6:=@Nat.add_comm
abbrev nm:=@Go.Proofs.Tryz.func259
abbrev Ku:=@Go.Proofs.Tryz.func203
abbrev eS:=@Go.Proofs.Tryz.func241
abbrev aR:=@List.map_set
abbrev Q5:=@Int.le_trans
abbrev jZ:=@Nat.le_trans
abbrev Q4:=@Int.lt_or_le
abbrev qq:=@Nat.sub_self
abbrev nj:=@Go.Proofs.Tryz.func212
abbrev yz:=@Go.Sem.run_bind
abbrev xM:=@Go.Sem.run_pure
abbrev t7:=@List.all_map
abbrev t6:=@Decidable.em
abbrev eR:=@Go.Proofs.Tryz.func124
abbrev uT:=@List.mem_map
abbrev XB:=@List.map_map
abbrev uo:=@List.map_nil
abbrev eQ:=@Go.Proofs.Tryz.func194
abbrev ni:=@Nat.beq_refl
abbrev vG:=@Go.Addr.add_lit
abbrev Kt:=@Nat.add_zero
abbrev t5:=@Nat.mul_comm
abbrev Ks:=@List.set_set
abbrev aQ:=@Go.Proofs.Tryz.ntmps38
abbrev Vo:=@Go.Proofs.Tryz.ntmps34
abbrev eP:=@Go.Proofs.Tryz.func197
abbrev Kr:=@Go.Proofs.Tryz.func186
abbrev eO:=@Go.Proofs.Tryz.func133
abbrev ne:=@Go.Proofs.Tryz.func185
abbrev eN:=@Go.Proofs.Tryz.ntmps22
abbrev Yk:=@Go.bodyPost_ret
abbrev v8:=@Go.wpList_plain
abbrev eM:=@Go.run_max_int2
abbrev eL:=@Go.run_min_int2
abbrev um:=@Nat.add_mul
abbrev zN:=@Nat.le_refl
abbrev zW:=@Nat.zero_le
abbrev k9:=@Int.le_refl
abbrev v7:=@Nat.mul_one
abbrev tZ:=@Nat.one_mul
abbrev tY:=@List.map_id
abbrev aP:=@Go.Proofs.Tryz.func38
abbrev Vn:=@Go.Proofs.Tryz.func34
abbrev eK:=@Go.Proofs.Tryz.func22
abbrev Vm:=@Go.cell_of_row
abbrev m9:=@Go.getD_set_ne
abbrev eJ:=@Go.calls_of_wp
abbrev aO:=@Go.run_program
abbrev tX:=@Go.grownCap_ge
abbrev ZD:=@Go.RowKit.Below.refl
abbrev tW:=@Nat.mod_lt
abbrev x9:=@Nat.blt_eq
abbrev eI:=@Go.Calls.mono
abbrev eH:=@beq_iff_eq
abbrev Vl:=@Go.ready_mono
abbrev m8:=@Go.tail_waits
abbrev z5:=@congrArg
abbrev kT:=@if_false
abbrev wN:=@Go.Lib.hid
abbrev uS:=@Ne.symm
abbrev vZ:=@Go.wp_mono
abbrev uR:=@if_true
abbrev zo:=@if_pos
abbrev zn:=@if_neg
noncomputable abbrev zf:=Tryz.prog
theorem zE {P:Prop} (h:P:=by exact Mem.le_refl _):P:=h
theorem aN {P:Prop} (h:P:=by exact zy (by rfl) rfl):P:=h
theorem zP {P:Prop} (h:P:=by exact yH.one (by rfl) (zy (by rfl) rfl)):P:=h
theorem kH {P:Prop} (h:P:=by exact yH.two (by rfl) (zy (by rfl) rfl) (zy (by rfl) rfl)):P:=h
theorem xc {P:Prop} (h:P:=by exact ⟨rfl,trivial⟩):P:=h
theorem j4 {P:Prop} (h:P:=by exact ⟨rfl,rfl,trivial⟩):P:=h
theorem ka {P:Prop} (h:P:=by exact ⟨rfl,rfl,rfl,trivial⟩):P:=h
theorem jY {P:Prop} (h:P:=by exact ⟨rfl,rfl,rfl,rfl,trivial⟩):P:=h
theorem kX {P:Prop} (h:P:=by exact ⟨rfl,rfl,rfl,rfl,rfl,trivial⟩):P:=h
theorem JE {P:Prop} (h:P:=by exact ⟨rfl,rfl,rfl,rfl,rfl,rfl,trivial⟩):P:=h
theorem Qj {P:Prop} (h:P:=by exact ⟨rfl,rfl,rfl,rfl,rfl,rfl,rfl,trivial⟩):P:=h
theorem zp {P:Prop} (h:P:=by exact ⟨by kernel_rfl⟩):P:=h
theorem zd {P:Prop} (h:P:=by rfl):P:=h
theorem ze {P:Prop} (h:P:=by omega):P:=h
theorem yx {P:Prop} (h:P:=by simp):P:=h
theorem yI {P:Prop} (h:P:=by decide +kernel):P:=h
theorem Kq {P:Prop} (h:P:=by decide):P:=h
theorem Yy {P:Prop} (h:P:=by kernel_rfl):P:=h
abbrev zh:=@inferInstance.{0}
end
section
open Go.RowKit
theorem Xe {v u:Value} (h:v=u):Ending.returned v= .returned u:=by rw [h]
theorem agb {a b:ByteArray} (h:a=b):Value.string a= .string b:=by rw [h]
theorem mS {a b:Bool} (h:a=b):Value.bool a= .bool b:=by rw [h]
abbrev bl (s:ByteArray):List UInt8:=s.data.toList
theorem JC {a b:ByteArray} (h:bl a=bl b):a=b:=by
 rw [<-Lib.mk_data a,<-Lib.mk_data b];exact z5 (fun l:List UInt8=>(⟨l.toArray⟩:ByteArray)) h
theorem Q3 (s:ByteArray):s.size=(bl s).length:=Lib.size_eq s
theorem Gy (s:ByteArray) (a b:Nat):bl (s.extract a b)=((bl s).drop a).take (b-a):=Lib.extract_data s a b
theorem NE (a b:ByteArray):bl (a++b)=bl a++bl b:=by simp [bl]
theorem aeI (a b:ByteArray):(a.toList==b.toList)=decide (a=b):=by
 rw [fe,fe];by_cases h:a=b
 · simp [h]
 · simp only [h,decide_false,rH];exact fun e=>h (JC e)
abbrev em:ByteArray:=⟨#[]⟩
theorem TI:em.size=0:=rfl
theorem II:bl em= []:=rfl
def tl (s:ByteArray):ByteArray:=s.extract (s.size-16) s.size
theorem acJ (s:ByteArray):bl (tl s)=(bl s).drop ((bl s).length-16):=by
 unfold tl;rw [Gy,Q3];exact wD yx
theorem TH (s:ByteArray):(tl s).size=min s.size 16:=by
 rw [Q3,acJ,Q3,kI];omega
theorem OD (s:ByteArray) (h:s.size<=16):tl s=s:=JC (by rw [acJ,<-Q3,Nat.sub_eq_zero_of_le h];rfl)
theorem jy (a b:ByteArray):(a++b).size=a.size+b.size:=by simp
end
section
open Go.RowKit
theorem Em (s:ByteArray) (w:World) (hs:s.size<=maxLen):
 Calls zf 247 #[.string s] w fun e w'=>e= .returned (.string (tl s))/\w=w':=by
 unfold maxLen at hs
 go_enter Tryz.func247,Tryz.ntmps247
 go_wp2
 · go_ret
   exact ⟨Xe (agb (by unfold tl;congr 1;omega)),rfl⟩
 · go_ret
   exact ⟨Xe (agb (OD s ze).symm),rfl⟩
theorem pw (a b:ByteArray) (w:World) (hs:(a++b).size<=maxLen):
 Calls zf 232 #[.string a, .string b] w fun e w'=>e= .returned (.string (tl (a++b)))/\w=w':=by
 have H:=wN hs;rw [jy] at hs;unfold maxLen at hs
 go_enter Tryz.func232,Tryz.ntmps232
 go_wp2_with (go_at_call 247;refine (Em _ _ H.out).mono ?_;rintro e w' ⟨rfl,rfl⟩)
 go_ret
 exact ⟨rfl,rfl⟩
end
section
open Go.ChangeShapes Go.WideShapes Go.ChangeAt Go.RowKit
open Go.ChangeMaps (open_string shut_string)
section
variable {H:Type} {enc:TypeId×Value->H} {P:Program}
theorem Wi (hl:laidOutB P=true) {W W':World} (hb:Below W.heap.size W W') (sp:Nat->Bool):
 ∀(ts:List TypeId) (vs:List Value) (ds:List (DataW H)) (ps:List MemPlace),(∀t∈ts,P.readableRec t=true/\t<P.types.size)->
  DataW.TrodAll enc P W 0 (fun _=>true) true ts vs ds ps->(∀x∈ps,x.block<W.heap.size)->(∀x∈ps,sp x.block=true)->DataW.TrodAll enc P W' 0 sp true ts vs ds ps
 | [],[],[],ps,_,h,_,_=>h
 |t::ts,v::vs,d::ds,ps,hr,h,z9,hsp=>by
  obtain ⟨p,q,hp,hq,rfl⟩:=h;refine ⟨p,q,WideElems.Trod_stays hl (hr t yx).1 (hr t yx).2 hp (fun x hx=>hb.same (z9 x (by simp [hx]))) (fun x hx=>hsp x (by simp [hx])),?_,rfl⟩;exact Wi hl hb sp ts vs ds q (fun t ht=>hr t (by simp [ht])) hq (fun x hx=>z9 x (by simp [hx])) (fun x hx=>hsp x (by simp [hx]))
 | [],[],_::_,_,_,h,_,_=>h.elim
 | [],_::_,_,_,_,h,_,_=>h.elim
 |_::_,[],_,_,_,h,_,_=>h.elim
 |_::_,_::_,[],_,_,h,_,_=>h.elim
theorem oJ {f:Func} {s:ChangeSpec} {IJ WG aaQ aiu:Bool} {W W':World} {args:Array Value} {v:Value} {ds gs:List (DataW H)} {Yj pa pv:List MemPlace}
 (hW:DataW.Whole enc P f.params.toList s.vars IJ W args.toList ds gs Yj)
 (km: ∀(b:Nat) (sp:Nat->Bool) (hd:Bool),DataW.TrodAll enc P W' b sp hd f.resultTypes.toList (v.resultList f.resultTypes.size) (s.fn H (ds++gs)).results [])
 (Rt: ∀sp:Nat->Bool,(∀p∈Yj,sp p.block=true)->DataW.TrodAll enc P W' 0 sp true f.params.toList args.toList (s.fn H (ds++gs)).args pa)
 (CP: ∀sp:Nat->Bool,(∀p∈Yj,sp p.block=true)->DataW.TrodVars enc P W' sp s.vars (s.fn H (ds++gs)).vars pv)
 (oT:Yj=pa++pv) (hb:Below W.heap.size W W')
 (ju: ∀(j:Nat) (t:TypeId) (r:Value),f.resultTypes[j]?=some t->(v.resultList f.resultTypes.size)[j]?=some r->Value.okWide P W' .any 0 t r):
 s.post enc P f IJ WG aaQ aiu W args v W':=by
 have z9: ∀p∈Yj,p.block<W.heap.size:=fun p hp=>hW.lt p hp
 have zV: ∀p∈Yj,(fun b=>decide (b<W.heap.size)) p.block=true:=fun p hp=>by simpa using z9 p hp
 refine ⟨ds,gs,Yj,[],pa,pv,hW,km _ _ _,Rt _ zV,CP _ zV,World.keptBut_mono (fun p hp=>⟨hp,?_⟩) (hb.frame (· ∈Yj)),fun _=>?_⟩
 · rw [oT,jH] at hp;exact Or.inr hp
 · obtain ⟨_,_,_,_,_,hz,hn⟩:=hW;refine ⟨ju,_,_,([]++pa)++pv,⟨[]++pa,pv,trodAll_append (Rt _ (fun _ _=>rfl)) (km _ _ _),CP _ (fun _ _=>rfl),rfl,?_,?_⟩,?_⟩
   · intro b off hp;have J6:MemPlace.cell b off∈Yj:=by rw [oT];simpa using hp
     rw [hb.frozen (z9 _ J6)];exact hz b off J6
   · intro ha;have:=hn ha;rw [oT] at this;simpa using this
   · intro p hp _;rw [oT];simpa using hp
theorem PO {f:Func} {s:ChangeSpec} {W W':World} {args:Array Value} {ds:List (DataW H)} {Yj:List MemPlace} {tb:TypeId}
 (hl:laidOutB P=true) (akL:(f.params.toList.all fun t=>P.readableRec t&&decide (t<P.types.size))=true) (km:f.resultTypes= #[tb]) (htb:P.underlying tb=some .bool)
 (CP:s.vars= []) (Oq:s.fn H (ds++ [])= {results:= [.lit (.bool true)],args:=ds})
 (hW:DataW.Whole enc P f.params.toList s.vars false W args.toList ds [] Yj) (hb:Below W.heap.size W W'):
 s.post enc P f false true false false W args (.bool true) W':=by
 have z9: ∀p∈Yj,p.block<W.heap.size:=fun p hp=>hW.lt p hp
 have hts: ∀t∈f.params.toList,P.readableRec t=true/\t<P.types.size:=fun t ht=>by
  have:=yw.1 akL t ht;simpa using this
 obtain ⟨p,q,hA,hV,iw,Oo,bg⟩:=id hW;rw [CP] at hV;have hq:q= []:=hV;subst hq;rw [xR] at iw;subst iw;refine oJ (pa:=Yj) (pv:= []) hW ?_ ?_ ?_ yx hb ?_
 · intro b sp hd;rw [Oq,km];exact trodAll_cons_mk (shut_bool htb true) trodAll_mk0
 · intro sp hsp;rw [Oq];exact Wi hl hb sp _ _ _ _ hts hA z9 hsp
 · intro sp hsp;rw [Oq,CP];rfl
 · exact ok_one km rfl (okWide_bool_mk htb true)
end
theorem ait {H:Type} {enc:TypeId×Value->H} {P:Program} {W:World} {t0 t1:TypeId} {args:Array Value} {ds:List (DataW H)} {p:List MemPlace} (h:DataW.TrodAll enc P W 0 (fun _=>true) true [t0,t1] args.toList ds p):
 ∃v0 v1 d0 d1 p0 p1,args= #[v0,v1]/\ds= [d0,d1]/\DataW.Trod enc P W 0 (fun _=>true) true t0 v0 d0 p0/\DataW.Trod enc P W 0 (fun _=>true) true t1 v1 d1 p1:=by
 obtain ⟨v0,vs0,d0,ds0,p0,q0,Rt,rfl,rfl,h0,r0⟩:=trodAll_cons h;obtain ⟨v1,vs1,d1,ds1,p1,q1,rfl,rfl,rfl,h1,r1⟩:=trodAll_cons r0;obtain ⟨rfl,rfl,rfl⟩:=trodAll_nil r1;exact ⟨v0,v1,d0,d1,p0,p1,by cases args;simp_all,rfl,h0,h1⟩
theorem own:ownKnob zf.godebug=none:=by kernel_rfl
theorem ako:laidOutB zf=true:=by kernel_rfl
end
section
open Go.ChangeShapes Go.WideShapes Go.ChangeAt Go.RowKit Go.Deep
def Od (n:Int):Prop:= -9223372036854775808<=n/\n<=9223372036854775807
def Sz (s:ByteArray):Prop:=s.size<=140737488351232
theorem Od.hi {n:Int} (h:Od n):n<=9223372036854775807:=h.2
def Sl {α:Type} (w:World) (k:Nat) (cells:α->List Value) (v:Value) (l:List α):Prop:=
 ∃A c,v= .slice A l.length c/\l.length<=c/\c<=maxLen/\
  (l= []\/ ∃b off,A=some ⟨b,off,none⟩/\b<w.heap.size/\ ∀i u (h:i<l.length),cells l[i]=u-> ∀j x,u[j]?=some x->w.cell? ⟨b,off+i*k+j,none⟩=some x)
theorem Sl.adn {α:Type} {w:World} {base:Nat} {e:TypeId} {k:Nat} {cells:α->List Value} {v:Value} {l:List α} (hk: ∀a∈l,(cells a).length=k)
 (h:w.ownsRow base e k v l.length (l.flatMap cells)):Sl w k cells v l:=by
 obtain ⟨hl,h⟩:=h;rcases h with ⟨rfl,h0⟩|⟨g,cap,cur,rfl,hb,hg,hn,hm,hs,ht⟩
 · have:l= []:=dm h0;subst this;exact ⟨none,0,rfl,by simp,by simp, .inl rfl⟩
 · refine ⟨_,cap,rfl,hn,hm, .inr ⟨g,0,rfl,(XL.1 hg).1,?_⟩⟩;intro i u hi hu j x hx
   have Rl:j<k:=by
    have:=hk l[i] (yD hi);rw [hu] at this;have h2:=(xI.1 hx).1;omega
   have key: ∀(m:List α) (i:Nat) (hi:i<m.length),(∀a∈m,(cells a).length=k)->(m.flatMap cells)[i*k+j]?=(cells m[i])[j]?:=by
    intro m
    induction m with
    |nil=>intro i hi;simp at hi
    |cons a m ih=>
     intro i hi hk;have ha:=hk a yx;rw [j6];cases i with
     |zero=>rw [Vp,xu,wE ze];rfl
     |succ i=>
      rw [kF (by rw [ha,um];omega),ha,show (i+1)*k+j-k=i*k+j by rw [um];omega];exact ih i (by simpa using hi) (fun a ha=>hk a (by simp [ha]))
   have h3:=key l i hi hk;rw [hu,hx] at h3
   have z9:i*k+j<l.length*k:=by
    have:i*k+k<=l.length*k:=by rw [<-uq];exact uB _ hi
    omega
   rw [xu,Vm w g (i*k+j) cur e (0,0) hg];rw [<-ht,wA,zo z9] at h3;simpa using h3
section
variable {H:Type} {enc:TypeId×Value->H} {P:Program} {w:World}
def Wt (P:Program) (t:TypeId) (d:DataW H):Prop:= ∀n∈d.weights P t,n<=reachBytes
theorem Wt.aag {ts:List TypeId} {ds:List (DataW H)} (h:(DataW.weightsEach P ts ds).all (· <=reachBytes)=true) {j:Nat} {t:TypeId} {d:DataW H} (ht:ts[j]?=some t) (hd:ds[j]?=some d):Wt P t d:=fun n hn=>by
 have:=yw.1 h n (Sh ht hd n hn);simpa using this
theorem UX {t:TypeId} {fuel:Nat} {cs:List Value} {x:DataW H×List MemPlace} (ht:P.underlying t=some (.int .i64)) (h:DataW.trod enc P w 0 (fun _=>true) true fuel t cs=some x): ∃n:Int,cs= [.int .i64 n]/\Od n:=by
 obtain ⟨n,rfl,rfl,hw⟩:=DataW.trod_int ht h;refine ⟨n,rfl,?_⟩;have: -9223372036854775808<=n/\n<=9223372036854775807:=by simpa [Lit.wf,IntKind.min,IntKind.max,IntKind.signed,IntKind.bits] using hw
 exact this
theorem adf {t:TypeId} {fuel:Nat} {cs:List Value} {x:DataW H×List MemPlace} (ht:P.underlying t=some .string) (h:DataW.trod enc P w 0 (fun _=>true) true fuel t cs=some x) (hw:Wt P t x.1): ∃s:ByteArray,cs= [.string s]/\Sz s:=by
 obtain ⟨s,rfl,rfl,_⟩:=DataW.trod_string ht h;refine ⟨s,rfl,?_⟩;have:=hw s.data.toList.length (by simp [DataW.weights]);unfold Sz;rw [Q3];exact this
theorem LS {t:TypeId} {fs:Array Field} {fuel:Nat} {cs:List Value} {x:DataW H×List MemPlace} (ht:P.underlying t=some (.struct fs)) (Jr:oneCellFields P fs=true) (hC:P.cellsOf t=fs.size)
 (h:DataW.trod enc P w 0 (fun _=>true) true fuel t cs=some x) (hw:Wt P t x.1):
 cs.length=fs.size/\ ∀(j:Nat) (f:Field),fs[j]?=some f-> ∃(v:Value) (y:DataW H×List MemPlace) (n:Nat),cs[j]?=some v/\DataW.trod enc P w 0 (fun _=>true) true n f.type [v]=some y/\Wt P f.type y.1:=by
 obtain ⟨xs,n,rfl,rfl,hl,hxl,hf⟩:=DataW.trod_struct ht h;rw [hC] at hl;refine ⟨hl,fun j f hj=>?_⟩;obtain ⟨ho,hk⟩:=hone_of Jr j f hj;have Wb:j<fs.size:=(XL.1 hj).1;have h1:=hf j f hj;rw [ho,hk,Zc ze] at h1;have hxj:xs[j]?=some (xs[j]'(by omega)):=jA ze;rw [hxj] at h1;refine ⟨cs[j]'(by omega),_,n,jA ze,h1,fun m hm=>hw m ?_⟩;simp only [DataW.weights,ht];refine Sh (j:=j) ?_ ?_ m hm
 · rw [qd,Se,hj];rfl
 · rw [qd,hxj];rfl
end
section
variable {H:Type} {enc:TypeId×Value->H} {W:World} {base:Nat}
theorem abq {v:Value} {d:DataW H} {p:List MemPlace} (hv:Value.okWide zf W .any base 3 v) (h:DataW.Trod enc zf W 0 (fun _=>true) true 3 v d p): ∃n,v= .int .i64 n/\Od n:=by
 obtain ⟨n,rfl,rfl,rfl,hw⟩:=open_int Q9 hv h;have: -9223372036854775808<=n/\n<=9223372036854775807:=by simpa [Lit.wf,IntKind.min,IntKind.max,IntKind.signed,IntKind.bits] using hw
 exact ⟨n,rfl,this⟩
end
abbrev zM (s:ByteArray):List Value:= [.string s]
abbrev SlS (w:World) (v:Value) (l:List ByteArray):Prop:=Sl w 1 zM v l
theorem gu {B:Nat} {a w:World} (h:Below B a w) (n:Nat):Below B a (w.drewN n):=⟨h.os,h.tape,h.output,h.size,h.block⟩
theorem qV {w W w1:World} (h:Below w.heap.size w W) (hb:Below W.heap.size W w1):Below w.heap.size w w1:=h.trans (hb.mono h.size)
end
section
open Go.RowKit
end
section
open Go.RowKit
theorem dk (a b:UInt8) (x y:List UInt8):Op.bytesLess (a::x) (b::y)=(decide (a.toNat<b.toNat)||(decide (a.toNat=b.toNat)&&Op.bytesLess x y)):=by
 rw [Op.bytesLess];have h1:decide (a<b)=decide (a.toNat<b.toNat):=by rw [fa,j5,j5];exact UInt8.lt_iff_toNat_lt
 have h2:(a==b)=decide (a.toNat=b.toNat):=by
  rw [fa,eH,j5];exact GP.symm
 rw [h1,h2]
theorem iG (x:List UInt8):Op.bytesLess x []=false:=by cases x<;>rfl
theorem dj (b:UInt8) (y:List UInt8):Op.bytesLess [] (b::y)=true:=rfl
theorem IH: ∀x:List UInt8,Op.bytesLess x x=false
 | []=>rfl
 |a::x=>by rw [dk,IH x];simp
theorem RU: ∀x y z:List UInt8,Op.bytesLess x y=true->Op.bytesLess y z=true->Op.bytesLess x z=true
 |_,[],_,h,_=>by rw [iG] at h;cases h
 |_,_::_,[],_,h=>by rw [iG] at h;cases h
 | [],_::_,_::_,_,_=>rfl
 |a::x,b::y,c::z,h1,h2=>by
  rw [dk] at h1 h2⊢;simp only [YY,yF,j5] at h1 h2⊢;rcases h1 with h1|⟨h1,Uz⟩<;>rcases h2 with h2|⟨h2,h2'⟩
  · exact .inl ze
  · exact .inl ze
  · exact .inl ze
  · exact .inr ⟨ze,RU x y z Uz h2'⟩
theorem IG: ∀x y:List UInt8,Op.bytesLess x y=false->Op.bytesLess y x=false->x=y
 | [],[],_,_=>rfl
 | [],_::_,h,_=>by rw [dj] at h;cases h
 |_::_,[],_,h=>by rw [dj] at h;cases h
 |a::x,b::y,h1,h2=>by
  rw [dk] at h1 h2;simp only [IV,Bool.and_eq_false_iff,gx] at h1 h2;obtain ⟨h1,Uz⟩:=h1;obtain ⟨h2,h2'⟩:=h2;have e:a.toNat=b.toNat:=ze;have e':a=b:=GP.1 e;rw [IG x y (Uz.resolve_left (by simp [e])) (h2'.resolve_left (by simp [e])),e']
abbrev lt (a b:ByteArray):Bool:=Op.bytesLess a.toList b.toList
theorem PC (a b:ByteArray):lt a b=Op.bytesLess (bl a) (bl b):=by unfold lt;rw [fe,fe]
theorem d7 (a:ByteArray):lt a a=false:=IH _
theorem KX {a b c:ByteArray} (h:lt a b=true) (h':lt b c=true):lt a c=true:=RU _ _ _ h h'
theorem ah {a b:ByteArray} (h:lt a b=false) (h':lt b a=false):a=b:=by
 rw [PC] at h h';exact JC (IG _ _ h h')
theorem Ff {a b:ByteArray} (h:lt a b=true):lt b a=false:=by
 cases h':lt b a with
 |false=>rfl
 |true=>have:=KX h h';rw [d7] at this;cases this
theorem ab8 {a b c:ByteArray} (h:lt b a=false) (h':lt b c=true):lt a c=true:=by
 cases h2:lt a b with
 |true=>exact KX h2 h'
 |false=>rw [ah h2 h];exact h'
theorem PB (a:ByteArray):lt a em=false:=by rw [PC];exact iG _
def nx (k:ByteArray):ByteArray:=k++⟨#[0]⟩
theorem aio (k:ByteArray):bl (nx k)=bl k++ [0]:=by unfold nx;rw [NE]
theorem HE (k:ByteArray):(nx k).size=k.size+1:=by rw [Q3,aio,Q3];simp
structure yW where
 lo:ByteArray
 hi:ByteArray
 vx:Bool
abbrev yW.av (s:yW):Go.Value:= .agg #[.string s.lo, .string s.hi, .bool s.vx]
def has (s:yW) (k:ByteArray):Bool:=!lt k s.lo&&(s.vx||lt k s.hi)
def empty (s:yW):Bool:=!s.vx&&!lt s.lo s.hi
def EA:yW:=⟨em,em,false⟩
def Kj (s:yW):yW:=if empty s=true then EA else if s.vx=true then ⟨s.lo,em,true⟩ else s
def all:yW:=⟨em,em,true⟩
def yd (k:ByteArray):yW:=⟨k,nx k,false⟩
def mx (a b:ByteArray):ByteArray:=if lt a b=true then b else a
def mn (a b:ByteArray):ByteArray:=if lt b a=true then b else a
def Pw (a b:yW):ByteArray:=mx a.lo b.lo
def lH (a b:yW):ByteArray:=if a.vx=true then b.hi else if b.vx=true then a.hi else mn a.hi b.hi
def sE (a b:yW):yW:=⟨Pw a b,lH a b,a.vx&&b.vx⟩
def vT (a b:yW):yW:=Kj (sE a b)
def Qb (s:yW) (k:ByteArray):yW:=vT s ⟨k,em,true⟩
def fQ (a b:yW):Bool:=!empty (vT a b)
theorem MX {s:yW} (h:empty s=true) (x:ByteArray):has s x=false:=by
 unfold empty at h;simp only [yF,KB] at h;obtain ⟨ho,hl⟩:=h;unfold has;rw [ho];cases hx:lt x s.lo with
 |true=>rfl
 |false=>
  simp only [Bool.not_false,XC,nC];cases h2:lt x s.hi with
  |false=>rfl
  |true=>rw [ab8 hx h2] at hl;cases hl
theorem C7 (s:yW) (x:ByteArray):has (Kj s) x=has s x:=by
 unfold Kj;split
 · rename_i h
   rw [MX h];unfold has EA;rw [PB];simp
 · split
   · rename_i h
     unfold has;rw [h];simp
   · rfl
theorem aaO (x:ByteArray):has all x=true:=by unfold has all;rw [PB];rfl
end
section
open Go.RowKit
end
section
open Go.RowKit Go.Sort
theorem Vj {W w1:World} (hb:Below W.heap.size W w1):(∀b o,b<W.heap.size->w1.cell? ⟨b,o,none⟩=W.cell? ⟨b,o,none⟩)/\(∀b o,b<W.heap.size->w1.frozen? ⟨b,o,none⟩=W.frozen? ⟨b,o,none⟩):=
 ⟨fun b o h=>hb.cell (p:=⟨b,o,none⟩) h,fun b o h=>hb.frozen (p:=⟨b,o,none⟩) h⟩
theorem Z4 {W w1:World} (hb:Below W.heap.size W w1):W.heap.size<=w1.heap.size:=hb.size
end
section
open Go.RowKit
def eqv {α:Type} [DecidableEq α] (a b:α):Bool:=decide (a=b)
theorem mA {α:Type} [DecidableEq α] (a:α):eqv a a=true:=yk rfl
structure nY where
 kind:Int
 val:ByteArray
structure xi where
 xD:Int
 kind:Int
 key:ByteArray
 hi:ByteArray
 vx:Bool
 val:ByteArray
structure y6 where
 key:ByteArray
 val:ByteArray
structure Op where
 kind:Int
 key:ByteArray
 hi:ByteArray
 vx:Bool
 val:ByteArray
 yt:Int
structure qn where
 jz:Int
 leaf:Int
 yV:Int
 kD:Int
 yu:Int
abbrev nY.av (s:nY):Go.Value:= .agg #[.int .i64 s.kind, .string s.val]
abbrev xi.av (s:xi):Go.Value:= .agg #[.int .i64 s.xD, .int .i64 s.kind, .string s.key, .string s.hi, .bool s.vx, .string s.val]
abbrev y6.av (s:y6):Go.Value:= .agg #[.string s.key, .string s.val]
abbrev Op.av (s:Op):Go.Value:= .agg #[.int .i64 s.kind, .string s.key, .string s.hi, .bool s.vx, .string s.val, .int .i64 s.yt]
abbrev qn.av (s:qn):Go.Value:= .agg #[.int .i64 s.jz, .int .i64 s.leaf, .int .i64 s.yV, .int .i64 s.kD, .int .i64 s.yu]
theorem y6.aex {a b:y6} (h1:a.key=b.key) (h2:a.val=b.val):a=b:=by
 cases a;cases b;simp only at h1 h2;subst h1 h2;rfl
instance:DecidableEq y6:=fun a b=>
 if h:a.key=b.key/\a.val=b.val then isTrue (y6.aex h.1 h.2) else isFalse (fun e=>h (by rw [e];exact ⟨rfl,rfl⟩))
theorem Op.aex {a b:Op} (h1:a.kind=b.kind) (h2:a.key=b.key) (h3:a.hi=b.hi) (h4:a.vx=b.vx) (h5:a.val=b.val) (h6:a.yt=b.yt):a=b:=by
 cases a;cases b;simp only at h1 h2 h3 h4 h5 h6;subst h1 h2 h3 h4 h5 h6;rfl
instance:DecidableEq Op:=fun a b=>
 if h:a.kind=b.kind/\a.key=b.key/\a.hi=b.hi/\a.vx=b.vx/\a.val=b.val/\a.yt=b.yt then isTrue (Op.aex h.1 h.2.1 h.2.2.1 h.2.2.2.1 h.2.2.2.2.1 h.2.2.2.2.2)
 else isFalse (fun e=>h (by rw [e];exact ⟨rfl,rfl,rfl,rfl,rfl,rfl⟩))
end
section
open Go.RowKit Go.Sort
theorem xX (a b:ByteArray):(a.toList=b.toList)↔a=b:=by rw [fe,fe];exact ⟨JC,fun e=>by rw [e]⟩
theorem SZ (x0 y0:ByteArray) (x1 y1:ByteArray):((⟨x0,x1⟩:y6)=⟨y0,y1⟩)↔(x0=y0/\x1=y1):=⟨fun e=>by injection e with e0 e1;exact ⟨e0,e1⟩,fun ⟨e0,e1⟩=>by rw [e0,e1]⟩
theorem sy (x0 y0:ByteArray) (x1 y1:ByteArray) (w:World):
 (binOp .neq 54 (.agg #[.string x0, .string x1]) (.agg #[.string y0, .string y1])).run zf w= .ok (.bool (!eqv (⟨x0,x1⟩:y6) ⟨y0,y1⟩)) w:=by
 have e:=SZ x0 y0 x1 y1;by_cases h0:x0=y0
 rotate_left
 · simp [go_sem,eqv,e,h0,xX]
 by_cases h1:x1=y1
 rotate_left
 · simp [go_sem,eqv,e,h0,h1,xX]
 simp [go_sem,eqv,e,h0,h1,xX]
theorem S2 (x0 y0:Int) (x1 y1:ByteArray) (x2 y2:ByteArray) (x3 y3:Bool) (x4 y4:ByteArray) (x5 y5:Int):((⟨x0,x1,x2,x3,x4,x5⟩:Op)=⟨y0,y1,y2,y3,y4,y5⟩)↔(x0=y0/\x1=y1/\x2=y2/\x3=y3/\x4=y4/\x5=y5):=⟨fun e=>by injection e with e0 e1 e2 e3 e4 e5;exact ⟨e0,e1,e2,e3,e4,e5⟩,fun ⟨e0,e1,e2,e3,e4,e5⟩=>by rw [e0,e1,e2,e3,e4,e5]⟩
theorem EH (x0 y0:Int) (x1 y1:ByteArray) (x2 y2:ByteArray) (x3 y3:Bool) (x4 y4:ByteArray) (x5 y5:Int) (w:World):
 (binOp .eql 31 (.agg #[.int .i64 x0, .string x1, .string x2, .bool x3, .string x4, .int .i64 x5]) (.agg #[.int .i64 y0, .string y1, .string y2, .bool y3, .string y4, .int .i64 y5])).run zf w= .ok (.bool (eqv (⟨x0,x1,x2,x3,x4,x5⟩:Op) ⟨y0,y1,y2,y3,y4,y5⟩)) w:=by
 have e:=S2 x0 y0 x1 y1 x2 y2 x3 y3 x4 y4 x5 y5;by_cases h0:x0=y0
 rotate_left
 · simp [go_sem,eqv,e,h0,xX]
 by_cases h1:x1=y1
 rotate_left
 · simp [go_sem,eqv,e,h0,h1,xX]
 by_cases h2:x2=y2
 rotate_left
 · simp [go_sem,eqv,e,h0,h1,h2,xX]
 by_cases h3:x3=y3
 rotate_left
 · simp [go_sem,eqv,e,h0,h1,h2,h3,xX]
 by_cases h4:x4=y4
 rotate_left
 · simp [go_sem,eqv,e,h0,h1,h2,h3,h4,xX]
 by_cases h5:x5=y5
 rotate_left
 · simp [go_sem,eqv,e,h0,h1,h2,h3,h4,h5,xX]
 simp [go_sem,eqv,e,h0,h1,h2,h3,h4,h5,xX]
theorem EG (x0 y0:Int) (x1 y1:ByteArray) (x2 y2:ByteArray) (x3 y3:Bool) (x4 y4:ByteArray) (x5 y5:Int) (w:World):
 (binOp .neq 31 (.agg #[.int .i64 x0, .string x1, .string x2, .bool x3, .string x4, .int .i64 x5]) (.agg #[.int .i64 y0, .string y1, .string y2, .bool y3, .string y4, .int .i64 y5])).run zf w= .ok (.bool (!eqv (⟨x0,x1,x2,x3,x4,x5⟩:Op) ⟨y0,y1,y2,y3,y4,y5⟩)) w:=by
 have e:=S2 x0 y0 x1 y1 x2 y2 x3 y3 x4 y4 x5 y5;by_cases h0:x0=y0
 rotate_left
 · simp [go_sem,eqv,e,h0,xX]
 by_cases h1:x1=y1
 rotate_left
 · simp [go_sem,eqv,e,h0,h1,xX]
 by_cases h2:x2=y2
 rotate_left
 · simp [go_sem,eqv,e,h0,h1,h2,xX]
 by_cases h3:x3=y3
 rotate_left
 · simp [go_sem,eqv,e,h0,h1,h2,h3,xX]
 by_cases h4:x4=y4
 rotate_left
 · simp [go_sem,eqv,e,h0,h1,h2,h3,h4,xX]
 by_cases h5:x5=y5
 rotate_left
 · simp [go_sem,eqv,e,h0,h1,h2,h3,h4,h5,xX]
 simp [go_sem,eqv,e,h0,h1,h2,h3,h4,h5,xX]
end
section
open Go.ChangeShapes Go.WideShapes Go.ChangeAt Go.RowKit Go.Deep
abbrev qi (a:yW):List Value:= [.string a.lo, .string a.hi, .bool a.vx]
def xi.In (a:xi):Prop:=Od a.xD/\Od a.kind/\Sz a.key/\Sz a.hi/\Sz a.val
abbrev zR (a:xi):List Value:= [.int .i64 a.xD, .int .i64 a.kind, .string a.key, .string a.hi, .bool a.vx, .string a.val]
abbrev WM (w:World) (v:Value) (l:List xi):Prop:=Sl w 6 zR v l
abbrev zi (a:y6):List Value:= [.string a.key, .string a.val]
abbrev kZ (a:Op):List Value:= [.int .i64 a.kind, .string a.key, .string a.hi, .bool a.vx, .string a.val, .int .i64 a.yt]
def qn.In (a:qn):Prop:=Od a.jz/\Od a.leaf/\Od a.yV/\Od a.kD/\Od a.yu
abbrev Vh (a:qn):List Value:= [.int .i64 a.jz, .int .i64 a.leaf, .int .i64 a.yV, .int .i64 a.kD, .int .i64 a.yu]
theorem adg {H:Type} {enc:TypeId×Value->H} {W:World} (n:Nat) (cs:List Value) (y:DataW H×List MemPlace) (h:DataW.trod enc zf W 0 (fun _=>true) true n 23 cs=some y) (hw:Wt zf 23 y.1):
 ∃a:qn,cs=Vh a/\a.In:=by
 obtain ⟨hl,hf⟩:=LS Tryz.underlying23 Yy Yy h hw;obtain ⟨v0,y0,m0,hv0,ht0,hw0⟩:=hf 0 _ rfl;obtain ⟨v1,y1,m1,P3,Ti,be⟩:=hf 1 _ rfl;obtain ⟨v2,y2,m2,Th,Om,V9⟩:=hf 2 _ rfl;obtain ⟨v3,y3,m3,FI,ht3,hw3⟩:=hf 3 _ rfl;obtain ⟨v4,y4,m4,hv4,ht4,hw4⟩:=hf 4 _ rfl;obtain ⟨x0,e0,g0⟩:=UX Q9 ht0;obtain ⟨x1,e1,g1⟩:=UX Q9 Ti;obtain ⟨x2,e2,g2⟩:=UX Q9 Om;obtain ⟨x3,e3,g3⟩:=UX Q9 ht3;obtain ⟨x4,e4,g4⟩:=UX Q9 ht4
 match cs,hl with
 | [c0,c1,c2,c3,c4],_=>
  simp at hv0 e0;simp at P3 e1;simp at Th e2;simp at FI e3;simp at hv4 e4;subst hv0 e0 P3 e1 Th e2 FI e3 hv4 e4;exact ⟨⟨x0,x1,x2,x3,x4⟩,rfl,g0,g1,g2,g3,g4⟩
end
section
open Go Go.RowKit Go.Sort
section
variable {P:Program} {ops:Array Oper} {md:Region.Mode} {w0:World}
def Yw (P:Program) (ops:Array Oper) (w0:World) (o:Oper) (v:Value) (a:Act):Prop:=
 (Region.wanted o (yielded ops a.tmps)=true/\ ∀W,Below w0.heap.size w0 W->o.quietAt P a (fun W'=>Below W.heap.size W W') W v)\/
 (Region.wanted o (yielded ops a.tmps)=false/\v=undef)
theorem Yw.put {oi oj:Oper} {v u:Value} {a:Act} (hi: ∀cs b,oi.op≠ .select cs b) (h:Yw P ops w0 oi v a) (hd: ∀d,oj.dst=some d->d∉oi.looksAt ops):Yw P ops w0 oi v (a.put oj.dst u):=by
 unfold Yw Oper.quietAt at*;rw [wanted_put oi a oj.dst u hd,execOp_put oi hi a oj.dst u hd];exact h
theorem Yw.af6 {oi oj:Oper} {v u:Value} {a:Act} (hi: ∀cs b,oi.op≠ .select cs b) (hd: ∀d,oj.dst=some d->d∉oi.looksAt ops) (h:Yw P ops w0 oi v (a.put oj.dst u)):Yw P ops w0 oi v a:=by
 unfold Yw Oper.quietAt at*;rw [wanted_put oi a oj.dst u hd,execOp_put oi hi a oj.dst u hd] at h;exact h
def fL (P:Program) (md:Region.Mode) (ops:Array Oper) (w0:World) (n1 n:Nat) (L:Array Bool->Act->Prop):Nat->Array Bool->Act->Prop
 |0,zT,a=>L zT a
 |f+1,zT,a=>Region.ready md ops zT≠ []/\ ∀i∈Region.ready md ops zT,i<n/\
  (n1<=i->fL P md ops w0 n1 n L f (zT.setIfInBounds i true) a)/\
  (i<n1-> ∃o v,ops[i]?=some o/\Yw P ops w0 o v a/\fL P md ops w0 n1 n L f (zT.setIfInBounds i true) (a.put o.dst v))
theorem Bi {n1 n i:Nat} {oi:Oper} {v:Value} {L:Array Bool->Act->Prop} (hi:ops[i]?=some oi) (ed: ∀(j:Nat) (o:Oper) cs b,ops[j]?=some o->o.op≠ .select cs b)
 (hs:Region.sinkB md ops n=true) (hc:Region.chainB md ops n=true) (hn:n<ops.size) (J6:i<n1) (h1n:n1<=n)
 (lY: ∀zT a,L zT a-> ∀j∈Region.ready md ops zT,n<=j):
 ∀(f:Nat) (zT:Array Bool) (a:Act),HeadInv md ops n zT->
  (∀j oj,ops[j]?=some oj->j≠i->zT.getD j true=false->(∀e∈oj.after,Region.binds md e=true->e.on≠i)->oi.apart ops oj=true)->
  i∈Region.ready md ops zT->Yw P ops w0 oi v a->
  fL P md ops w0 n1 n L f (zT.setIfInBounds i true) (a.put oi.dst v)->fL P md ops w0 n1 n L (f+1) zT a:=by
 intro f
 induction f with
 |zero=>
  intro zT a inv _ hr hy H;have Ih:=(mem_ready.1 hr).1;refine ⟨fun h=>(by rw [h] at hr;cases hr),fun j hj=>?_⟩;by_cases vN:j=i
  · subst vN;exact ⟨ze,fun h=>absurd h ze,fun _=>⟨oi,v,hi,hy,H⟩⟩
  · have h1:=lY _ _ H j (Vl hj vN);exact absurd hj (m8 hs hc hn inv _ i rfl ze Ih j h1)
 |succ f ih=>
  intro zT a inv Ip hr hy H;have Ih:=(mem_ready.1 hr).1;refine ⟨fun h=>(by rw [h] at hr;cases hr),fun j hj=>?_⟩
  have uW:j<n:=by
   rcases yq j n with h|h
   · exact h
   · exact absurd hj (m8 hs hc hn inv _ i rfl ze Ih j h)
  refine ⟨uW,?_⟩;by_cases vN:j=i
  · subst vN;exact ⟨fun h=>absurd h ze,fun _=>⟨oi,v,hi,hy,H⟩⟩
  have hx:=(H.2 j (Vl hj vN)).2;obtain ⟨ahx,oj,hoj,uD⟩:=mem_ready.1 hj
  have ad6: ∀e∈oj.after,Region.binds md e=true->e.on≠i:=fun e he hb Um=>by
   have h1:=uD e he hb;rw [Um,getD_both Ih] at h1;cases h1
  obtain ⟨a1,a2,a3⟩:=Oper.apart_spec (Ip j oj hoj vN ahx ad6)
  have Rp: ∀k ok,ops[k]?=some ok->k≠i->(zT.setIfInBounds j true).getD k true=false->
   (∀e∈ok.after,Region.binds md e=true->e.on≠i)->oi.apart ops ok=true:=fun k ok hk hki CQ wK=>by
   refine Ip k ok hk hki ?_ wK;by_cases Rl:j=k
   · subst Rl;exact ahx
   · rw [m9 true Rl] at CQ;exact CQ
  refine ⟨fun ql=>?_,fun z9=>?_⟩
  · have h3:=hx.1 ql;rw [IZ _ _ (uS vN)] at h3;exact ih _ a (inv.set hj uW) Rp (Vl hr (uS vN)) hy h3
  · obtain ⟨o',u,Im,hyu,h3⟩:=hx.2 z9;obtain rfl:oj=o':=qt (hoj.symm.trans Im);refine ⟨oj,u,hoj,hyu.af6 (fun cs b=>ed j oj cs b hoj) a1,?_⟩;rw [IZ _ _ (uS vN),Act.put_comm a v u a2] at h3;exact ih _ _ (inv.set hj uW) Rp (Vl hr (uS vN)) (hy.put (fun cs b=>ed i oi cs b hi) a3) h3
theorem dJ {n1 n i:Nat} {L:Array Bool->Act->Prop}
 (hs:Region.sinkB md ops n=true) (hc:Region.chainB md ops n=true) (hn:n<ops.size) (J6:i<n) (h1n:n1<=i)
 (lY: ∀zT a,L zT a-> ∀j∈Region.ready md ops zT,n<=j):
 ∀(f:Nat) (zT:Array Bool) (a:Act),HeadInv md ops n zT->i∈Region.ready md ops zT->
  fL P md ops w0 n1 n L f (zT.setIfInBounds i true) a->fL P md ops w0 n1 n L (f+1) zT a:=by
 intro f
 induction f with
 |zero=>
  intro zT a inv hr H;have Ih:=(mem_ready.1 hr).1;refine ⟨fun h=>(by rw [h] at hr;cases hr),fun j hj=>?_⟩;by_cases vN:j=i
  · subst vN;exact ⟨J6,fun _=>H,fun h=>absurd h ze⟩
  · have h1:=lY _ _ H j (Vl hj vN);exact absurd hj (m8 hs hc hn inv _ i rfl ze Ih j h1)
 |succ f ih=>
  intro zT a inv hr H;have Ih:=(mem_ready.1 hr).1;refine ⟨fun h=>(by rw [h] at hr;cases hr),fun j hj=>?_⟩
  have uW:j<n:=by
   rcases yq j n with h|h
   · exact h
   · exact absurd hj (m8 hs hc hn inv _ i rfl ze Ih j h)
  refine ⟨uW,?_⟩;by_cases vN:j=i
  · subst vN;exact ⟨fun _=>H,fun h=>absurd h ze⟩
  have hx:=(H.2 j (Vl hj vN)).2;refine ⟨fun ql=>?_,fun z9=>?_⟩
  · have h3:=hx.1 ql;rw [IZ _ _ (uS vN)] at h3;exact ih _ a (inv.set hj uW) (Vl hr (uS vN)) h3
  · obtain ⟨o',u,Im,hyu,h3⟩:=hx.2 z9;rw [IZ _ _ (uS vN)] at h3;exact ⟨o',u,Im,hyu,ih _ _ (inv.set hj uW) (Vl hr (uS vN)) h3⟩
def WR (P:Program) (ops:Array Oper) (w0:World) (Q:Act->Prop):List Oper->Act->Prop
 | [],a=>Q a
 |o::l,a=> ∃v,Yw P ops w0 o v a/\WR P ops w0 Q l (a.put o.dst v)
theorem dI {n1 n g:Nat} {Lq:Act->Prop} (ed:Region.noSelect ops=true) (hs:Region.sinkB md ops n=true) (hc:Region.chainB md ops n=true) (hn:n<ops.size) (h1n:n1<=n):
 ∀(d k:Nat) (l:List Oper) (zT:Array Bool) (a:Act),k+d=n->(∀j,j<l.length->l[j]?=ops[k+j]?)->(k<=n1->k+l.length=n1)->(n1<=k->l= [])->HeadInv md ops n zT->
 Region.lexHead md ops g d k zT=true->WR P ops w0 Lq l a->
 fL P md ops w0 n1 n (fun sQ a'=>Region.seqB md ops g n sQ=true/\Lq a') d zT a
 |0,k,l,zT,a,hk,_,an,J5,_,hB,h=>by
  obtain rfl:k=n:=ze;obtain rfl:=J5 h1n;exact ⟨by simpa [Region.lexHead] using hB,h⟩
 |d+1,k,l,zT,a,hk,hl,an,J5,inv,hB,h=>by
  simp only [Region.lexHead,yF] at hB;obtain ⟨⟨hr,hf⟩,hB'⟩:=hB;have gQ:k<n:=ze;have D9:k∈Region.ready md ops zT:=by simpa using hr
  by_cases z9:k<n1
  · cases l with
    |nil=>have:=an ze;simp at this;omega
    |cons o l=>
     have h0:ops[k]?=some o:=by simpa using (hl 0 yx).symm
     obtain ⟨v,hy,hK⟩:=h;have y7:=an ze;simp only [xd] at y7
     exact Bi h0 (Region.noSelect_spec ed) hs hc hn z9 h1n (fun sQ a' hL=>seqB_ready hL.1) d zT a inv (Region.free_spec h0 hf) D9 hy
      (dI ed hs hc hn h1n d (k+1) l _ _ ze (fun j hj=>by have:=hl (j+1) (by simp;omega);simpa [nB,Q6 1 j] using this) (fun _=>ze) (fun h=>by
       have:l.length=0:=ze;exact gy.1 this) (inv.set D9 gQ) hB' hK)
  · obtain rfl:=J5 ze
    exact dJ hs hc hn gQ ze (fun sQ a' hL=>seqB_ready hL.1) d zT a inv D9
     (dI ed hs hc hn h1n d (k+1) [] _ _ ze (fun j hj=>by simp at hj) (fun h=>absurd h ze) (fun _=>rfl) (inv.set D9 gQ) hB' h)
def im:List (Tmp×Obj)->Nat->(Nat->Option Nat)->Act->Act
 | [],_,_,a=>a
 |x::l,k,σ,a=>im l (k+1) σ (match σ k with|some g=>a.put (some x.1) (.pointer (some ⟨g,0,none⟩))|none=>a)
def KH (σ:Nat->Option Nat) (j g:Nat):Nat->Option Nat:=fun k=>if k=j then some g else σ k
theorem sH: ∀(l:List (Tmp×Obj)) (k:Nat) (σ:Nat->Option Nat) (a:Act) (dst:Option Tmp) (v:Value),(∀x∈l,dst≠some x.1)->(im l k σ a).put dst v=im l k σ (a.put dst v)
 | [],_,_,_,_,_,_=>rfl
 |x::l,k,σ,a,dst,v,h=>by
  unfold im;rw [sH l (k+1) σ _ dst v (fun y hy=>h y (by simp [hy]))];congr 1;cases σ k with
  |none=>rfl
  |some g=>exact Act.put_comm a _ v (fun d hd=>by have:=h x yx;rw [<-hd];exact this)
theorem lm: ∀(l:List (Tmp×Obj)) (k:Nat) (σ:Nat->Option Nat) (a:Act) (j g:Nat),j<k->im l k (KH σ j g) a=im l k σ a
 | [],_,_,_,_,_,_=>rfl
 |x::l,k,σ,a,j,g,h=>by
  unfold im;rw [lm l (k+1) σ _ j g ze];have:KH σ j g k=σ k:=by unfold KH;rw [zn ze]
  rw [this]
theorem HV: ∀(l:List (Tmp×Obj)) (k:Nat) (σ:Nat->Option Nat) (a:Act) (i g:Nat) (x:Tmp×Obj),(l.map (·.1)).Nodup->l[i]?=some x->σ (k+i)=none->
 (im l k σ a).put (some x.1) (.pointer (some ⟨g,0,none⟩))=im l k (KH σ (k+i) g) a
 | [],_,_,_,_,_,_,_,h,_=>by simp at h
 |y::l,k,σ,a,0,g,x,hd,h,hn=>by
  obtain rfl:y=x:=by simpa using h
  simp only [xw,GO] at hd;unfold im;have e1:σ k=none:=hn;have e2:KH σ (k+0) g k=some g:=by unfold KH;simp
  rw [e1,e2];simp only;rw [lm l (k+1) σ _ (k+0) g ze];exact sH l (k+1) σ a _ _ (fun z hz e=>hd.1 (by injection e with e;rw [e];exact m5 hz))
 |y::l,k,σ,a,i+1,g,x,hd,h,hn=>by
  simp only [xw,GO] at hd;unfold im;have e2:KH σ (k+(i+1)) g k=σ k:=by unfold KH;rw [zn ze]
  rw [e2];have:=HV l (k+1) σ (match σ k with|some g=>a.put (some y.1) (.pointer (some ⟨g,0,none⟩))|none=>a) i g x hd.2 (by simpa using h) (by rw [<-hn];congr 1;omega);rw [this];congr 2;omega
theorem pP: ∀(l:List (Tmp×Obj)) (k:Nat) (σ τ:Nat->Option Nat) (a:Act),(∀i,i<l.length->σ (k+i)=τ (k+i))->im l k σ a=im l k τ a
 | [],_,_,_,_,_=>rfl
 |x::l,k,σ,τ,a,h=>by
  unfold im;have h0:σ k=τ k:=h 0 yx;rw [h0];exact pP l (k+1) σ τ _ (fun i hi=>by have:=h (i+1) (by simpa using hi);rw [show k+1+i=k+(i+1) by omega];exact this)
theorem Ci {o:Oper} (hs: ∀cs b,o.op≠ .select cs b): ∀(l:List (Tmp×Obj)) (k:Nat) (σ:Nat->Option Nat) (a:Act),(∀x∈l,x.1∉o.looksAt ops)->
 execOp (im l k σ a).eval o=execOp a.eval o/\Region.wanted o (yielded ops (im l k σ a).tmps)=Region.wanted o (yielded ops a.tmps)
 | [],_,_,_,_=>⟨rfl,rfl⟩
 |x::l,k,σ,a,h=>by
  unfold im;obtain ⟨h1,h2⟩:=Ci hs l (k+1) σ (match σ k with|some g=>a.put (some x.1) (.pointer (some ⟨g,0,none⟩))|none=>a) (fun y hy=>h y (by simp [hy]));rw [h1,h2];have hx:=h x yx;cases σ k with
  |none=>exact ⟨rfl,rfl⟩
  |some g=>exact ⟨execOp_put o hs a _ _ (fun d hd=>by injection hd with hd;rw [<-hd];exact hx),wanted_put o a _ _ (fun d hd=>by injection hd with hd;rw [<-hd];exact hx)⟩
structure DV (w0:World) (wz:List (Tmp×Obj)) (σ:Nat->Option Nat) (W:World):Prop where
 below:Below w0.heap.size w0 W
 at_: ∀k g x,wz[k]?=some x->σ k=some g->w0.heap.size<=g/\g<W.heap.size/\W.heap[g]?=some x.2
 out: ∀k,wz.length<=k->σ k=none
 inj: ∀j k g,σ j=some g->σ k=some g->j=k
theorem DV.grow {wz:List (Tmp×Obj)} {σ:Nat->Option Nat} {W W':World} (h:DV w0 wz σ W) (hb:Below W.heap.size W W'):DV w0 wz σ W':=
 ⟨h.below.trans (hb.mono h.below.size),fun k g x hx hg=>by
  obtain ⟨h1,h2,h3⟩:=h.at_ k g x hx hg;exact ⟨h1,IL h2 hb.size,by rw [hb.block g h2];exact h3⟩,h.out,h.inj⟩
theorem DV.new {wz:List (Tmp×Obj)} {σ:Nat->Option Nat} {W:World} {i:Nat} {x:Tmp×Obj} (h:DV w0 wz σ W) (hx:wz[i]?=some x) (hb:Below W.heap.size W (W.alloc x.2)) (hn:(W.alloc x.2).heap[W.heap.size]?=some x.2) (hz:W.heap.size<(W.alloc x.2).heap.size):
 DV w0 wz (KH σ i W.heap.size) (W.alloc x.2):=by
 have hg:=h.grow hb
 have lt: ∀k g,σ k=some g->g<W.heap.size:=fun k g hk=>by
  have Rj:k<wz.length:=by
   rcases yq k wz.length with h'|h'
   · exact h'
   · rw [h.out k h'] at hk;cases hk
  exact (h.at_ k g wz[k] (by simp [Rj]) hk).2.1
 refine ⟨hg.below,fun k g y hy hk=>?_,fun k hk=>?_,fun j k g hj hk=>?_⟩
 · unfold KH at hk;split at hk
   · rename_i e
     subst e;injection hk with hk;subst hk;obtain rfl:x=y:=qt (hx.symm.trans hy);exact ⟨h.below.size,hz,hn⟩
   · exact hg.at_ k g y hy hk
 · have kg:i<wz.length:=(xI.1 hx).1;unfold KH;rw [zn ze];exact h.out k hk
 · unfold KH at hj hk;split at hj<;>split at hk
   · omega
   · injection hj with hj;have:=lt k g hk;omega
   · injection hk with hk;have:=lt j g hj;omega
   · exact h.inj j k g hj hk
theorem Qz {n1 n g:Nat} {wz:List (Tmp×Obj)} {L:Array Bool->Act->Prop} {Q':Exit->Act->World->Prop} (ed: ∀(j:Nat) (o:Oper) cs b,ops[j]?=some o->o.op≠ .select cs b)
 (hn:n=n1+wz.length) (wK:n<=ops.size) (lZ:(wz.map (·.1)).Nodup)
 (mg: ∀i o,i<n1->ops[i]?=some o-> ∀x∈wz,x.1∉o.looksAt ops/\o.dst≠some x.1)
 (Rv: ∀k x,wz[k]?=some x-> ∃o,ops[n1+k]?=some o/\o.dst=some x.1/\(∀a:Act,Region.wanted o (yielded ops a.tmps)=true)/\
  ∀(a:Act) (W:World),(execOp a.eval o).run P W= .ok (.value (.pointer (some ⟨W.heap.size,0,none⟩))) (W.alloc x.2))
 (hL: ∀zT a σ W,HeadInv md ops n zT->L zT a->DV w0 wz σ W->(∀k,k<wz.length->(σ k).isSome=zT.getD (n1+k) false)->wpAny P md ops Q' g zT (im wz 0 σ a) W):
 ∀(f:Nat) (zT:Array Bool) (a:Act) (σ:Nat->Option Nat) (W:World),HeadInv md ops n zT->fL P md ops w0 n1 n L f zT a->DV w0 wz σ W->
  (∀k,k<wz.length->(σ k).isSome=zT.getD (n1+k) false)->wpAny P md ops Q' (f+g) zT (im wz 0 σ a) W
 |0,zT,a,σ,W,inv,h,hl,hs=>by rw [xu];exact hL _ _ _ _ inv h hl hs
 |f+1,zT,a,σ,W,inv,h,hl,hs=>by
  obtain ⟨jt,uD⟩:=h;rw [show f+1+g=(f+g)+1 by omega];refine ⟨fun h0=>absurd h0 jt,fun i hi=>?_⟩;obtain ⟨J6,hA,hB⟩:=uD i hi;by_cases z9:i<n1
  · obtain ⟨o,v,ho,hy,h3⟩:=hB z9;obtain ⟨e1,e2⟩:=Ci (fun cs b=>ed i o cs b ho) wz 0 σ a (fun x hx=>(mg i o z9 ho x hx).1)
    have key: ∀W',Below W.heap.size W W'->wpAny P md ops Q' (f+g) (zT.setIfInBounds i true) ((im wz 0 σ a).put o.dst v) W':=fun W' hb=>by
     rw [sH wz 0 σ a o.dst v (fun x hx=>(mg i o z9 ho x hx).2)];exact Qz ed hn wK lZ mg Rv hL f _ _ σ W' (inv.set hi J6) h3 (hl.grow hb) (fun k hk=>by rw [m9 false ze];exact hs k hk)
    unfold wpOp;simp only [ho];rcases hy with ⟨hw,hq⟩|⟨hw,rfl⟩
    · rw [zo (by rw [e2];exact hw)];refine .inl ?_;have h4:=hq W hl.below;unfold Oper.quietAt at h4;unfold Oper.wp;rw [e1];generalize (execOp a.eval o).run P W=r at*;cases r with
      |ok nx w'=>
       cases nx<;>simp only [Oper.quietUpon] at h4<;>simp only [Oper.upon]
       case value u=>
        obtain ⟨e3,e4⟩:=h4;rw [e3,e4];exact key _ (ZD _ _)
       case skip=>
        obtain ⟨e3,e4⟩:=h4;rw [e3,<-e4];exact key _ (ZD _ _)
       case enter fn args=>
        obtain ⟨e3,hc⟩:=h4;rw [e3];exact hc.mono fun e w'' ⟨he,akE⟩=>by subst he;exact key _ akE
      |halt x w'=>simp only [Oper.quietUpon] at h4
    · rw [zn (by rw [e2,hw];simp)];exact key _ (ZD _ _)
  · obtain ⟨k,rfl⟩: ∃k,i=n1+k:=⟨i-n1,ze⟩;have hk:k<wz.length:=ze;obtain ⟨o,ho,hd,hw,hr⟩:=Rv k wz[k] (by simp [hk]);have Ih:=getD_both (mem_ready.1 hi).1
    have ahg:σ (0+k)=none:=by
     have:=hs k hk;rw [Ih] at this;rw [xu];cases hσ:σ k with
     |none=>rfl
     |some g=>rw [hσ] at this;cases this
    unfold wpOp;simp only [ho];rw [zo (hw _)];refine .inl ?_;unfold Oper.wp;rw [hr];simp only [Oper.upon];rw [hd,HV wz 0 σ a k W.heap.size wz[k] lZ (by simp [hk]) ahg,xu];refine Qz ed hn wK lZ mg Rv hL f _ _ (KH σ k W.heap.size) _ (inv.set hi J6) (hA ze) (hl.new (by simp [hk]) ((ZD _ W).alloc (zN _) _) (JI W _) yx) (fun j hj=>?_);by_cases Rl:j=k
    · subst Rl;have:(KH σ j W.heap.size j)=some W.heap.size:=by unfold KH;simp
      rw [this];simp [inv.size];omega
    · have:(KH σ k W.heap.size j)=σ j:=by unfold KH;rw [zn Rl]
      rw [this,m9 false ze];exact hs j hj
theorem V5 {id:Nat} {Q:Exit->Act->World->Prop} {a:Act} {w:World} {l:List Oper} (n1 n:Nat) (wz:List (Tmp×Obj)) (hm:P.follows .mixedOrders=true) (hB:Region.lexTailB .any l.toArray n=true)
 (hn:n=n1+wz.length) (lZ:(wz.map (·.1)).Nodup)
 (mg:(l.take n1).all (fun o=>wz.all fun x=>!(o.looksAt l.toArray).contains x.1&&o.dst !=some x.1)=true)
 (Rv: ∀k x,wz[k]?=some x-> ∃o,l.toArray[n1+k]?=some o/\o.dst=some x.1/\(∀a:Act,Region.wanted o (yielded l.toArray a.tmps)=true)/\
  ∀(a:Act) (W:World),(execOp a.eval o).run P W= .ok (.value (.pointer (some ⟨W.heap.size,0,none⟩))) (W.alloc x.2))
 (h:WR P l.toArray w (fun a'=> ∀(gs:Nat->Nat) (W:World),Below w.heap.size w W->(∀k x,wz[k]?=some x->w.heap.size<=gs k/\gs k<W.heap.size/\W.heap[gs k]?=some x.2)->
  (∀j k,j<wz.length->k<wz.length->gs j=gs k->j=k)->wpList P l.toArray Q (l.drop n) (im wz 0 (fun k=>some (gs k)) a') W) (l.take n1) a):(Code.region id l.toArray true).wp P Q a w:=by
 simp only [Region.lexTailB,yF,j5] at hB;obtain ⟨⟨⟨⟨ed,wK⟩,hs⟩,hc⟩,ak8⟩:=hB;have hn':n<l.length:=by simpa using wK
 have hdl:(l.drop n).length=l.toArray.size-n:=by simp
 have MF:(l.take n1).length=n1:=by simp;omega
 have agF:HeadInv .any l.toArray n (Array.replicate l.toArray.size false):=
  ⟨by simp,fun j oj _ hl=>(by rw [rL] at hl;cases hl),fun t _ ht=>getD_in (by simpa using ht) (rL _ _)⟩
 have H:=dI (md:= .any) (w0:=w) (n1:=n1) (g:=l.toArray.size-n) ed hs hc wK ze n 0 (l.take n1) _ a ze (fun j hj=>by
  have Rm:j<n1:=by rw [MF] at hj;exact hj
  simp [Rm]) (fun _=>by rw [MF];omega) (fun h0=>by
   have:n1=0:=ze;subst this;rfl) agF ak8 h
 refine wp_region_any hm ?_
 have ap:Below w.heap.size w {w with drawn:=w.drawn+1}:=by
  have:=below_regrown w (w.drawn+1) #[];rw [grow_empty] at this;exact this
 have:=Qz (Q':=Q) (g:=l.toArray.size-n) (wz:=wz) (w0:=w) (Region.noSelect_spec ed) hn ze lZ (fun i o hi ho x hx=>by
  have A8:o∈l.take n1:=by
   have Im:l[i]?=some o:=by simpa using ho
   exact Xj (i:=i) (by rw [wA,zo hi];exact Im)
  have h1:=yw.1 (yw.1 mg o A8) x hx;simp only [yF,KB,bne_iff_ne,ne_eq] at h1;exact ⟨fun K6=>by have h2:=h1.1;simp [IY,K6] at h2,h1.2⟩) Rv
  (fun zT a' σ W inv hL hl hσ=>by
   have agX: ∀k,k<wz.length-> ∃g,σ k=some g:=fun k hk=>by
    have hr:n∈Region.ready .any l.toArray zT:=by
     have h1:=hL.1;have U4:l.toArray.size-n≠0:=ze;obtain ⟨m,A8⟩:=Nat.exists_eq_succ_of_ne_zero U4;rw [A8] at h1;simp only [Region.seqB,yF,j5] at h1;rw [h1.1];simp
    cases hu:zT.getD (n1+k) true with
    |false=>exact absurd hr (m8 hs hc wK inv _ (n1+k) rfl ze hu n (zN _))
    |true=>
     have h2:=hσ k hk
     have h3:zT.getD (n1+k) false=true:=by
      have z9:n1+k<zT.size:=by rw [inv.size];omega
      simp [z9] at hu⊢;exact hu
     rw [h3] at h2;cases hg:σ k with
     |none=>rw [hg] at h2;cases h2
     |some g=>exact ⟨g,rfl⟩
   have hgs: ∀k,k<wz.length->σ k=some ((σ k).getD 0):=fun k hk=>by obtain ⟨g,hg⟩:=agX k hk;rw [hg];rfl
   have w9:=hL.2 (fun k=>(σ k).getD 0) W hl.below (fun k x hx=>hl.at_ k _ x hx (hgs k (xI.1 hx).1)) (fun j k hj hk e=>hl.inj j k ((σ k).getD 0) (by rw [<-e];exact hgs j hj) (hgs k hk));rw [pP wz 0 σ (fun k=>some ((σ k).getD 0)) a' (fun i hi=>by rw [xu];exact hgs i hi)];have:=wpAny_of_seq (md:= .any) (Q':=Q) (l.drop n) n zT _ W (fun j=>by simp [Vk]) (by rw [hdl];exact hL.1) w9
   rwa [hdl] at this) n _ a (fun _=>none) {w with drawn:=w.drawn+1} agF H ⟨ap,fun k g x _ h=>(by cases h),fun _ _=>rfl,fun j k g h=>(by cases h)⟩ (fun k hk=>by rw [rL];rfl)
 have e0:im wz 0 (fun _=>none) a=a:=by
  have: ∀(l:List (Tmp×Obj)) (k:Nat),im l k (fun _=>none) a=a:=by
   intro l
   induction l with
   |nil=>intro k;rfl
   |cons x l ih=>intro k;exact ih (k+1)
  exact this wz 0
 rw [e0,show n+(l.toArray.size-n)=l.toArray.size by omega] at this;exact this
end
end
end Go.Proofs.YtaibdpjjojihmaaGreat
