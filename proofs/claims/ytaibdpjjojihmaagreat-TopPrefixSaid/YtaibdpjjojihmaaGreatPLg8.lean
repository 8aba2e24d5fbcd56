/- A part of the proof of TopPrefix; no conditions. -/
import Derived.Test.YtaibdpjjojihmaaGreatPLg4
import Derived.Laws.Strings3
import Derived.Laws.Strings
import Derived.Laws.IdiomStrings
import Derived.Lib.AppendZeros
import Derived.MapKept
import Derived.ChangeMaps5
import Derived.Carry
import Derived.Lib.AppendStr
import Derived.Lib.Builder
import Derived.Lib.UnsafeStr
set_option linter.unusedVariables false
set_option linter.unusedSimpArgs false
set_option maxRecDepth 20000
namespace Go.Proofs.YtaibdpjjojihmaaGreat
section
open Go Go.RowKit
def KM (s:ByteArray) (j:Nat):Int:=((s.data.toList.getD j 0).toNat:Int)
theorem eC (s:ByteArray) (j:Nat):0<=KM s j/\KM s j<256:=by
 unfold KM;have:=Af (s.data.toList.getD j 0);omega
theorem abj {s:ByteArray} {j:Nat} (h:j<s.size):KM s j=((s[j]).toNat:Int):=by
 unfold KM;have h':j<s.data.toList.length:=by simpa using h
 rw [List.getD,jA h'];rfl
def js (s:ByteArray):List Value:=s.data.toList.map fun b=>Value.int .u8 b.toNat
theorem Xa (s:ByteArray):(js s).length=s.size:=by simp [js]
section
variable {P:Program} {w:World} {M0:Mem} {N:Nat} {dst:Option Tmp} {ty:TypeId} {pos:String} {z7:Array Edge} {g:Option (Nat×Bool)} {s:St}
theorem Qo {t:TypeId} {x y:Operand} {b:ByteArray} {kd:IntKind} {i:Int} (j:Nat) (hx:s.env.op x=some (.v (.string b))) (hy:s.env.op y=some (.v (.int kd i))) [ht:fy P t] (hi:i=(j:Int)) (hj:j<b.size):QS P w M0 N ⟨dst, .index t x y,ty,pos,z7,g⟩ s (.v (.int .u8 (KM b j))):=xH fun hd a W hR=>by
 have h1:=hR.2.eval hx;have h2:=hR.2.eval hy;subst hi;simp only [SV.den] at h1 h2;have h3:=run_index_string (P:=P) W t b kd (j:Int) (Jp ht.h);rw [dif_pos ⟨ze,ze⟩] at h3;simp only [execOp,h1,h2,yz,h3];simp only [Result.andThen,SV.den,abj hj,Yp];rfl
theorem Zi {W:World} {t:TypeId} {b:ByteArray} {l h m:Option Value} (ht:P.underlying t=some .string):(Instr.sliceAt t (.string b) l h m).run P W=(Instr.slice t (.string b) l h m).run P W:=by
 simp [Instr.sliceAt,jG ht]
theorem V3 {t:TypeId} {x:Operand} {b:ByteArray} {lo hi:Option Operand} (p q:Nat) (hx:s.env.op x=some (.v (.string b))) [ht:fy P t]
 (Qw:match lo with|none=>p=0|some o=>s.env.op o=some (.v (.int .i64 p))) (cq:match hi with|none=>q=b.size|some o=>s.env.op o=some (.v (.int .i64 q))) (h1:p<=q) (h2:q<=b.size):QS P w M0 N ⟨dst, .slice t x lo hi none,ty,pos,z7,g⟩ s (.v (.string (b.extract p q))):=xH fun hd a W hR=>by
 have YV:=hR.2.eval hx;simp only [SV.den] at YV;have hu:=Jp ht.h;have ev: ∀ {o:Operand} {z:Nat},s.env.op o=some (.v (.int .i64 z))->a.eval o= .int .i64 z:=fun ho=>hR.2.eval ho
 cases lo with
 |none=>
  simp only at Qw;subst Qw;cases hi with
  |none=>
   simp only at cq;subst cq;simp only [execOp,YV,Yl,yz,Zi hu,run_slice_string_all W t b hu];rfl
  |some o=>
   have:=ev cq;simp only [execOp,YV,Yl,ur,this,yz,Zi hu,run_slice_string_to_if W t b _ _ hu];rw [zo ⟨ze,ze⟩];rfl
 |some o1=>
  have e1:=ev Qw;cases hi with
  |none=>
   simp only at cq;subst cq;simp only [execOp,YV,Yl,ur,e1,yz,Zi hu,run_slice_string_from_if W t b _ _ hu];rw [zo ⟨ze,ze⟩];rfl
  |some o=>
   have e2:=ev cq;simp only [execOp,YV,Yl,ur,e1,e2,yz,Zi hu,run_slice_string W t b _ _ _ _ hu (show (0:Int)<=(p:Int) by omega) (show (p:Int)<=(q:Int) by omega) (show (q:Int)<=(b.size:Int) by omega)];rfl
class dB (P:Program) (t:TypeId) (e:outParam TypeId):Prop where
 h:P.underlying t=some (.slice e)
 he:P.underlying e=some (.int .u8)
def acI (P:Program) (t e:TypeId):Bool:=(match P.underlying t with|some (.slice e')=>Nat.beq e' e|_=>false)&&(match P.underlying e with|some (.int .u8)=>true|_=>false)
theorem dB.mk' {t e:TypeId} (h:acI P t e=true):dB P t e:=by
 unfold acI at h;simp only [yF] at h;obtain ⟨h1,h2⟩:=h;split at h1
 · rename_i e' hu
   obtain rfl:=qA h1;split at h2
   · rename_i hv;exact ⟨hu,hv⟩
   · cases h2
 · cases h1
def Ta (cs:List Value):List UInt8:=cs.map fun| .int .u8 n=>UInt8.ofNat n.toNat|_=>0
theorem En (b:ByteArray):Ta (js b)=b.data.toList:=by
 simp [Ta,js,XB]
 conv=>rhs;rw [<-tY b.data.toList]
 apply IP;intro x _;simp
theorem Gz (cs:List Value) (h: ∀v∈cs,∃u:UInt8,v= .int .u8 (u.toNat:Int)):js ⟨(Ta cs).toArray⟩=cs:=by
 unfold js Ta;simp only [XB]
 conv=>rhs;rw [<-tY cs]
 apply IP;intro v hv;obtain ⟨u,rfl⟩:=h v hv;simp
theorem fF {src t e e2:TypeId} {x:Operand} {i n:Nat} {cs:List Value} [hB:dB P src e] [ht:fy P t] (hx:s.env.op x=some (.r i)) (ho:s.own[i]?=some (.row e2 1 n cs)) (hc: ∀v∈cs,∃u:UInt8,v= .int .u8 (u.toNat:Int)):QS P w M0 N ⟨dst, .convert src t x,ty,pos,z7,g⟩ s (.v (.string ⟨(Ta cs).toArray⟩)):=xH fun hd a W hR=>by
 have WF:=Gz cs hc;generalize Ga:(⟨(Ta cs).toArray⟩:ByteArray)=b at WF⊢;subst WF;have h1:=hR.2.eval hx;simp only [SV.den] at h1;obtain ⟨hl,h2⟩:=hR.1.own i _ ho;have hl':b.size=n:=by rw [Xa] at hl;omega
 rcases h2 with ⟨h2,h3⟩|⟨bk,cap,cur,h2,_,hh,vK,qD,hc3,hc4⟩
 · subst h3
   have hb:b=ByteArray.empty:=by
    have:b.data.toList= []:=gy.1 (by simpa using hl');cases b;rename_i d;cases d;simp_all
   clear Ga;subst hb;simp only [execOp,h1,h2,yz,run_convert_bytes_string W src t e none 0 0 hB.h hB.he (Jp ht.h)];simp [Conv.bytesToString,SV.den,Result.andThen,xM]
 · have QU: ∀j (hj:j<b.data.toList.length),W.cell? ((⟨bk,0,none⟩:Addr).add j)=some (.int .u8 ((b.data.toList[j]).toNat:Int)):=fun j hj=>by
    have e1:(js b)[j]?=some (.int .u8 ((b.data.toList[j]).toNat:Int)):=by simp [js,jA hj]
    rw [<-hc4,wA] at e1;split at e1
    · have ea:(⟨bk,0,none⟩:Addr).add j=⟨bk,j,none⟩:=by
       unfold Addr.add;split<;>simp_all
      rw [ea];simp [World.cell?,hh];simpa using e1
    · cases e1
   have h4:=run_convert_bytes_back W src t e ⟨bk,0,none⟩ cap b.data.toList hB.h hB.he (Jp ht.h) QU;have hn:b.data.toList.length=n:=by simpa using hl'
   rw [hn] at h4;simp only [execOp,h1,h2,yz,h4];rfl
def b8 (n:Int):UInt8:=UInt8.ofNat (n % 256).toNat
theorem Tv (n:Int):IntKind.u8.wrap n=((b8 n).toNat:Int):=by
 unfold IntKind.wrap b8;simp only [IntKind.bits,IntKind.signed,Ah,Vq,kT];simp;omega
theorem N1 {src dt:TypeId} {x:Operand} {n:Int} [h1:a8 P src .i64] [h2:a8 P dt .u8] (hx:s.env.op x=some (.v (.int .i64 n))):QS P w M0 N ⟨dst, .convert src dt x,ty,pos,z7,g⟩ s (.v (.int .u8 ((b8 n).toNat:Int))):=jS hx (Tv n)
theorem abH {src dt:TypeId} {x:Operand} {n:Int} [h1:a8 P src .u8] [h2:a8 P dt .i64] (hx:s.env.op x=some (.v (.int .u8 n))) (h0:0<=n/\n<256):QS P w M0 N ⟨dst, .convert src dt x,ty,pos,z7,g⟩ s (.v (.int .i64 n)):=jS hx (by
 unfold IntKind.wrap;simp only [IntKind.bits,IntKind.signed];simp;omega)
def HL (P:Program) (t:TypeId) (pl:List (Nat×Nat)):Bool:=match P.underlying t with
 |some (.struct fs)=>Nat.beq fs.toList.length pl.length&&(fs.toList.zip pl).all fun x=>Nat.beq x.1.offset x.2.1&&wW P x.1.type x.2.2
 |_=>false
class pf (P:Program) (t:TypeId) (pl:outParam (List (Nat×Nat))):Prop where
 h:HL P t pl=true
theorem fV: ∀(fs:List Field) (pl:List (Nat×Nat)),fs.length=pl.length->((fs.zip pl).all fun x=>Nat.beq x.1.offset x.2.1&&wW P x.1.type x.2.2)=true-> ∀W:World,
 (fs.mapM (fun f=>do pure (f.offset,<-sizeOf f.type):Field->Sem (Nat×Nat))).run P W= .ok pl W
 | [],[],_,_,W=>rfl
 | [],_::_,h,_,_=>by cases h
 |_::_,[],h,_,_=>by cases h
 |f::fs,(o,n)::pl,hl,h,W=>by
  simp only [List.zip_cons_cons,aS,yF] at h;obtain ⟨⟨h1,h2⟩,h3⟩:=h;have ih:=fV fs pl (by simpa using hl) h3 W;rw [List.mapM_cons];simp only [yz,y9 h2,xh,xM,ih,qA h1]
def UU:List Value->Nat->List Value->List Value
 |cs,_,[]=>cs
 |cs,o,v::vs=>UU (cs.set o v) (o+1) vs
theorem Wn: ∀(vs cs:List Value) (o:Nat),(UU cs o vs).length=cs.length
 | [],_,_=>rfl
 |v::vs,cs,o=>by unfold UU;rw [Wn vs,xj]
theorem cZ (o:Nat): ∀(vs:List Value) (j:Nat) (cs:List Value),(vs.zipIdx j).foldl (fun (cs:Array Value) (x:Value×Nat)=>cs.setIfInBounds (o+x.2) x.1) cs.toArray=(UU cs (o+j) vs).toArray
 | [],_,_=>rfl
 |v::vs,j,cs=>by
  rw [GQ,GK];unfold UU;have:cs.toArray.setIfInBounds (o+j) v=(cs.set (o+j) v).toArray:=by simp
  simp only [this];exact cZ o vs (j+1) _
def Dj (pl:List (Nat×Nat)):List Value->List (Nat×Value)->List Value
 |cs,[]=>cs
 |cs,(i,v)::l=>match pl[i]? with
  |some (o,_)=>Dj pl (UU cs o v.cells.toList) l
  |none=>cs
def Ix (pl:List (Nat×Nat)) (m:Nat) (ps:List (Nat×Value)):Bool:=ps.all fun x=>match pl[x.1]? with
 |some (o,n)=>Nat.beq x.2.cells.toList.length n&&Nat.ble (o+n) m
 |none=>false
theorem RH (pl:List (Nat×Nat)) (m:Nat): ∀(ps:List (Nat×Value)) (cs:List Value),cs.length=m->Ix pl m ps=true->Instr.fill (pl.toArray[·]?) cs.toArray ps=some (Dj pl cs ps).toArray
 | [],cs,_,_=>rfl
 |(i,v)::l,cs,hl,h=>by
  unfold Ix at h;simp only [aS,yF] at h;obtain ⟨h1,h2⟩:=h;unfold Instr.fill Dj;simp only [List.getElem?_toArray];cases hp:pl[i]? with
  |none=>rw [hp] at h1;cases h1
  |some x=>
   obtain ⟨o,n⟩:=x;rw [hp] at h1;simp only [yF] at h1;have e1:=qA h1.1;have e2:=Xk h1.2;have e3:v.cells.size=n:=by simpa using e1
   have e4:=cZ o v.cells.toList 0 cs
   have e5:(v.cells.zipIdx.foldl (fun cs (x:Value×Nat)=>cs.setIfInBounds (o+x.2) x.1) cs.toArray)=(UU cs o v.cells.toList).toArray:=by
    rw [<-G6,Array.toList_zipIdx];simpa using e4
   have ih:=RH pl m l (UU cs o v.cells.toList) (by rw [Wn,hl]) h2;dsimp only;rw [zn (by simp [e3];omega)];exact (z5 (fun c=>Instr.fill (fun x=>pl[x]?) c l) e5).trans (by simpa using ih)
theorem N4 {t:TypeId} {parts:Array (Nat×Operand)} {zs:Array Value} {ps:List (Nat×Value)} {pl:List (Nat×Nat)} [hz:kM P t (.agg zs)] [hpt:pf P t pl] (hp:s.env.parts parts.toList=some ps)
 (h1:Ix pl zs.toList.length ps=true):QS P w M0 N ⟨dst, .build t parts,ty,pos,z7,g⟩ s (.v (.agg (Dj pl zs.toList ps).toArray)):=xH fun hd a W hR=>by
 have hpe:=Env.Jj hR.2 parts.toList ps hp;have hf:=hpt.h;unfold HL at hf;split at hf
 · rename_i fs hu
   simp only [yF] at hf;have FM:=fV (P:=P) fs.toList pl (qA hf.1) hf.2 W;have gT:=RH pl _ ps zs.toList rfl h1;have QP:(parts.map fun (i,x)=>(i,a.eval x)).toList=ps:=by rw [fi];exact hpe
   have ad2:(fs.mapM (fun f=>do pure (f.offset,<-sizeOf f.type):Field->Sem (Nat×Nat))).run P W= .ok pl.toArray W:=by
    obtain ⟨fl⟩:=fs;rw [List.mapM_toArray,Sem.run_map,FM];rfl
   simp only [execOp,Instr.build,yz,hz.h,xh,jG hu,Value.cells,QP];simp only [ad2,xh];simp only [Sb] at gT;rw [gT];rfl
 · cases hf
end
section
variable {P:Program} {w:World} {M0:Mem} {N:Nat} {dst:Option Tmp} {ty:TypeId} {pos:String} {z7:Array Edge} {ops:Array Oper} {l:List Oper} {Q:zX} {M:Mem} {own:List Ob} {env:Env}
theorem Sy {src dt e:TypeId} {x:Operand} {b:ByteArray} [hs:fy P src] [hB:dB P dt e] (hx:env.op x=some (.v (.string b))) (hm:b.size<=maxLen) (hk:yi N dst=true)
 (h: ∀v M',M.le M'->ud M' 1 b.size (js b) v->VL P w M0 N ops l ⟨M',own,env.put dst (.v v)⟩ Q):
 VL P w M0 N ops (⟨dst, .convert src dt x,ty,pos,z7,none⟩::l) ⟨M,own,env⟩ Q:= .mk fun hd a W hR=>by
 refine v8 rfl fun K hK=>?_
 unfold Oper.wp;have h1:=hR.2.eval hx;simp only [SV.den] at h1
 have VR:(execOp a.eval ⟨dst, .convert src dt x,ty,pos,z7,none⟩).run P W= .ok (.value (.slice (some ⟨W.heap.size,0,none⟩) b.size (grownCap W b.size 0 e))) (W.drew.alloc (.cells (bytesRow b (grownCap W b.size 0 e)) e ((bytesRow b (grownCap W b.size 0 e)).size,(bytesRow b (grownCap W b.size 0 e)).size+1))):=by
  simp only [execOp,h1,yz,run_bytes_of_string W src dt e b (Jp hs.h) hB.h hB.he];rfl
 rw [VR];simp only [Oper.upon];generalize hob:(Obj.cells (bytesRow b (grownCap W b.size 0 e)) e ((bytesRow b (grownCap W b.size 0 e)).size,(bytesRow b (grownCap W b.size 0 e)).size+1))=ob
 have alI:Below W.heap.size W (W.drew.alloc ob):=by
  have h0:Below W.heap.size W W.drew:=⟨rfl,rfl,rfl,zN _,fun _ _=>rfl⟩;exact h0.alloc (zN _) ob
 have YC:W.drew.heap.size=W.heap.size:=rfl
 have Rn: ∀j,(W.drew.alloc ob).heap[j]?=if j=W.heap.size then some ob else W.heap[j]?:=fun j=>by
  show (W.heap.push ob)[j]?=_;rw [Array.getElem?_push]
 let M':Mem:=fun j=>if j=W.heap.size then some ob else M j
 have Ip: ∀j o,M j=some o->j≠W.heap.size:=fun j o hj hjs=>by
  subst hjs;have:=hR.1.mem _ _ hj;unfold Mem.of at this;rw [Sg (zN _)] at this;cases this
 have hle:M.le M':=fun j o hj=>by
  show (if j=W.heap.size then some ob else M j)=some o;rw [zn (Ip j o hj)];exact hj
 have hi:=hR.1.idle alI
 have w7:ud M' 1 b.size (js b) (.slice (some ⟨W.heap.size,0,none⟩) b.size (grownCap W b.size 0 e)):=by
  refine ⟨by rw [Xa];omega, .inr ⟨W.heap.size,_,rfl,tX _ _ _ _,AC _ _ _ _ hm,by show (if _ then _ else _:Option Obj).isSome=true;simp,fun j u hj=>?_⟩⟩;show Mem.cell M' _ _=_;have:M' W.heap.size=some ob:=zo rfl;unfold Mem.cell;rw [this,<-hob];have z9:j<(js b).length:=(xI.1 hj).1;rw [Xa] at z9;simp only [bytesRow];rw [du (by simpa using z9)];rw [<-hj];simp [js]
 refine hK _ _ ((h _ M' hle w7).go hd _ _ ⟨⟨hi.below,fun j o hj=>?_,fun j hj h0=>?_,hi.YW.trans hle,hi.own,fun i o j sY jt C0=>?_,hi.VX⟩,hR.2.put hk (.v _)⟩)
 · show (W.drew.alloc ob).heap[j]?=_;rw [Rn];have Rm:(if j=W.heap.size then some ob else M j)=some o:=hj;split
   · rename_i he;rw [zo he] at Rm;exact Rm
   · rename_i he;rw [zn he] at Rm;exact hR.1.mem j o Rm
 · have:j≠W.heap.size:=by have:=hR.1.below.size;omega
   show (if j=W.heap.size then some ob else M j)=none;rw [zn this];exact hR.1.wS j hj h0
 · have h5:=(XT (hR.1.own i o sY) jt C0).2;show (if j=W.heap.size then some ob else M j)=none;rw [zn ze];exact hR.1.sep i o j sY jt C0
end
section
variable {P:Program} {w:World} {M0:Mem} {N:Nat} {dst:Option Tmp} {ty:TypeId} {pos:String} {z7:Array Edge} {g:Option (Nat×Bool)} {s:St}
theorem qi0 {t:TypeId} {x:Operand} {b:ByteArray} {kd:IntKind} [ht:fy P t] (hx:s.env.op x=some (.v (.string b))) (hj:0<b.size:=by omega):QS P w M0 N ⟨dst, .index t x (.const (.int kd 0)),ty,pos,z7,g⟩ s (.v (.int .u8 (KM b 0))):=Qo 0 hx rfl rfl hj
theorem qi1 {t:TypeId} {x:Operand} {b:ByteArray} {kd:IntKind} [ht:fy P t] (hx:s.env.op x=some (.v (.string b))) (hj:1<b.size:=by omega):QS P w M0 N ⟨dst, .index t x (.const (.int kd 1)),ty,pos,z7,g⟩ s (.v (.int .u8 (KM b 1))):=Qo 1 hx rfl rfl hj
theorem qwd {src dt:TypeId} {x:Operand} {n:Int} [h1:a8 P src .u8] [h2:a8 P dt .i64] (hx:s.env.op x=some (.v (.int .u8 n))) (h0:0<=n/\n<256:=by first|exact eC _ _|omega):QS P w M0 N ⟨dst, .convert src dt x,ty,pos,z7,g⟩ s (.v (.int .i64 n)):=abH hx h0
theorem Cc {src dt:TypeId} {x:Operand} {n:Int} [h1:a8 P src .i64] [h2:a8 P dt .u8] (hx:s.env.op x=some (.v (.int .i64 n))):QS P w M0 N ⟨dst, .convert src dt x,ty,pos,z7,g⟩ s (.v (.int .u8 ((b8 n).toNat:Int))):=N1 hx
theorem qbk {t:TypeId} {parts:Array (Nat×Operand)} {zs:Array Value} {ps:List (Nat×Value)} {pl:List (Nat×Nat)} [hz:kM P t (.agg zs)] [hpt:pf P t pl] (hp:s.env.parts parts.toList=some ps) (h1:Ix pl zs.toList.length ps=true:=by rfl):QS P w M0 N ⟨dst, .build t parts,ty,pos,z7,g⟩ s (.v (.agg (Dj pl zs.toList ps).toArray)):=N4 hp h1
theorem TT {t:TypeId} {x:Operand} {i off n:Nat} {o:Ob} [ht:X2 P t n] (hx:s.env.op x=some (.p i off)) (ho:s.own[i]?=some o:=by rfl) (hn:Nat.ble (off+n) o.cells.length=true:=by rfl):QS P w M0 N ⟨dst, .load t x,ty,pos,z7,g⟩ s (.v (.agg ((o.cells.drop off).take n).toArray)):=SS n hx ho hn ht.h
end
end
section
open Go Go.RowKit
section
variable {P:Program} {w:World} {M0:Mem} {N:Nat} {dst:Option Tmp} {ty:TypeId} {pos:String} {z7:Array Edge} {g:Option (Nat×Bool)} {s:St}
theorem Uu {x:Operand} {a:Addr} (hx:s.env.op x=some (.v (.pointer (some a)))):QS P w M0 N ⟨dst, .nilCheck x,ty,pos,z7,g⟩ s (.v (.pointer (some a))):=xH fun hd a W hR=>by
 have h1:=hR.2.eval hx;simp only [SV.den] at h1;simp only [execOp,h1];rfl
end
section
variable {P:Program} {w:World} {M0:Mem} {N:Nat} {dst:Option Tmp} {ty:TypeId} {pos:String} {z7:Array Edge} {ops:Array Oper} {l:List Oper} {Q:zX} {M:Mem} {own:List Ob} {env:Env}
theorem Ib {t t':TypeId} {x y:Operand} {b off:Nat} {u0 u:Value} {cs:List Value} [ht:jJ P t 1] (i:Nat) (h:VL P w M0 N ops l ⟨M,own.set i (.zK u0 t' (cs.set off u)),env.put dst (.v undef)⟩ Q) (hx:env.op x=some (.v (.pointer (some ⟨b,off,none⟩))):=by rfl) (hy:env.op y=some (.v u):=by rfl) (hi:own[i]?=some (.zK u0 t' cs):=by rfl) (hf:yX u0=some b:=by rfl) (vE:Nat.blt off cs.length=true:=by rfl) (hu:u.oneCell'=true:=by rfl)
 (hk:yi N dst=true:=by rfl) (zV:yR env own.length=true:=by rfl):VL P w M0 N ops (⟨dst, .store t x y,ty,pos,z7,none⟩::l) ⟨M,own,env⟩ Q:=Xl _ _ (Xn (S5 i hx hy hi hf vE hu) yx) hk zV h
end
end
section
open Go Go.RowKit
section
variable {P:Program} {w:World} {M0:Mem} {N:Nat} {M:Mem} {own:List Ob} {env:Env}
theorem AJ {c:Code} {Q:zX} (e:TypeId) (k:Nat) (zV:yR env own.length=true) (h:VC P w M0 N c ⟨M,own++ [.zC (.slice none 0 0) e k 0 []],env⟩ Q):VC P w M0 N c ⟨M,own,env⟩ Q:= .mk fun hd a W hR=>by
 have JT:=hR.1.add (o':= .zC (.slice none 0 0) e k 0 []) (v':= .slice none 0 0) ⟨rfl,At W _ e k⟩ (fun b hb=>by cases hb);exact h.go _ a W ⟨JT,dd (own:=own) hR.2 zV (.slice none 0 0)⟩
theorem abF {c:Code} {s:St} {R:St->Prop} (h:VC P w M0 N c s (ay fun s=>R s\/ ∃i e k n cs,s.own[i]?=some (.row e k n cs)/\ ∀u M',s.M.le M'->ud M' k n cs u->R ⟨M',s.own.set i .gone,JV i u s.env⟩)):VC P w M0 N c s (ay R):= .mk fun hd a W hR=>by
 refine vZ (h.go hd a W hR) ?_;rintro e a' W' ⟨yE,s',uE,hq⟩
 have key:(R s'\/ ∃i e k n cs,s'.own[i]?=some (.row e k n cs)/\ ∀u M',s'.M.le M'->ud M' k n cs u->R ⟨M',s'.own.set i .gone,JV i u s'.env⟩)-> ∃Rs TJ,Rel w M0 N Rs TJ a' W'/\R TJ:=by
  rintro (hr|⟨i,e,k,n,cs,hi,hr⟩)
  · exact ⟨yE,s',uE,hr⟩
  · obtain ⟨M',h1,h2,h3⟩:=X5 uE.1 hi;exact ⟨yE,_,⟨h3,QX uE.2⟩,hr _ _ h1 h2⟩
 cases e with
 |ret=>exact key hq
 |normal=>exact key hq
 |exit id=>exact hq.elim
 |goto l=>exact hq.elim
 |panic c=>exact hq.elim
 |outgrown=>exact hq.elim
end
theorem Ys {P:Program} {w:World} {M0:Mem} {N:Nat} {ops:Array Oper} {l:List Oper} {s:St} {Q:zX} (ρ:List Nat) (s':St) (h:Sub ρ s s') (hv:VL P w M0 N ops l s' Q):VL P w M0 N ops l s Q:= .mk fun hd a W hR=>hv.go _ a W (h.rel hR)
theorem xG {P:Program} {w:World} {M0:Mem} {N:Nat} {o:Oper} {s:St} {u v:Value} (he:u=v) (h:QS P w M0 N o s (.v u)):QS P w M0 N o s (.v v):=he▸h
theorem j2.some {v:Value} {n:Nat} (h:j2 v n) (hn:0<n): ∃b cap,v= .slice (some ⟨b,0,none⟩) n cap:=by
 rcases h with ⟨_,h⟩|⟨b,cap,h,_⟩
 · omega
 · exact ⟨b,cap,h⟩
end
section
open Go Go.RowKit
section
variable {P:Program} {x y:Operand} {t:TypeId}
theorem D4 {a b:Int} (ha:0<=a) (hb:0<b) (hm:a<=9223372036854775807):Wh P .quo t x y (.int .i64 a) (.int .i64 b) (.int .i64 (a/b)):= .mk fun W=>by
 have h1:0<=a/b:=Int.ediv_nonneg ha ze;have h2:a/b<=a:=Int.ediv_le_self b ha;have h3:a.tdiv b=a/b:=Int.tdiv_eq_ediv_of_nonneg ha;have h4:b≠0:=ze;simp [go_sem,h3,h4,Qy (show -9223372036854775808<=a/b by omega) (show a/b<=9223372036854775807 by omega)]
end
section
variable {P:Program} {w:World} {M0:Mem} {N:Nat}
end
end
section
open Go Go.RowKit
section
variable {P:Program} {w:World} {M0:Mem} {N:Nat} {dst:Option Tmp} {ty:TypeId} {pos:String} {z7:Array Edge} {g:Option (Nat×Bool)} {M:Mem} {own:List Ob} {env:Env}
theorem afa {x:Operand} {t:TypeId} {A:Option Addr} {n c:Nat} {s:St} (hx:s.env.op x=some (.v (.slice A n c))) [ht:XE P t]:QS P w M0 N ⟨dst, .call ⟨.builtin .cap, #[x], #[t]⟩,ty,pos,z7,g⟩ s (.v (.int .i64 c)):=xH fun hd a W hR=>by
 have h1:=hR.2.eval hx;simp only [SV.den] at h1;simp only [execOp,resolve,invoke,builtin,wP,xw,uo,h1,yz,xM,xh];rw [run_cap_slice (P:=P) W t ty A n c (Jq ht.h)];rfl
theorem LV {x:Operand} {t:TypeId} {A:Option Addr} {n c:Nat} {s:St} [ht:XE P t] (hx:s.env.op x=some (.v (.slice A n c))):QS P w M0 N ⟨dst, .call ⟨.builtin .cap, #[x], #[t]⟩,ty,pos,z7,g⟩ s (.v (.int .i64 c)):=afa hx
end
end
section
open Go Go.RowKit
open Go.MapKept (run_checkKey run_findKey)
class Oc (P:Program) (t:TypeId) (k e:outParam TypeId):Prop where
 h:P.underlying t=some (.map k e)
 k:P.underlying k=some (.int .i64)
def uZ (es:List (Int×Value)) (x:Int):Option Value:=(es.find? fun p=>p.1==x).map (·.2)
theorem mw (x:Int): ∀(en:List MapEntry) (es:List (Int×Value)) (i:Nat),en.map (fun e=>(e.key,e.val))=es.map (fun p=>(Value.int .i64 p.1,p.2))->
 (uZ es x=none/\Instr.findNow (.int .i64) (.int .i64 x) en i=some none)\/ ∃v j,uZ es x=some v/\Instr.findNow (.int .i64) (.int .i64 x) en i=some (some (j,v))
 | [],[],_,_=> .inl ⟨rfl,rfl⟩
 | [],_::_,_,h=>by simp at h
 |_::_,[],_,h=>by simp at h
 |e::en,(k,v)::es,i,h=>by
  obtain ⟨key,val,abk⟩:=e;simp only [xw,List.cons.injEq,JH] at h;obtain ⟨⟨rfl,rfl⟩,h⟩:=h;have ih:=mw x en es (i+1) h;by_cases hx:x=k
  · subst hx;refine .inr ⟨val,i,by simp [uZ],by simp [Instr.findNow,Instr.sameNow]⟩
  · have h1:(k==x)=false:=beq_eq_false_iff_ne.2 fun e=>hx e.symm
    have h2:(x==k)=false:=beq_eq_false_iff_ne.2 hx;have e1:uZ ((k,val)::es) x=uZ es x:=by simp [uZ,GM,h1]
    have e2:Instr.findNow (.int .i64) (.int .i64 x) (⟨.int .i64 k,val,abk⟩::en) i=Instr.findNow (.int .i64) (.int .i64 x) en (i+1):=by simp [Instr.findNow,Instr.sameNow,h2]
    rw [e1,e2];exact ih
section
variable {P:Program} {w:World} {M0:Mem} {N:Nat} {dst:Option Tmp} {ty:TypeId} {pos:String} {z7:Array Edge} {g:Option (Nat×Bool)} {M:Mem} {own:List Ob} {env:Env} {s:St}
theorem afg {t:TypeId}:EF P w M0 N ⟨dst, .makeMap t none,ty,pos,z7,g⟩ ⟨M,own,env⟩ (own++ [.omap []]) (.r own.length):=
 nS (.omap []) fun hd a W hR=>⟨.map (some W.heap.size),W.alloc (.map #[] 0),by simp [execOp,run_makeMap,Result.andThen],rI W _ none,⟨W.heap.size, #[],0,rfl,hR.1.below.size,JI W _,rfl⟩,fun b hb=>by
  obtain rfl:W.heap.size=b:=by simpa [yX] using hb
  exact zN _⟩
theorem OS {t k e:TypeId} {b:Nat} {en:Array MapEntry} {clock:Nat} {es:List (Int×Value)} {x:Int} {z:Value} (c:Bool) [ht:Oc P t k e] [hz:kM P e z] {W:World} (hb:W.heap[b]?=some (.map en clock))
 (he:en.toList.map (fun e=>(e.key,e.val))=es.map (fun p=>(Value.int .i64 p.1,p.2))):
 (Instr.lookup t (.map (some b)) (.int .i64 x) c).run P W= .ok (if c=true then .tuple #[(uZ es x).getD z, .bool (uZ es x).isSome] else (uZ es x).getD z) W:=by
 have hc:=run_checkKey (P:=P) (w:=W) (k:= .int .i64 x) ht.k rfl en.isEmpty 9999;have hg:(getObj b).run P W= .ok (.map en clock) W:=by simp [getObj,Sem.run,hb]
 unfold Instr.lookup;rcases mw x en.toList es 0 he with ⟨h1,h2⟩|⟨v,j,h1,h2⟩
 · have hf:=run_findKey (P:=P) (w:=W) ht.k h2;rw [h1];cases c<;>simp [jG ht.h,hg,hc,hf,hz.h,Result.andThen]
 · have hf:=run_findKey (P:=P) (w:=W) ht.k h2;rw [h1];cases c<;>simp [jG ht.h,hg,hc,hf,Result.andThen]
end
end
section
open Go Go.RowKit
def agi (P:Program) (t te:TypeId):Bool:=(match P.underlying t with|some (.pointer e)=>Nat.beq e te|_=>false)&&(match P.info? te with|some i=>!(Nat.beq i.size 0)|none=>false)
class JL (P:Program) (t:TypeId) (te:outParam TypeId):Prop where
 h:agi P t te=true
theorem JL.parts {P:Program} {t te:TypeId} [h:JL P t te]:P.underlying t=some (.pointer te)/\ ∃i,P.info? te=some i/\i.size≠0:=by
 have h1:=h.h;unfold agi at h1;simp only [yF] at h1;obtain ⟨h1,h2⟩:=h1;split at h1
 · rename_i e hu
   obtain rfl:=qA h1;split at h2
   · rename_i i hi
     refine ⟨hu,i,hi,fun e=>?_⟩;rw [e] at h2;cases h2
   · cases h2
 · cases h1
section
variable {P:Program} {t:TypeId} {x y:Operand}
theorem Uh (W:World) (d:Nat) {te:TypeId} (hp:P.underlying t=some (.pointer te)) (a:Option Addr) {i:TypeInfo} (hi:P.info? te=some i):(Op.equalIn (d+1) t (.pointer a) (.pointer none)).run P W= .ok a.isNone W:=by
 cases a<;>simp [Op.equalIn,jG hp,sizeOf,typeInfo,hi]
theorem uz {te:TypeId} [h:JL P t te] {a:Option Addr}:Wh P .eql t x y (.pointer a) (.pointer none) (.bool a.isNone):= .mk fun W=>by
 obtain ⟨hp,i,hi,_⟩:=h.parts;have:=Uh W 9999 hp a hi
 have h2:(binOp .eql t (.pointer a) (.pointer none)).run P W= .ok (.bool a.isNone) W:=by
  simp only [binOp];simp [Op.equal,Op.maxDepth,this]
 simp [go_sem,h2]
theorem abX {te:TypeId} [h:JL P t te] {a:Option Addr}:Wh P .neq t x y (.pointer a) (.pointer none) (.bool (!a.isNone)):= .mk fun W=>by
 obtain ⟨hp,i,hi,_⟩:=h.parts;have:=Uh W 9999 hp a hi
 have h2:(binOp .neq t (.pointer a) (.pointer none)).run P W= .ok (.bool (!a.isNone)) W:=by
  simp only [binOp];simp [Op.equal,Op.maxDepth,this]
 simp [go_sem,h2]
theorem aiY {te:TypeId} [h:JL P t te] {a:Addr}:Wh P .neq t x y (.pointer (some a)) (.pointer (some a)) (.bool false):= .mk fun W=>by
 obtain ⟨hp,i,hi,_⟩:=h.parts;have h2:=Lib.run_neq_ptr_same W (tp:=t) a hp hi;simp [go_sem,h2]
end
def u8B (P:Program) (e:TypeId):Bool:=match P.info? e with
 |some i=>(match i.zero with|some (.int .u8 0)=>true|_=>false)&&Nat.beq i.size 1&&Nat.beq i.bytes 1
 |none=>false
class U8T (P:Program) (e:TypeId):Prop where
 h:u8B P e=true
theorem U8T.parts {P:Program} {e:TypeId} [h:U8T P e]: ∃i,P.info? e=some i/\i.zero=some (.int .u8 0)/\i.size=1/\i.bytes=1:=by
 have h1:=h.h;unfold u8B at h1;split at h1
 · rename_i i hi
   simp only [yF] at h1;obtain ⟨⟨h1,h2⟩,h3⟩:=h1;split at h1
   · rename_i hz
     exact ⟨i,hi,hz,qA h2,qA h3⟩
   · cases h1
 · cases h1
section
variable {P:Program} {w:World} {M0:Mem} {N:Nat} {dst:Option Tmp} {ty:TypeId} {pos:String} {z7:Array Edge} {g:Option (Nat×Bool)} {M:Mem} {own:List Ob} {env:Env}
theorem bL {t u ty e:TypeId} {base:Nat} (ht:P.underlying t=some (.slice e)) (hu:P.underlying u=some .string) {i:TypeInfo} (hi:P.info? e=some i) (hz:i.zero=some (.int .u8 0)) (hs:i.size=1) (hb:i.bytes=1) {W:World} {v:Value} {n:Nat} {xs:List Value} (w8:W.ownsRow base e 1 v n xs) (s:ByteArray)
 (gW:n+s.size<=1000000000) (Uo:base<=W.heap.size):
 ∃v' W',(Builtin.append_ #[t,u] ty #[v, .string s]).run P W= .ok v' W'/\W'.ownsRow base e 1 v' (n+s.size) (xs++js s)/\W.grownBy W' v.ownBlock/\(∀b,yX v'=some b->yX v=some b\/W.heap.size<=b):=by
 have qG:n+s.size<=maxLen:=by unfold maxLen;omega
 rcases id w8.2 with ⟨hv,P9⟩|⟨g,cap,cur,hv,hbg,hg,FN,bj,WF,Xg⟩
 · have P7:W.ownsRow W.heap.size e 1 v n xs:=⟨w8.1, .inl ⟨hv,P9⟩⟩;obtain ⟨v',W',r1,r2,r3,_⟩:=acM W W.heap.size t u ty e i ht hu hi hz hs hb v n xs P7 s qG ze (zN _);refine ⟨v',W',r1,⟨r2.1,?_⟩,r3,fun b Za=> .inr ?_⟩
   · rcases r2.2 with h|⟨g,cap,cur,h2,h3,h4⟩
     · exact .inl h
     · exact .inr ⟨g,cap,cur,h2,ze,h4⟩
   · rcases r2.2 with ⟨h,_⟩|⟨g,cap,cur,h2,h3,h4⟩
     · rw [h] at Za;cases Za
     · rw [h2] at Za;obtain rfl:g=b:=by simpa [yX] using Za
       exact h3
 · obtain ⟨v',W',r1,r2,r3,_⟩:=acM W base t u ty e i ht hu hi hz hs hb v n xs w8 s qG ze Uo;refine ⟨v',W',r1,r2,r3,fun b Za=>?_⟩;subst hv;have cg:Src P i.size u (.string s) s.size (byteCells s) W:=by rw [hs];exact Src.ofString W hu s
   by_cases K4:n+s.size<=cap
   · have q1:=run_append_room_src (P:=P) W t u ty e i ht hi g 0 n cap (.string s) s.size (byteCells s) cg K4
      (fun j hj=>by
       rw [byteCells_length] at hj;have:(0+n*i.size+j)<cur.size:=by rw [hs,WF];omega
       rw [xu] at this;simp [World.cell?,hg,this]) (fun j hj=>by simp [World.frozen?,hg])
     rw [q1] at r1;injection r1 with r1 _;subst r1;exact .inl Za
   · have CU: ∀j x,xs[j]?=some x->W.cell? ((⟨g,0,none⟩:Addr).add j)=some x:=w8.cells (g:=g) rfl
     have q1:=run_append_grow_src (P:=P) W t u ty e i _ ht hi hz (some ⟨g,0,none⟩) n cap xs (by
      rw [hs];exact run_firstCells_some W.drew 1 n ⟨g,0,none⟩ n cap xs (by have:=w8.1;omega) (fun j x hj=>CU j x hj)) (.string s) s.size (byteCells s) cg ze ze (growslice_fits ze (by rw [hb];omega))
     rw [q1] at r1;injection r1 with r1 _;subst r1;refine .inr ?_;obtain rfl:W.heap.size=b:=by simpa [yX] using Za
     exact zN _
theorem Hs {x y:Operand} {t u e:TypeId} {i n:Nat} {xs:List Value} {b:ByteArray} (hx:env.op x=some (.r i)) (hy:env.op y=some (.v (.string b))) (hi:own[i]?=some (.row e 1 n xs)) [hE:dB P t e] [hu:fy P u] [h8:U8T P e] (gW:n+b.size<=1000000000):
 EF P w M0 N ⟨dst, .call ⟨.builtin .append, #[x,y], #[t,u]⟩,ty,pos,z7,g⟩ ⟨M,own,env⟩ (own.set i .gone++ [.row e 1 (n+b.size) (xs++js b)]) (.r own.length):=⟨fun hd a W hR=>by
 have hO:=hR.1.own i _ hi;obtain ⟨inf,ale,hz,hs,hb⟩:=h8.parts;obtain ⟨v',W',r1,r2,r3,r4⟩:=bL (P:=P) (ty:=ty) hE.h (Jp hu.h) ale hz hs hb hO b gW hR.1.below.size;have YV:=hR.2.eval hx;have FH:=hR.2.eval hy;simp only [SV.den] at YV FH
 have VR:(execOp a.eval ⟨dst, .call ⟨.builtin .append, #[x,y], #[t,u]⟩,ty,pos,z7,g⟩).run P W= .ok (.value v') W':=by
  simp only [execOp,resolve,invoke,builtin,wP,xw,uo,YV,FH,yz,xM,xh];rw [r1];rfl
 rw [VR];simp only [kj];have JT:=hR.1.app (o':= .row e 1 (n+b.size) (xs++js b)) hi yx r3 VA r2 r4;exact ⟨Ke hd own.length v',fun q hq=>qj _ _ (by have:q<own.length:=hq;omega),JT,by simp only [SV.den,j7]⟩,by simp,by simp [SV.okB,x9]⟩
theorem SR {x:Operand} {t:TypeId} {a:Addr} {n c:Nat} {s:St} (hx:s.env.op x=some (.v (.slice (some a) n c))) (hc:c≠0):QS P w M0 N ⟨dst, .call ⟨.builtin .unsafeSliceData, #[x], #[t]⟩,ty,pos,z7,g⟩ s (.v (.pointer (some a))):=xH fun hd A W hR=>by
 have YV:=hR.2.eval hx;simp only [SV.den] at YV;simp only [execOp,resolve,invoke,builtin,wP,xw,uo,YV,yz,xM,xh];rw [Lib.run_unsafeSliceData_row (P:=P) W #[t] ty a n c hc];rfl
theorem NY {x:Operand} {t:TypeId} {n c:Nat} {s:St} (hx:s.env.op x=some (.v (.slice none n c))):QS P w M0 N ⟨dst, .call ⟨.builtin .unsafeSliceData, #[x], #[t]⟩,ty,pos,z7,g⟩ s (.v (.pointer none)):=xH fun hd A W hR=>by
 have YV:=hR.2.eval hx;simp only [SV.den] at YV;simp only [execOp,resolve,invoke,builtin,wP,xw,uo,YV,yz,xM,xh];rw [Lib.run_unsafeSliceData_nil (P:=P) W #[t] ty n c];rfl
theorem SQ {x y:Operand} {t u:TypeId} {p:Option Addr} {s:St} (hx:s.env.op x=some (.v (.pointer p))) (hy:s.env.op y=some (.v (.int .i64 0))):QS P w M0 N ⟨dst, .call ⟨.builtin .unsafeString, #[x,y], #[t,u]⟩,ty,pos,z7,g⟩ s (.v (.string ByteArray.empty)):=xH fun hd A W hR=>by
 have YV:=hR.2.eval hx;have FH:=hR.2.eval hy;simp only [SV.den] at YV FH;simp only [execOp,resolve,invoke,builtin,wP,xw,uo,YV,FH,yz,xM,xh];rw [Lib.run_unsafeString_none (P:=P) W t u ty p];rfl
class aiX (P:Program) (e:TypeId):Prop where
 h:P.cellsOf e=1
theorem tu (W:World) (g n:Nat):W.grownBy (W.freeze ⟨g,0,none⟩ n) (some g):=by
 unfold World.freeze;split
 · exact ⟨rfl,rfl,rfl,zN _,fun k _ _=>rfl⟩
 · refine ⟨rfl,rfl,rfl,by simp,fun k hk jt=>?_⟩;simp only [Array.getElem?_modify];rw [zn (fun e=>jt (by rw [e]))]
theorem abU {x y:Operand} {t u e:TypeId} {i gb n:Nat} {u0:Value} {b:ByteArray} (hx:env.op x=some (.v (.pointer (some ⟨gb,0,none⟩)))) (hy:env.op y=some (.v (.int .i64 n))) (hi:own[i]?=some (.zC u0 e 1 n (js b))) (hf:yX u0=some gb) [hp:JL P t e] [hc:aiX P e] (h0:0<n):
 EF P w M0 N ⟨dst, .call ⟨.builtin .unsafeString, #[x,y], #[t,u]⟩,ty,pos,z7,g⟩ ⟨M,own,env⟩ (own.set i .gone) (.v (.string b)):=⟨fun hd a W hR=>by
 have hO:=hR.1.own i _ hi;obtain ⟨hhd,y7,⟨_,h0'⟩|⟨b',cap,cur,hv,kJ,Zk,FN,bj,WF,Xg⟩⟩:=id hO
 · omega
 have vU:yX (hd i)=some b':=by rw [hv];rfl
 have lX:yX (hd i)=some gb:=by rw [hhd];exact hf
 obtain rfl:b'=gb:=by rw [vU] at lX;exact qt lX
 have hbl:b.data.toList.length=n:=by rw [Xa] at y7;simp;omega
 have YV:=hR.2.eval hx;have FH:=hR.2.eval hy;simp only [SV.den] at YV FH
 have gO:=Lib.run_unsafeString_row (P:=P) W t u ty e hp.parts.1 hc.h b' cur.size (by simp [World.shape?,Zk]) b.data.toList (by intro e;rw [e] at hbl;simp at hbl;omega) ze (by unfold maxLen at bj;omega) (fun j x hx=>by
  have h1:=ku hO (off:=j) (u:= .int .u8 x.toNat) (by simp [Ob.cells,js,hx]);rw [vU] at h1;simpa [vG] using h1)
 rw [hbl] at gO
 have VR:(execOp a.eval ⟨dst, .call ⟨.builtin .unsafeString, #[x,y], #[t,u]⟩,ty,pos,z7,g⟩).run P W= .ok (.value (.string b)) (W.freeze ⟨b',0,none⟩ n):=by
  simp only [execOp,resolve,invoke,builtin,wP,xw,uo,YV,FH,yz,xM,xh];rw [gO];rfl
 rw [VR];exact ⟨hd,fun _ _=>rfl,hR.1.KH (o':= .gone) hi yx (tu W b' n) (fun q hq=>by rw [vU];exact hq) trivial,rfl⟩,by rw [xj];exact zN _,rfl⟩
def af5 (P:Program) (t:TypeId):Bool:=match P.underlying t with|some .unsafePointer=>true|_=>false
class SO (P:Program) (t:TypeId):Prop where
 h:af5 P t=true
theorem SO.u {P:Program} {t:TypeId} [h:SO P t]:P.underlying t=some .unsafePointer:=by
 have h1:=h.h;unfold af5 at h1;split at h1
 · assumption
 · cases h1
class aiQ (P:Program) (t:TypeId) (n:outParam Nat):Prop where
 h:liesAt P P.depth t (n/P.cellsOf t) 0 t 1=true
theorem lz {hd:Nat->Value} {W:World} {w:World} {i bb:Nat} {t:TypeId} {cs:List Value} {own:List Ob} (hO:wR w.heap.size W (hd i) (.zK (.pointer (some ⟨bb,0,none⟩)) t cs)):W.shape? bb=some (t,cs.length):=by
 obtain ⟨h1,b',h2,h3,h4⟩:=hO;rw [h2] at h1;obtain rfl:b'=bb:=by simpa using h1
 simp [World.shape?,h4]
theorem ae6 {src dt te:TypeId} {x:Operand} {bb:Nat} {cs:List Value} {s:St} [hp:JL P src te] [hu:SO P dt] (i:Nat) (hx:s.env.op x=some (.v (.pointer (some ⟨bb,0,none⟩)))) (hi:s.own[i]?=some (.zK (.pointer (some ⟨bb,0,none⟩)) te cs)) (h0:0<cs.length):QS P w M0 N ⟨dst, .convert src dt x,ty,pos,z7,g⟩ s (.v (.pointer (some ⟨bb,0,none⟩))):=xH fun hd A W hR=>by
 have YV:=hR.2.eval hx;simp only [SV.den] at YV;obtain ⟨h1,j,h2,h3⟩:=hp.parts;have hsh:=lz (own:=s.own) (hR.1.own i _ hi);simp only [execOp,YV,yz];rw [Lib.run_to_unsafe W ⟨bb,0,none⟩ h1 hu.u h2 h3 hsh h0];rfl
theorem SW {src dt te:TypeId} {x:Operand} {bb n:Nat} {cs:List Value} {s:St} [hu:SO P src] [hp:JL P dt te] [hl:aiQ P te n] (i:Nat) (hx:s.env.op x=some (.v (.pointer (some ⟨bb,0,none⟩)))) (hi:s.own[i]?=some (.zK (.pointer (some ⟨bb,0,none⟩)) te cs)) (h0:cs.length=n):QS P w M0 N ⟨dst, .convert src dt x,ty,pos,z7,g⟩ s (.v (.pointer (some ⟨bb,0,none⟩))):=xH fun hd A W hR=>by
 have YV:=hR.2.eval hx;simp only [SV.den] at YV;obtain ⟨h1,j,h2,h3⟩:=hp.parts;have hsh:=lz (own:=s.own) (hR.1.own i _ hi);simp only [execOp,YV,yz];rw [h0] at hsh;rw [Lib.run_from_unsafe W ⟨bb,0,none⟩ hu.u h1 h2 hsh hl.h];rfl
class aiK (P:Program) (f:FuncId):Prop where
 h: ∀(args:Array Value) (W:World),(callFunc f args).run P W=((Extern.AbiNoEscape.same args).run P W).andThen fun v w'=> .ok (.value v) w'
theorem ae8 {f:FuncId} {x:Operand} {qz:Array TypeId} {v:Value} {s:St} [hf:aiK P f] (hx:s.env.op x=some (.v v)):QS P w M0 N ⟨dst, .call ⟨.value (.func f), #[x],qz⟩,ty,pos,z7,g⟩ s (.v v):=xH fun hd A W hR=>by
 have YV:=hR.2.eval hx;simp only [SV.den] at YV;show (callFunc f (#[]++ #[x].map A.eval++ #[])).run P W=_;rw [hf.h];have:(#[]++ #[x].map A.eval++ #[]:Array Value)= #[v]:=by simp [YV]
 rw [this,Lib.run_noEscape];rfl
theorem KF {f:FuncId} {xs:Array Operand} {vs:List Value} {s:St} (hv:s.env.kP xs.toList=some vs):QS P w M0 N ⟨dst, .makeFunc (.func f) #[] xs,ty,pos,z7,g⟩ s (.v (.func (.func f) #[] vs.toArray)):=xH fun hd A W hR=>by
 have h1:=Env.ZG hR.2 _ _ hv;have h2:xs.map A.eval=vs.toArray:=by rw [<-h1];cases xs;simp
 simp only [execOp,Instr.makeFunc,h2];simp;rfl
theorem wt {ops:Array Oper} {l:List Oper} {Q:zX} {f:FuncId} {x:Operand} {k8:Array Value} {xs:Array Operand} {qz:Array TypeId} {vs:List Value} {zO:List Ob} {zX:Value->List Ob->Prop} (ρ:List Nat) (hx:env.op x=some (.v (.func (.func f) #[] k8))) [hf:zG P f] (hv:env.kP xs.toList=some vs) (bg:u9 ρ=true) (JR:ZF zO ρ own)
 (hc: ∀M',M.le M'->uC P f (vs++k8.toList) M' zO zX) (hk:yi N dst=true) (zV:yR env own.length=true)
 (h: ∀v zw,zX v zw->VL P w M0 N ops l ⟨M,y8 ρ own++zw,env.put dst (.v v)⟩ Q):
 VL P w M0 N ops (⟨dst, .call ⟨.value x,xs,qz⟩,ty,pos,z7,none⟩::l) ⟨M,own,env⟩ Q:= .mk fun hd a W hR=>by
 refine v8 rfl fun K hK=>?_
 unfold Oper.wp;rw [az (s:=⟨M,own,env⟩) hR.2 hf.h hx hv];simp only [Oper.upon];obtain ⟨M',h1,h2,h3⟩:=it hR.1 bg JR;have hcc:=hc M' h1 w M0 _ W h2;have he:(vs++k8.toList).toArray=vs.toArray++k8:=by cases k8;simp
 rw [he] at hcc;refine hcc.mono fun e W' ⟨v,yE,zw,he,Zl,hp⟩=>?_
 subst he;have Bb: ∀i,i<own.length->(fun i=>if i<own.length then hd i else yE (i-own.length)) i=hd i:=fun i hi=>zo hi
 exact hK _ _ ((h v zw hp).go _ _ W' ⟨h3 yE zw W' Zl,(hR.2.KH fun t u ht=>X6 Bb (vn zV t u ht)).put hk (.v v)⟩)
end
end
end Go.Proofs.YtaibdpjjojihmaaGreat
