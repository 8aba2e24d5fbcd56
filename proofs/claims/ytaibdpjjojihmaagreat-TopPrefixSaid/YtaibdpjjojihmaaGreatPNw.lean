/- A part of the proof of TopPrefix; no conditions. -/
import Derived.Test.YtaibdpjjojihmaaGreatPNm
import Derived.Test.YtaibdpjjojihmaaGreatPLg8
set_option linter.unusedVariables false
set_option linter.unusedSimpArgs false
set_option maxRecDepth 20000
namespace Go.Proofs.YtaibdpjjojihmaaGreat
section
open Go Go.RowKit
abbrev ptr (b:Nat):Value:= .pointer (some ⟨b,0,none⟩)
class Le (v:Value) (us:outParam (List Value)):Prop where
 h:v.cells.toList=us
instance (l:List Value):Le (.agg l.toArray) l:=⟨rfl⟩
instance (k:IntKind) (n:Int):Le (.int k n) [.int k n]:=⟨rfl⟩
instance (s:ByteArray):Le (.string s) [.string s]:=⟨rfl⟩
instance (A:Option Addr):Le (.pointer A) [.pointer A]:=⟨rfl⟩
instance (A:Option Addr) (n c:Nat):Le (.slice A n c) [.slice A n c]:=⟨rfl⟩
theorem VI {u:Value} (h:u.oneCell'=true):u.cells.toList= [u]:=by
 cases u<;>first|rfl|cases h
theorem vg {n:Nat}: ∀ {e:Env},yR e 0=true->yR e n=true
 | [],_=>rfl
 |(k,sv)::l,h=>by
  unfold yR at h⊢;split at h
  · rename_i hs
    cases sv with
    |v x=>exact vg h
    |p i off=>simp [SV.okB,x9] at hs
    |r i=>simp [SV.okB,x9] at hs
  · cases h
theorem kS {e:Env} {dst:Option Tmp} {x:Value} (h:yR e 0=true):yR (e.put dst (.v x)) 0=true:=by
 cases dst with
 |none=>exact h
 |some t=>exact h
theorem K9 {i:Nat} {v:Value}: ∀ {e:Env},yR e 0=true->JV i v e=e
 | [],_=>rfl
 |(k,sv)::l,h=>by
  unfold yR at h;split at h
  · rename_i hs
    cases sv with
    |v x=>show (k,SV.v x)::JV i v l=_;rw [K9 h]
    |p i off=>simp [SV.okB,x9] at hs
    |r i=>simp [SV.okB,x9] at hs
  · cases h
theorem Db {e:Env} {i b:Nat} {dst:Option Tmp} (h:yR e 0=true):JV i (.pointer (some ⟨b,0,none⟩)) (e.put dst (.p i 0))=e.put dst (.v (.pointer (some ⟨b,0,none⟩))):=by
 cases dst with
 |none=>exact K9 h
 |some t=>
  show (t,SV.frz i _ (.p i 0))::JV i _ e=(t,_)::e;rw [K9 h];simp [SV.frz,yX]
class DS (own:List Ob) (b:Nat) (t:outParam TypeId) (cs:outParam (List Value)):Prop where
 h: ∃i:Nat,own[i]?=some (Ob.zK (.pointer (some ⟨b,0,none⟩)) t cs)
instance (priority:=high) DS.one (b:Nat) (t:TypeId) (cs:List Value) (l:List Ob):DS (.zK (.pointer (some ⟨b,0,none⟩)) t cs::l) b t cs:=⟨0,rfl⟩
instance DS.cons (o:Ob) (l:List Ob) (b:Nat) (t:TypeId) (cs:List Value) [i:DS l b t cs]:DS (o::l) b t cs:=⟨by obtain ⟨i,h⟩:=i.h;exact ⟨i+1,h⟩⟩
instance DS.app (X l:List Ob) (b:Nat) (t:TypeId) (cs:List Value) [i:DS l b t cs]:DS (X++l) b t cs:=⟨by obtain ⟨i,h⟩:=i.h;exact ⟨X.length+i,by rw [kF ze,JG];exact h⟩⟩
class DN (cs:List Value) (off:Nat) (us:List Value) (Zn:outParam (List Value)):Prop where
 h:off+us.length<=cs.length/\Zn=jT cs off us
class Cut (cs:List Value) (n:Nat) (us:outParam (List Value)):Prop where
 h:n<=cs.length/\cs.take n=us
instance Cut.zero (cs:List Value):Cut cs 0 []:=⟨zW _,rfl⟩
instance Cut.succ (c:Value) (cs us:List Value) (n:Nat) [i:Cut cs n us]:Cut (c::cs) (n+1) (c::us):=⟨by have:=i.h.1;simp;omega,by rw [YE,i.h.2]⟩
class Of (cs:List Value) (off n:Nat) (us:outParam (List Value)):Prop where
 h:off+n<=cs.length/\(cs.drop off).take n=us
instance (priority:=high) Of.zero (cs us:List Value) (n:Nat) [i:Cut cs n us]:Of cs 0 n us:=⟨by have:=i.h.1;omega,i.h.2⟩
instance Of.succ (c:Value) (cs us:List Value) (off n:Nat) [i:Of cs off n us]:Of (c::cs) (off+1) n us:=⟨by have:=i.h.1;simp;omega,by rw [gw];exact i.h.2⟩
theorem LX (cs:List Value) (off:Nat) (u:Value):jT cs off [u]=cs.set off u:=rfl
theorem qL (c:Value): ∀(us cs:List Value) (off:Nat),jT (c::cs) (off+1) us=c::jT cs off us
 | [],_,_=>rfl
 |u::us,cs,off=>by
  show jT ((c::cs).set (off+1) u) (off+1+1) us=c::jT (cs.set off u) (off+1) us;rw [Ub,qL c us (cs.set off u) (off+1)]
class Lay (cs us:List Value) (Zn:outParam (List Value)):Prop where
 h:us.length<=cs.length/\Zn=jT cs 0 us
instance Lay.nil (cs:List Value):Lay cs [] cs:=⟨zW _,rfl⟩
instance Lay.cons (c u:Value) (cs us Zn:List Value) [i:Lay cs us Zn]:Lay (c::cs) (u::us) (u::Zn):=⟨by have:=i.h.1;simp;omega,by
 show _=jT ((c::cs).set 0 u) 1 us;rw [aW,qL,<-i.h.2]⟩
instance (priority:=high) DN.zero (cs us Zn:List Value) [i:Lay cs us Zn]:DN cs 0 us Zn:=⟨by have:=i.h.1;omega,i.h.2⟩
instance DN.succ (c:Value) (cs us Zn:List Value) (off:Nat) [i:DN cs off us Zn]:DN (c::cs) (off+1) us (c::Zn):=⟨by have:=i.h.1;simp;omega,by rw [qL,<-i.h.2]⟩
class Kd (own:List Ob) (b off:Nat) (us:List Value) (zw:outParam (List Ob)):Prop where
 h: ∃(i:Nat) (t:TypeId) (cs:List Value),own[i]?=some (Ob.zK (.pointer (some ⟨b,0,none⟩)) t cs)/\off+us.length<=cs.length/\zw=own.set i (.zK (.pointer (some ⟨b,0,none⟩)) t (jT cs off us))
instance (priority:=high) Kd.one (b off:Nat) (t:TypeId) (cs us Zn:List Value) (l:List Ob) [i:DN cs off us Zn]:Kd (.zK (.pointer (some ⟨b,0,none⟩)) t cs::l) b off us (.zK (.pointer (some ⟨b,0,none⟩)) t Zn::l):=⟨0,t,cs,rfl,i.h.1,by rw [i.h.2];rfl⟩
instance Kd.cons (o:Ob) (l l':List Ob) (b off:Nat) (us:List Value) [i:Kd l b off us l']:Kd (o::l) b off us (o::l'):=⟨by obtain ⟨i,t,cs,h1,h2,h3⟩:=i.h;exact ⟨i+1,t,cs,h1,h2,by rw [h3];rfl⟩⟩
instance Kd.app (X l l':List Ob) (b off:Nat) (us:List Value) [i:Kd l b off us l']:Kd (X++l) b off us (X++l'):=⟨by
 obtain ⟨i,t,cs,h1,h2,h3⟩:=i.h;exact ⟨X.length+i,t,cs,by rw [kF ze,JG];exact h1,h2,by rw [h3,YF _ _ ze,JG]⟩⟩
theorem Kd.len {own zw:List Ob} {b off:Nat} {us:List Value} (h:Kd own b off us zw):zw.length=own.length:=by
 obtain ⟨i,t,cs,_,_,h3⟩:=h.h;rw [h3,xj]
section
variable {P:Program} {w:World} {M0:Mem} {N:Nat} {dst:Option Tmp} {ty:TypeId} {pos:String} {z7:Array Edge} {g:Option (Nat×Bool)} {M:Mem} {own zw:List Ob} {env:Env} {hd:Nat->Value} {W W':World}
theorem qnl {t t':TypeId} {x:Operand} {b off:Nat} {cs:List Value} {u:Value} [ht:ux P t] (hx:env.op x=some (.v (.pointer (some ⟨b,off,none⟩)))) (ha:DS own b t' cs:=by infer_instance) (hu:cs[off]?=some u:=by rfl):QS P w M0 N ⟨dst, .load t x,ty,pos,z7,g⟩ ⟨M,own,env⟩ (.v u):=by
 obtain ⟨i,h⟩:=ha.h;exact yp i hx h rfl hu
theorem qnN {t t':TypeId} {x:Operand} {b off n:Nat} {cs us:List Value} [ht:X2 P t n] (hx:env.op x=some (.v (.pointer (some ⟨b,off,none⟩)))) (ha:DS own b t' cs:=by infer_instance) (hu:Of cs off n us:=by infer_instance):QS P w M0 N ⟨dst, .load t x,ty,pos,z7,g⟩ ⟨M,own,env⟩ (.v (.agg us.toArray)):=by
 obtain ⟨i,h⟩:=ha.h;have:=rV (P:=P) (w:=w) (M0:=M0) (N:=N) (s:=⟨M,own,env⟩) (dst:=dst) (ty:=ty) (pos:=pos) (z7:=z7) (g:=g) (t:=t) i hx h rfl hu.h.1;rw [<-hu.h.2];exact this
theorem Hq {t t':TypeId} {x y:Operand} {b off:Nat} {u0 v:Value} {cs us:List Value} (i:Nat) (hx:env.op x=some (.v (.pointer (some ⟨b,off,none⟩)))) (hy:env.op y=some (.v v)) (hi:own[i]?=some (.zK u0 t' cs)) (hf:yX u0=some b) (hv:v.cells.toList=us) (vE:off+us.length<=cs.length) (hu:us.all (·.oneCell')=true) (ht:wW P t us.length=true):
 ES P w M0 N ⟨dst, .store t x y,ty,pos,z7,g⟩ ⟨M,own,env⟩ (own.set i (.zK u0 t' (jT cs off us))):=fun hd a W hR=>by
 have hO:=hR.1.own i _ hi;obtain ⟨h0,b',kJ,Zk,hb3⟩:=id hO
 have ap:b'=b:=by
  rw [<-h0,kJ] at hf;simpa [yX] using hf
 subst ap;have h1:=hR.2.eval hx;have h2:=hR.2.eval hy;simp only [SV.den] at h1 h2
 have uA: ∀j,j<us.length->(W.cell? ⟨b',off+j,none⟩).isSome=true:=fun j hj=>by
  have:=ku hO (off:=off+j) (u:=cs[off+j]'(by omega)) (by simp [Ob.cells]);rw [kJ] at this;simp only [yX,Kz] at this;rw [this];rfl
 have Oo: ∀j,j<us.length->W.frozen? ⟨b',off+j,none⟩=false:=fun j _=>Kv W b' (off+j) _ t' hb3
 have kt:=IR (P:=P) b' off us 0 W (by simpa using uA) (by simpa using Oo) (fun v hv=>yw.1 hu v hv);simp only [Kt] at kt;have YC:v.cells.size=us.length:=by rw [<-hv];simp
 refine ⟨W.setCells b' off us,?_,?_⟩
 · simp only [execOp,h1,h2,Instr.storeAt,Instr.sureAddr,storeVar,yz,xM,xh,y9 ht,YC,hv,ne_eq,GX,kT,kt]
 · refine hR.1.KH hi yx (row:=some b') (jV us off W) (fun q hq=>by cases hq;rw [kJ];rfl) ⟨h0,b',kJ,Zk,?_⟩;rw [x7 us off W _ hb3];have:=vt (cs.length) us off cs.toArray
   have e:W8 cs.toArray off us=(jT cs off us).toArray:=by
    apply Array.ext';have h3:(W8 cs.toArray off us).toList.take cs.length=(W8 cs.toArray off us).toList:=wD (by have:=vu us off cs.toArray;simp at this⊢;omega);rw [<-h3,this];simp
   rw [e]
theorem AE {t:TypeId} {x y:Operand} {b off:Nat} {v:Value} {us:List Value} {ops:Array Oper} {l:List Oper} {Q:zX} (h:VL P w M0 N ops l ⟨M,zw,env.put dst (.v undef)⟩ Q) (hx:env.op x=some (.v (.pointer (some ⟨b,off,none⟩)))) (hy:env.op y=some (.v v)) (hv:v.cells.toList=us) (hn:Kd own b off us zw) (hu:us.all (·.oneCell')=true) (ht:wW P t us.length=true) (hk:yi N dst=true) (zV:yR env 0=true):
 VL P w M0 N ops (⟨dst, .store t x y,ty,pos,z7,none⟩::l) ⟨M,own,env⟩ Q:=by
 obtain ⟨i,t',cs,h1,h2,h3⟩:=hn.h;rw [h3] at h;exact Xl _ (.v undef) (Xn (Hq i hx hy h1 rfl hv h2 hu ht) (by rw [xj])) hk (vg zV) h
theorem kn1 {t:TypeId} {x y:Operand} {b off:Nat} {u:Value} {ops:Array Oper} {l:List Oper} {Q:zX} [ht:jJ P t 1] (h:VL P w M0 N ops l ⟨M,zw,env.put dst (.v undef)⟩ Q) (hx:env.op x=some (.v (.pointer (some ⟨b,off,none⟩))):=by rfl) (hy:env.op y=some (.v u):=by rfl) (hu:u.oneCell'=true:=by first|rfl|assumption) (hn:Kd own b off [u] zw:=by infer_instance) (hk:yi N dst=true:=by rfl) (zV:yR env 0=true:=by rfl):
 VL P w M0 N ops (⟨dst, .store t x y,ty,pos,z7,none⟩::l) ⟨M,own,env⟩ Q:=AE h hx hy (VI hu) hn (by simp [hu]) ht.h hk zV
theorem knN {t:TypeId} {x y:Operand} {b off n:Nat} {us:List Value} {ops:Array Oper} {l:List Oper} {Q:zX} [ht:jJ P t n] (h:VL P w M0 N ops l ⟨M,zw,env.put dst (.v undef)⟩ Q) (hx:env.op x=some (.v (.pointer (some ⟨b,off,none⟩))):=by rfl) (hy:env.op y=some (.v (.agg us.toArray)):=by rfl) (hu:us.all (·.oneCell')=true:=by first|rfl|assumption) (hn:Kd own b off us zw:=by infer_instance) (hz:us.length=n:=by rfl) (hk:yi N dst=true:=by rfl) (zV:yR env 0=true:=by rfl):
 VL P w M0 N ops (⟨dst, .store t x y,ty,pos,z7,none⟩::l) ⟨M,own,env⟩ Q:=AE (us:=us) h hx hy rfl hn hu (by rw [hz];exact ht.h) hk zV
theorem yh {t:TypeId} {z:Value} {zs:List Value} {ops:Array Oper} {l:List Oper} {Q:zX} [hz:kM P t z] (hc:Le z zs) (h: ∀b,VL P w M0 N ops l ⟨M, .zK (.pointer (some ⟨b,0,none⟩)) t zs::own,env.put dst (.v (.pointer (some ⟨b,0,none⟩)))⟩ Q) (hk:yi N dst=true:=by rfl) (zV:yR env 0=true:=by rfl):
 VL P w M0 N ops (⟨dst, .alloc t,ty,pos,z7,none⟩::l) ⟨M,own,env⟩ Q:=by
 refine adG ?_ hk (vg zV);rw [hc.h];refine qB own.length (by rw [kF (zN _),qq];rfl) fun b=>?_
 rw [Db zV];refine wd _ (h b) (ji.perm ?_) (kS zV);rw [YF _ _ (zN _),qq];exact uQ
theorem yZ {t:TypeId} {x:Operand} {u:Value} {us:List Value} {ops:Array Oper} {l:List Oper} {Q:zX} (hx:env.op x=some (.v u)) (hc:Le u us) (h: ∀b,VL P w M0 N ops l ⟨M, .zK (.pointer (some ⟨b,0,none⟩)) t us::own,env.put dst (.v (.pointer (some ⟨b,0,none⟩)))⟩ Q) (hk:yi N dst=true:=by rfl) (zV:yR env 0=true:=by rfl):
 VL P w M0 N ops (⟨dst, .box t x,ty,pos,z7,none⟩::l) ⟨M,own,env⟩ Q:=by
 refine adE ?_ hx hk (vg zV);rw [hc.h];refine qB own.length (by rw [kF (zN _),qq];rfl) fun b=>?_
 rw [Db zV];refine wd _ (h b) (ji.perm ?_) (kS zV);rw [YF _ _ (zN _),qq];exact uQ
theorem Yu {v:Value} {e:TypeId} {k n:Nat} {cs:List Value} {ops:Array Oper} {l:List Oper} {Q:zX} (hr:uw own (.zC v e k n cs) zw) (h: ∀M',M.le M'->ud M' k n cs v->VL P w M0 N ops l ⟨M',zw,env⟩ Q) (zV:yR env 0=true:=by rfl):VL P w M0 N ops l ⟨M,own,env⟩ Q:=by
 refine wd _ (abA 0 rfl fun M' h1 h2=>?_) (ji.perm hr.h) zV;exact wd _ (h M' h1 h2) ⟨[Ob.gone],uQ (l₁:= [Ob.gone])⟩ zV
theorem wG {v:Value} {e:TypeId} {k n:Nat} {cs:List Value} {c:Code} {Q:zX} (hr:uw own (.zC v e k n cs) zw) (h: ∀M',M.le M'->ud M' k n cs v->VC P w M0 N c ⟨M',zw,env⟩ Q) (zV:yR env 0=true:=by rfl):VC P w M0 N c ⟨M,own,env⟩ Q:=by
 refine KE _ (La 0 rfl fun M' h1 h2=>?_) (ji.perm hr.h) zV;exact KE _ (h M' h1 h2) ⟨[Ob.gone],uQ (l₁:= [Ob.gone])⟩ zV
def O3 (P:Program) (t:TypeId):Bool:=match P.underlying t with|some (.interface _)|none=>false|some _=>true
class nR (P:Program) (t:TypeId):Prop where
 h:O3 P t=true
theorem nR.und {t:TypeId} (h:nR P t): ∃d,P.underlying t=some d/\ ∀m,d≠ .interface m:=by
 have:=h.h;unfold O3 at this;cases hu:P.underlying t with
 |none=>rw [hu] at this;cases this
 |some d=>
  rw [hu] at this;refine ⟨d,rfl,fun m e=>?_⟩;subst e;cases this
theorem qmi {t:TypeId} {x:Operand} {s:St} {v:Value} [ht:nR P t] (hx:s.env.op x=some (.v v)):QS P w M0 N ⟨dst, .makeInterface t x,ty,pos,z7,g⟩ s (.v (.iface t v)):=xH fun hd a W hR=>by
 have h1:=hR.2.eval hx;simp only [SV.den] at h1;obtain ⟨d,h2,h3⟩:=ht.und;cases d<;>first|exact absurd rfl (h3 _)|simp [execOp,h1,Instr.makeInterface,jG h2,SV.den]
theorem qta {t t2:TypeId} {x:Operand} {s:St} {v:Value} [ht:nR P t] (hx:s.env.op x=some (.v (.iface t v))):QS P w M0 N ⟨dst, .typeAssert x t2 t false,ty,pos,z7,g⟩ s (.v v):=xH fun hd a W hR=>by
 have h1:=hR.2.eval hx;simp only [SV.den] at h1;obtain ⟨d,h2,h3⟩:=ht.und;cases d<;>first|exact absurd rfl (h3 _)|simp [execOp,h1,Instr.typeAssert,jG h2,SV.den]
def agv (P:Program) (t:TypeId) (name:String) (f:FuncId):Bool:=
 (match P.underlying t with|some (.pointer _)=>true|_=>false)&&(match P.info? t with|some i=>(match i.methods.find? (·.name==name) with|some m=>m.path.isEmpty&&(match m.func with|some (h,true)=>Nat.beq h f|_=>false)|none=>false)|none=>false)
class JW (P:Program) (t:TypeId) (name:String) (f:outParam FuncId):Prop where
 h:agv P t name f=true
theorem iE {s:St} {f:FuncId} {t:TypeId} {name:String} {x:Operand} {v:Value} {xs:Array Operand} {qz:Array TypeId} {vs:List Value} [hm:JW P t name f] [hf:zG P f] (hx:s.env.op x=some (.v (.iface t v))) (hv:s.env.kP xs.toList=some vs):Ent P w M0 N ⟨dst, .call ⟨.invoke x name,xs,qz⟩,ty,pos,z7,g⟩ s f (v::vs):=fun hd a W hR=>by
 have h1:=Env.ZG hR.2 _ _ hv;have h2:=hR.2.eval hx;simp only [SV.den] at h2;have e:xs.map a.eval=vs.toArray:=by rw [<-h1];cases xs;simp
 have h3:=hm.h;unfold agv at h3;rw [yF] at h3;obtain ⟨h4,h5⟩:=h3;split at h4
 case h_2=>cases h4
 rename_i te hu
 split at h5
 case h_2=>cases h5
 rename_i i hi
 split at h5
 case h_2=>cases h5
 rename_i m Tp
 rw [yF] at h5;obtain ⟨h6,h7⟩:=h5;split at h7
 case h_2=>cases h7
 rename_i h Oq
 obtain rfl:=qA h7;have hp:m.path= #[]:=by simpa using h6
 have hme:(method (P.types.size+Made.depth) t v name).run P W= .ok (h,v) W:=by
  have Xo:0<Made.depth:=by decide
  obtain ⟨k,hk⟩: ∃k,P.types.size+Made.depth=k+1:=⟨P.types.size+Made.depth-1,ze⟩;rw [hk];simp [method,typeInfo,hi,Tp,hp,follow,Oq,receiverAt,jG hu,Place.get]
 simp only [execOp,resolve,e,h2,yz,xM,xh,invoke];have hpr:(Sem.program Sem.pure).run P W= .ok P W:=rfl;simp [callMethod,program,hpr,hme,Je hf.h]
end
end
section
open Go Go.RowKit
section
variable {P:Program} {w:World} {M0:Mem} {N:Nat} {dst:Option Tmp} {ty:TypeId} {pos:String} {z7:Array Edge} {g:Option (Nat×Bool)} {M:Mem} {own zw:List Ob} {env:Env} {hd yE:Nat->Value} {W W':World}
def Y1 (M:Mem) (own:List Ob) (b off:Nat) (us:List Value):Prop:=
 (∃(i:Nat) (o:Ob),own[i]?=some o/\o.Wy=some b/\ ∀(j:Nat) u,us[j]?=some u->o.cells[off+j]?=some u)\/ ∀(j:Nat) u,us[j]?=some u->M.cell b (off+j)=some u
theorem Y1.cell {b off:Nat} {us:List Value} (h:Y1 M own b off us) (hW:Wd w M0 hd M own W) (j:Nat) (u:Value) (hu:us[j]?=some u):W.cell? ⟨b,off+j,none⟩=some u:=by
 rcases h with ⟨i,o,h1,h2,h3⟩|h3
 · have:=ku (hW.own i o h1) (h3 j u hu);rw [U0 (hW.own i o h1) h2] at this;exact this
 · have:=hW.mem.cell (h3 j u hu);rw [Mem.Z7] at this;exact this
theorem Kd.here (b off:Nat) (t:TypeId) (cs us:List Value) (l:List Ob) (h:off+us.length<=cs.length):Kd (.zK (.pointer (some ⟨b,0,none⟩)) t cs::l) b off us (.zK (.pointer (some ⟨b,0,none⟩)) t (jT cs off us)::l):=⟨0,t,cs,rfl,h,rfl⟩
theorem ie {b off:Nat} {us:List Value} (hW:Wd w M0 hd M own W) (hn:Kd own b off us zw) (hu:us.all (·.oneCell')=true):(storeCells ⟨b,off,none⟩ us).run P W= .ok () (W.setCells b off us)/\Wd w M0 hd M zw (W.setCells b off us):=by
 obtain ⟨i,t',cs,hi,vE,rfl⟩:=hn.h;have hO:=hW.own i _ hi;obtain ⟨h0,b',kJ,Zk,hb3⟩:=id hO;have ap:b'=b:=by rw [kJ] at h0;injection h0 with h0;injection h0 with h0;injection h0
 subst ap
 have uA: ∀j,j<us.length->(W.cell? ⟨b',off+j,none⟩).isSome=true:=fun j hj=>by
  have:=ku hO (off:=off+j) (u:=cs[off+j]'(by omega)) (by simp [Ob.cells]);rw [kJ] at this;simp only [yX,Kz] at this;rw [this];rfl
 have Oo: ∀j,j<us.length->W.frozen? ⟨b',off+j,none⟩=false:=fun j _=>Kv W b' (off+j) _ t' hb3
 have kt:=IR (P:=P) b' off us 0 W (by simpa using uA) (by simpa using Oo) (fun v hv=>yw.1 hu v hv);simp only [Kt] at kt;refine ⟨kt,hW.KH hi yx (row:=some b') (jV us off W) (fun q hq=>by cases hq;rw [kJ];rfl) ⟨h0,b',kJ,Zk,?_⟩⟩;rw [x7 us off W _ hb3];have h4:=vt (cs.length) us off cs.toArray
 have e:W8 cs.toArray off us=(jT cs off us).toArray:=by
  apply Array.ext';have h3:(W8 cs.toArray off us).toList.take cs.length=(W8 cs.toArray off us).toList:=wD (by have:=vu us off cs.toArray;simp at this⊢;omega);rw [<-h3,h4];simp
 rw [e]
theorem QB {b off:Nat} {us:List Value} (h: ∀(j:Nat) u,us[j]?=some u->W.cell? ⟨b,off+j,none⟩=some u):(loadCells ⟨b,off,none⟩ us.length).run P W= .ok us.toArray W:=run_loadCells_list (P:=P) W ⟨b,off,none⟩ us (fun j v hv=>by
 rw [vG];exact h j v hv)
theorem fv {x y:Operand} {t t2:TypeId} {b o1 n1 c1 b2 o2 n2 c2 k m:Nat} {us:List Value} {ops:Array Oper} {l:List Oper} {Q:zX} [hE:X1 P t k] (h:VL P w M0 N ops l ⟨M,zw,env.put dst (.v (.int .i64 m))⟩ Q) (hx:env.op x=some (.v (.slice (some ⟨b,o1,none⟩) n1 c1))) (hy:env.op y=some (.v (.slice (some ⟨b2,o2,none⟩) n2 c2)))
 (hm:Nat.min n2 n1=m) (hl:us.length=m*k) (hs:Y1 M own b2 o2 us) (hu:us.all (·.oneCell')=true) (hn:Kd own b o1 us zw) (hk:yi N dst=true) (zV:yR env 0=true):
 VL P w M0 N ops (⟨dst, .call ⟨.builtin .copy, #[x,y], #[t,t2]⟩,ty,pos,z7,none⟩::l) ⟨M,own,env⟩ Q:=by
 refine Xl zw (.v (.int .i64 m)) ⟨fun hd a W hR=>?_,by rw [hn.len];exact zN _,rfl⟩ hk (vg zV) h;have e1:=hR.2.eval hx;have e2:=hR.2.eval hy;simp only [SV.den] at e1 e2;have ht:=hE.h;unfold mB at ht;split at ht
 case h_2=>cases ht
 rename_i e he
 have YC:=y9 ht W;have hld:=QB (P:=P) (fun j u hu=>hs.cell hR.1 j u hu);obtain ⟨kt,Zl⟩:=ie (P:=P) hR.1 hn hu;rw [hl] at hld;have hgo:goInt m= .int .i64 m:=rfl
 have hr:(Builtin.copy_ #[t,t2] ty #[.slice (some ⟨b,o1,none⟩) n1 c1, .slice (some ⟨b2,o2,none⟩) n2 c2]).run P W= .ok (.int .i64 m) (W.setCells b o1 us):=by
  simp [Builtin.copy_,jG he,Builtin.lenOf,Builtin.firstCells,YC,hm,hld,kt,hgo]
 simp only [execOp,resolve,invoke,builtin,wP,xw,uo,e1,e2,yz,xM,xh,hr];exact ⟨hd,fun _ _=>rfl,Zl,rfl⟩
theorem afj {x y:Operand} {t e:TypeId} {b o1 n1 c1 b2 o2 n2 c2 k bytes:Nat} {us:List Value} [hE:kr P t e k bytes] (hx:env.op x=some (.v (.slice (some ⟨b,o1,none⟩) n1 c1))) (hy:env.op y=some (.v (.slice (some ⟨b2,o2,none⟩) n2 c2)))
 (K4:n1+n2<=c1) (hl:us.length=n2*k) (hs:Y1 M own b2 o2 us) (hu:us.all (·.oneCell')=true) (hn:Kd own b (o1+n1*k) us zw):
 EF P w M0 N ⟨dst, .call ⟨.builtin .append, #[x,y], #[t,t]⟩,ty,pos,z7,g⟩ ⟨M,own,env⟩ zw (.v (.slice (some ⟨b,o1,none⟩) (n1+n2) c1)):=by
 refine ⟨fun hd a W hR=>?_,by rw [hn.len];exact zN _,rfl⟩;have e1:=hR.2.eval hx;have e2:=hR.2.eval hy;simp only [SV.den] at e1 e2;have J7:=uy.mk' hE.h;obtain ⟨i,z,hi,hz,YC,Ed,pX⟩:=J7.hi;have hld:=QB (P:=P) (fun j u hu=>hs.cell hR.1 j u hu);obtain ⟨kt,Zl⟩:=ie (P:=P) hR.1 hn hu;rw [hl] at hld
 have hr:(Builtin.append_ #[t,t] ty #[.slice (some ⟨b,o1,none⟩) n1 c1, .slice (some ⟨b2,o2,none⟩) n2 c2]).run P W= .ok (.slice (some ⟨b,o1,none⟩) (n1+n2) c1) (W.setCells b (o1+n1*k) us):=by
  have JT:(⟨b,o1,none⟩:Addr).add (n1*k)=⟨b,o1+n1*k,none⟩:=vG ..;simp [Builtin.append_,jG J7.ht,Builtin.lenOf,Builtin.firstCells,sizeOf,typeInfo,hi,YC,K4,hld,kt,JT]
 rw [ZQ e1 e2,hr];exact ⟨hd,fun _ _=>rfl,Zl,rfl⟩
theorem dW (t tn ty e:TypeId) (i:TypeInfo) (z:Value) (kn:IntKind) (ht:P.underlying t=some (.slice e)) (htn:P.underlying tn=some (.int kn)) (hi:P.info? e=some i) (hz:i.zero=some z)
 (b:Addr) (bI BT:Nat) (aae:List Value) (Qw:aae.length=bI*i.size) (CU: ∀j v,aae[j]?=some v->W.cell? (b.add j)=some v) (n:Nat) (h0:0<n) (hs:0<i.size)
 (hg:BT<bI+n) (gW:((bI+n:Nat):Int)<=9223372036854775807) (h48:n*i.bytes<=281474976710656) (ahE:Builtin.nextslicecap (bI+n) BT*i.bytes<=281474976710656):
 (Builtin.append_ #[t,tn] ty #[.slice (some b) bI BT, .int .i64 n]).run P W=
  .ok (.slice (some ⟨W.heap.size,0,none⟩) (bI+n) (grownCap W (bI+n) BT e))
   (W.drew.alloc (.cells (aae.toArray++Builtin.zeroCells z.cells n++Builtin.zeroCells z.cells (grownCap W (bI+n) BT e-(bI+n))) e)):=by
 have hn:¬ (bI+n<=BT):=ze;have hw:IntKind.i64.wrap (n:Int)=n:=by rw [IntKind.wrap_i64];omega
 have alX:¬ (9223372036854775807<((bI:Int)+(n:Int))):=ze;have alZ:¬ (281474976710656<Builtin.nextslicecap (bI+n) BT*i.bytes):=ze
 have alY:¬ (281474976710656<(n:Int)*(i.bytes:Int)):=by
  rw [<-Int.natCast_mul];omega
 have ak0:¬ ((n:Int)<0):=ze;have hns:¬ (n*i.size=0):=Nat.mul_ne_zero ze ze;have P9:n≠0:=ze;have MI:i.size≠0:=ze;have FX:=run_firstCells_some (P:=P) W.drew i.size bI b bI BT aae Qw (by simpa using CU);simp [Builtin.append_,jG ht,jG htn,sizeOf,typeInfo,zeroValue,hi,hz,asInt,asIntOf,hw,hn,ak0,hns,P9,MI,alX,alZ,alY,Question.forced,FX,newRow,grownCap]
theorem afi {x y:Operand} {t tn e:TypeId} {b o1 n1 c1 k bytes n:Nat} {z:Value} {wS:List Value} (cells:List Value) [hE:kr P t e k bytes] [hz:kM P e z] [hI:a8 P tn .i64] (hx:env.op x=some (.v (.slice (some ⟨b,o1,none⟩) n1 c1))) (hy:env.op y=some (.v (.int .i64 n)))
 (hc:wS++(Builtin.zeroCells z.cells n).toList=cells) (wK:c1<n1+n) (h0:0<n) (hl:wS.length=n1*k) (hs:Y1 M own b o1 wS) (hm:n1+n<=maxLen) (hb:(n1+n)*bytes<=140737488355328):
 EF P w M0 N ⟨dst, .call ⟨.builtin .append, #[x,y], #[t,tn]⟩,ty,pos,z7,g⟩ ⟨M,own,env⟩ (own++ [.row e k (n1+n) cells]) (.r own.length):=by
 subst hc
 exact nS (.row e k (n1+n) _) (fun hd a W hR=>by
  have J7:=uy.mk' hE.h;obtain ⟨i,z',hi,Ol,YC,Ed,pX⟩:=J7.hi;have hzz:=dH hz.h hi Ol W;subst hzz;subst YC;have hk:=J7.hk;have A8:((n1+n:Nat):Int)<=9223372036854775807:=by unfold maxLen at hm;omega
  have uA:=fun (j:Nat) (u:Value) (hu:wS[j]?=some u)=>hs.cell hR.1 j u hu
  have AZ:=nextslicecap_le wK
  have ahE:Builtin.nextslicecap (n1+n) c1*i.bytes<=281474976710656:=by
   have:=uB i.bytes AZ;rw [Nat.mul_assoc] at this;rw [Ed] at this⊢;omega
  have h48:n*i.bytes<=281474976710656:=by
   have:=uB i.bytes (show n<=n1+n by omega);rw [Ed] at this⊢;omega
  have hr:=dW (P:=P) (W:=W) t tn ty e i z .i64 J7.ht (FB hI.h) hi Ol ⟨b,o1,none⟩ n1 c1 wS hl (fun j v hv=>by rw [vG];exact uA j v hv) n h0 hk wK A8 h48 ahE;have ql:=tX W (n1+n) c1 e;have bj:grownCap W (n1+n) c1 e<=maxLen:=AC W (n1+n) c1 e ze;have e1:=hR.2.eval hx;have e2:=hR.2.eval hy;simp only [SV.den] at e1 e2;have UF:(Builtin.zeroCells z.cells n).toList.length=n*i.size:=by rw [mZ,aT,pX]
  have hlz:(wS++(Builtin.zeroCells z.cells n).toList).length=(n1+n)*i.size:=by rw [yK,hl,UF,um]
  refine ⟨.slice (some ⟨W.heap.size,0,none⟩) (n1+n) (grownCap W (n1+n) c1 e),W.drew.alloc (.cells (wS.toArray++Builtin.zeroCells z.cells n++Builtin.zeroCells z.cells (grownCap W (n1+n) c1 e-(n1+n))) e),?_,⟨rfl,rfl,rfl,by simp,fun q hq _=>An W.drew _ q hq⟩,⟨hlz, .inr ⟨W.heap.size,_,_,rfl,hR.1.below.size,JI W.drew _,ql,bj,?_,?_⟩⟩,fun b Za=>?_⟩
  · simp only [execOp,resolve,invoke,builtin,wP,xw,uo,e1,e2,yz,xM,xh];rw [hr];rfl
  · simp only [As,aT,pX,GY,hl,<-um];congr 1;omega
  · have e3:(wS.toArray++Builtin.zeroCells z.cells n++Builtin.zeroCells z.cells (grownCap W (n1+n) c1 e-(n1+n))).toList=(wS++(Builtin.zeroCells z.cells n).toList)++(Builtin.zeroCells z.cells (grownCap W (n1+n) c1 e-(n1+n))).toList:=by simp
    rw [e3,<-hlz];exact ua
  · obtain rfl:W.heap.size=b:=by simpa [yX] using Za
    exact zN _)
theorem Hc {x:Operand} {t e:TypeId} {b o1 n1 c1 k bytes:Nat} {z:Value} {ops:Array Oper} {l:List Oper} {Q:zX} [hE:kr P t e k bytes] [hz:kM P e z] (h:VL P w M0 N ops l ⟨M,zw,env.put dst (.v (.tuple #[]))⟩ Q) (hx:env.op x=some (.v (.slice (some ⟨b,o1,none⟩) n1 c1)))
 (hn:Kd own b o1 (Builtin.zeroCells z.cells n1).toList zw) (hu:(Builtin.zeroCells z.cells n1).toList.all (·.oneCell')=true) (h0:0<n1) (hk:yi N dst=true) (zV:yR env 0=true):
 VL P w M0 N ops (⟨dst, .call ⟨.builtin .clear, #[x], #[t]⟩,ty,pos,z7,none⟩::l) ⟨M,own,env⟩ Q:=by
 refine Xl zw (.v (.tuple #[])) ⟨fun hd a W hR=>?_,by rw [hn.len];exact zN _,rfl⟩ hk (vg zV) h;have e1:=hR.2.eval hx;simp only [SV.den] at e1;have J7:=uy.mk' hE.h;obtain ⟨i,z',hi,Ol,YC,Ed,pX⟩:=J7.hi;have hzz:=dH hz.h hi Ol W;subst hzz;obtain ⟨kt,Zl⟩:=ie (P:=P) hR.1 hn hu
 have hr:(Builtin.clear_ #[t] ty #[.slice (some ⟨b,o1,none⟩) n1 c1]).run P W= .ok (.tuple #[]) (W.setCells b o1 (Builtin.zeroCells z.cells n1).toList):=by
  cases n1 with
  |zero=>omega
  |succ n1=>simp [Builtin.clear_,jG J7.ht,zeroValue,typeInfo,hi,Ol,kt]
 simp only [execOp,resolve,invoke,builtin,wP,xw,uo,e1,yz,xM,xh,hr];exact ⟨hd,fun _ _=>rfl,Zl,rfl⟩
theorem HW {e:TypeId} {k n cap b:Nat} {cs:List Value} (i:Nat) (hi:own[i]?=some (.zC (.slice (some ⟨b,0,none⟩) n cap) e k n cs)) (h:Wd w M0 hd M own W):
 ∃cur,cur.length=cap*k/\cur.take (n*k)=cs/\n<=cap/\cap<=maxLen/\Wd w M0 (fun j=>if j=i then ptr b else hd j) M (own.set i (.zK (ptr b) e cur)) W:=by
 have hO:=h.own i _ hi;obtain ⟨h0,_,⟨h1,_⟩|⟨b',arc,cur,h1,kJ,Zk,h2,h3,h4,h5⟩⟩:=id hO
 · rw [h0] at h1;cases h1
 · rw [h0] at h1;injection h1 with h1 _ h6;injection h1 with h1;injection h1 with h1;subst h1 h6;refine ⟨cur.toList,by simpa using h4,h5,h2,h3,?_⟩
   have hf: ∀j,yX (if j=i then ptr b else hd j)=yX (hd j):=fun j=>by
    split
    · rename_i e;subst e;rw [h0];rfl
    · rfl
   have kg:i<own.length:=(xI.1 hi).1
   have JS: ∀j oj,(own.set i (.zK (ptr b) e cur.toList))[j]?=some oj->oj≠Ob.gone-> ∃ok,own[j]?=some ok/\ok≠Ob.gone:=fun j oj hj uW=>by
    by_cases vN:j=i
    · subst vN;exact ⟨_,hi,by simp⟩
    · rw [Zb (uS vN)] at hj;exact ⟨oj,hj,uW⟩
   refine ⟨h.below,h.mem,h.wS,h.YW,fun j oj hj=>?_,fun j oj q hj uW hq=>?_,fun j k oj ok q hj hk uW gQ hq pZ=>?_⟩
   · by_cases vN:j=i
     · subst vN;rw [wC kg] at hj;obtain rfl:=qt hj;simp only [uR];exact ⟨rfl,b,rfl,kJ,Zk⟩
     · rw [Zb (uS vN)] at hj;simp only [zn vN];exact h.own j oj hj
   · rw [hf] at hq;obtain ⟨ok,h6,h7⟩:=JS j oj hj uW;exact h.sep j ok q h6 h7 hq
   · rw [hf] at hq pZ;obtain ⟨o1,h6,h7⟩:=JS j oj hj uW;obtain ⟨o2,h8,h9⟩:=JS k ok hk gQ;exact h.VX j k o1 o2 q h6 h8 h7 h9 hq pZ
theorem Dt {e:TypeId} {k n cap b:Nat} {cs cur:List Value} (i:Nat) (hi:own[i]?=some (.zK (ptr b) e cur)) (hl:cur.length=cap*k) (ht:cur.take (n*k)=cs) (hn:n<=cap) (hc:cap<=maxLen) (h:Wd w M0 hd M own W):
 Wd w M0 (fun j=>if j=i then .slice (some ⟨b,0,none⟩) n cap else hd j) M (own.set i (.zC (.slice (some ⟨b,0,none⟩) n cap) e k n cs)) W:=by
 have hO:=h.own i _ hi;obtain ⟨h0,b',h1,kJ,Zk⟩:=id hO;rw [h0] at h1;injection h1 with h1;injection h1 with h1;injection h1 with h1;subst h1
 have hf: ∀j,yX (if j=i then .slice (some ⟨b,0,none⟩) n cap else hd j)=yX (hd j):=fun j=>by
  split
  · rename_i e;subst e;rw [h0];rfl
  · rfl
 have kg:i<own.length:=(xI.1 hi).1
 have JS: ∀j oj,(own.set i (.zC (.slice (some ⟨b,0,none⟩) n cap) e k n cs))[j]?=some oj->oj≠Ob.gone-> ∃ok,own[j]?=some ok/\ok≠Ob.gone:=fun j oj hj uW=>by
  by_cases vN:j=i
  · subst vN;exact ⟨_,hi,by simp⟩
  · rw [Zb (uS vN)] at hj;exact ⟨oj,hj,uW⟩
 refine ⟨h.below,h.mem,h.wS,h.YW,fun j oj hj=>?_,fun j oj q hj uW hq=>?_,fun j k oj ok q hj hk uW gQ hq pZ=>?_⟩
 · by_cases vN:j=i
   · subst vN;rw [wC kg] at hj;obtain rfl:=qt hj;simp only [uR];refine ⟨rfl,?_, .inr ⟨b,cap,cur.toArray,rfl,kJ,Zk,hn,hc,by simpa using hl,by simpa using ht⟩⟩;rw [<-ht,yC,hl];exact jn (uB k hn)
   · rw [Zb (uS vN)] at hj;simp only [zn vN];exact h.own j oj hj
 · rw [hf] at hq;obtain ⟨ok,h6,h7⟩:=JS j oj hj uW;exact h.sep j ok q h6 h7 hq
 · rw [hf] at hq pZ;obtain ⟨o1,h6,h7⟩:=JS j oj hj uW;obtain ⟨o2,h8,h9⟩:=JS k ok hk gQ;exact h.VX j k o1 o2 q h6 h8 h7 h9 hq pZ
theorem Ud {e:TypeId} {k n cap b:Nat} {cs:List Value} {c:Code} {Q:zX} (hr:uw own (.zC (.slice (some ⟨b,0,none⟩) n cap) e k n cs) zw)
 (h: ∀cur,cur.length=cap*k->cur.take (n*k)=cs->n<=cap->cap<=maxLen->VC P w M0 N c ⟨M, .zK (ptr b) e cur::zw,env⟩ Q) (zV:yR env 0=true:=by rfl):VC P w M0 N c ⟨M,own,env⟩ Q:=by
 refine KE _ ?_ (ji.perm hr.h) zV
 exact .mk fun hd a W hR=>by
  obtain ⟨cur,h1,h2,h3,h4,h5⟩:=HW 0 rfl hR.1;exact (h cur h1 h2 h3 h4).go _ a W ⟨h5,hR.2.any zV _⟩
theorem dw {e:TypeId} {k n cap b:Nat} {cs:List Value} {ops:Array Oper} {l:List Oper} {Q:zX} (hr:uw own (.zC (.slice (some ⟨b,0,none⟩) n cap) e k n cs) zw)
 (h: ∀cur,cur.length=cap*k->cur.take (n*k)=cs->n<=cap->cap<=maxLen->VL P w M0 N ops l ⟨M, .zK (ptr b) e cur::zw,env⟩ Q) (zV:yR env 0=true:=by rfl):VL P w M0 N ops l ⟨M,own,env⟩ Q:=by
 refine wd _ ?_ (ji.perm hr.h) zV
 exact .mk fun hd a W hR=>by
  obtain ⟨cur,h1,h2,h3,h4,h5⟩:=HW 0 rfl hR.1;exact (h cur h1 h2 h3 h4).go _ a W ⟨h5,hR.2.any zV _⟩
theorem dx {e:TypeId} {k n cap b:Nat} {cur:List Value} {c:Code} {Q:zX} (hr:uw own (.zK (ptr b) e cur) zw) (hl:cur.length=cap*k) (hn:n<=cap) (hc:cap<=maxLen)
 (h:VC P w M0 N c ⟨M, .zC (.slice (some ⟨b,0,none⟩) n cap) e k n (cur.take (n*k))::zw,env⟩ Q) (zV:yR env 0=true:=by rfl):VC P w M0 N c ⟨M,own,env⟩ Q:=by
 refine KE _ ?_ (ji.perm hr.h) zV;exact .mk fun hd a W hR=>h.go _ a W ⟨Dt 0 rfl hl rfl hn hc hR.1,hR.2.any zV _⟩
theorem Qm {e:TypeId} {k n cap b:Nat} {cur:List Value} {ops:Array Oper} {l:List Oper} {Q:zX} (hr:uw own (.zK (ptr b) e cur) zw) (hl:cur.length=cap*k) (hn:n<=cap) (hc:cap<=maxLen)
 (h:VL P w M0 N ops l ⟨M, .zC (.slice (some ⟨b,0,none⟩) n cap) e k n (cur.take (n*k))::zw,env⟩ Q) (zV:yR env 0=true:=by rfl):VL P w M0 N ops l ⟨M,own,env⟩ Q:=by
 refine wd _ ?_ (ji.perm hr.h) zV;exact .mk fun hd a W hR=>h.go _ a W ⟨Dt 0 rfl hl rfl hn hc hR.1,hR.2.any zV _⟩
theorem HH {x y:Operand} {t e:TypeId} {u:Value} {b2 o2 k n m c bytes:Nat} {xs us:List Value} [hE:kr P t e k bytes] (hx:env.op x=some (.v u)) (hy:env.op y=some (.v (.slice (some ⟨b2,o2,none⟩) m c)))
 (hr:uw own (.zC u e k n xs) zw) (hl:us.length=m*k) (hs:Y1 M own b2 o2 us) (hu:us.all (·.oneCell')=true) (h0:0<m) (gW:n+m<=maxLen) (va:(n+m)*bytes<=140737488355328) (zV:yR env 0=true) {a:Act} (hR:Rel w M0 N hd ⟨M,own,env⟩ a W):
 ∃v W' yE,(execOp a.eval ⟨dst, .call ⟨.builtin .append, #[x,y], #[t,t]⟩,ty,pos,z7,g⟩).run P W= .ok (.value v) W'/\j2 v (n+m)/\Wd w M0 yE M (.zC v e k (n+m) (xs++us)::zw) W':=by
 have J7:=uy.mk' hE.h;have uA:=fun (j:Nat) (v:Value) (hv:us[j]?=some v)=>hs.cell hR.1 j v hv
 obtain ⟨Zy,h1⟩:=hR.1.KJ (ji.perm hr.h);have hO:=h1.own 0 _ rfl;obtain ⟨v',W',r1,r2,r3,r4⟩:=YP (P:=P) (ty:=ty) (t:=t) J7 hO.2 (a:=⟨b2,o2,none⟩) (m:=m) (c:=c) hl (fun q u hq=>by rw [vG];exact uA q u hq) (fun u KK=>yw.1 hu u KK) h0 gW va h1.below.size;have e1:=hR.2.eval hx;have e2:=hR.2.eval hy;simp only [SV.den] at e1 e2;have JT:=h1.app (i:=0) (o':= .zC v' e k (n+m) (xs++us)) rfl yx r3 VA ⟨rfl,r2⟩ r4
 obtain ⟨uN,h2⟩:=JT.KJ (zw:= .zC v' e k (n+m) (xs++us)::zw) ⟨[.gone],by
  show (Ob.gone::(zw++ [_])).Perm _;refine (uQ (l₁:= [Ob.gone])).trans ?_;exact Sf [Ob.gone] (uQ (l₁:=zw))⟩
 have e1':a.eval x=Zy 0:=by rw [e1];exact hO.1.symm
 refine ⟨v',W',uN,?_,uJ r2,h2⟩;rw [ZQ e1' e2,r1];rfl
theorem ft {x y:Operand} {t e:TypeId} {u:Value} {b2 o2 k n m c bytes:Nat} {xs us:List Value} {ops:Array Oper} {l:List Oper} {Q:zX} [hE:kr P t e k bytes] (hx:env.op x=some (.v u)) (hy:env.op y=some (.v (.slice (some ⟨b2,o2,none⟩) m c)))
 (hr:uw own (.zC u e k n xs) zw) (hl:us.length=m*k) (hs:Y1 M own b2 o2 us) (hu:us.all (·.oneCell')=true) (h0:0<m) (gW:n+m<=maxLen) (va:(n+m)*bytes<=140737488355328) (hk:yi N dst=true) (zV:yR env 0=true)
 (h: ∀v,j2 v (n+m)->VL P w M0 N ops l ⟨M, .zC v e k (n+m) (xs++us)::zw,env.put dst (.v v)⟩ Q):
 VL P w M0 N ops (⟨dst, .call ⟨.builtin .append, #[x,y], #[t,t]⟩,ty,pos,z7,none⟩::l) ⟨M,own,env⟩ Q:= .mk fun hd a W hR=>by
 refine v8 rfl fun K hK=>?_
 unfold Oper.wp;obtain ⟨v,W',yE,h1,h2,h3⟩:=HH (P:=P) (t:=t) (dst:=dst) (ty:=ty) (pos:=pos) (z7:=z7) (g:=none) hx hy hr hl hs hu h0 gW va zV hR;rw [h1];simp only [Oper.upon];exact hK _ _ ((h v h2).go yE _ W' ⟨h3,(hR.2.any zV yE).put hk (.v v)⟩)
end
end
end Go.Proofs.YtaibdpjjojihmaaGreat
