/- A part of the proof of TopPrefix; no conditions. -/
import Derived.Test.YtaibdpjjojihmaaGreatPHp
import Derived.Lib.Overlaps
set_option linter.unusedVariables false
set_option linter.unusedSimpArgs false
set_option maxRecDepth 20000
set_option maxHeartbeats 4000000
namespace Go.Proofs.YtaibdpjjojihmaaGreat
section
open Go Go.RowKit
attribute [local irreducible] Calls
def ab5 (P:Program) (t:TypeId) (name:String) (f:FuncId) (te:TypeId):Bool:=
 (match P.underlying t with|some (.pointer e)=>Nat.beq e te|_=>false)&&L7 P te&&(match P.info? t with|some i=>(match i.methods.find? (·.name==name) with|some m=>m.path.isEmpty&&(match m.func with|some (h,false)=>Nat.beq h f|_=>false)|none=>false)|none=>false)
class Hl (P:Program) (t:TypeId) (name:String) (f:outParam FuncId) (te:outParam TypeId):Prop where
 h:ab5 P t name f te=true
instance (priority:=low) DS.left (X l:List Ob) (b:Nat) (t:TypeId) (cs:List Value) [i:DS X b t cs]:DS (X++l) b t cs:=⟨by obtain ⟨i,h⟩:=i.h;exact ⟨i,by rw [wE (xI.1 h).1];exact h⟩⟩
class Lc (own:List Ob) (b:Nat) (o:outParam Ob):Prop where
 h: ∃i:Nat,own[i]?=some o/\o.Wy=some b
instance (priority:=high) Lc.qZ (b off:Nat) (t:TypeId) (cs:List Value) (l:List Ob):Lc (.zK (.pointer (some ⟨b,off,none⟩)) t cs::l) b (.zK (.pointer (some ⟨b,off,none⟩)) t cs):=⟨0,rfl,rfl⟩
instance (priority:=high) Lc.row (b off n c:Nat) (e:TypeId) (k m:Nat) (cs:List Value) (l:List Ob):Lc (.zC (.slice (some ⟨b,off,none⟩) n c) e k m cs::l) b (.zC (.slice (some ⟨b,off,none⟩) n c) e k m cs):=⟨0,rfl,rfl⟩
instance Lc.cons (o p:Ob) (l:List Ob) (b:Nat) [i:Lc l b o]:Lc (p::l) b o:=⟨by obtain ⟨i,h⟩:=i.h;exact ⟨i+1,h⟩⟩
class NX (own:List Ob) (b:Nat) (cs Zn:List Value) (zw:outParam (List Ob)):Prop where
 h: ∃(i:Nat) (u:Value) (e:TypeId) (k n:Nat),own[i]?=some (Ob.zC u e k n cs)/\yX u=some b/\zw=own.set i (.zC u e k n Zn)
instance (priority:=high) NX.one (b off m c:Nat) (e:TypeId) (k n:Nat) (cs Zn:List Value) (l:List Ob):NX (.zC (.slice (some ⟨b,off,none⟩) m c) e k n cs::l) b cs Zn (.zC (.slice (some ⟨b,off,none⟩) m c) e k n Zn::l):=⟨0,_,e,k,n,rfl,rfl,rfl⟩
instance NX.cons (o:Ob) (l l':List Ob) (b:Nat) (cs Zn:List Value) [i:NX l b cs Zn l']:NX (o::l) b cs Zn (o::l'):=⟨by obtain ⟨i,u,e,k,n,h1,h2,h3⟩:=i.h;exact ⟨i+1,u,e,k,n,h1,h2,by rw [h3];rfl⟩⟩
instance NX.app (X l l':List Ob) (b:Nat) (cs Zn:List Value) [i:NX l b cs Zn l']:NX (X++l) b cs Zn (X++l'):=⟨by
 obtain ⟨i,u,e,k,n,h1,h2,h3⟩:=i.h;exact ⟨X.length+i,u,e,k,n,by rw [kF ze,JG];exact h1,h2,by rw [h3,YF _ _ ze,JG]⟩⟩
section
variable {P:Program} {w:World} {M0:Mem} {N:Nat} {dst:Option Tmp} {ty:TypeId} {pos:String} {z7:Array Edge} {g:Option (Nat×Bool)} {M:Mem} {own zw:List Ob} {env:Env}
theorem TS {t:TypeId} {x:Operand} {b off:Nat} {o:Ob} {us:List Value} {u:Value} [ht:ux P t] (hx:env.op x=some (.v (.pointer (some ⟨b,off,none⟩)))) (hu:us[off]?=some u) (ha:Lc own b o:=by infer_instance) (hc:o.cells=us:=by rfl):QS P w M0 N ⟨dst, .load t x,ty,pos,z7,g⟩ ⟨M,own,env⟩ (.v u):=by
 obtain ⟨i,h1,h2⟩:=ha.h;subst hc;exact yp i hx h1 h2 hu
theorem Oi {t:TypeId} {x:Operand} {b off n:Nat} {o:Ob} {cs us:List Value} [ht:X2 P t n] (hx:env.op x=some (.v (.pointer (some ⟨b,off,none⟩)))) (hu:(cs.drop off).take n=us) (hn:off+n<=cs.length) (ha:Lc own b o:=by infer_instance) (hc:o.cells=cs:=by rfl):QS P w M0 N ⟨dst, .load t x,ty,pos,z7,g⟩ ⟨M,own,env⟩ (.v (.agg us.toArray)):=by
 obtain ⟨i,h1,h2⟩:=ha.h;subst hc;rw [<-hu];exact rV (P:=P) (w:=w) (M0:=M0) (N:=N) (s:=⟨M,own,env⟩) (dst:=dst) (ty:=ty) (pos:=pos) (z7:=z7) (g:=g) (t:=t) i hx h1 h2 hn
theorem Qd {f:FuncId} {t te t':TypeId} {name:String} {x:Operand} {b off:Nat} {cs:List Value} {u:Value} {xs:Array Operand} {qz:Array TypeId} {vs:List Value} [hm:Hl P t name f te] [hf:zG P f] (hx:env.op x=some (.v (.iface t (.pointer (some ⟨b,off,none⟩))))) (hv:env.kP xs.toList=some vs) (ha:DS own b t' cs) (hu:cs[off]?=some u):Ent P w M0 N ⟨dst, .call ⟨.invoke x name,xs,qz⟩,ty,pos,z7,g⟩ ⟨M,own,env⟩ f (u::vs):=fun hd a W hR=>by
 have h1:=Env.ZG hR.2 _ _ hv;have h2:=hR.2.eval hx;simp only [SV.den] at h2;have e:xs.map a.eval=vs.toArray:=by rw [<-h1];cases xs;simp
 obtain ⟨i0,WE⟩:=ha.h;have uA:=ku (hR.1.own i0 _ WE) (off:=off) (u:=u) hu;have h0:=(hR.1.own i0 _ WE).1;rw [h0] at uA;simp only [yX,Kz] at uA;have h3:=hm.h;unfold ab5 at h3;rw [yF,yF] at h3;obtain ⟨⟨h4,h40⟩,h5⟩:=h3;split at h4
 case h_2=>cases h4
 rename_i te' KK
 obtain rfl:=qA h4;split at h5
 case h_2=>cases h5
 rename_i i hi
 split at h5
 case h_2=>cases h5
 rename_i m Tp
 rw [yF] at h5;obtain ⟨h6,h7⟩:=h5;split at h7
 case h_2=>cases h7
 rename_i h Oq
 obtain rfl:=qA h7;have hp:m.path= #[]:=by simpa using h6
 have hme:(method (P.types.size+Made.depth) t (.pointer (some ⟨b,off,none⟩)) name).run P W= .ok (h,u) W:=by
  have Xo:0<Made.depth:=by decide
  obtain ⟨k,hk⟩: ∃k,P.types.size+Made.depth=k+1:=⟨P.types.size+Made.depth-1,ze⟩;have hw: ∀s,(Builtin.ssaWrapNilChk_ #[t] t #[.pointer (some ⟨b,off,none⟩),strVal "",strVal s]).run P W= .ok (.pointer (some ⟨b,off,none⟩)) W:=fun _=>rfl
  rw [hk];simp [method,typeInfo,hi,Tp,hp,follow,Oq,receiverAt,jG KK,Place.get,hw,asAddr,loadVar,vr h40,uA]
 have hpr:(Sem.program Sem.pure).run P W= .ok P W:=rfl;simp only [execOp,resolve,e,h2,yz,xM,xh,invoke];simp [callMethod,program,hpr,hme,Je hf.h]
theorem nN {e:TypeId} {k n m cap b:Nat} {cs:List Value} {c:Code} {r:List Ob} {Q:zX} (hm:m<=n) (h:VC P w M0 N c ⟨M, .zC (.slice (some ⟨b,0,none⟩) m cap) e k m (cs.take (m*k))::r,env⟩ Q) (zV:yR env 0=true:=by rfl):VC P w M0 N c ⟨M, .zC (.slice (some ⟨b,0,none⟩) n cap) e k n cs::r,env⟩ Q:=
 Ud (uw.one _ _) (fun cur h1 h2 h3 h4=>dx (k:=k) (n:=m) (cap:=cap) (uw.one _ _) h1 ze h4 (by
  rw [<-h2,wO,jn (uB k hm)] at h;exact h) zV) zV
theorem Z1 (b q m k:Nat):sliced (some ⟨b,0,none⟩) 0 q m k= .slice (some ⟨b,0,none⟩) q m:=by
 unfold sliced;split<;>simp_all [Addr.add]
theorem x6 (b q n c k:Nat) (h:q<c):sliced (some ⟨b,0,none⟩) q n c k= .slice (some ⟨b,q*k,none⟩) (n-q) (c-q):=by
 unfold sliced;rw [zn ze];simp [Addr.add];exact fun h=>h.symm
theorem KN (z:Array Value) (n:Nat):(Builtin.zeroCells z n).toList.length=n*z.size:=by rw [mZ,aT]
theorem Wg.mk {Mc:Mem} {hv:Value} {name:String} {vs us:List Value} {pre post zO o1 G:List Ob} {r:Value} {f:FuncId} (hE: ∀(w:World) (M0:Mem) (N:Nat) (M:Mem) (env:Env) (dst:Option Tmp) (ty:TypeId) (pos:String) (z7:Array Edge) (x:Operand) (xs:Array Operand) (qz:Array TypeId) (F:List Ob),env.op x=some (.v hv)->env.kP xs.toList=some vs->Ent P w M0 N ⟨dst, .call ⟨.invoke x name,xs,qz⟩,ty,pos,z7,none⟩ ⟨M,pre++F,env⟩ f us)
 (hc: ∀M,Mc.le M->zu P f us M zO (fun u M' o=>u=r/\M'=M/\o=o1)) (ht:uu pre zO G) (hs:ji (o1++G) post):Wg P Mc hv name vs pre post r:=fun w M0 N M own env dst ty pos z7 ops l Q x xs qz F hM hx hv ht' hn hd zV hk=>by
 refine wd (pre++F) ?_ (ji.perm ht'.h) zV;have Om:uu (pre++F) zO (G++F):=⟨by have:=ht.h.append_right F;rwa [xY] at this⟩;refine nL (hE w M0 N M env dst ty pos z7 x xs qz F hx hv) (hc M hM) Om (hn.J1 ht'.h) hd zV ?_;rintro _ _ _- -⟨rfl,rfl,rfl⟩;refine wd _ hk ?_ (kS zV);obtain ⟨D,hD⟩:=hs;refine ⟨D,?_⟩;have h1:=hD.append_right F;rw [xY] at h1;refine h1.trans ?_;rw [xY,xY];exact (uQ (l₁:=D)).append_left post
theorem ah7 {t e:TypeId} {x y:Operand} {b off k n:Nat} {u0 u:Value} {cs:List Value} (i:Nat) [ht:jJ P t 1] (hx:env.op x=some (.v (.pointer (some ⟨b,off,none⟩)))) (vE:off<cs.length) (hy:env.op y=some (.v u):=by rfl) (hi:own[i]?=some (.zC u0 e k n cs):=by rfl) (hf:yX u0=some b:=by rfl) (hu:u.oneCell'=true:=by first|rfl|assumption):
 EF P w M0 N ⟨dst, .store t x y,ty,pos,z7,g⟩ ⟨M,own,env⟩ (own.set i (.zC u0 e k n (cs.set off u))) (.v undef):=Xn (Qr i hx hy hi hf vE hu) yx
theorem ah6 {t e:TypeId} {x y:Operand} {b off k n n1:Nat} {u0:Value} {us cs:List Value} (i:Nat) [ht:jJ P t n1] (hx:env.op x=some (.v (.pointer (some ⟨b,off,none⟩)))) (vE:off+n1<=cs.length) (hy:env.op y=some (.v (.agg us.toArray)):=by rfl) (hi:own[i]?=some (.zC u0 e k n cs):=by rfl) (hf:yX u0=some b:=by rfl) (hu:us.all (·.oneCell')=true:=by first|rfl|assumption) (hz:us.length=n1:=by rfl):
 EF P w M0 N ⟨dst, .store t x y,ty,pos,z7,g⟩ ⟨M,own,env⟩ (own.set i (.zC u0 e k n (jT cs off us))) (.v undef):=Xn (DZ i hx hy hi hf vE hu (by simpa using hz)) yx
theorem aev {t:TypeId} {x y:Operand} {b off:Nat} {u:Value} [ht:jJ P t 1] (hx:env.op x=some (.v (.pointer (some ⟨b,off,none⟩)))) (hy:env.op y=some (.v u):=by rfl) (hu:u.oneCell'=true:=by first|rfl|assumption) (hn:Kd own b off [u] zw:=by infer_instance):EF P w M0 N ⟨dst, .store t x y,ty,pos,z7,g⟩ ⟨M,own,env⟩ zw (.v undef):=by
 obtain ⟨i,t',cs,h1,h2,rfl⟩:=hn.h;exact Xn (Hq i hx hy h1 rfl (VI hu) h2 (by simp [hu]) ht.h) yx
theorem RE {t:TypeId} {x y:Operand} {b off n:Nat} {us:List Value} [ht:jJ P t n] (hx:env.op x=some (.v (.pointer (some ⟨b,off,none⟩)))) (hy:env.op y=some (.v (.agg us.toArray)):=by rfl) (hu:us.all (·.oneCell')=true:=by first|rfl|assumption) (hn:Kd own b off us zw:=by infer_instance) (hz:us.length=n:=by rfl):EF P w M0 N ⟨dst, .store t x y,ty,pos,z7,g⟩ ⟨M,own,env⟩ zw (.v undef):=by
 obtain ⟨i,t',cs,h1,h2,rfl⟩:=hn.h;exact Xn (Hq i hx hy h1 rfl rfl h2 hu (by rw [hz];exact ht.h)) yx
theorem SN (b:Nat) {u:Value} {e:TypeId} {k n:Nat} {cs:List Value} {c:Code} {Q:zX} [hr:Lc own b (.zC u e k n cs)] (h:j2 u n->VC P w M0 N c ⟨M,own,env⟩ Q):VC P w M0 N c ⟨M,own,env⟩ Q:= .mk fun hd a W hR=>by
 obtain ⟨i,h1,h2⟩:=hr.h;have hO:=hR.1.own _ _ h1;have:=uJ hO.2;rw [hO.1] at this;exact (h this).go hd a W hR
theorem Sw (b:Nat) {u:Value} {e:TypeId} {k n:Nat} {cs:List Value} {ops:Array Oper} {l:List Oper} {Q:zX} [hr:Lc own b (.zC u e k n cs)] (h:j2 u n->VL P w M0 N ops l ⟨M,own,env⟩ Q):VL P w M0 N ops l ⟨M,own,env⟩ Q:= .mk fun hd a W hR=>by
 obtain ⟨i,h1,h2⟩:=hr.h;have hO:=hR.1.own _ _ h1;have:=uJ hO.2;rw [hO.1] at this;exact (h this).go hd a W hR
theorem VK {b n c m:Nat} (h:j2 (.slice (some ⟨b,0,none⟩) n c) m):n<=c/\c<=maxLen:=by
 rcases h with ⟨h,_⟩|⟨b',c',h,h1,h2⟩
 · cases h
 · injection h with _ h3 h4;subst h3 h4;exact ⟨h1,h2⟩
theorem S6 {t:TypeId} {x y:Operand} {b off:Nat} {v:Value} {us cs Zn:List Value} (hx:env.op x=some (.v (.pointer (some ⟨b,off,none⟩)))) (vE:off+us.length<=cs.length) (he:jT cs off us=Zn) (hy:env.op y=some (.v v)) (hv:(us= [v]/\v.oneCell'=true/\wW P t 1=true)\/(v= .agg us.toArray/\wW P t us.length=true)) (hr:NX own b cs Zn zw) (hu:us.all (·.oneCell')=true):
 EF P w M0 N ⟨dst, .store t x y,ty,pos,z7,g⟩ ⟨M,own,env⟩ zw (.v undef):=by
 obtain ⟨i,u0,e,k,n,h1,h2,rfl⟩:=hr.h;subst he;rcases hv with ⟨rfl,h3,h4⟩|⟨rfl,h4⟩
 · haveI:jJ P t 1:=⟨h4⟩;exact Xn (Qr i hx hy h1 h2 vE h3) yx
 · haveI:jJ P t us.length:=⟨h4⟩;exact Xn (DZ i hx hy h1 h2 vE hu rfl) yx
theorem fr1 {t:TypeId} {x y:Operand} {b off:Nat} {u:Value} {cs Zn:List Value} [ht:jJ P t 1] (hx:env.op x=some (.v (.pointer (some ⟨b,off,none⟩)))) (vE:off<cs.length) (he:cs.set off u=Zn) (hy:env.op y=some (.v u):=by rfl) (hu:u.oneCell'=true:=by first|rfl|assumption) (hr:NX own b cs Zn zw:=by infer_instance):EF P w M0 N ⟨dst, .store t x y,ty,pos,z7,g⟩ ⟨M,own,env⟩ zw (.v undef):=
 S6 (us:= [u]) hx vE he hy (.inl ⟨rfl,hu,ht.h⟩) hr (by simp [hu])
theorem frN {t:TypeId} {x y:Operand} {b off n:Nat} {us cs Zn:List Value} [ht:jJ P t n] (hx:env.op x=some (.v (.pointer (some ⟨b,off,none⟩)))) (vE:off+us.length<=cs.length) (he:jT cs off us=Zn) (hy:env.op y=some (.v (.agg us.toArray)):=by rfl) (hu:us.all (·.oneCell')=true:=by first|rfl|assumption) (hz:us.length=n:=by rfl) (hr:NX own b cs Zn zw:=by infer_instance):EF P w M0 N ⟨dst, .store t x y,ty,pos,z7,g⟩ ⟨M,own,env⟩ zw (.v undef):=
 S6 hx vE he hy (.inr ⟨rfl,by rw [hz];exact ht.h⟩) hr hu
theorem kr1 {t:TypeId} {x y:Operand} {b off:Nat} {u:Value} {cs Zn:List Value} {ops:Array Oper} {l:List Oper} {Q:zX} [ht:jJ P t 1] (hx:env.op x=some (.v (.pointer (some ⟨b,off,none⟩)))) (vE:off<cs.length) (he:cs.set off u=Zn) (h:VL P w M0 N ops l ⟨M,zw,env.put dst (.v undef)⟩ Q) (hy:env.op y=some (.v u):=by rfl) (hu:u.oneCell'=true:=by first|rfl|assumption) (hr:NX own b cs Zn zw:=by infer_instance) (hk:yi N dst=true:=by rfl) (zV:yR env 0=true:=by rfl):
 VL P w M0 N ops (⟨dst, .store t x y,ty,pos,z7,none⟩::l) ⟨M,own,env⟩ Q:=Xl _ _ (fr1 hx vE he hy hu hr) hk (vg zV) h
theorem krN {t:TypeId} {x y:Operand} {b off n:Nat} {us cs Zn:List Value} {ops:Array Oper} {l:List Oper} {Q:zX} [ht:jJ P t n] (hx:env.op x=some (.v (.pointer (some ⟨b,off,none⟩)))) (vE:off+us.length<=cs.length) (he:jT cs off us=Zn) (h:VL P w M0 N ops l ⟨M,zw,env.put dst (.v undef)⟩ Q) (hy:env.op y=some (.v (.agg us.toArray)):=by rfl) (hu:us.all (·.oneCell')=true:=by first|rfl|assumption) (hz:us.length=n:=by rfl) (hr:NX own b cs Zn zw:=by infer_instance) (hk:yi N dst=true:=by rfl) (zV:yR env 0=true:=by rfl):
 VL P w M0 N ops (⟨dst, .store t x y,ty,pos,z7,none⟩::l) ⟨M,own,env⟩ Q:=Xl _ _ (frN hx vE he hy hu hz hr) hk (vg zV) h
def RV (P:Program) (w:World) (M0:Mem) (N:Nat) (s:St) (r:ResultVar) (v:Value):Prop:= ∀hd a W,Rel w M0 N hd s a W->(pK P a.tmps r).run P W= .ok v W
def kB (P:Program) (w:World) (M0:Mem) (N:Nat) (fn:Func) (s:St) (v:Value):Prop:= ∀hd a W,Rel w M0 N hd s a W->(results fn a.tmps).run P W= .ok v W
theorem RV.tmp {s:St} {t:Tmp} {v:Value} (h:s.env.get t=some (.v v)):RV P w M0 N s (.tmp t) v:=fun hd a W hR=>YR hR (show We P s (.tmp t) v from h)
theorem RV.agg {t t':TypeId} {p:Tmp} {b n:Nat} {cs:List Value} [ht:X2 P t n] (h:env.get p=some (.v (.pointer (some ⟨b,0,none⟩)))) (ha:DS own b t' cs:=by infer_instance) (hn:cs.length=n:=by rfl):RV P w M0 N ⟨M,own,env⟩ (.cell p t) (.agg cs.toArray):=fun hd a W hR=>by
 obtain ⟨i,hi⟩:=ha.h;have h4:=hR.2.env p _ h;have h5:a.tmps.getD p undef= .pointer (some ⟨b,0,none⟩):=by simp [h4,SV.den]
 have hO:=hR.1.own i _ hi;simp only [pK,h5,asAddr,yz,xM,xh]
 exact wm (fun j u hu=>by
  rw [xu];have:=ku hO (off:=j) (u:=u) hu;rw [hO.1] at this;exact this) (by rw [hn];exact ht.h)
theorem kB.one {fn:Func} {s:St} {r:ResultVar} {v:Value} (h:fn.results= #[r]) (h1:RV P w M0 N s r v):kB P w M0 N fn s v:=fun hd a W hR=>by
 rw [YQ (P:=P),h];simp [h1 hd a W hR]
theorem kB.two {fn:Func} {s:St} {r1 r2:ResultVar} {v1 v2:Value} (h:fn.results= #[r1,r2]) (h1:RV P w M0 N s r1 v1) (h2:RV P w M0 N s r2 v2):kB P w M0 N fn s (.tuple #[v1,v2]):=fun hd a W hR=>by
 rw [YQ (P:=P),h];simp [h1 hd a W hR,h2 hd a W hR]
theorem kB.three {fn:Func} {s:St} {r1 r2 r3:ResultVar} {v1 v2 v3:Value} (h:fn.results= #[r1,r2,r3]) (h1:RV P w M0 N s r1 v1) (h2:RV P w M0 N s r2 v2) (h3:RV P w M0 N s r3 v3):kB P w M0 N fn s (.tuple #[v1,v2,v3]):=fun hd a W hR=>by
 rw [YQ (P:=P),h];simp [h1 hd a W hR,h2 hd a W hR,h3 hd a W hR]
theorem kB.four {fn:Func} {s:St} {r1 r2 r3 r4:ResultVar} {v1 v2 v3 v4:Value} (h:fn.results= #[r1,r2,r3,r4]) (h1:RV P w M0 N s r1 v1) (h2:RV P w M0 N s r2 v2) (h3:RV P w M0 N s r3 v3) (h4:RV P w M0 N s r4 v4):kB P w M0 N fn s (.tuple #[v1,v2,v3,v4]):=fun hd a W hR=>by
 rw [YQ (P:=P),h];simp [h1 hd a W hR,h2 hd a W hR,h3 hd a W hR,h4 hd a W hR]
theorem KC {f:FuncId} {fn:Func} {c:Code} {args:List Value} {zO:List Ob} {R:Value->Mem->List Ob->Prop} (hf:P.funcs[f]?=some fn) (hb:fn.body=some c) (hn:fn.ntmps=N) (hk:Nat.ble args.length N=true)
 (h: ∀(F:List Ob) (w:World) (M0:Mem),jI F->VC P w M0 N c ⟨M,zO++F,vL 0 args⟩ (ay fun s=> ∃v zw,kB P w M0 N fn s v/\M.le s.M/\jI zw/\ji s.own (zw++F)/\R v s.M zw)):zu P f args M zO R:=fun F hF w M0 hd W hW=>by
 have U5:args.length<=N:=Xk hk;refine eJ hf hb (vZ ((h F w M0 hF).go hd _ W ⟨hW,fun t sv ht=>?_,?_,rfl⟩) ?_)
 · obtain ⟨v,_,h1,rfl⟩:=ui args 0 t sv ht;have Uz:args[t]?=some v:=by simpa using h1
   have z9:=(xI.1 Uz).1;show (args.toArray++_)[t]?=some v;rw [du (by simpa using z9)];simpa using Uz
 · simp [hn];omega
 · rintro e a' W' ⟨yE,s',uE,hq⟩
   have key:(∃v zw,kB P w M0 N fn s' v/\M.le s'.M/\jI zw/\ji s'.own (zw++F)/\R v s'.M zw)->a'.defers= []/\ ∃v,(results fn a'.tmps).run P W'= .ok v W'/\ ∃u yE zw M',Ending.returned v= .returned u/\M.le M'/\jI zw/\Wd w M0 yE M' (zw++F) W'/\R u M' zw:=by
    rintro ⟨v,zw,h1,hle,h2,h3,h4⟩;obtain ⟨uN,hW2⟩:=uE.1.KJ h3;exact ⟨uE.2.defers,v,h1 _ _ _ uE,v,uN,zw,s'.M,rfl,hle,h2,hW2,h4⟩
   cases e with
   |ret=>exact key hq
   |normal=>exact key hq
   |exit id=>exact hq.elim
   |goto l=>exact hq.elim
   |panic c=>exact hq.elim
   |outgrown=>exact hq.elim
end
theorem mX (l:List Oper): ∀(n m i j:Nat),n<=m->Be l n i j=true->Be l m i j=true
 |0,m,i,j,_,h=>by unfold Be at h;cases h
 |n+1,m,i,j,hm,h=>by
  obtain ⟨m,rfl⟩: ∃q,m=q+1:=⟨m-1,ze⟩;unfold Be at h⊢;cases ho:l[i]? with
  |none=>rw [ho] at h;cases h
  |some o=>
   rw [ho] at h;simp only [Aq,yF,YY] at h⊢;obtain ⟨e,h1,h2,h3⟩:=h;refine ⟨e,h1,h2,?_⟩;rcases h3 with h3|h3
   · exact .inl h3
   · exact .inr (mX l n m e.on j ze h3)
def TP (d:Nat) (l:List Oper) (xz:List Nat) (i:Nat):Bool:=xz.all fun j=>!Be l d i j
theorem SC {P:Program} {w:World} {M0:Mem} {N:Nat} (d:Nat) {gs:List Nat} {n0:Nat} {l:List Oper} {s:St} {Q:St->Prop} {n k:Nat} {xz:List Nat} (h:NT P w M0 N gs n0 l n (k::xz) ((k::xz).filter (TP d l (k::xz))) s Q) (hd:d<=4:=by decide):VF P w M0 N gs n0 l (n+1) (k::xz) s Q:=⟨fun e=>(by cases e),fun i hi=>h.go i (by
 rw [ZE] at hi⊢;refine ⟨hi.1,?_⟩;have h2:=hi.2;unfold TQ at h2;unfold TP;rw [yw] at h2⊢;intro j hj;have h3:=h2 j hj;cases ha:Be l d i j with
 |false=>rfl
 |true=>rw [mX l d 4 i j hd ha] at h3;cases h3)⟩
end
section
open Go Go.RowKit
class nQ (own:List Ob) (v:Value) (e:outParam TypeId) (k n:outParam Nat) (cs:outParam (List Value)) (zw:outParam (List Ob)):Prop where
 h:uw own (.zC v e k n cs) zw
instance (priority:=high) nQ.one (v:Value) (e:TypeId) (k n:Nat) (cs:List Value) (l:List Ob):nQ (.zC v e k n cs::l) v e k n cs l:=⟨uw.one _ _⟩
instance nQ.cons (o:Ob) (v:Value) (e:TypeId) (k n:Nat) (cs:List Value) (l l':List Ob) [i:nQ l v e k n cs l']:nQ (o::l) v e k n cs (o::l'):=⟨haveI:=i.h;uw.cons _ _ _ _⟩
instance nQ.app (X:List Ob) (v:Value) (e:TypeId) (k n:Nat) (cs:List Value) (l l':List Ob) [i:nQ l v e k n cs l']:nQ (X++l) v e k n cs (X++l'):=⟨haveI:=i.h;uw.app _ _ _ _⟩
class NW (own:List Ob) (i:Nat) (zw:outParam (List Ob)):Prop where
 h:own.set i .gone=zw
instance NW.zero (o:Ob) (l:List Ob):NW (o::l) 0 (.gone::l):=⟨rfl⟩
instance NW.succ (o:Ob) (l l':List Ob) (n:Nat) [i:NW l n l']:NW (o::l) (n+1) (o::l'):=⟨by rw [Ub,i.h]⟩
class dy (gs:List Nat) (own:List Ob) (zw:outParam (List Ob)):Prop where
 h:y8 gs own=zw
instance dy.nil (own:List Ob):dy [] own own:=⟨rfl⟩
instance dy.cons (j:Nat) (gs:List Nat) (own zO ll:List Ob) [i:NW own j zO] [k:dy gs zO ll]:dy (j::gs) own ll:=⟨by unfold y8;rw [i.h,k.h]⟩
section
variable {P:Program} {w:World} {M0:Mem} {N:Nat} {dst:Option Tmp} {ty:TypeId} {pos:String} {z7:Array Edge} {g:Option (Nat×Bool)} {M:Mem} {own zw:List Ob} {env:Env}
theorem qm0 {t:TypeId} {x:Operand} {f b off:Nat} {s:St} [hf:yA P t f off] (hx:s.env.op x=some (.v (.pointer (some ⟨b,0,none⟩)))):QS P w M0 N ⟨dst, .fieldAddr t x f,ty,pos,z7,g⟩ s (.v (.pointer (some ⟨b,off,none⟩))):=by
 have:=qmf (P:=P) (w:=w) (M0:=M0) (N:=N) (dst:=dst) (ty:=ty) (pos:=pos) (z7:=z7) (g:=g) (t:=t) (f:=f) (off:=off) hx
 rwa [xu] at this
theorem uU (e:TypeId) (k:Nat) {c:Code} {Q:zX} (h:VC P w M0 N c ⟨M, .zC (.slice none 0 0) e k 0 []::own,env⟩ Q) (zV:yR env 0=true:=by rfl):VC P w M0 N c ⟨M,own,env⟩ Q:=
 AJ e k (vg zV) (KE _ h (ji.perm uQ) zV)
theorem Qa {e:Env} {i:Nat} {v:Value} {dst:Option Tmp} (h:yR e 0=true):JV i v (e.put dst (.r i))=e.put dst (.v v):=by
 cases dst with
 |none=>exact K9 h
 |some t=>
  show (t,SV.frz i _ (.r i))::JV i _ e=(t,_)::e;rw [K9 h];simp [SV.frz]
theorem xB {v:Value} {n:Nat} (h:j2 v n) (hn:0<n): ∃b c,v= .slice (some ⟨b,0,none⟩) n c/\n<=c/\c<=maxLen:=by
 rcases h with ⟨_,h⟩|⟨b,c,h1,h2,h3⟩
 · omega
 · exact ⟨b,c,h1,h2,h3⟩
theorem PV {t e:TypeId} {x:Operand} {u:Value} {us:List Value} {k bytes:Nat} {ops:Array Oper} {l:List Oper} {Q:zX} [hE:kr P t e k bytes] (hx:env.op x=some (.v u)) (hc:Le u us) (hl:us.length=k) (qG:Nat.ble k 1000000=true)
 (h: ∀b c,VL P w M0 N ops l ⟨M, .zC (.slice (some ⟨b,0,none⟩) 1 c) e k 1 us::own,env.put dst (.v (.slice (some ⟨b,0,none⟩) 1 c))⟩ Q) (hk:yi N dst=true:=by rfl) (zV:yR env 0=true:=by rfl):
 VL P w M0 N ops (⟨dst, .buildSlice t 1 #[(0,x)],ty,pos,z7,none⟩::l) ⟨M,own,env⟩ Q:=by
 refine kl1 ?_ hx (by have:=hc.h;rw [<-this] at hl;simpa using hl) qG hk (vg zV);refine Yt own.length (by rw [kF (zN _),qq];rfl) fun v hv=>?_
 obtain ⟨b,c,rfl,_,_⟩:=xB hv ze;rw [Qa zV,hc.h];refine wd _ (h b c) (ji.perm ?_) (kS zV);rw [YF _ _ (zN _),qq];exact uQ
theorem gM {t e:TypeId} {x y:Operand} {d1:Tmp} {u v0:Value} {us xs:List Value} {k n bytes:Nat} {ty2:TypeId} {TX:String} {abt:Array Edge} {ops:Array Oper} {l:List Oper} {Q:zX} [hE:kr P t e k bytes] (hx:env.op x=some (.v u)) (hy: ∀v,(env.put (some d1) (.v v)).op y=some (.v v0))
 (h: ∀b c v,j2 v (n+1)->VL P w M0 N ops l ⟨M, .zC v e k (n+1) (xs++us)::zw,(env.put (some d1) (.v (.slice (some ⟨b,0,none⟩) 1 c))).put dst (.v v)⟩ Q)
 (hr:nQ own v0 e k n xs zw:=by infer_instance) (hc:Le u us:=by infer_instance) (hl:us.length=k:=by rfl) (hu:us.all (·.oneCell')=true:=by first|rfl|assumption) (qG:Nat.ble k 1000000=true:=by rfl) (gW:n+1<=maxLen:=by unfold maxLen;omega) (hb:(n+1)*bytes<=140737488355328:=by omega) (hk:yi N dst=true:=by rfl) (gR:yi N (some d1)=true:=by rfl) (zV:yR env 0=true:=by rfl):
 VL P w M0 N ops (⟨some d1, .buildSlice t 1 #[(0,x)],ty,pos,z7,none⟩::⟨dst, .call ⟨.builtin .append, #[y, .tmp d1], #[t,t]⟩,ty2,TX,abt,none⟩::l) ⟨M,own,env⟩ Q:=by
 refine PV hx hc hl qG (fun b c=>?_) gR zV;have hyy:(env.put (some d1) (.v (.slice (some ⟨b,0,none⟩) 1 c))).op (.tmp d1)=some (.v (.slice (some ⟨b,0,none⟩) 1 c)):=by simp [Env.op,Env.put,Env.get]
 refine ft (zw:= .zC (.slice (some ⟨b,0,none⟩) 1 c) e k 1 us::zw) (hy _) hyy ⟨(hr.h.h.cons _).trans (.swap ..)⟩ (by rw [hl,tZ]) (.inl ⟨0,_,rfl,rfl,fun j u hj=>by rw [xu];exact hj⟩) hu ze gW hb hk (kS zV) fun v hv=>?_
 exact wd _ (h b c v hv) ⟨[.zC (.slice (some ⟨b,0,none⟩) 1 c) e k 1 us],((uQ (l₁:= [Ob.zC (.slice (some ⟨b,0,none⟩) 1 c) e k 1 us])).cons _)⟩ (kS (kS zV))
theorem qW {id:Nat} {l:List Oper} {gJ:List Ob} {Q:zX} (gs es:List Nat) [hm:Oa P] [hG:dy gs own gJ] (hB:efB l (bc es 0 l)=true) (oW:Qe 0 (bc es 0 l)=es) (zV:yR env own.length=true)
 (hV:VQ P w M0 N l.toArray (bc es 0 l) ⟨M,gJ,env⟩ (fun tB=>VF P w M0 N gs own.length l l.length es ⟨M,own,tB⟩ (fun s=>Q .normal s))):VC P w M0 N (.region id l.toArray true) ⟨M,own,env⟩ Q:=by
 rw [<-hG.h] at hV;exact Xm gs es hB oW zV hV
end
end
section
open Go Go.RowKit
class Pos (own:List Ob) (o:Ob) (i:outParam Nat):Prop where
 h:own[i]?=some o
instance (priority:=high) Pos.one (o:Ob) (l:List Ob):Pos (o::l) o 0:=⟨rfl⟩
instance Pos.cons (o p:Ob) (l:List Ob) (n:Nat) [i:Pos l o n]:Pos (p::l) o (n+1):=⟨i.h⟩
class DR (own zO:List Ob) (ρ:outParam (List Nat)):Prop where
 h:ZF zO ρ own
instance DR.nil (own:List Ob):DR own [] []:=⟨trivial⟩
instance DR.cons (own:List Ob) (o:Ob) (l:List Ob) (n:Nat) (ρ:List Nat) [i:Pos own o n] [j:DR own l ρ]:DR own (o::l) (n::ρ):=⟨⟨i.h,j.h⟩⟩
section
variable {P:Program} {w:World} {M0:Mem} {N:Nat} {dst:Option Tmp} {ty:TypeId} {pos:String} {z7:Array Edge} {M:Mem} {own zw zO gJ:List Ob} {env:Env}
theorem fce {f:FuncId} {vs:List Value} {o1 c:List Ob} {r:Value} {cl:Call} {ρ:List Nat} (he:Ent P w M0 N ⟨dst, .call cl,ty,pos,z7,none⟩ ⟨M,own,env⟩ f vs) (hc:zu P f vs M zO (fun u M' o=>u=r/\M'=M/\o=o1)) (hp:DR own zO ρ) (bg:u9 ρ=true) (hg:dy ρ own gJ) (ha:JO gJ o1 c) (hn:jI own):
 EF P w M0 N ⟨dst, .call cl,ty,pos,z7,none⟩ ⟨M,own,env⟩ c (.v r):=by
 have hx:=ac0 (P:=P) (ops:= #[]) ρ he hc bg hp.h hn;have hl:gJ.length=own.length:=by rw [<-hg.h,qp]
 refine ⟨fun hd a W hR=>?_,by rw [<-ha.h,yK,hl];exact Nat.le_add_right _ _,rfl⟩;have h1:=hx.go hd a W hR;rw [zo (by simp [Region.wanted])] at h1
 have e: ∀u W',(∃(x: {x:Value×Mem×List Ob//M.le x.2.1/\jI x.2.2/\(x.1=r/\x.2.1=M/\x.2.2=o1)}) (yE:Nat->Value),(∀i,i<own.length->yE i=hd i)/\Wd w M0 yE x.1.2.1 (y8 ρ own++x.1.2.2) W'/\u=(SV.v x.1.1).den yE)-> ∃yE:Nat->Value,(∀i,i<own.length->yE i=hd i)/\Wd w M0 yE M c W'/\u=(SV.v r).den yE:=by
  rintro u W' ⟨⟨⟨v,M2,o⟩,_,_,rfl,rfl,rfl⟩,yE,h2,h3,h4⟩;refine ⟨yE,h2,?_,h4⟩;rw [<-ha.h,<-hg.h];exact h3
 exact kj.mono e h1
theorem fcf {f:FuncId} {vs:List Value} {o1 c:List Ob} {r:Value} {ρ:List Nat} {xs:Array Operand} {qz:Array TypeId} [hf:zG P f] (hc:zu P f vs M zO (fun u M' o=>u=r/\M'=M/\o=o1)) (hv:env.kP xs.toList=some vs:=by rfl) (hp:DR own zO ρ:=by infer_instance) (bg:u9 ρ=true:=by rfl) (hg:dy ρ own gJ:=by infer_instance) (ha:JO gJ o1 c:=by infer_instance) (hn:jI own:=by infer_instance):
 EF P w M0 N ⟨dst, .call ⟨.value (.func f),xs,qz⟩,ty,pos,z7,none⟩ ⟨M,own,env⟩ c (.v r):=fce (Va hv) hc hp bg hg ha hn
theorem xc0 {ops:Array Oper} {f:FuncId} {vs:List Value} {R:Value->Mem->List Ob->Prop} {xs:Array Operand} {qz:Array TypeId} [hf:zG P f] (hc:zu P f vs M [] R) (ho: ∀v M' o,R v M' o->o= []) (hv:env.kP xs.toList=some vs:=by rfl) (hn:jI own:=by infer_instance):
 EX P w M0 N ops ⟨dst, .call ⟨.value (.func f),xs,qz⟩,ty,pos,z7,none⟩ ⟨M,own,env⟩ {x:Value×Mem//M.le x.2/\R x.1 x.2 []} (fun x=>x.1.2) (fun _=>own) (fun x=> .v x.1.1):=⟨fun hd a W hR=>by
 rw [zo (by simp [Region.wanted])];rw [Va (P:=P) (w:=w) (M0:=M0) (N:=N) (s:=⟨M,own,env⟩) hv hd a W hR];simp only [kj];refine (hc own hn w M0 hd W hR.1).mono fun e W' ⟨v,yE,o,M',he,hle,wK,Zl,hp⟩=>?_
 obtain rfl:=ho v M' o hp;have Bb: ∀i o,own[i]?=some o->o≠ .gone->yE i=hd i:=fun i o hi jt=>Cr (hn.h o (IW.2 ⟨i,hi⟩)) (Zl.own i o hi) (hR.1.own i o hi) jt
 refine ⟨v,he,⟨⟨v,M'⟩,hle,hp⟩,hd,fun _ _=>rfl,⟨Zl.below,Zl.mem,Zl.wS,Zl.YW,fun i o hi=>?_,fun i o b hi jt C0=>?_,fun i j oi oj b hi hj J6 uW iB Un=>?_⟩,rfl⟩
 · by_cases hg:o= .gone
   · subst hg;trivial
   · rw [<-Bb i o hi hg];exact Zl.own i o hi
 · rw [<-Bb i o hi jt] at C0;exact Zl.sep i o b hi jt C0
 · rw [<-Bb i oi hi J6] at iB;rw [<-Bb j oj hj uW] at Un;exact Zl.VX i j oi oj b hi hj J6 uW iB Un,fun _=>zN _,fun _=>rfl⟩
theorem zu.wide {own G:List Ob} {f:FuncId} {vs:List Value} {R R':Value->Mem->List Ob->Prop} (h:zu P f vs M zO R) (ht:uu own zO G) (hn:jI own) (hp: ∀u M' o,M.le M'->R u M' o-> ∃o2,ji (o++G) o2/\jI o2/\R' u M' o2):zu P f vs M own R':=fun F hF w M0 hd W hW=>by
 obtain ⟨Zy,h1⟩:=hW.KJ (zw:=zO++(G++F)) ⟨[],by
  rw [xR,<-xY];exact ht.h.append_right F⟩
 haveI hG:jI G:=(hn.J1 ht.h).right;refine (h (G++F) zh w M0 Zy W h1).mono fun e W' ⟨v,yE,o,M',he,hle,wK,Zl,hr⟩=>?_
 obtain ⟨o2,hs,AZ,KL⟩:=hp v M' o hle hr;obtain ⟨D,hD⟩:=hs
 obtain ⟨uN,h2⟩:=Zl.KJ (zw:=o2++F) ⟨D,by
  have:=hD.append_right F;rw [<-xY];refine this.trans ?_;rw [xY,xY];exact (uQ (l₁:=D)).append_left o2⟩
 exact ⟨v,uN,o2,M',he,hle,AZ,h2,KL⟩
end
end
section
open Go Go.RowKit
section
variable {α:Type} {k:Nat} {cells:α->List Value} (hk: ∀a,(cells a).length=k)
include hk
theorem ki (L:List α):(L.flatMap cells).length=L.length*k:=by
 induction L with
 |nil=>simp
 |cons a L ih=>rw [j6,yK,ih,hk,xd,um];omega
theorem ve: ∀(L:List α) (m:Nat),(L.flatMap cells).take (m*k)=(L.take m).flatMap cells
 | [],m=>by simp
 |a::L,0=>by simp
 |a::L,m+1=>by
  rw [j6,YE,j6,show (m+1)*k=(cells a).length+m*k by rw [hk,um];omega,Sk,ve L m]
theorem vf: ∀(L:List α) (m:Nat),(L.flatMap cells).drop (m*k)=(L.drop m).flatMap cells
 | [],m=>by simp
 |a::L,0=>by simp
 |a::L,m+1=>by
  rw [j6,gw,show (m+1)*k=(cells a).length+m*k by rw [hk,um];omega,Sj,vf L m]
theorem Iv (L:List α) {j:Nat} (h:j<L.length):((L.flatMap cells).drop (0+j*k)).take k=cells L[j]:=by
 rw [xu,vf hk,Zc h,j6,<-hk L[j],ua]
theorem gp (L:List α) {j:Nat} (h:j<L.length):0+j*k+k<=(L.flatMap cells).length:=by
 rw [ki hk,xu,<-uq];exact uB k h
theorem mr (L:List α) {j:Nat} (h:j<L.length) (x:α):jT (L.flatMap cells) (0+j*k) (cells x)=(L.set j x).flatMap cells:=by
 rw [u7 _ _ _ (by rw [hk];exact gp hk L h),hk,xu,ve hk,<-uq,vf hk,aiz,zo h];simp
end
end
section
open Go Go.RowKit
class OvT (P:Program) (f:FuncId) (tS tR:outParam TypeId):Prop where
 h: ∀(args:Array Value) (W:World),(callFunc f args).run P W=((Extern.SlicesOverlaps.overlaps #[tS,tS] #[tR] args).run P W).andThen fun v w'=> .ok (.value v) w'
theorem lu {base:Nat} {W:World} {v:Value} {o:Ob} {b:Nat} (h:wR base W v o) (hf:o.Wy=some b): ∃arr t,W.heap[b]?=some (.cells arr t (0,0))/\o.cells.length<=arr.size:=by
 cases o with
 |qZ t cs=>cases hf
 |row e k n cs=>cases hf
 |gone=>cases hf
 |omap es=>cases hf
 |vj u es=>cases hf
 |zK u t cs=>
  obtain ⟨rfl,b',rfl,h1,h2⟩:=h;obtain rfl:b'=b:=by simpa [Ob.Wy,yX] using hf
  exact ⟨_,_,h2,by simp [Ob.cells]⟩
 |zC u e k n cs=>
  obtain ⟨rfl,hl,⟨rfl,_⟩|⟨b',cap,cur,rfl,h1,h2,h3,h4,h5,h6⟩⟩:=h
  · cases hf
  · obtain rfl:b'=b:=by simpa [Ob.Wy,yX] using hf
    refine ⟨_,_,h2,?_⟩;show cs.length<=_;rw [<-h6,yC];simp;omega
section
variable {P:Program} {w:World} {M0:Mem} {N:Nat} {dst:Option Tmp} {ty:TypeId} {pos:String} {z7:Array Edge} {g:Option (Nat×Bool)} {M:Mem} {own zw:List Ob} {env:Env}
theorem fG {x y:Operand} {t t2:TypeId} {b o1 n1 c1 b2 o2 n2 c2 k m:Nat} {us:List Value} [hE:X1 P t k] (hx:env.op x=some (.v (.slice (some ⟨b,o1,none⟩) n1 c1))) (hy:env.op y=some (.v (.slice (some ⟨b2,o2,none⟩) n2 c2)))
 (hm:Nat.min n2 n1=m) (hl:us.length=m*k) (hs:Y1 M own b2 o2 us) (hu:us.all (·.oneCell')=true) (hn:Kd own b o1 us zw):
 EF P w M0 N ⟨dst, .call ⟨.builtin .copy, #[x,y], #[t,t2]⟩,ty,pos,z7,g⟩ ⟨M,own,env⟩ zw (.v (.int .i64 m)):=by
 refine ⟨fun hd a W hR=>?_,by rw [hn.len];exact zN _,rfl⟩;have e1:=hR.2.eval hx;have e2:=hR.2.eval hy;simp only [SV.den] at e1 e2;have ht:=hE.h;unfold mB at ht;split at ht
 case h_2=>cases ht
 rename_i e he
 have YC:=y9 ht W;have hld:=QB (P:=P) (fun j u hu=>hs.cell hR.1 j u hu);obtain ⟨kt,Zl⟩:=ie (P:=P) hR.1 hn hu;rw [hl] at hld;have hgo:goInt m= .int .i64 m:=rfl
 have hr:(Builtin.copy_ #[t,t2] ty #[.slice (some ⟨b,o1,none⟩) n1 c1, .slice (some ⟨b2,o2,none⟩) n2 c2]).run P W= .ok (.int .i64 m) (W.setCells b o1 us):=by
  simp [Builtin.copy_,jG he,Builtin.lenOf,Builtin.firstCells,YC,hm,hld,kt,hgo]
 simp only [execOp,resolve,invoke,builtin,wP,xw,uo,e1,e2,yz,xM,xh,hr];exact ⟨hd,fun _ _=>rfl,Zl,rfl⟩
theorem Hg {f:FuncId} {tS tR:TypeId} {k:Nat} {x y:Operand} {qz:Array TypeId} {b1 o1 la ca b2 o2 lb cb i j:Nat} {p q:Ob} [ho:OvT P f tS tR] [hE:X1 P tS k] (hx:env.op x=some (.v (.slice (some ⟨b1,o1,none⟩) la ca))) (hy:env.op y=some (.v (.slice (some ⟨b2,o2,none⟩) lb cb)))
 (h1:own[i]?=some p) (h2:own[j]?=some q) (gf:i≠j) (f1:p.Wy=some b1) (f2:q.Wy=some b2) (hz:0<q.cells.length):QS P w M0 N ⟨dst, .call ⟨.value (.func f), #[x,y],qz⟩,ty,pos,z7,g⟩ ⟨M,own,env⟩ (.v (.bool false)):=xH fun hd a W hR=>by
 have e1:=hR.2.eval hx;have e2:=hR.2.eval hy;simp only [SV.den] at e1 e2;have ht:=hE.h;unfold mB at ht;split at ht
 case h_2=>cases ht
 rename_i e he
 have O1:=hR.1.own i p h1;have O2:=hR.1.own j q h2;obtain ⟨A1,t1,H1,_⟩:=lu O1 f1;obtain ⟨A2,t2,H2,H3⟩:=lu O2 f2;have jt:b1≠b2:=fun hb=>gf (hR.1.VX i j p q b1 h1 h2 (fun e=>by rw [e] at f1;cases f1) (fun e=>by rw [e] at f2;cases f2) (U0 O1 f1) (by rw [hb];exact U0 O2 f2))
 have hr:=Lib.run_overlaps_apart (P:=P) W tS tR e he k (fun w=>y9 ht w) ⟨b1,o1,none⟩ ⟨b2,o2,none⟩ la ca lb cb jt t1 t2 A1.size A2.size (by simp [World.shape?,H1]) (by simp [World.shape?,H2]) ze (Kv W b1 o1 A1 t1 H1) (Kv W b1 A1.size A1 t1 H1);have FY:a.eval (.func f)= .func (.func f) #[] #[]:=rfl;have hee:(#[]++ #[x,y].map a.eval:Array Value)= #[.slice (some ⟨b1,o1,none⟩) la ca, .slice (some ⟨b2,o2,none⟩) lb cb]:=by simp [e1,e2]
 simp only [execOp,resolve,FY,Deferred.ofValue,yz,xM,xh,invoke,hee,Array.append_empty,ho.h,hr,SV.den]
theorem adF {x y:Operand} {t tn e:TypeId} {b o1 n1 c1 k bytes n:Nat} {z:Value} {wS:List Value} {ops:Array Oper} {l:List Oper} {Q:zX} [hE:kr P t e k bytes] [hz:kM P e z] [hI:a8 P tn .i64] (hx:env.op x=some (.v (.slice (some ⟨b,o1,none⟩) n1 c1))) (hy:env.op y=some (.v (.int .i64 n)))
 (wK:c1<n1+n) (h0:0<n) (hl:wS.length=n1*k) (hs:Y1 M own b o1 wS) (hm:n1+n<=maxLen) (hb:(n1+n)*bytes<=140737488355328) (hk:yi N dst=true) (zV:yR env 0=true)
 (h: ∀v,j2 v (n1+n)->VL P w M0 N ops l ⟨M, .zC v e k (n1+n) (wS++(Builtin.zeroCells z.cells n).toList)::own,env.put dst (.v v)⟩ Q):
 VL P w M0 N ops (⟨dst, .call ⟨.builtin .append, #[x,y], #[t,tn]⟩,ty,pos,z7,none⟩::l) ⟨M,own,env⟩ Q:=by
 refine Xl _ _ (afi _ hx hy rfl wK h0 hl hs hm hb) hk (vg zV) ?_;refine Yt own.length (by rw [kF (zN _),qq];rfl) fun v hv=>?_
 rw [Qa zV];refine wd _ (h v hv) (ji.perm ?_) (kS zV);rw [YF _ _ (zN _),qq];exact uQ
end
instance:OvT zf 233 40 4:=⟨fun args W=>IM Tryz.func233 Yy Yy Yy (e:=Extern.SlicesOverlaps.overlaps #[40,40] #[4]) Yy args W⟩
instance:OvT zf 256 140 4:=⟨fun args W=>IM Tryz.func256 Yy Yy Yy (e:=Extern.SlicesOverlaps.overlaps #[140,140] #[4]) Yy args W⟩
end
end Go.Proofs.YtaibdpjjojihmaaGreat
