/- A part of the proof of TopPrefix; no conditions. -/
import Derived.Test.YtaibdpjjojihmaaGreatPWr2
set_option linter.unusedVariables false
set_option linter.unusedSimpArgs false
set_option maxRecDepth 20000
set_option maxHeartbeats 4000000
namespace Go.Proofs.YtaibdpjjojihmaaGreat
section
open Go Go.RowKit
attribute [local irreducible] Calls
variable {cb sb:Nat} {b:Int} {p:jf} {H:List (Int×Nat)} {M:Mem} {c:Co}
theorem Bg (h:yO cb sb b p H M c) (hb:b<=999999990) {r:JM} {x:Wr} (hr:UD H r x) {y:Yx} (WB:r.nx= .QR y) (hi:dA p y):zu zf 166 [ptr x.rb] M (UE cb x r (.func (.func 166) #[] #[]) (ptr x.cy.yb)::qy cb x.cy y::c.ob) (fun u M' o=>M.le M'/\u= .bool (YJ p r y).2.2/\ ∃(x':Wr) (c':Co),x'.rb=x.rb/\o=u6 cb x' (YJ p r y).2.1++c'.ob/\yO cb sb (b+1) (YJ p r y).1 H M' c'/\UD H (YJ p r y).2.1 x'):=by
 obtain ⟨hy,hyt⟩:=hr.cy y WB;have cS:=mE h ze hy hi;have kt:=rt (p:=p) (y:=y);obtain ⟨ZV,km⟩: ∃q,q=YJ p r y:=⟨_,rfl⟩;rw [<-km];unfold YJ at km;generalize jM p y=st at*;obtain ⟨p2,y2,ok⟩:=st;dsimp only at*;refine xy Tryz.func166 rfl Tryz.ntmps166 zd (fun F w M0 hF=>zz ?_)
 repeat' (refine nv ?_)
 refine xQ cS ?_;rintro _ M2 _ zD-⟨-,rfl,c2,rfl,h2⟩;refine zJ ?_;have cD:=aE (cb:=cb) (M:=M2) x.cy y2;have cI:=Nt (cb:=cb) (M:=M2) x.cy y2;have MC:Vx H y2 x.cy/\y2.th=r.th:=⟨⟨by rw [kt];exact hy.hand,by rw [kt];exact hy.th⟩,by rw [kt];exact hyt⟩;cases hd:y2.done with
 |false=>
  rw [hd] at cD;rw [zo hd] at km
  repeat' (first|refine uK cD ?_|refine nv ?_)
  subst km;exact ⟨_,UE cb x r (.func (.func 166) #[] #[]) (ptr x.cy.yb)::qy cb x.cy y2::c2.ob,zP,zD,zh,zq,zD,rfl,x,c2,rfl,rfl,h2,⟨hr.hand,hr.D6,hr.th,hr.one,fun y' e=>(by cases e;exact MC)⟩⟩
 |true=>
  rw [hd] at cD;rw [zn (by rw [hd];simp)] at km;by_cases h0:y2.Qx=0
  · have g1:(y2.Qx==0)=true:=beq_iff_eq.2 h0;rw [zo h0] at km;have cE:=WQ h2 (r:=r) (x:=x) hr.hand (.func (.func 166) #[] #[]) (ptr x.cy.yb) 4
    repeat' (first|refine uK cD ?_|refine uK cI ?_|refine nv ?_)
    refine xQ cE ?_;rintro _ M3 _- -⟨hM,rfl,c3,rfl,h3⟩;subst hM;refine zJ ?_
    repeat' (refine nv ?_)
    subst km;exact ⟨_,UE cb x (Uf p2 r 4).2 (.func (.func 166) #[] #[]) (ptr x.cy.yb)::qy cb x.cy y2::c3.ob,zP,zD,zh,zq,zD,rfl,x,c3,rfl,rfl,h3,⟨hr.hand,hr.D6,hr.th,hr.one,fun y' e=>(by cases e;exact MC)⟩⟩
  · have g1:(y2.Qx==0)=false:=beq_eq_false_iff_ne.2 h0;rw [zn h0] at km
    repeat' (first|refine uK cD ?_|refine uK cI ?_|refine nv ?_)
    subst km;exact ⟨_,UE cb x r (.func (.func 121) #[] #[]) (ptr x.cy.yb)::c2.ob,zP,zD,zh,zq,zD,rfl,⟨x.rb,x.hb,ptr x.cy.yb,x.cy⟩,c2,rfl,rfl,h2,⟨hr.hand,hr.D6,hr.th,⟨rfl⟩,fun y' e=>(nomatch e)⟩⟩
structure acR (p:jf) (r:JM):Prop where
 ch0:0<=p.ch
 ch1:p.ch<=999999990
 key:r.o.key.size<=1000000
 h0:0<=r.qS
 h1:r.qS<=1000000000
 cy: ∀y,r.nx= .QR y->0<=y.Qx/\y.Qx<=1000000000
theorem Bh (h:yO cb sb b p H M c) (hb:b<=999999990) {r:JM} {x:Wr} (hr:UD H r x) (hi:acR p r):zu zf 297 [ptr x.rb] M (u6 cb x r++c.ob) (fun u M' o=>M.le M'/\u= .bool (jE p r).2.2/\ ∃(x':Wr) (H':List (Int×Nat)) (c':Co),x'.rb=x.rb/\(∀t z,yU H t=some z->yU H' t=some z)/\o=u6 cb x' (jE p r).2.1++c'.ob/\yO cb sb (b+2) (jE p r).1 H' M' c'/\UD H' (jE p r).2.1 x'):=by
 have ov:=hr.one;unfold jE;rcases XK r.done with hd|hd
 · rw [zo hd]
   obtain ⟨fn,cv,G,of,oc,hG,hn⟩: ∃(fn cv:Value) (G:List Ob),xK fn/\xK cv/\u6 cb x r=UE cb x r fn cv::G/\jI G:=by
    unfold u6;cases r.nx with
    |QR y=>exact ⟨_,_,[qy cb x.cy y],zh,⟨rfl⟩,rfl,zh⟩
    |take=>exact ⟨_,_,[],zh,ov,rfl,zh⟩
    |n7=>exact ⟨_,_,[],zh,ov,rfl,zh⟩
   rw [hG];refine xy Tryz.func297 rfl Tryz.ntmps297 zd (fun F w M0 hF=>zz ?_)
   repeat' (refine nv ?_)
   exact ⟨_,(UE cb x r fn cv::G)++c.ob,zP,zE,zh,zq,zE,rfl,x,H,c,rfl,fun _ _ e=>e,by rw [hG],h.up ze,hr⟩
 · rw [zn (by rw [hd];simp)]
   have key: ∀(f:FuncId) (cv:Value) (G:List Ob) (r0:JM) (ok:Bool) (ZV:jf×JM) [zG zf f] [xK cv] [jI G],r0= {r with yd:=false}->u6 cb x r=UE cb x r (.func (.func f) #[] #[]) cv::G->zu zf f [ptr x.rb] M (UE cb x r0 (.func (.func f) #[] #[]) cv::(G++c.ob)) (fun u M' o=>M.le M'/\u= .bool ok/\ ∃(x':Wr) (H':List (Int×Nat)) (c':Co),x'.rb=x.rb/\(∀t z,yU H t=some z->yU H' t=some z)/\o=u6 cb x' ZV.2++c'.ob/\yO cb sb (b+2) ZV.1 H' M' c'/\UD H' ZV.2 x')->
    zu zf 297 [ptr x.rb] M (u6 cb x r++c.ob) (fun u M' o=>M.le M'/\u= .bool ok/\ ∃(x':Wr) (H':List (Int×Nat)) (c':Co),x'.rb=x.rb/\(∀t z,yU H t=some z->yU H' t=some z)/\o=u6 cb x' ZV.2++c'.ob/\yO cb sb (b+2) ZV.1 H' M' c'/\UD H' ZV.2 x'):=by
    intro f cv G r0 ok ZV _ _ _ iv hw cL;subst iv;rw [hw];refine xy Tryz.func297 rfl Tryz.ntmps297 zd (fun F w M0 hF=>zz ?_)
    repeat' (refine nv ?_)
    refine kcv cL zd ?_;rintro _ M2 _ zD-⟨-,rfl,x',H',c',U3,hH,rfl,vk,D9⟩;refine zJ ?_
    repeat' (refine nv ?_)
    exact ⟨_,u6 cb x' ZV.2++c'.ob,zP,zD,zh,zq,zD,rfl,x',H',c',U3,hH,rfl,vk,D9⟩
   have iv:UD H {r with yd:=false} x:=⟨hr.hand,hr.D6,hr.th,hr.one,hr.cy⟩;have WE:acR p {r with yd:=false}:=⟨hi.ch0,hi.ch1,hi.key,hi.h0,hi.h1,hi.cy⟩;have enx:r.nx=({r with yd:=false}:JM).nx:=rfl;generalize apB:({r with yd:=false}:JM)=r0 at*;unfold Lh;cases WB:r0.nx
   all_goals dsimp only
   case take=>
    have hnr:=enx.trans WB;refine key 121 x.cv [] r0 (vO p r0).2.2 ((vO p r0).1,(vO p r0).2.1) rfl (ph hnr) ((Bf h iv).mono ?_);rintro u M' o hle ⟨rfl,rfl,c',rfl,vk⟩;have ahN:(vO p r0).2.2=true/\(vO p r0).2.1= {r0 with nx:= .n7}\/(vO p r0).2.2=false/\(vO p r0).2.1=r0:=by unfold vO;split;exact .inl ⟨rfl,rfl⟩;exact .inr ⟨rfl,rfl⟩
    rcases ahN with ⟨e1,e2⟩|⟨e1,e2⟩
    · exact ⟨zE,rfl,x,H,c',rfl,fun _ _ e=>e,by dsimp only;rw [e1,e2,zo rfl,UJ rfl];rfl,vk.up ze,by dsimp only;rw [e2];exact ⟨iv.hand,iv.D6,iv.th,iv.one,fun y e=>(nomatch e)⟩⟩
    · exact ⟨zE,rfl,x,H,c',rfl,fun _ _ e=>e,by dsimp only;rw [e1,e2,zn yx,ph WB];rfl,vk.up ze,by dsimp only;rw [e2];exact iv⟩
   case n7=>
    have hnr:=enx.trans WB;exact key 142 x.cv [] r0 true (UI p r0) rfl (UJ hnr) (Ef h hb iv WB WE.key WE.ch0 WE.ch1 WE.h0 WE.h1)
   case QR y=>
    have hnr:=enx.trans WB;obtain ⟨d0,d1⟩:=WE.cy y WB;refine key 166 (ptr x.cy.yb) [qy cb x.cy y] r0 (YJ p r0 y).2.2 ((YJ p r0 y).1,(YJ p r0 y).2.1) rfl (Lg hnr) ((Bg h hb iv WB ⟨WE.ch0,by have:=WE.ch1;omega,d0,d1⟩).mono ?_);rintro u M' o hle ⟨h1,rfl,x',c',U3,rfl,vk,D9⟩;exact ⟨h1,rfl,x',H,c',U3,fun _ _ e=>e,rfl,vk.up ze,D9⟩
theorem Tw (x:Wr) (r:JM) [xK x.cv]: ∃(fn cv:Value) (G:List Ob),xK fn/\xK cv/\uu (u6 cb x r) [UE cb x r fn cv] G:=by
 unfold u6;cases r.nx with
 |QR y=>exact ⟨_,_,[qy cb x.cy y],zh,⟨rfl⟩,⟨.refl _⟩⟩
 |take=>exact ⟨_,_,[],zh,zh,⟨.refl _⟩⟩
 |n7=>exact ⟨_,_,[],zh,zh,⟨.refl _⟩⟩
theorem Hu {f:FuncId} {vs:List Value} {v:Value} {x:Wr} {r:JM} [xK x.cv] (h: ∀(fn cv:Value) [xK fn] [xK cv],zu zf f vs M [UE cb x r fn cv] (fun u M' o=>u=v/\M'=M/\o= [UE cb x r fn cv])):zu zf f vs M (u6 cb x r) (fun u M' o=>u=v/\M'=M/\o=u6 cb x r):=by
 obtain ⟨fn,cv,G,of,oc,ht⟩:=Tw (cb:=cb) x r;refine (h fn cv).wide ht zh ?_;rintro u M' o-⟨rfl,rfl,rfl⟩;exact ⟨u6 cb x r,ji.perm ht.h.symm,zh,rfl,rfl,rfl⟩
theorem fI (x:Wr) (r:JM) [xK x.cv]:zu zf 295 [ptr x.rb] M (u6 cb x r) (fun u M' o=>u= .bool r.done/\M'=M/\o=u6 cb x r):=by
 refine Hu fun fn cv _ _=>?_
 refine xy Tryz.func295 rfl Tryz.ntmps295 zd (fun F w M0 hF=>zz ?_)
 repeat' (refine nv ?_)
 exact ⟨_,[UE cb x r fn cv],zP,zE,zh,zq,rfl,rfl,rfl⟩
theorem r7 (x:Wr) (r:JM) [xK x.cv]:zu zf 296 [ptr x.rb] M (u6 cb x r) (fun u M' o=>u= .bool r.yd/\M'=M/\o=u6 cb x r):=by
 refine Hu fun fn cv _ _=>?_
 refine xy Tryz.func296 rfl Tryz.ntmps296 zd (fun F w M0 hF=>zz ?_)
 repeat' (refine nv ?_)
 exact ⟨_,[UE cb x r fn cv],zP,zE,zh,zq,rfl,rfl,rfl⟩
theorem n4 (x:Wr) (r:JM) [xK x.cv] (hd:r.done=true):zu zf 294 [ptr x.rb] M (u6 cb x r) (fun u M' o=>u= .agg #[.int .i64 r.e, .bool false, .string em, .slice none 0 0]/\M'=M/\o=u6 cb x r):=by
 have cD:=fI (cb:=cb) (M:=M) x r;rw [hd] at cD
 obtain ⟨fn,cv,G,of,oc,hG,hn⟩: ∃(fn cv:Value) (G:List Ob),xK fn/\xK cv/\u6 cb x r=UE cb x r fn cv::G/\jI G:=by
  unfold u6;cases r.nx with
  |QR y=>exact ⟨_,_,[qy cb x.cy y],zh,⟨rfl⟩,rfl,zh⟩
  |take=>exact ⟨_,_,[],zh,zh,rfl,zh⟩
  |n7=>exact ⟨_,_,[],zh,zh,rfl,zh⟩
 rw [hG] at cD⊢;refine KC Tryz.func294 rfl Tryz.ntmps294 zd (fun F w M0 hF=>zz ?_)
 repeat' (first|refine yh (dst:=some 2) zh fun b2=>?_|refine uK cD ?_|refine nv ?_)
 exact ⟨_,UE cb x r fn cv::G,kB.one rfl (RV.agg zd),zE,zh,zq,rfl,rfl,rfl⟩
end
section
open Go Go.RowKit
structure N8 where
 err:Int
 has:Bool
 val:ByteArray
 ps:List y6
def NJ:N8:=⟨0,false,em,[]⟩
inductive Qp where
 |rd (r:gE)
 |kn (s:qM)
 |wr (r:JM)
def kQ (p:jf):Qp->jf×Qp×Bool
 | .rd r=>((jj p r).1, .rd (jj p r).2.1,(jj p r).2.2)
 | .kn s=>((jF p s).1, .kn (jF p s).2.1,(jF p s).2.2)
 | .wr r=>((jE p r).1, .wr (jE p r).2.1,(jE p r).2.2)
def Z9:Qp->Bool
 | .rd r=>r.done
 | .kn s=>s.done
 | .wr r=>r.done
def VM:Qp->Bool
 | .rd r=>r.yd
 | .kn s=>s.yd
 | .wr r=>r.yd
def lJ:Qp->N8
 | .rd r=>⟨0,(B9 r).1,(B9 r).2,[]⟩
 | .kn s=>⟨0,false,em,s.out⟩
 | .wr r=>⟨r.e,false,em,[]⟩
def Z8 (p:jf) (th:Int) (o:Op):jf×Qp:=
 if o.kind=5 then (p, .rd ⟨th,-1,0,o.key,false,[],false,false,false,em⟩)
 else if o.kind=6 then ((Jo p th (bE o) o.yt p.q.c.yu).1, .kn (Jo p th (bE o) o.yt p.q.c.yu).2)
 else (p, .wr (pj th o))
structure iK where
 xg:Int
 o:Op
 a:N8
 Qh:Int
 yd:Int
 ended:Int
 done:Bool
structure S0 where
 q:List Op
 m:Option Qp
 ev:Int
structure YI where
 p:jf
 cls:List S0
 qg:List dG
 clock:Int
 xq:List iK
def Lj (w:YI):Nat:=w.cls.length+w.qg.length
def XW (w:YI) (i:Nat) (k:S0) (o:Op) (q:List Op):YI:=
 if jb o=true then {w with p:=(Z8 w.p i o).1,cls:=w.cls.set i ⟨q,some (Z8 w.p i o).2,w.xq.length⟩,xq:=w.xq++ [⟨i,o,NJ,w.clock,0,0,false⟩]}
 else {w with cls:=w.cls.set i ⟨q,none,w.xq.length⟩,xq:=w.xq++ [⟨i,o,⟨3,false,em,[]⟩,w.clock,w.clock,w.clock,true⟩]}
def Yd (clock:Int) (ok:Bool) (m:Qp) (e:iK):iK:=
 let e1:iK:=if (ok&&VM m)=true then {e with yd:=clock} else e
 if Z9 m=true then {e1 with a:=lJ m,ended:=clock,done:=true} else e1
def Ko (w:YI) (i:Nat) (k:S0) (m:Qp):YI:=
 {w with p:=(kQ w.p m).1,cls:=w.cls.set i ⟨k.q,(if Z9 (kQ w.p m).2.1=true then none else some (kQ w.p m).2.1),k.ev⟩,xq:=w.xq.modify k.ev.toNat (Yd w.clock (kQ w.p m).2.2 (kQ w.p m).2.1)}
def qE (w:YI) (i:Nat):YI:=
 match w.cls[i]? with
 |some k=>(match k.m with
  |some m=>Ko w i k m
  |none=>(match k.q with
   | []=>w
   |o::q=>XW w i k o q))
 |none=>(match w.qg[i-w.cls.length]? with
  |some k=> {w with p:=(kO w.p k).1,qg:=w.qg.set (i-w.cls.length) (kO w.p k).2.1}
  |none=>w)
def qN (w:YI) (t:Int):YI:=if 0<=t/\t<Lj w then qE {w with clock:=w.clock+1} t.toNat else w
def vA (w:YI) (i:Int) (o:Op):YI:=
 if i<0 then w else match w.cls[i.toNat]? with
 |some k=>if 1024<=k.q.length then w else {w with cls:=w.cls.set i.toNat ⟨k.q++ [o],k.m,k.ev⟩}
 |none=>w
def vY (k:S0):Bool:=k.m.isNone&&k.q.isEmpty
def dK (w:YI):Bool:=w.cls.all vY
def vP (c:qn) (n m:Nat):YI:=⟨aak c,List.replicate n ⟨[],none,0⟩,(List.range m).map fun i=>⟨((n+i:Nat):Int),none,em,false,0⟩,0,[]⟩
end
section
open Go Go.RowKit
attribute [local irreducible] Calls
inductive Mc where
 |rd (x:Rd)
 |kn (x:Kn)
 |wr (x:Wr)
def mcV:Mc->Value
 | .rd x=> .iface 190 (ptr x.rb)
 | .kn x=> .iface 192 (ptr x.kb)
 | .wr x=> .iface 194 (ptr x.rb)
def sL (cb:Nat):Mc->Qp->List Ob
 | .rd x, .rd r=>vi cb x r
 | .kn x, .kn s=>wq cb x s
 | .wr x, .wr r=>u6 cb x r
 |_,_=> []
theorem adt (cb:Nat) (x:Mc) (m:Qp):jI (sL cb x m):=by
 unfold sL;split<;>infer_instance
instance (cb:Nat) (x:Mc) (m:Qp):jI (sL cb x m):=adt cb x m
instance (x:Mc):xK (mcV x):=⟨by cases x<;>rfl⟩
def pg (cb:Nat) (H:List (Int×Nat)) (M:Mem):Qp->Mc->Prop
 | .rd r, .rd x=>Wf cb H M r x
 | .kn s, .kn x=>uX cb H M s x
 | .wr r, .wr x=>UD H r x
 |_,_=>False
theorem pg.mono {cb:Nat} {H H':List (Int×Nat)} {M M':Mem} {m:Qp} {x:Mc} (h:pg cb H M m x) (hH: ∀t y,yU H t=some y->yU H' t=some y) (hM:M.le M'):pg cb H' M' m x:=by
 cases m<;>cases x
 all_goals first|exact h.elim|exact Wf.mono h hH hM|exact uX.mono h hH hM|exact UD.mono h hH
def WP (n:Nat) (p:jf):Qp->Prop
 | .rd r=>WN n r
 | .kn s=>kN n s/\ -1000000-(n:Int)<=s.left/\s.left<=1000000
 | .wr r=>r.o.key.size<=1000000/\0<=r.qS/\r.qS<=n/\ ∀y,r.nx= .QR y->0<=y.Qx/\y.Qx<=n
abbrev jC (wb cb:Nat) (c:qn) (jX jK:Value) (clock:Int) (jh:Value):Ob:= .zK (ptr wb) 94 [.int .i64 c.jz, .int .i64 c.leaf, .int .i64 c.yV, .int .i64 c.kD, .int .i64 c.yu,ptr cb,jX,jK, .int .i64 clock,jh]
variable {wb cb sb:Nat} {b:Int} {p:jf} {H:List (Int×Nat)} {M:Mem} {c:Co}
theorem n5 (h:yO cb sb b p H M c) {jX jK jh:Value} {clock:Int} [xK jX] [xK jK] [xK jh] {th:Int} (h0:0<=th) (ht:th<1000) (o:Op) (ho:o.key.size<=1000000):zu zf 87 [ptr wb, .int .i64 th,o.av] M (jC wb cb p.q.c jX jK clock jh::c.ob) (fun u M' o'=>M'=M/\ ∃(x:Mc) (H':List (Int×Nat)) (c':Co),u=mcV x/\(∀t z,yU H t=some z->yU H' t=some z)/\o'=jC wb cb p.q.c jX jK clock jh::(sL cb x (Z8 p th o).2++c'.ob)/\yO cb sb b (Z8 p th o).1 H' M c'/\pg cb H' M (Z8 p th o).2 x):=by
 unfold Z8;by_cases k5:o.kind=5
 · have g5:(o.kind==5)=true:=beq_iff_eq.2 k5;rw [zo k5];have cN:=EO h h0 ht o.key;refine xy Tryz.func87 rfl Tryz.ntmps87 zd (fun F w M0 hF=>zz ?_)
   repeat' (first|refine yZ zd zh fun bx=>?_|refine zU [.l c.ob] [7,8,9] [7] 2 yI zd zd ?_|refine nv ?_)
   repeat' (refine nu ?_)
   refine xF cN rfl ?_ zx;rintro _ M2 _- -⟨hM,x,H',c',rfl,hH,rfl,vk,hx⟩;subst hM;refine yJ ?_
   repeat' (first|refine nu ?_|exact zx|refine nz ?_ ?_)
   repeat' (refine nv ?_)
   exact ⟨_,jC wb cb p.q.c jX jK clock jh::(vi cb x ⟨th,-1,0,o.key,false,[],false,false,false,em⟩++c'.ob),zP,zE,zh,zq,rfl, .rd x,H',c',rfl,hH,rfl,vk,hx⟩
 · have g5:(o.kind==5)=false:=beq_eq_false_iff_ne.2 k5;rw [zn k5];by_cases k6:o.kind=6
   · have g6:(o.kind==6)=true:=beq_iff_eq.2 k6;rw [zo k6];have cS:=fun W=>HX o W ho
     have cN:=BR h h0 ht (bE o) o.yt p.q.c.yu;generalize Jo p th (bE o) o.yt p.q.c.yu=ZV at*;refine xy Tryz.func87 rfl Tryz.ntmps87 zd (fun F w M0 hF=>zz ?_)
     repeat' (first|refine yZ zd zh fun bx=>?_|refine zU [.l c.ob] [14,15,16] [14] 2 yI zd zd ?_|refine nv ?_)
     repeat' (first|refine X0 zd (by exact Y4 (by exact zm zd (fun W _=>cS W))) zd ?_|refine nu ?_)
     refine xF cN rfl ?_ zx;rintro _ M2 _- -⟨hM,x,H',c',rfl,hH,rfl,vk,hx⟩;subst hM;refine yJ ?_
     repeat' (first|refine nu ?_|exact zx|refine nz ?_ ?_)
     repeat' (refine nv ?_)
     exact ⟨_,jC wb cb p.q.c jX jK clock jh::(wq cb x ZV.2++c'.ob),zP,zE,zh,zq,rfl, .kn x,H',c',rfl,hH,rfl,vk,hx⟩
   · have g6:(o.kind==6)=false:=beq_eq_false_iff_ne.2 k6;rw [zn k6];have cN:=Eg h h0 ht o;refine xy Tryz.func87 rfl Tryz.ntmps87 zd (fun F w M0 hF=>zz ?_)
     repeat' (first|refine yZ zd zh fun bx=>?_|refine zU [.l c.ob] [6,7,8] [6] 2 yI zd zd ?_|refine nv ?_)
     repeat' (refine nu ?_)
     refine xF cN rfl ?_ zx;rintro _ M2 _- -⟨hM,x,H',c',rfl,hH,rfl,vk,hx⟩;subst hM;refine yJ ?_
     repeat' (first|refine nu ?_|exact zx|refine nz ?_ ?_)
     repeat' (refine nv ?_)
     exact ⟨_,jC wb cb p.q.c jX jK clock jh::(u6 cb x (pj th o)++c'.ob),zP,zE,zh,zq,rfl, .wr x,H',c',rfl,hH,rfl,vk,hx⟩
end
section
open Go Go.RowKit
attribute [local irreducible] Calls
structure ZY where
 e:iK
 pv:Value
abbrev xT (x:ZY):List Value:= [.int .i64 x.e.xg, .int .i64 x.e.o.kind, .string x.e.o.key, .string x.e.o.hi, .bool x.e.o.vx, .string x.e.o.val, .int .i64 x.e.o.yt, .int .i64 x.e.a.err, .bool x.e.a.has, .string x.e.a.val,x.pv, .int .i64 x.e.Qh, .int .i64 x.e.yd, .int .i64 x.e.ended, .bool x.e.done]
def Qq (M:Mem) (l:List ZY):Prop:= ∀x∈l,xt M 2 zi x.pv x.e.a.ps
theorem Qq.mono {M M':Mem} {l:List ZY} (h:Qq M l) (hM:M.le M'):Qq M' l:=fun x hx=>(h x hx).mono hM
section
variable {α:Type} {k:Nat} {cells:α->List Value} (hk: ∀a,(cells a).length=k)
include hk
theorem iD (L:List α) {i:Nat} (h:i<L.length) {j:Nat} {us:List Value} (hj:j+us.length<=k) {x:α} (hx:jT (cells L[i]) j us=cells x):jT (L.flatMap cells) (0+i*k+j) us=(L.set i x).flatMap cells:=by
 rw [<-mr hk L h x,<-hx,u7 us j (cells L[i]) (by rw [hk];exact hj)];have h1:=gp hk L h;have h2:=Iv hk L h;rw [u7 _ _ _ ze,u7 _ _ _ (by rw [<-u7 us j (cells L[i]) (by rw [hk];exact hj),xA,hk];omega)];rw [<-h2];generalize L.flatMap cells=A at*;generalize 0+i*k=o at*;have h3:A=A.take o++((A.drop o).take k++A.drop (o+k)):=by rw [<-Q8,Us,Us]
 have h4:((A.drop o).take k).length=k:=by rw [yC,kI];omega
 have h5:(A.take o).length=o:=by rw [yC];omega
 generalize hB:(A.drop o).take k=B at*;generalize hC:A.drop (o+k)=C at*;generalize hD:A.take o=D at*;subst h3;subst h5
 have e1:List.take (D.length+j) (D++(B++C))=D++B.take j:=by
  rw [Sk,GF ze]
 have e2:List.drop (D.length+j+us.length) (D++(B++C))=B.drop (j+us.length)++C:=by
  rw [nB,Sj,Sm ze]
 have e3:(B.take j++us++B.drop (j+us.length)).length=k:=by simp;omega
 rw [e1,e2,e3,<-h4];have e4:List.drop (D.length+B.length) (D++(B++C))=C:=by rw [Sj,GG]
 rw [e4];simp
end
end
section
open Go Go.RowKit
attribute [local irreducible] Calls
section
variable {P:Program} {w:World} {M0:Mem} {N:Nat} {xJ U:List Ob} {e2:List Nat} {l:List Oper} {n i:Nat} {xz ks:List Nat} {M:Mem} {own:List Ob} {env:Env} {Q:St->Prop} {dst:Option Tmp} {ty:TypeId} {pos:String} {z7:Array Edge}
theorem aeR {f:FuncId} {t:TypeId} {name:String} {u:Value} {vs:List Value} {zO F:List Ob} {R:Value->Mem->List Ob->Prop} {x:Operand} {xs:Array Operand} {qz:Array TypeId} [hm:JW P t name f] [hf:zG P f] (hc:zu P f (u::vs) M zO R) (ho:l[i]?=some ⟨dst, .call ⟨.invoke x name,xs,qz⟩,ty,pos,z7,none⟩)
 (h: ∀v M' o,M.le M'->jI o->R v M' o->VWn P w M0 N xJ U e2 l n (xz.erase i) ⟨M',o++F,env.put dst (.v v)⟩ Q) (h2:WL P w M0 N xJ U e2 l n xz ks ⟨M,own,env⟩ Q) (hx:env.op x=some (.v (.iface t u)):=by rfl) (hv:env.kP xs.toList=some vs:=by rfl) (ht:uu own zO F:=by infer_instance) (hn:jI own:=by infer_instance) (hk:yi N dst=true:=by rfl) (zV:yR env 0=true:=by rfl):WL P w M0 N xJ U e2 l n xz (i::ks) ⟨M,own,env⟩ Q:=by
 refine Vs {x:Value×Mem×List Ob//M.le x.2.1/\jI x.2.2/\R x.1 x.2.1 x.2.2} (fun x=>x.1.2.1) (fun x=>x.1.2.2++F) (fun x=>x.1.1) ho ⟨fun hd a W hR=>?_⟩ hk (fun x=>⟨x.2.1,(h _ _ _ x.2.1 x.2.2.1 x.2.2.2).1,(h _ _ _ x.2.1 x.2.2.1 x.2.2.2).2⟩) h2;rw [zo (by simp [Region.wanted])];rw [iE (P:=P) (w:=w) (M0:=M0) (N:=N) (s:=⟨M,own,env⟩) hx hv hd a W hR];simp only [kj];obtain ⟨Zy,h1⟩:=hR.1.KJ (zw:=zO++F) (ji.perm ht.h);exact (hc F (hn.J1 ht.h).right w M0 Zy W h1).mono fun e W' ⟨v,yE,o,M',he,hle,wK,Zl,hp⟩=>⟨v,he,⟨⟨v,M',o⟩,hle,wK,hp⟩,yE,Zl,rfl⟩
end
instance:xK Value.nilIface:=⟨rfl⟩
abbrev qH (kb:Nat) (qv mv:Value) (ev:Int):Ob:= .zK (ptr kb) 100 [qv,mv, .int .i64 ev]
abbrev qT (jh:Value) (l:List ZY):Ob:= .zC jh 49 15 l.length (l.flatMap xT)
def Bd (clock:Int) (ok pt dn:Bool) (a:N8) (e:iK):iK:=
 let e1:iK:=if (ok&&pt)=true then {e with yd:=clock} else e
 if dn=true then {e1 with a:=a,ended:=clock,done:=true} else e1
theorem lA {l:List ZY} {i:Nat} (h:i<l.length) {x:ZY} {f:iK->iK} (hx:x.e=f l[i].e):(l.set i x).map ZY.e=(l.map ZY.e).modify i f:=by
 rw [aR,hx];refine fj yx fun j h1 h2=>?_
 rw [List.getElem_modify,nH];split
 · rename_i e;subst e;simp
 · simp
variable {wb cb sb kb mb:Nat} {b b':Int} {p p':jf} {H:List (Int×Nat)} {M:Mem} {c:Co}
theorem WS {t:TypeId} {fS fP fD fA:FuncId} {cf:qn} {jX jK qv:Value} {A:Option Addr} {cap eb:Nat} {clock:Int} {xq:List ZY} {mo:List Ob} {ok pt dn:Bool} {a:N8} {X:List Ob->List (Int×Nat)->Mem->Prop} (i:Nat)
 [JW zf t "Step" fS] [JW zf t "Point" fP] [JW zf t "Done" fD] [JW zf t "Answer" fA] [zG zf fS] [zG zf fP] [zG zf fD] [zG zf fA] [jI mo] [xK jX] [xK jK] [xK qv]
 (dD:Qq M xq) (hi:i<xq.length) (hn:xq.length<=100000000)
 (cS:zu zf fS [ptr mb] M (mo++c.ob) (fun u M' o=>M.le M'/\u= .bool ok/\ ∃(Uv:List Ob) (H':List (Int×Nat)) (c':Co),jI Uv/\(∀t y,yU H t=some y->yU H' t=some y)/\o=Uv++c'.ob/\yO cb sb b' p' H' M' c'/\X Uv H' M'))
 (cP: ∀Uv H' M',X Uv H' M'->zu zf fP [ptr mb] M' Uv (fun u M'' o=>u= .bool pt/\M''=M'/\o=Uv))
 (cD: ∀Uv H' M',X Uv H' M'->zu zf fD [ptr mb] M' Uv (fun u M'' o=>u= .bool dn/\M''=M'/\o=Uv))
 (cA:dn=true-> ∀Uv H' M',X Uv H' M'->zu zf fA [ptr mb] M' Uv (fun u M'' o=>M'.le M''/\ ∃w,u= .agg #[.int .i64 a.err, .bool a.has, .string a.val,w]/\xt M'' 2 zi w a.ps/\o=Uv)):
 zu zf 68 [ptr wb,ptr kb] M (jC wb cb cf jX jK clock (.slice (some ⟨eb,0,none⟩) xq.length cap)::qT (.slice (some ⟨eb,0,none⟩) xq.length cap) xq::qH kb qv (.iface t (ptr mb)) i::(mo++c.ob))
  (fun u M' o=>M.le M'/\u= .bool ok/\ ∃(Uv:List Ob) (H':List (Int×Nat)) (c':Co) (uF:List ZY),jI Uv/\(∀t y,yU H t=some y->yU H' t=some y)/\uF.length=xq.length/\Qq M' uF/\uF.map ZY.e=(xq.map ZY.e).modify i (Bd clock ok pt dn a)/\yO cb sb b' p' H' M' c'/\(dn=false->X Uv H' M')/\
   o=jC wb cb cf jX jK clock (.slice (some ⟨eb,0,none⟩) xq.length cap)::qT (.slice (some ⟨eb,0,none⟩) xq.length cap) uF::qH kb qv (if dn=true then .nilIface else .iface t (ptr mb)) i::((if dn=true then [] else Uv)++c'.ob)):=by
 have bh: ∀x:ZY,(xT x).length=15:=fun _=>rfl
 have y7:=ki bh xq;have hle:=gp bh xq hi;refine xy Tryz.func68 rfl Tryz.ntmps68 zd (fun F w M0 hF=>zz ?_)
 repeat' (refine nv ?_)
 refine kci cS ?_;rintro _ M2 _ zD-⟨-,rfl,Ps,H2,c2,hnm,hH,rfl,h2,hX⟩;refine zJ ?_;have cP2:=cP Ps H2 M2 hX;have cD2:=cD Ps H2 M2 hX;have cA2:=fun e=>cA e Ps H2 M2 hX
 clear cP cD cA cS
 repeat' (first|refine zU [] [] [] 1 yI zd zd ?_|refine nv ?_)
 repeat' (first|refine X0 zd (by exact Y4 (by exact zj i zd zd rfl hi)) zd ?_|refine nu ?_)
 obtain ⟨x1,oR⟩: ∃x1:ZY,x1=if (ok&&pt)=true then ⟨{xq[i].e with yd:=clock},xq[i].pv⟩ else xq[i]:=⟨_,rfl⟩
 have hs1:(xq.set i x1).length=xq.length:=xj;refine iJ (x:= .seq (.region 3 _ _) _) (fun s'=>vo s' ⟨M2,jC wb cb cf jX jK clock (.slice (some ⟨eb,0,none⟩) xq.length cap):: .zC (.slice (some ⟨eb,0,none⟩) xq.length cap) 49 15 xq.length ((xq.set i x1).flatMap xT)::qH kb qv (.iface t (ptr mb)) i::(Ps++(c2.ob++F)),[(0, .v (ptr wb)),(1, .v (ptr kb)),(5, .v (.bool ok)),(6, .v (.pointer (some ⟨eb,0+i*15,none⟩)))]⟩) ?_ ?_
 · intro _;cases ok with
   |false=>
    rw [zn yx] at oR;have e1:xq.set i x1=xq:=by rw [oR];exact IX hi
    rw [e1]
    repeat' (refine nv ?_)
    exact ⟨rfl,xZ jY⟩
   |true=>
    rw [XC] at oR
    repeat' (refine nv ?_)
    refine kci cP2 ?_;rintro _ M2 Ps- -⟨rfl,rfl,rfl⟩;refine zJ ?_;cases pt with
    |false=>
     rw [zn yx] at oR;have e1:xq.set i x1=xq:=by rw [oR];exact IX hi
     rw [e1]
     repeat' (refine nv ?_)
     exact ⟨rfl,xZ jY⟩
    |true=>
     rw [zo rfl] at oR;have e1:(xq.flatMap xT).set (0+i*15+12) (.int .i64 clock)=(xq.set i x1).flatMap xT:=iD bh xq hi (us:= [.int .i64 clock]) (by show 12+1<=15;decide) (by rw [oR];rfl)
     repeat' (first|refine kr1 zd ze e1 ?_|refine nv ?_)
     exact ⟨rfl,xZ jY⟩
 rintro s' hs;refine x8 _ hs ?_;clear hs s' cP2;have aky:x1.pv=xq[i].pv:=by rw [oR];split<;>rfl
 have akz:x1.e.a=xq[i].e.a:=by rw [oR];split<;>rfl
 have Rc:xq[i]∈xq:=yD hi
 have ahG:Qq M2 (xq.set i x1):=fun z hz=>by
  rcases dr hz with h1|rfl
  · exact (dD z h1).mono zD
  · rw [aky,akz];exact (dD _ Rc).mono zD
 generalize hE1:xq.set i x1=dF at*;have ao:i<dF.length:=ze;have hg1:dF[i]=x1:=by subst hE1;exact Sc _
 have anw:=ki bh dF;refine iJ (x:= .seq (.region 5 _ _) _) (fun s'=> ∃(M3:Mem) (ev2:List ZY),M2.le M3/\ev2.length=xq.length/\Qq M3 ev2/\ev2.map ZY.e=(xq.map ZY.e).modify i (Bd clock ok pt dn a)/\(dn=false->M3=M2)/\vo s' ⟨M3,jC wb cb cf jX jK clock (.slice (some ⟨eb,0,none⟩) xq.length cap):: .zC (.slice (some ⟨eb,0,none⟩) xq.length cap) 49 15 xq.length (ev2.flatMap xT)::qH kb qv (if dn=true then .nilIface else .iface t (ptr mb)) i::((if dn=true then [] else Ps)++(c2.ob++F)),[(5, .v (.bool ok))]⟩) ?_ ?_
 · intro _
   repeat' (refine nv ?_)
   refine kci cD2 ?_;rintro _ M2 Ps- -⟨rfl,rfl,rfl⟩;refine zJ ?_;cases dn with
   |false=>
    repeat' (refine nv ?_)
    refine ⟨rfl,M2,dF,zE,hs1,ahG,?_,fun _=>rfl,by rw [zn yx,zn yx];exact xZ xc⟩;rw [<-hE1];refine lA hi ?_;rw [oR];unfold Bd;dsimp only;rw [zn (show ¬ (false=true) by simp)];split<;>rfl
   |true=>
    have cA3:=cA2 rfl
    repeat' (first|refine zU [.v (.slice (some ⟨eb,0,none⟩) xq.length cap)] [7,14,17,20] [14] 2 yI zd zd ?_|refine nv ?_)
    repeat' (refine nu ?_)
    refine aeR cA3 rfl ?_ zx;rintro _ M3 Ps yc-⟨-,w3,rfl,hw3,rfl⟩;refine yJ ?_;have ow3:=hw3.yf;have e1:jT (dF.flatMap xT) (0+i*15+7) [.int .i64 a.err, .bool a.has, .string a.val,w3]=(dF.set i ⟨{x1.e with a:=a},w3⟩).flatMap xT:=iD bh dF ao (by show 7+4<=15;decide) (by rw [hg1];rfl);have l1:(dF.set i ⟨{x1.e with a:=a},w3⟩).length=dF.length:=xj;have g1:(dF.set i ⟨{x1.e with a:=a},w3⟩)[i]'(by omega)=⟨{x1.e with a:=a},w3⟩:=Sc _;have n1:=ki bh (dF.set i ⟨{x1.e with a:=a},w3⟩)
    have e2:((dF.set i ⟨{x1.e with a:=a},w3⟩).flatMap xT).set (0+i*15+13) (.int .i64 clock)=(dF.set i ⟨{x1.e with a:=a,ended:=clock},w3⟩).flatMap xT:=by
     have:=iD bh (dF.set i ⟨{x1.e with a:=a},w3⟩) (i:=i) ze (j:=13) (us:= [.int .i64 clock]) (x:=⟨{x1.e with a:=a,ended:=clock},w3⟩) (by show 13+1<=15;decide) (by rw [g1];rfl);rw [Ks] at this;exact this
    have l2:(dF.set i ⟨{x1.e with a:=a,ended:=clock},w3⟩).length=dF.length:=xj;have g2:(dF.set i ⟨{x1.e with a:=a,ended:=clock},w3⟩)[i]'(by omega)=⟨{x1.e with a:=a,ended:=clock},w3⟩:=Sc _;have n2:=ki bh (dF.set i ⟨{x1.e with a:=a,ended:=clock},w3⟩)
    have e3:((dF.set i ⟨{x1.e with a:=a,ended:=clock},w3⟩).flatMap xT).set (0+i*15+14) (.bool true)=(dF.set i ⟨{x1.e with a:=a,ended:=clock,done:=true},w3⟩).flatMap xT:=by
     have:=iD bh (dF.set i ⟨{x1.e with a:=a,ended:=clock},w3⟩) (i:=i) ze (j:=14) (us:= [.bool true]) (x:=⟨{x1.e with a:=a,ended:=clock,done:=true},w3⟩) (by show 14+1<=15;decide) (by rw [g2];rfl);rw [Ks] at this;exact this
    have p7:Qq M3 (dF.set i ⟨{x1.e with a:=a,ended:=clock,done:=true},w3⟩):=fun z hz=>by
     rcases dr hz with h1|rfl
     · exact (ahG z h1).mono yc
     · exact hw3
    have Rb:(dF.set i ⟨{x1.e with a:=a,ended:=clock,done:=true},w3⟩).map ZY.e=(xq.map ZY.e).modify i (Bd clock ok pt true a):=by
     rw [<-hE1,Ks];refine lA hi ?_;rw [oR];unfold Bd;dsimp only;rw [zo rfl];split<;>rfl
    clear g1 g2
    have ho4:([.int .i64 a.err, .bool a.has, .string a.val,w3]:List Value).all (·.oneCell')=true:=by
     show ((Value.int .i64 a.err).oneCell'&&((Value.bool a.has).oneCell'&&((Value.string a.val).oneCell'&&(w3.oneCell'&&true))))=true;rw [ow3.h];rfl
    generalize dF.set i ⟨{x1.e with a:=a},w3⟩=f1 at*;generalize dF.set i ⟨{x1.e with a:=a,ended:=clock},w3⟩=f2 at*;have l3:(dF.set i ⟨{x1.e with a:=a,ended:=clock,done:=true},w3⟩).length=dF.length:=xj;generalize dF.set i ⟨{x1.e with a:=a,ended:=clock,done:=true},w3⟩=f3 at*
    repeat' (first|refine I2 zd (by exact gm (by first|exact frN zd (by show 0+i*15+7+4<=_;omega) e1|exact fr1 zd ze e2|exact fr1 zd ze e3)) zd ?_ ?_|refine nu ?_|exact zx)
    repeat' (refine nv ?_)
    exact ⟨rfl,M3,f3,yc,ze,p7,Rb,fun e=>(by cases e),by rw [zo rfl,zo rfl,Yn];exact xZ xc⟩
 rintro s' ⟨M3,ev2,yc,J5,p7,Rb,tr,hs⟩;refine x8 _ hs ?_;clear hs s';have l3:=zD.trans yc;have hmo:jI (if dn=true then [] else Ps):=by split<;>infer_instance
 repeat' (refine nv ?_)
 refine ⟨_,jC wb cb cf jX jK clock (.slice (some ⟨eb,0,none⟩) xq.length cap):: .zC (.slice (some ⟨eb,0,none⟩) xq.length cap) 49 15 xq.length (ev2.flatMap xT)::qH kb qv (if dn=true then .nilIface else .iface t (ptr mb)) i::((if dn=true then [] else Ps)++c2.ob),zP,l3,zh,zq,l3,rfl,Ps,H2,c2,ev2,hnm,hH,J5,p7,Rb,h2.mono yc,fun e=>by rw [tr e];exact hX,by rw [<-J5]⟩
end
section
open Go Go.RowKit
attribute [local irreducible] Calls
structure Qu where
 qv:Value
 qo:List Ob
inductive Zf:Qu->List Op->Prop where
 |nil:Zf ⟨.slice none 0 0,[]⟩ []
 |qZ (b off cap:Nat) (cur:List Value) (q:List Op) (h1:q.length<=cap) (h2:cap<=maxLen) (h3:off+cap*6<=cur.length) (h4:(cur.drop off).take (q.length*6)=q.flatMap kZ):Zf ⟨.slice (some ⟨b,off,none⟩) q.length cap,[.zK (ptr b) 31 cur]⟩ q
theorem Zf.Jk {x:Qu} {q:List Op} (h:Zf x q):jI x.qo:=by cases h<;>(dsimp only;infer_instance)
theorem Zf.one {x:Qu} {q:List Op} (h:Zf x q):xK x.qv:=by cases h<;>exact ⟨rfl⟩
theorem VD (o:Op):(kZ o).length=6:=rfl
theorem Zf.head {off cap n:Nat} {cur:List Value} {o:Op} {q:List Op} (hn:n=(o::q).length) (h3:off+cap*6<=cur.length) (h1:n<=cap) (h4:(cur.drop off).take (n*6)=(o::q).flatMap kZ):(cur.drop off).take 6=kZ o/\off+6<=cur.length:=by
 subst hn;rw [xd] at h1 h4;have h5:=z5 (List.take 6) h4;rw [wO,jn ze,j6] at h5;exact ⟨h5.trans (by rw [<-VD o,ua]),ze⟩
theorem Zf.pop {b off cap:Nat} {cur:List Value} {o:Op} {q:List Op} (h3:off+cap*6<=cur.length) (h1:(o::q).length<=cap) (h2:cap<=maxLen) (h4:(cur.drop off).take ((o::q).length*6)=(o::q).flatMap kZ):Zf ⟨sliced (some ⟨b,off,none⟩) 1 (o::q).length cap 6,[.zK (ptr b) 31 cur]⟩ q:=by
 rw [xd] at*;unfold sliced;split
 · rename_i hc
   have hq:q= []:=dm ze;subst hq;subst hc;exact .qZ b off 0 cur [] (zN _) ze ze rfl
 · rename_i hc
   have h5:=z5 (List.drop 6) h4;rw [GH,Q8,j6,<-VD o,GG,VD o] at h5;have e1:(⟨b,off,none⟩:Addr).add (1*6)=⟨b,off+6,none⟩:=vG ..;have:=Zf.qZ b (off+6) (cap-1) cur q ze ze ze (by rw [<-h5];congr 1;omega);simpa [e1] using this
abbrev qF (kb:Nat):List Value:= [ptr kb]
def pS:Option (Qp×Mc)->Value
 |none=> .nilIface
 |some m=>mcV m.2
def D7 (cb:Nat):Option (Qp×Mc)->List Ob
 |none=> []
 |some m=>sL cb m.2 m.1
theorem ads (cb:Nat) (m:Option (Qp×Mc)):jI (D7 cb m):=by cases m<;>(unfold D7;infer_instance)
instance (cb:Nat) (m:Option (Qp×Mc)):jI (D7 cb m):=ads cb m
def di (cb kb:Nat) (x:Qu) (m:Option (Qp×Mc)) (ev:Int):List Ob:=qH kb x.qv (pS m) ev::(x.qo++D7 cb m)
variable {wb cb sb kb:Nat} {b:Int} {p:jf} {H:List (Int×Nat)} {M:Mem} {c:Co}
theorem r9 {cf:qn} {jX jK jh:Value} {clock ev:Int} {vz:List Nat} {i:Nat} {mo:List Ob} {x:Qu} (hi:i<vz.length) (Tm:vz[i]=kb) (kW:xt M 1 qF jX vz) [xK jK] [xK jh] (hq:Zf x []):
 zu zf 69 [ptr wb, .int .i64 i] M [jC wb cb cf jX jK clock jh,qH kb x.qv .nilIface ev] (fun u M' o=>M'=M/\u= .bool false/\o= [jC wb cb cf jX jK clock jh,qH kb x.qv .nilIface ev]):=by
 obtain ⟨Ac,cc,rfl,_⟩:=id kW;obtain ⟨ba,off,rfl,jk⟩:=kW.get hi;have ZA:=jk 0 _ rfl;rw [Tm] at ZA
 have key: ∀A cap,x.qv= .slice A 0 cap->zu zf 69 [ptr wb, .int .i64 i] M [jC wb cb cf (.slice (some ⟨ba,off,none⟩) vz.length cc) jK clock jh,qH kb x.qv .nilIface ev] (fun u M' o=>M'=M/\u= .bool false/\o= [jC wb cb cf (.slice (some ⟨ba,off,none⟩) vz.length cc) jK clock jh,qH kb x.qv .nilIface ev]):=fun A cap e=>by
  rw [e];refine xy Tryz.func69 rfl Tryz.ntmps69 zd (fun F w M0 hF=>zz ?_)
  repeat' (first|((apply zA);(first|exact zj i zd zd rfl hi|exact hY zd ZA);rfl)|refine nv ?_)
  exact ⟨_,[jC wb cb cf (.slice (some ⟨ba,off,none⟩) vz.length cc) jK clock jh,qH kb (.slice A 0 cap) .nilIface ev],zP,zE,zh,zq,rfl,rfl,rfl⟩
 cases hq with
 |nil=>exact key _ _ rfl
 |qZ b off cap cur _ h1 h2 h3 h4=>exact key _ _ rfl
theorem Bj (h:yO cb sb b p H M c) {jX jK jh:Value} {clock ev:Int} {vz:List Nat} {i:Nat} {x:Qu} {o:Op} {q:List Op} {xq:List ZY} (hi:i<vz.length) (hi2:i<1000) (Tm:vz[i]=kb) (kW:xt M 1 qF jX vz) [xK jK] (hq:Zf x (o::q)) (ho:o.key.size<=1000000) (dD:Qq M xq) (oW:j2 jh xq.length) (hn:xq.length<=100000000):
 zu zf 69 [ptr wb, .int .i64 i] M (jC wb cb p.q.c jX jK clock jh::qT jh xq::(di cb kb x none ev++c.ob)) (fun u M' o'=>M'=M/\u= .bool true/\ ∃(x':Qu) (m':Option (Qp×Mc)) (dc:Value) (uF:List ZY) (H':List (Int×Nat)) (c':Co),Zf x' q/\j2 dc uF.length/\Qq M uF/\(∀t y,yU H t=some y->yU H' t=some y)/\o'=jC wb cb p.q.c jX jK clock dc::qT dc uF::(di cb kb x' m' xq.length++c'.ob)/\
  (if jb o=true then yO cb sb b (Z8 p i o).1 H' M c'/\m'.map (·.1)=some (Z8 p i o).2/\(∀y,m'=some y->pg cb H' M y.1 y.2)/\uF.map ZY.e=xq.map ZY.e++ [⟨i,o,NJ,clock,0,0,false⟩]
   else yO cb sb b p H' M c'/\m'=none/\uF.map ZY.e=xq.map ZY.e++ [⟨i,o,⟨3,false,em,[]⟩,clock,clock,clock,true⟩])):=by
 obtain ⟨Ac,cc,rfl,_⟩:=id kW;obtain ⟨ba,o6,rfl,jk⟩:=kW.get hi;have ZA:=jk 0 _ rfl;rw [Tm] at ZA;obtain ⟨Ae,ce,rfl,hce⟩:=oW.sl2;generalize hoq:o::q=oq at hq;cases hq with
 |nil=>cases hoq
 |qZ qb off cap cur _ h1 h2 h3 h4=>
 subst hoq;have aaB:=Zf.pop (b:=qb) h3 h1 h2 h4;obtain ⟨hh1,hh2⟩:=Zf.head rfl h3 h1 h4;have alg:(cur.drop (off+0*6)).take 6=kZ o:=hh1;have alf:off+0*6+6<=cur.length:=hh2;obtain ⟨ln,nX⟩: ∃ln,(o::q).length=ln:=⟨_,rfl⟩;rw [nX] at h1 aaB⊢;have U4:0<ln:=by rw [<-nX];exact Nat.succ_pos _
 have g0:((ln:Int)==0)=false:=beq_eq_false_iff_ne.2 ze;generalize sV:sliced (some ⟨qb,off,none⟩) 1 ln cap 6=sl at aaB;have osl:=aaB.one;dsimp only at osl;have cR:=fun W=>lp o W ho
 change zu _ _ _ _ (jC wb cb p.q.c (.slice (some ⟨ba,o6,none⟩) vz.length cc) jK clock (.slice Ae xq.length ce)::qT (.slice Ae xq.length ce) xq::qH kb (.slice (some ⟨qb,off,none⟩) ln cap) .nilIface ev:: .zK (ptr qb) 31 cur::c.ob) _;refine xy Tryz.func69 rfl Tryz.ntmps69 zd (fun F w M0 hF=>zz ?_)
 repeat' (first|refine yh (dst:=some 6) zh fun b6=>?_|refine zU [] [7,8] [] 1 yI zd zd ?_|((apply zA);(first|exact zj i zd zd rfl hi|exact hY zd ZA|exact zj 0 zd zd rfl U4|exact Oi zd alg alf|exact xG sV (yg 1 ln cap zd zd zd zd ze ze ze ze));rfl)|refine nv ?_)
 repeat' (first|refine G9 rfl (fun b7=>?_) ?_|refine I2 zd (by exact gm (by exact RE (us:=xT ⟨⟨i,o,NJ,clock,0,0,false⟩, .slice none 0 0⟩) zd)) zd ?_ ?_|refine nu ?_|exact zx)
 refine iJ (x:= .seq (.region 8 _ _) _) (fun s'=> ∃(x1:iK) (m':Option (Qp×Mc)) (H':List (Int×Nat)) (c':Co),x1.a.ps= []/\(∀t y,yU H t=some y->yU H' t=some y)/\
  vo s' ⟨M, .zK (ptr b7) 49 (xT ⟨x1, .slice none 0 0⟩)::jC wb cb p.q.c (.slice (some ⟨ba,o6,none⟩) vz.length cc) jK clock (.slice Ae xq.length ce)::qT (.slice Ae xq.length ce) xq::qH kb sl (pS m') xq.length:: .zK (ptr qb) 31 cur::(D7 cb m'++(c'.ob++F)),[(0, .v (ptr wb)),(7, .v (ptr b7))]⟩/\
   (if jb o=true then yO cb sb b (Z8 p i o).1 H' M c'/\m'.map (·.1)=some (Z8 p i o).2/\(∀y,m'=some y->pg cb H' M y.1 y.2)/\x1=⟨i,o,NJ,clock,0,0,false⟩
    else yO cb sb b p H' M c'/\m'=none/\x1=⟨i,o,⟨3,false,em,[]⟩,clock,clock,clock,true⟩)) ?_ ?_
 · intro _;cases hr:jb o with
   |true=>
    rw [hr,zo rfl] at cR;have cM:=n5 (wb:=wb) h (jX:= .slice (some ⟨ba,o6,none⟩) vz.length cc) (jK:=jK) (jh:= .slice Ae xq.length ce) (clock:=clock) (th:=i) ze ze o ho
    repeat' (first|((apply zA);(exact zm zd (fun W _=>cR W));rfl)|refine nv ?_)
    refine xQ cM ?_;rintro _ M2 _- -⟨hM,y,H',c',rfl,hH,rfl,vk,hy⟩;subst hM;refine zJ ?_
    repeat' (refine nv ?_)
    exact ⟨rfl,⟨i,o,NJ,clock,0,0,false⟩,some ((Z8 p i o).2,y),H',c',rfl,hH,by dsimp only [pS,D7];exact xZ j4,by rw [zo rfl];exact ⟨vk,rfl,fun z e=>(by cases e;exact hy),rfl⟩⟩
   |false=>
    rw [hr,zn yx] at cR
    repeat' (first|refine zU [.v (ptr b7)] [11,13,15,17] [11] 1 yI zd zd ?_|((apply zA);(exact zm zd (fun W _=>cR W));rfl)|refine nv ?_)
    repeat' (first|refine nu ?_|exact zx|refine nz ?_ ?_)
    exact ⟨rfl,⟨i,o,⟨3,false,em,[]⟩,clock,clock,clock,true⟩,none,H,c,rfl,fun _ _ e=>e,by dsimp only [pS,D7,List.nil_append];exact xZ j4,by rw [zn yx];exact ⟨h,rfl,rfl⟩⟩
 rintro s' ⟨x1,m',H',c',oT,hH,hs,km⟩;refine x8 _ hs ?_;clear hs s' cR;have e1:(xq++ [(⟨x1, .slice none 0 0⟩:ZY)]).length=xq.length+1:=by simp
 have e2:(xq++ [(⟨x1, .slice none 0 0⟩:ZY)]).flatMap xT=xq.flatMap xT++xT ⟨x1, .slice none 0 0⟩:=by simp
 have e3:(xq++ [(⟨x1, .slice none 0 0⟩:ZY)]).map ZY.e=xq.map ZY.e++ [x1]:=by simp
 have alt:Qq M (xq++ [(⟨x1, .slice none 0 0⟩:ZY)]):=fun z hz=>by
  rcases jH.1 hz with h1|h1
  · exact dD z h1
  · rw [jx.1 h1];dsimp only;rw [oT];exact xt.nil _ _ _
 repeat' (first|refine zU [.v (ptr wb), .v (.slice Ae xq.length ce)] [6,7,10] [7] 4 yI zd zd ?_|refine nv ?_)
 repeat' (first|(refine Uc rfl rfl (fun w1 be=>?_) ?_;obtain ⟨bb1,cc1,rfl,MV,MU⟩:=xB be ze)|refine V2 rfl rfl rfl (fun w2 V9=>have ow2:=j2.yf V9;?_) ?_|refine nu ?_|exact zx|refine nz ?_ ?_)
 repeat' (refine nv ?_)
 refine ⟨_,jC wb cb p.q.c (.slice (some ⟨ba,o6,none⟩) vz.length cc) jK clock w2::qT w2 (xq++ [(⟨x1, .slice none 0 0⟩:ZY)])::(di cb kb ⟨sl,[.zK (ptr qb) 31 cur]⟩ m' xq.length++c'.ob),zP,zE,by unfold di;infer_instance,?_,rfl,rfl,⟨sl,[.zK (ptr qb) 31 cur]⟩,m',w2,xq++ [(⟨x1, .slice none 0 0⟩:ZY)],H',c',aaB,by rw [e1];exact V9,alt,hH,rfl,?_⟩
 · unfold di qT;rw [e1,e2];exact zq (zw:=jC wb cb p.q.c (.slice (some ⟨ba,o6,none⟩) vz.length cc) jK clock w2:: .zC w2 49 15 (xq.length+1) (xq.flatMap xT++xT ⟨x1, .slice none 0 0⟩)::qH kb sl (pS m') xq.length:: .zK (ptr qb) 31 cur::(D7 cb m'++c'.ob))
 · rw [e3];split at km
   · rename_i hr
     rw [zo hr];obtain ⟨q1,q2,q3,rfl⟩:=km;exact ⟨q1,q2,q3,rfl⟩
   · rename_i hr
     rw [zn hr];obtain ⟨q1,q2,rfl⟩:=km;exact ⟨q1,q2,rfl⟩
end
end Go.Proofs.YtaibdpjjojihmaaGreat
