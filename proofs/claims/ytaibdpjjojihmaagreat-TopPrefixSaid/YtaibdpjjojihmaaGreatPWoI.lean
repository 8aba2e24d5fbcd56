/- A part of the proof of TopPrefix; no conditions. -/
import Derived.Test.YtaibdpjjojihmaaGreatPWo10
set_option linter.unusedVariables false
set_option linter.unusedSimpArgs false
set_option maxRecDepth 20000
set_option maxHeartbeats 4000000
namespace Go.Proofs.YtaibdpjjojihmaaGreat
section
open Go Go.RowKit
attribute [local irreducible] Calls
variable {b:Int} {q:YI} {M:Mem} {w:Wo}
theorem Px (x:Mc): ∃t v,mcV x= .iface t v:=by cases x<;>exact ⟨_,_,rfl⟩
theorem abZ {P:Program} {M:Mem} {f:FuncId} {vs:List Value} {own zO:List Ob} {R:Value->Mem->List Ob->Prop} (h:zu P f vs M zO R) (hp:own.Perm zO) (hn:jI own) (hr: ∀u M' o,R u M' o->jI o):zu P f vs M own R:=
 h.wide (G:= []) ⟨by rw [xR];exact hp⟩ hn fun u M' o _ hR=>⟨o,by rw [xR];exact ji.refl _,hr u M' o hR,hR⟩
theorem HR {α:Type} (W E K:α) (A B X C D Y:List α):(W::E::(A++((K::(X++Y))++B)++(D++C))).Perm ((W::K::E::(X++(Y++C)))++(A++(B++D))):=by
 haveI:DecidableEq α:=fun a b=>Classical.propDecidable (a=b)
 rw [Kc];intro z;simp only [Yo,Ym];omega
theorem ut.cl {b':Int} {q':YI} {M':Mem} {c':Co} {H':List (Int×Nat)} {dc:Value} {uF:List ZY} {l1 l2:List Cl} {y y':Cl} {i:Nat} (h:ut b q M w) (hle:M.le M') (hl:w.cls=l1++y::l2) (an:l1.length=i) (hk:y'.kb=y.kb) (hH: ∀t z,yU w.H t=some z->yU H' t=some z) (hc:yO w.cb w.sb b' q'.p H' M' c') (hq1:q'.cls=q.cls.set i y'.pure) (pZ:q'.qg=q.qg) (dD:uF.map ZY.e=q'.xq) (oS:j2 dc uF.length) (ju:Qq M' uF) (Ea:Zf y'.x y'.q) (hm: ∀m,y'.m=some m->pg w.cb H' M' m.1 m.2):
 ut b' q' M' {w with c:=c',H:=H',jh:=dc,xq:=uF,cls:=l1++y'::l2}:=by
 have e0:w.cls.map Cl.kb=(l1++y'::l2).map Cl.kb:=by rw [hl];simp [hk]
 refine ⟨hc,?_,by dsimp only;rw [pZ];exact h.qg,dD,by dsimp only;rw [<-e0];exact h.jX.mono hle,h.jK.mono hle,oS,ju,fun z hz=>?_,fun z hz m CO=>?_,fun z hz=>(h.wk z hz).mono hH⟩
 · dsimp only;rw [hq1,<-h.cls,hl,jo,jo,xw,xw,<-an];rw [show l1.length=(l1.map Cl.pure).length by simp,HF]
 · rcases jH.1 hz with h3|h3
   · exact h.qu z (by rw [hl];exact rN _ h3)
   · rcases jm.1 h3 with rfl|h3
     · exact Ea
     · exact h.qu z (by rw [hl];exact rP _ (XJ _ h3))
 · rcases jH.1 hz with h3|h3
   · exact (h.mc z (by rw [hl];exact rN _ h3) m CO).mono hH hle
   · rcases jm.1 h3 with rfl|h3
     · exact hm m CO
     · exact (h.mc z (by rw [hl];exact rP _ (XJ _ h3)) m CO).mono hH hle
theorem N7 (h:ut b q M w) {n:Nat} (hi:Zd n q) (hn:n<=80000) (hb:b<=999999990) {i:Nat} (kg:i<w.cls.length) {m:Qp} {x:Mc} (hm:w.cls[i].m=some (m,x)):
 zu zf 44 [ptr w.wb, .int .i64 (i:Int)] M (w.ob q.p.q.c q.clock) (fun u M' o=>M.le M'/\ ∃w':Wo,w'.wb=w.wb/\o=w'.ob q.p.q.c (q.clock+1)/\ut (b+2) (qE {q with clock:=q.clock+1} i) M' w'):=by
 obtain ⟨l1,y,l2,hl,an,FQ⟩:=lE w.cls kg;rw [FQ] at hm;have K6:y∈w.cls:=by rw [hl];simp
 have nW:q.cls[i]?=some y.pure:=by rw [<-h.cls,qd,jA kg,FQ];rfl
 have A9:y.pure∈q.cls:=Xj nW;obtain ⟨mi,me0,me1⟩:=hi.mc _ A9 m (by unfold Cl.pure;rw [hm];rfl);have he0:0<=y.ev:=me0;have Iq:y.ev<q.xq.length:=me1;have hqe:q.xq.length=w.xq.length:=by rw [<-h.xq,yo]
 have h1:=hi.h1;have c1:=hi.c1;have n1:=hi.nV;have n2:=hi.AW;have alr:=hi.ev;have hqw:q.qg.length=w.qg.length:=by rw [<-h.qg,yo]
 have hqc:q.cls.length=w.cls.length:=by rw [<-h.cls,yo]
 obtain ⟨ei,hei⟩: ∃ei:Nat,y.ev=(ei:Int):=⟨y.ev.toNat,ze⟩;obtain ⟨eb,cap,aeg,aqn,aqm⟩:=xB h.jh ze;have Ea:=h.qu y K6;haveI:=Ea.one;haveI:=Ea.Jk;haveI:=h.jh.yf;haveI:=h.jX.yf;haveI:=h.jK.yf;have sX:=h.mc y K6 (m,x) hm;have cS:=TD (wb:=w.wb) (kb:=y.kb) h.co hb hi.h0 ze sX hn mi (cf:=q.p.q.c) (jX:=w.jX) (jK:=w.jK) (qv:=y.x.qv) (cap:=cap) (eb:=eb) (clock:=q.clock+1) ei h.Dk ze ze;rw [<-aeg] at cS;obtain ⟨t,v,htv⟩:=Px x;have cS2:=abZ (own:=jC w.wb w.cb q.p.q.c w.jX w.jK (q.clock+1) w.jh::qH y.kb y.x.qv (mcV x) ei::(qT w.jh w.xq::(sL w.cb x m++w.c.ob))) cS ((List.Perm.swap _ _ _).cons _) zh (by rintro u M' o ⟨-,m',H',c',uF,-,-,-,-,-,-,-,rfl⟩;infer_instance);rw [htv] at cS2;haveI:xK (.iface t v):=by rw [<-htv];infer_instance
 have cP:=L2 (wb:=w.wb) (kb:=y.kb) (vz:=w.cls.map Cl.kb) (pu:=w.qg.map fun y=>y.1.wb) (i:=i) h.jX h.jK (by rw [yo];omega) (by rw [yo];omega) hi.c0 ze (by rw [yo];exact kg) (by rw [XD,FQ]) cS2;rw [<-htv] at cP
 have hp:qE {q with clock:=q.clock+1} i=Ko {q with clock:=q.clock+1} i y.pure m:=by
  unfold qE;dsimp only;rw [nW];dsimp only;have:y.pure.m=some m:=by unfold Cl.pure;rw [hm];rfl
  rw [this]
 rw [hp];refine cP.wide (G:=y.x.qo++(l1.flatMap (ZX w.cb)++(l2.flatMap (ZX w.cb)++w.qg.flatMap (fM w.cb)))) ⟨?_⟩ (h.Jk _ _) ?_
 · unfold Wo.ob;rw [hl,vW];have:=il (jC w.wb w.cb q.p.q.c w.jX w.jK q.clock w.jh) (qT w.jh w.xq) (qH y.kb y.x.qv (mcV x) ei) (l1.flatMap (ZX w.cb)) (l2.flatMap (ZX w.cb)) y.x.qo (sL w.cb x m) w.c.ob (w.qg.flatMap (fM w.cb));rw [show ZX w.cb y=qH y.kb y.x.qv (mcV x) ei::(y.x.qo++sL w.cb x m) by unfold ZX di;rw [hm,hei];rfl];exact this
 · rintro u M' o hle ⟨-,m',H',c',uF,hH,F1,ju,Rb,vk,hmm,hma,rfl⟩
   have uM:=h.cl (b':=b+2) (q':=Ko {q with clock:=q.clock+1} i y.pure m) (c':=c') (dc:=w.jh) (uF:=uF) (y':=⟨y.kb,y.x,y.q,m',ei⟩) hle hl an rfl hH vk (by
    unfold Ko Cl.pure;dsimp only;rw [hmm,hei]) rfl (by
    rw [Rb,h.xq];unfold Ko Cl.pure;dsimp only;rw [hei,Yp]) (by rw [F1];exact h.jh) ju Ea hma
   refine ⟨({w with c:=c',H:=H',jh:=w.jh,xq:=uF,cls:=l1++⟨y.kb,y.x,y.q,m',ei⟩::l2}:Wo).ob q.p.q.c (q.clock+1),ji.perm (nD ?_),uM.Jk _ _,hle,{w with c:=c',H:=H',jh:=w.jh,xq:=uF,cls:=l1++⟨y.kb,y.x,y.q,m',ei⟩::l2},rfl,rfl,uM⟩;unfold Wo.ob;dsimp only;rw [vW];have:=il (jC w.wb w.cb q.p.q.c w.jX w.jK (q.clock+1) w.jh) (qT w.jh uF) (qH y.kb y.x.qv (pS m') ei) (l1.flatMap (ZX w.cb)) (l2.flatMap (ZX w.cb)) y.x.qo (D7 w.cb m') c'.ob (w.qg.flatMap (fM w.cb));refine this.trans ?_;refine Sf _ ?_;exact (List.Perm.swap _ _ _).cons _
theorem Hi (h:ut b q M w) {n:Nat} (hi:Zd n q) (hn:n<=80000) {i:Nat} (kg:i<w.cls.length) (hm:w.cls[i].m=none):
 zu zf 44 [ptr w.wb, .int .i64 (i:Int)] M (w.ob q.p.q.c q.clock) (fun u M' o=>M.le M'/\ ∃w':Wo,w'.wb=w.wb/\o=w'.ob q.p.q.c (q.clock+1)/\ut (b+2) (qE {q with clock:=q.clock+1} i) M' w'):=by
 obtain ⟨l1,y,l2,hl,an,FQ⟩:=lE w.cls kg;rw [FQ] at hm;have K6:y∈w.cls:=by rw [hl];simp
 have nW:q.cls[i]?=some y.pure:=by rw [<-h.cls,qd,jA kg,FQ];rfl
 have A9:y.pure∈q.cls:=Xj nW;have Tk:=hi.qs _ A9;have hqe:q.xq.length=w.xq.length:=by rw [<-h.xq,yo]
 have c1:=hi.c1;have n1:=hi.nV;have n2:=hi.AW;have alr:=hi.ev;have hqw:q.qg.length=w.qg.length:=by rw [<-h.qg,yo]
 have hqc:q.cls.length=w.cls.length:=by rw [<-h.cls,yo]
 have Ea:=h.qu y K6;haveI:=Ea.one;haveI:=Ea.Jk;haveI:=h.jh.yf;haveI:=h.jX.yf;haveI:=h.jK.yf
 have hp:qE {q with clock:=q.clock+1} i=(match y.q with| []=> {q with clock:=q.clock+1}|o::r=>XW {q with clock:=q.clock+1} i y.pure o r):=by
  unfold qE;dsimp only;rw [nW];dsimp only;have:y.pure.m=none:=by unfold Cl.pure;rw [hm];rfl
  rw [this];rfl
 rw [hp];have aei:ZX w.cb y=qH y.kb y.x.qv .nilIface y.ev::(y.x.qo++ []):=by unfold ZX di;rw [hm];rfl
 cases hyq:y.q with
 |nil=>
  dsimp only;rw [hyq] at Ea;have cB:=r9 (wb:=w.wb) (cb:=w.cb) (kb:=y.kb) (M:=M) (cf:=q.p.q.c) (jX:=w.jX) (jK:=w.jK) (jh:=w.jh) (clock:=q.clock+1) (ev:=y.ev) (i:=i) (mo:= []) (by rw [yo];exact kg) (by rw [XD,FQ]) h.jX Ea;have cP:=lg (wb:=w.wb) (kb:=y.kb) (jh:=w.jh) (qv:=y.x.qv) (clock:=q.clock) (vz:=w.cls.map Cl.kb) (pu:=w.qg.map fun y=>y.1.wb) (i:=i) (G:= []) h.jX h.jK (by rw [yo];omega) (by rw [yo];omega) hi.c0 ze (by rw [yo];exact kg) (by rw [XD,FQ]) cB;refine cP.wide (G:=qT w.jh w.xq::([]++w.c.ob)++(y.x.qo++(l1.flatMap (ZX w.cb)++(l2.flatMap (ZX w.cb)++w.qg.flatMap (fM w.cb))))) ⟨?_⟩ (h.Jk _ _) ?_
  · unfold Wo.ob;rw [hl,vW,aei];exact il (jC w.wb w.cb q.p.q.c w.jX w.jK q.clock w.jh) (qT w.jh w.xq) (qH y.kb y.x.qv .nilIface y.ev) (l1.flatMap (ZX w.cb)) (l2.flatMap (ZX w.cb)) y.x.qo [] w.c.ob (w.qg.flatMap (fM w.cb))
  · rintro u M' o hle ⟨rfl,-,rfl⟩;have uM:ut (b+2) {q with clock:=q.clock+1} M' w:=⟨h.co.up ze,h.cls,h.qg,h.xq,h.jX,h.jK,h.jh,h.Dk,h.qu,h.mc,h.wk⟩;refine ⟨w.ob q.p.q.c (q.clock+1),ji.perm (nD ?_),uM.Jk _ _,hle,w,rfl,rfl,uM⟩;unfold Wo.ob;rw [hl,vW,aei];exact il (jC w.wb w.cb q.p.q.c w.jX w.jK (q.clock+1) w.jh) (qT w.jh w.xq) (qH y.kb y.x.qv .nilIface y.ev) (l1.flatMap (ZX w.cb)) (l2.flatMap (ZX w.cb)) y.x.qo [] w.c.ob (w.qg.flatMap (fM w.cb))
 |cons o r=>
  dsimp only;have hyp:y.pure.q=o::r:=hyq;rw [hyq] at Ea;have cB:=Bj (wb:=w.wb) (kb:=y.kb) h.co (jX:=w.jX) (jK:=w.jK) (jh:=w.jh) (clock:=q.clock+1) (ev:=y.ev) (i:=i) (by rw [yo];exact kg) ze (by rw [XD,FQ]) h.jX Ea (Tk.2 o (by rw [hyp];simp)) h.Dk h.jh ze
  have cB2:=abZ (own:=jC w.wb w.cb q.p.q.c w.jX w.jK (q.clock+1) w.jh::qH y.kb y.x.qv .nilIface y.ev::(qT w.jh w.xq::(y.x.qo++([]++w.c.ob)))) cB (by
   unfold di D7 pS;rw [xR,Yn];exact (List.Perm.swap _ _ _).cons _) zh (by rintro u M' o' ⟨-,-,x',m',dc,uF,H',c',hqx,-,-,-,rfl,-⟩;haveI:=hqx.Jk;unfold di;infer_instance)
  have cP:=lg (wb:=w.wb) (kb:=y.kb) (vz:=w.cls.map Cl.kb) (pu:=w.qg.map fun y=>y.1.wb) (i:=i) h.jX h.jK (by rw [yo];omega) (by rw [yo];omega) hi.c0 ze (by rw [yo];exact kg) (by rw [XD,FQ]) cB2;refine cP.wide (G:=l1.flatMap (ZX w.cb)++(l2.flatMap (ZX w.cb)++w.qg.flatMap (fM w.cb))) ⟨?_⟩ (h.Jk _ _) ?_
  · unfold Wo.ob;rw [hl,vW,aei];exact HR _ _ _ _ _ _ _ _ _
  · rintro u M' o' hle ⟨rfl,-,x',m',dc,uF,H',c',hqx,oS,ju,hH,rfl,km⟩
    have uM:ut (b+2) (XW {q with clock:=q.clock+1} i y.pure o r) M' {w with c:=c',H:=H',jh:=dc,xq:=uF,cls:=l1++⟨y.kb,x',r,m',(w.xq.length:Nat)⟩::l2}:=by
     unfold XW;dsimp only;split at km
     · rename_i hr
       obtain ⟨r1,r2,r3,r4⟩:=km;rw [zo hr]
       exact h.cl (y':=⟨y.kb,x',r,m',(w.xq.length:Nat)⟩) hle hl an rfl hH (r1.up ze) (by
        unfold Cl.pure;dsimp only;rw [r2,hqe]) rfl (by rw [r4,h.xq]) oS ju hqx r3
     · rename_i hr
       obtain ⟨r1,rfl,r4⟩:=km;rw [zn hr]
       exact h.cl (y':=⟨y.kb,x',r,none,(w.xq.length:Nat)⟩) hle hl an rfl hH (r1.up ze) (by
        unfold Cl.pure;dsimp only;rw [hqe];rfl) rfl (by rw [r4,h.xq]) oS ju hqx (fun m e=>(nomatch e))
    refine ⟨({w with c:=c',H:=H',jh:=dc,xq:=uF,cls:=l1++⟨y.kb,x',r,m',(w.xq.length:Nat)⟩::l2}:Wo).ob q.p.q.c (q.clock+1),ji.perm (nD ?_),uM.Jk _ _,hle,{w with c:=c',H:=H',jh:=dc,xq:=uF,cls:=l1++⟨y.kb,x',r,m',(w.xq.length:Nat)⟩::l2},rfl,rfl,uM⟩;unfold Wo.ob;dsimp only;rw [vW];have:=HR (jC w.wb w.cb q.p.q.c w.jX w.jK (q.clock+1) dc) (qT dc uF) (qH y.kb x'.qv (pS m') (w.xq.length:Nat)) (l1.flatMap (ZX w.cb)) (l2.flatMap (ZX w.cb)) x'.qo c'.ob (w.qg.flatMap (fM w.cb)) (D7 w.cb m');refine this.trans (Sf _ ?_);unfold di;rw [wQ,xY];exact (List.Perm.swap _ _ _).cons _
end
section
open Go Go.RowKit
theorem MB (s:kY) (o:Op):(QO s o).1.c=s.c:=by unfold QO;split<;>rfl
theorem H9 (s:kY):(U1 s).1.c=s.c:=by
 unfold U1
 repeat' split
 all_goals rfl
theorem T7 (s:kY) (p i:Int):(lj s p i).1.c=s.c:=by
 unfold lj
 repeat' split
 all_goals rfl
theorem mF (p:jf) (y:Yx):(jM p y).1.q.c=p.q.c:=by
 unfold jM;split
 · rfl
 · unfold RJ;split
   · unfold Km;split<;>rfl
   · dsimp only;unfold Yg Vd wL JA
     repeat' split
     all_goals first|rfl|exact H9 _
   · unfold Y8;split<;>rfl
   · dsimp only;unfold Uq ru wL JA
     repeat' split
     all_goals first|rfl|exact T7 _ _ _
theorem OB (p:jf) (w:dG):(kO p w).1.q.c=p.q.c:=by
 unfold kO;split
 · exact mF _ _
 · split
   · rfl
   · exact mF _ _
theorem OA (p:jf) (o:Op):(Xr p o).q.c=p.q.c:=by rw [Oz,MB]
theorem Oy (p:jf) (r:JM):(jE p r).1.q.c=p.q.c:=by
 unfold jE;split
 · rfl
 · unfold Lh;split
   · unfold vO;split<;>rfl
   · dsimp only;unfold UI Uf JA
     repeat' split
     all_goals first|exact OA _ _|exact (H9 _).trans (OA _ _)
   · unfold YJ Uf
     repeat' split
     all_goals exact mF _ _
theorem B8 (p:jf) (r:gE):(jj p r).1.q=p.q/\(jj p r).1.ch=p.ch/\(jj p r).1.wa=p.wa:=by
 unfold jj;split
 · exact ⟨rfl,rfl,rfl⟩
 · split
   · unfold Jg;repeat' split
     all_goals exact ⟨rfl,rfl,rfl⟩
   · unfold YS;split<;>exact ⟨rfl,rfl,rfl⟩
theorem PQ (p:jf) (s:qM) (z:Nd):(Zw p s z).1.q=p.q/\(Zw p s z).1.ch=p.ch:=by
 unfold Zw;dsimp only;split
 · split
   · exact ⟨rfl,rfl⟩
   · dsimp only;exact ⟨rfl,rfl⟩
 · exact ⟨rfl,rfl⟩
theorem PR (p:jf) (s:qM) (z:Nd):(ai p s z).1.q=p.q/\(ai p s z).1.ch=p.ch:=by
 unfold ai;dsimp only;split
 · exact ⟨rfl,rfl⟩
 · split
   · exact PQ _ _ _
   · exact ⟨rfl,rfl⟩
theorem CH (p:jf) (s:qM):(jF p s).1.q=p.q/\(jF p s).1.ch=p.ch:=by
 unfold jF;split
 · exact ⟨rfl,rfl⟩
 · unfold Fw;split
   · unfold Jn;split<;>exact ⟨rfl,rfl⟩
   · unfold Zu;split<;>exact ⟨rfl,rfl⟩
   · dsimp only;unfold Zv;split
     · split
       · exact ⟨rfl,rfl⟩
       · exact PR _ _ _
     · exact PR _ _ _
   · unfold Zx;split<;>exact ⟨rfl,rfl⟩
   · dsimp only;unfold vJ;split<;>exact ⟨rfl,rfl⟩
theorem Py (p:jf) (m:Qp):(kQ p m).1.q.c=p.q.c:=by
 cases m with
 |rd r=>exact z5 kY.c (B8 p r).1
 |kn s=>exact z5 kY.c (CH p s).1
 |wr r=>exact Oy p r
theorem sM (p:jf) (th:Int) (o:Op):(Z8 p th o).1.q=p.q/\(Z8 p th o).1.ch=p.ch:=by
 unfold Z8
 repeat' split
 all_goals exact ⟨rfl,rfl⟩
theorem Ll (p:jf) (w:dG) (h0:0<=p.ch) {n:Nat} (hd: ∀y,w.cy=some y->0<=y.Qx/\y.Qx<=n):(0<=(kO p w).1.ch/\(kO p w).1.ch<=p.ch+1)/\ ∀y,(kO p w).2.1.cy=some y->0<=y.Qx/\y.Qx<=((n+1:Nat):Int):=by
 have go: ∀(v:dG) (y:Yx),0<=y.Qx->y.Qx<=n->(0<=(Bs p v y).1.ch/\(Bs p v y).1.ch<=p.ch+1)/\ ∀z,(Bs p v y).2.1.cy=some z->0<=z.Qx/\z.Qx<=((n+1:Nat):Int):=fun v y d0 d1=>by
  obtain ⟨⟨a,b⟩,c,d⟩:=ry (p:=p) (y:=y) h0 d0;refine ⟨⟨a,b⟩,fun z hz=>?_⟩;unfold Bs at hz;dsimp only at hz;split at hz
  · unfold UK at hz;split at hz<;>cases hz
  · cases hz;omega
 unfold kO;split
 · rename_i y hy
   exact go _ _ (hd y hy).1 (hd y hy).2
 · rename_i hy
   split
   · refine ⟨⟨h0,by dsimp only;omega⟩,fun z hz=>?_⟩;have:(X7 p w).1.cy=w.cy:=rfl;dsimp only at hz;rw [this,hy] at hz;cases hz
   · exact go _ _ (k9 _) (by show (0:Int)<=n;omega)
theorem Lf (p:jf) (r:JM) (h0:0<=p.ch) {n:Nat} (hh:0<=r.qS/\r.qS<=n) (hd: ∀y,r.nx= .QR y->0<=y.Qx/\y.Qx<=n):(0<=(jE p r).1.ch/\(jE p r).1.ch<=p.ch+2)/\(0<=(jE p r).2.1.qS/\(jE p r).2.1.qS<=((n+1:Nat):Int))/\(jE p r).2.1.o=r.o/\ ∀y,(jE p r).2.1.nx= .QR y->0<=y.Qx/\y.Qx<=((n+1:Nat):Int):=by
 have CV: ∀(y:Yx),0<=y.Qx/\y.Qx<=(n:Int)->0<=y.Qx/\y.Qx<=((n+1:Nat):Int):=fun y h=>ze
 unfold jE;split
 · exact ⟨⟨h0,by dsimp only;omega⟩,⟨hh.1,by dsimp only;omega⟩,rfl,fun y e=>CV y (hd y e)⟩
 · have iv:({r with yd:=false}:JM).qS=r.qS/\({r with yd:=false}:JM).o=r.o/\({r with yd:=false}:JM).nx=r.nx:=⟨rfl,rfl,rfl⟩;generalize ({r with yd:=false}:JM)=r0 at*;obtain ⟨e1,e2,e3⟩:=iv;rw [<-e1] at hh;rw [<-e3] at hd;rw [<-e2];unfold Lh;split
   · unfold vO;split
     · exact ⟨⟨h0,by dsimp only;omega⟩,⟨hh.1,by dsimp only;omega⟩,rfl,fun y e=>(nomatch e)⟩
     · exact ⟨⟨h0,by dsimp only;omega⟩,⟨hh.1,by dsimp only;omega⟩,rfl,fun y e=>CV y (hd y e)⟩
   · rename_i WB
     have hw:=Hv p r0.o;dsimp only;unfold UI;split
     · exact ⟨⟨by show 0<=(Xr p r0.o).ch;omega,by show (Xr p r0.o).ch<=_;omega⟩,⟨hh.1,by show r0.qS<=_;omega⟩,rfl,fun y e=>CV y (hd y e)⟩
     · split
       · exact ⟨⟨by show 0<=(Xr p r0.o).ch;omega,by show (Xr p r0.o).ch<=_;omega⟩,⟨by show 0<=r0.qS+1;omega,by show r0.qS+1<=_;omega⟩,rfl,fun y e=>(by cases e;exact ⟨k9 _,by show (0:Int)<=_;omega⟩)⟩
       · split
         · exact ⟨⟨by show 0<=(Xr p r0.o).ch;omega,by show (Xr p r0.o).ch<=_;omega⟩,⟨hh.1,by show r0.qS<=_;omega⟩,rfl,fun y e=>CV y (hd y e)⟩
         · exact ⟨⟨by show 0<=(Xr p r0.o).ch+1;omega,by show (Xr p r0.o).ch+1<=_;omega⟩,⟨hh.1,by show r0.qS<=_;omega⟩,rfl,fun y e=>CV y (hd y e)⟩
   · rename_i y WB
     obtain ⟨d0,d1⟩:=hd y WB;obtain ⟨⟨a,b⟩,c,d⟩:=ry (p:=p) (y:=y) h0 d0;unfold YJ;split
     · exact ⟨⟨a,by dsimp only;omega⟩,⟨hh.1,by dsimp only;omega⟩,rfl,fun z e=>(by cases e;exact ⟨c,ze⟩)⟩
     · split
       · exact ⟨⟨a,by show (jM p y).1.ch<=_;omega⟩,⟨hh.1,by show r0.qS<=_;omega⟩,rfl,fun z e=>(by cases e;exact ⟨c,ze⟩)⟩
       · exact ⟨⟨a,by dsimp only;omega⟩,⟨hh.1,by dsimp only;omega⟩,rfl,fun z e=>(nomatch e)⟩
theorem EQ {p:jf} {r:gE} {b:Int} {n:Nat} (hq:Yz b p.q) (h:WN n r):WN (n+1) (jj p r).2.1:=by
 have hm:WN (n+1) r:=⟨by have:=h.len;omega,h.ms,h.key⟩;unfold jj;split
 · exact hm
 · split
   · unfold Jg
     repeat' split
     · exact ⟨hm.len,hm.ms,hm.key⟩
     · refine ⟨by show (r.ls++ [_]).length<=n+1;rw [yK];have:=h.len;simp;omega,fun l hl=>?_,hm.key⟩;rcases jH.1 hl with h1|h1
       · exact h.ms l h1
       · rw [jx.1 h1];have ig:=hq.get r.to;exact ⟨fun m hm=>(ig.ms m hm).t,ig.bP hq.c⟩
     · exact ⟨hm.len,hm.ms,hm.key⟩
   · unfold YS;split
     · exact ⟨hm.len,hm.ms,hm.key⟩
     · exact ⟨hm.len,hm.ms,hm.key⟩
theorem lI {p:jf} {m:Qp} {b:Int} {n:Nat} (hq:Yz b p.q) (h0:0<=p.ch) (h:WP n p m):WP (n+1) (kQ p m).1 (kQ p m).2.1/\0<=(kQ p m).1.ch/\(kQ p m).1.ch<=p.ch+2:=by
 cases m with
 |rd r=>
  refine ⟨EQ hq h,?_⟩;show 0<=(jj p r).1.ch/\(jj p r).1.ch<=p.ch+2;rw [(B8 p r).2.1];omega
 |kn s=>
  obtain ⟨k1,k2,k3⟩:=(h:kN n s/\_/\_);obtain ⟨l1,l2⟩:=CI (p:=p) (s:=s);refine ⟨⟨lS hq k1,ze,ze⟩,?_⟩;show 0<=(jF p s).1.ch/\(jF p s).1.ch<=p.ch+2;rw [(CH p s).2];omega
 |wr r=>
  obtain ⟨k1,k2,k3,k4⟩:=(h:_/\_/\_/\_);obtain ⟨⟨a,b⟩,⟨c,d⟩,e,f⟩:=Lf p r h0 (n:=n) ⟨k2,k3⟩ k4;exact ⟨⟨by show (jE p r).2.1.o.key.size<=_;rw [e];exact k1,c,d,f⟩,a,b⟩
theorem WP.mono {n m:Nat} {p p':jf} {x:Qp} (h:WP n p x) (hn:n<=m):WP m p' x:=by
 cases x with
 |rd r=>exact ⟨by have:=(h:WN n r).len;omega,(h:WN n r).ms,(h:WN n r).key⟩
 |kn s=>
  obtain ⟨k1,k2,k3⟩:=(h:kN n s/\_/\_);exact ⟨k1.mono hn,ze,k3⟩
 |wr r=>
  obtain ⟨k1,k2,k3,k4⟩:=(h:_/\_/\_/\_);exact ⟨k1,k2,ze,fun y e=>⟨(k4 y e).1,by have:=(k4 y e).2;omega⟩⟩
theorem pJ {o:Op} (h:jb o=true):o.key.size<=16/\o.hi.size<=16/\o.val.size<=16/\(o.kind=6->1<=o.yt/\o.yt<=64):=by
 unfold jb at h;simp only [yF,j5] at h;obtain ⟨⟨⟨⟨⟨⟨⟨⟨_,_⟩,h3⟩,h4⟩,h5⟩,_⟩,_⟩,_⟩,h9⟩:=h;refine ⟨h3,h4,h5,fun h6=>?_⟩;rw [zo h6] at h9;simpa using h9
theorem OL {o:Op} (h:jb o=true):jB 90 (bE o):=by
 obtain ⟨h1,h2,_⟩:=pJ h;unfold bE;split
 · exact ⟨by dsimp only;omega,by dsimp only;omega⟩
 · exact ⟨by show o.key.size<=90;omega,by show (nx o.key).size<=90;have:=HE o.key;omega⟩
theorem Mi {p:jf} {th:Int} {o:Op} {b:Int} (hq:Yz b p.q) (h:jb o=true) (n:Nat):WP n p (Z8 p th o).2:=by
 obtain ⟨h1,h2,h3,h4⟩:=pJ h;unfold Z8;split
 · exact ⟨zW _,fun l hl=>(nomatch hl),by show o.key.size<=90;omega⟩
 · split
   · rename_i h6
     have hl:=h4 h6;have hc:=hq.c;have r0:=hc.r0;have r1:=hc.ajZ;refine ⟨rE (n:=n) ⟨fun m hm=>(nomatch hm),zW _,ir (OL h),⟨zW _,zW _⟩,⟨zW _,zW _⟩,⟨by dsimp only;omega,by dsimp only;omega⟩,by show (0:Int)<=o.yt;omega⟩,?_,?_⟩
     · show _<=p.q.c.yu;omega
     · show p.q.c.yu<=_;omega
   · exact ⟨by show o.key.size<=1000000;omega,k9 _,by show (0:Int)<=n;omega,fun y e=>(nomatch e)⟩
theorem XS {α:Type} {l:List α} {i:Nat} {x y:α} (h:y∈l.set i x):y∈l\/y=x:=dr h
theorem Br {q:YI} {b:Int} {n:Nat} (hq:Yz b q.p.q) (h:Zd n q) (hc:q.clock<=n) (i:Nat):Zd (n+1) (qE {q with clock:=q.clock+1} i)/\(qE {q with clock:=q.clock+1} i).p.q.c=q.p.q.c/\(qE {q with clock:=q.clock+1} i).clock=q.clock+1/\(qE {q with clock:=q.clock+1} i).cls.length=q.cls.length/\(qE {q with clock:=q.clock+1} i).qg.length=q.qg.length:=by
 have c0:=h.c0;have dD:=h.ev;have hh1:=h.h1;have hh0:=h.h0;have same:Zd (n+1) {q with clock:=q.clock+1}:=⟨h.nV,h.AW,by dsimp only;omega,by dsimp only;omega,by dsimp only;omega,h.h0,by dsimp only;omega,fun k hk x hx=>⟨((h.mc k hk x hx).1).mono ze,(h.mc k hk x hx).2⟩,h.qs,fun k hk y hy=>⟨(h.wk k hk y hy).1,by have:=(h.wk k hk y hy).2;omega⟩⟩;unfold qE;dsimp only;split
 · rename_i k hk
   have A9:k∈q.cls:=Xj hk;split
   · rename_i m hm
     obtain ⟨mi,e0,e1⟩:=h.mc k A9 m hm;obtain ⟨mi2,g0,g1⟩:=lI hq hh0 mi;unfold Ko;dsimp only;refine ⟨⟨by dsimp only;rw [xj];exact h.nV,h.AW,by dsimp only;omega,by dsimp only;omega,by dsimp only;rw [G4];omega,g0,by dsimp only;omega,fun z hz x hx=>?_,fun z hz=>?_,fun z hz y hy=>?_⟩,Py _ _,rfl,xj,rfl⟩
     · dsimp only;rw [G4];rcases XS hz with h3|rfl
       · exact ⟨((h.mc z h3 x hx).1).mono ze,(h.mc z h3 x hx).2⟩
       · dsimp only at hx;split at hx
         · cases hx
         · cases hx;exact ⟨mi2,e0,e1⟩
     · rcases XS hz with h3|rfl
       · exact h.qs z h3
       · exact h.qs k A9
     · exact ⟨(h.wk z hz y hy).1,by have:=(h.wk z hz y hy).2;omega⟩
   · split
     · exact ⟨same,rfl,rfl,rfl,rfl⟩
     · rename_i o r hkq
       have Tk:=h.qs k A9;rw [hkq] at Tk;have ag6:r.length<=1024/\ ∀o∈r,o.key.size<=1000000:=⟨by have:=Tk.1;rw [xd] at this;omega,fun z hz=>Tk.2 z (XJ _ hz)⟩;unfold XW;split
       · rename_i hr
         have uM:=Mi (th:=(i:Int)) hq hr (n+1);dsimp only;refine ⟨⟨by dsimp only;rw [xj];exact h.nV,h.AW,by dsimp only;omega,by dsimp only;omega,by dsimp only;rw [yK,DD];omega,by dsimp only;rw [(sM _ _ _).2];exact hh0,by dsimp only;rw [(sM _ _ _).2];omega,fun z hz x hx=>?_,fun z hz=>?_,fun z hz y hy=>?_⟩,z5 kY.c (sM _ _ _).1,rfl,xj,rfl⟩
         · dsimp only;rw [yK,DD];rcases XS hz with h3|rfl
           · have:=h.mc z h3 x hx;exact ⟨(this.1).mono ze,this.2.1,ze⟩
           · cases hx;exact ⟨WP.mono (p:=q.p) uM (zN _),by dsimp only;omega,by dsimp only;omega⟩
         · rcases XS hz with h3|rfl
           · exact h.qs z h3
           · exact ag6
         · exact ⟨(h.wk z hz y hy).1,by have:=(h.wk z hz y hy).2;omega⟩
       · dsimp only;refine ⟨⟨by dsimp only;rw [xj];exact h.nV,h.AW,by dsimp only;omega,by dsimp only;omega,by dsimp only;rw [yK,DD];omega,hh0,by dsimp only;omega,fun z hz x hx=>?_,fun z hz=>?_,fun z hz y hy=>?_⟩,rfl,rfl,xj,rfl⟩
         · dsimp only;rw [yK,DD];rcases XS hz with h3|rfl
           · have:=h.mc z h3 x hx;exact ⟨(this.1).mono ze,this.2.1,ze⟩
           · cases hx
         · rcases XS hz with h3|rfl
           · exact h.qs z h3
           · exact ag6
         · exact ⟨(h.wk z hz y hy).1,by have:=(h.wk z hz y hy).2;omega⟩
 · split
   · rename_i k hk
     have A9:k∈q.qg:=Xj hk;obtain ⟨⟨g0,g1⟩,g2⟩:=Ll q.p k hh0 (n:=n) (h.wk k A9);refine ⟨⟨h.nV,by dsimp only;rw [xj];exact h.AW,by dsimp only;omega,by dsimp only;omega,by dsimp only;omega,g0,by dsimp only;omega,fun z hz x hx=>?_,h.qs,fun z hz y hy=>?_⟩,OB _ _,rfl,rfl,xj⟩
     · exact ⟨((h.mc z hz x hx).1).mono ze,(h.mc z hz x hx).2⟩
     · rcases XS hz with h3|rfl
       · exact ⟨(h.wk z h3 y hy).1,by have:=(h.wk z h3 y hy).2;omega⟩
       · exact g2 y hy
   · exact ⟨same,rfl,rfl,rfl,rfl⟩
end
end Go.Proofs.YtaibdpjjojihmaaGreat
