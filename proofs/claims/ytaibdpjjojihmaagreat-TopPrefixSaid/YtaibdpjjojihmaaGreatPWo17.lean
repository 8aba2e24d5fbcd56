/- A part of the proof of TopPrefix; no conditions. -/
import Derived.Test.YtaibdpjjojihmaaGreatPWoI
set_option linter.unusedVariables false
set_option linter.unusedSimpArgs false
set_option maxRecDepth 20000
set_option maxHeartbeats 4000000
namespace Go.Proofs.YtaibdpjjojihmaaGreat
section
open Go Go.RowKit
attribute [local irreducible] Calls
variable {b:Int} {q:YI} {M:Mem} {w:Wo}
theorem ut.nV (h:ut b q M w):q.cls.length=w.cls.length:=by rw [<-h.cls,yo]
theorem ut.AW (h:ut b q M w):q.qg.length=w.qg.length:=by rw [<-h.qg,yo]
theorem Lk {q:YI} {t:Int} (h0:0<=t) (h1:t<(q.cls.length+q.qg.length:Nat)):qN q t=qE {q with clock:=q.clock+1} t.toNat:=by
 unfold qN;rw [zo ⟨h0,h1⟩]
theorem SY (h:ut b q M w) {n:Nat} (hi:Zd n q) (hn:n<=80000) (hb:b<=999999990) {t:Int} (h0:0<=t) (h1:t<(q.cls.length+q.qg.length:Nat)):
 zu zf 44 [ptr w.wb, .int .i64 t] M (w.ob q.p.q.c q.clock) (fun u M' o=>M.le M'/\ ∃w':Wo,w'.wb=w.wb/\o=w'.ob (qN q t).p.q.c (qN q t).clock/\ut (b+2) (qN q t) M' w'/\Zd (n+1) (qN q t)/\(qN q t).cls.length=q.cls.length/\(qN q t).qg.length=q.qg.length):=by
 obtain ⟨i1,i2,i3,i4,i5⟩:=Br h.co.st.inv hi hi.c1 t.toNat;rw [Lk h0 h1,i2,i3];have kW:=h.nV;have hwk:=h.AW;obtain ⟨i,hti⟩: ∃i:Nat,t=(i:Int):=⟨t.toNat,ze⟩;subst hti;rw [Yp] at*;rcases yq i w.cls.length with z9|ql
 · cases hm:w.cls[i].m with
   |none=>
    refine (Hi h hi hn z9 hm).mono ?_;rintro u M' o-⟨r1,w',r2,r3,r4⟩;exact ⟨r1,w',r2,r3,r4,i1,i4,i5⟩
   |some m=>
    obtain ⟨m,x⟩:=m;refine (N7 h hi hn hb z9 hm).mono ?_;rintro u M' o-⟨r1,w',r2,r3,r4⟩;exact ⟨r1,w',r2,r3,r4,i1,i4,i5⟩
 · obtain ⟨j,rfl⟩: ∃j,i=w.cls.length+j:=⟨i-w.cls.length,ze⟩;refine (abK h hi hn hb (j:=j) ze).mono ?_;rintro u M' o-⟨r1,w',r2,r3,r4⟩;exact ⟨r1,w',r2,r3,r4,i1,i4,i5⟩
theorem DL (h:ut b q M w) {n:Nat} (hi:Zd n q) (cf:qn) (clock:Int):zu zf 42 [ptr w.wb] M (w.ob cf clock) (fun u M' o=>u= .int .i64 ((q.cls.length:Int)+(q.qg.length:Int))/\M'=M/\o=w.ob cf clock):=by
 have n1:=hi.nV;have n2:=hi.AW;rw [h.nV,h.AW] at*;obtain ⟨Ac,cc,hc,_⟩:=id h.jX;obtain ⟨Aw,cw,hw,_⟩:=id h.jK;rw [yo] at hc hw;haveI:=h.jh.yf;have cT:=Y3 (wb:=w.wb) (cb:=w.cb) (cf:=cf) (M:=M) (Ac:=Ac) (Aw:=Aw) (nc:=w.cls.length) (nw:=w.qg.length) (cc:=cc) (cw:=cw) (clock:=clock) (jh:=w.jh) ze ze;rw [<-hc,<-hw] at cT;refine cT.wide (G:=qT w.jh w.xq::(w.cls.flatMap (ZX w.cb)++(w.qg.flatMap (fM w.cb)++w.c.ob))) ⟨.refl _⟩ (h.Jk _ _) ?_;rintro u M' o-⟨rfl,rfl,rfl⟩;exact ⟨w.ob cf clock,ji.refl _,h.Jk _ _,rfl,rfl,rfl⟩
theorem Oh (h:ut b q M w) (cf:qn) (clock:Int):zu zf 28 [ptr w.wb] M (w.ob cf clock) (fun u M' o=>u= .int .i64 clock/\M'=M/\o=w.ob cf clock):=by
 haveI:=h.jh.yf;haveI:=h.jX.yf;haveI:=h.jK.yf;have cT:=Bn (wb:=w.wb) (cb:=w.cb) (cf:=cf) (M:=M) (jX:=w.jX) (jK:=w.jK) (jh:=w.jh) (clock:=clock);refine cT.wide (G:=qT w.jh w.xq::(w.cls.flatMap (ZX w.cb)++(w.qg.flatMap (fM w.cb)++w.c.ob))) ⟨.refl _⟩ (h.Jk _ _) ?_;rintro u M' o-⟨rfl,rfl,rfl⟩;exact ⟨w.ob cf clock,ji.refl _,h.Jk _ _,rfl,rfl,rfl⟩
theorem HQ {α:Type} (W E K:α) (A B X C D Y:List α):(W::E::(A++((K::(X++Y))++B)++(D++C))).Perm ((W::K::X)++(E::(Y++(C++(A++(B++D)))))):=by
 haveI:DecidableEq α:=fun a b=>Classical.propDecidable (a=b)
 rw [Kc];intro z;simp only [Yo,Ym];omega
theorem S3 (h:ut b q M w) {n:Nat} (hi:Zd n q) {t:Int} (h0:0<=t) (h1:t<q.cls.length) (o:Op) (ho:o.key.size<=1000000):
 zu zf 43 [ptr w.wb, .int .i64 t,o.av] M (w.ob q.p.q.c q.clock) (fun u M' o'=>M'=M/\ ∃w':Wo,w'.wb=w.wb/\o'=w'.ob (vA q t o).p.q.c (vA q t o).clock/\ut b (vA q t o) M' w'/\Zd n (vA q t o)/\(vA q t o).cls.length=q.cls.length/\(vA q t o).qg.length=q.qg.length):=by
 have kW:=h.nV;obtain ⟨i,hti⟩: ∃i:Nat,t=(i:Int):=⟨t.toNat,ze⟩;subst hti;have kg:i<w.cls.length:=ze;obtain ⟨l1,y,l2,hl,an,FQ⟩:=lE w.cls kg;have K6:y∈w.cls:=by rw [hl];simp
 have nW:q.cls[i]?=some y.pure:=by rw [<-h.cls,qd,jA kg,FQ];rfl
 have A9:y.pure∈q.cls:=Xj nW;have Tk:=hi.qs _ A9;have Ea:=h.qu y K6;haveI:=Ea.one;haveI:=Ea.Jk;haveI:=h.jh.yf;haveI:=h.jX.yf;haveI:=h.jK.yf;haveI:xK (pS y.m):=by unfold pS;split<;>infer_instance
 have hqp:y.pure.q=y.q:=rfl;rw [hqp] at Tk;have cG:=Ek (wb:=w.wb) (cb:=w.cb) (kb:=y.kb) (M:=M) (cf:=q.p.q.c) (jX:=w.jX) (jK:=w.jK) (jh:=w.jh) (mv:=pS y.m) (clock:=q.clock) (ev:=y.ev) (i:=i) o (by rw [yo];exact kg) (by rw [XD,FQ]) h.jX Ea Tk.1
 have hg:vA q i o= {q with cls:=q.cls.set i ⟨if 1024<=y.q.length then y.q else y.q++ [o],y.pure.m,y.pure.ev⟩}:=by
  unfold vA;rw [zn ze,Yp,nW];dsimp only;rw [hqp];split
  · have:q.cls.set i ⟨y.q,y.pure.m,y.pure.ev⟩=q.cls:=by
     have z9:i<q.cls.length:=ze;have e:q.cls[i]=y.pure:=by rw [jA z9] at nW;exact qt nW
     rw [show (⟨y.q,y.pure.m,y.pure.ev⟩:S0)=y.pure from rfl,<-e];exact IX z9
    rw [this]
  · rfl
 rw [hg]
 have FV:Zd n {q with cls:=q.cls.set i ⟨if 1024<=y.q.length then y.q else y.q++ [o],y.pure.m,y.pure.ev⟩}:=⟨by dsimp only;rw [xj];exact hi.nV,hi.AW,hi.c0,hi.c1,hi.ev,hi.h0,hi.h1,fun z hz x hx=>by
  rcases XS hz with h3|rfl
  · exact hi.mc z h3 x hx
  · exact hi.mc _ A9 x hx,fun z hz=>by
  rcases XS hz with h3|rfl
  · exact hi.qs z h3
  · dsimp only;split
    · exact Tk
    · refine ⟨by rw [yK,DD];omega,fun z hz=>?_⟩;rcases jH.1 hz with h4|h4
      · exact Tk.2 z h4
      · rw [jx.1 h4];exact ho,hi.wk⟩
 refine cG.wide (G:=qT w.jh w.xq::(D7 w.cb y.m++(w.c.ob++(l1.flatMap (ZX w.cb)++(l2.flatMap (ZX w.cb)++w.qg.flatMap (fM w.cb)))))) ⟨?_⟩ (h.Jk _ _) ?_
 · unfold Wo.ob;rw [hl,vW];exact HQ _ _ _ _ _ _ _ _ _
 · rintro u M' o' hle ⟨rfl,x',U3,rfl⟩
   have uM:ut b {q with cls:=q.cls.set i ⟨if 1024<=y.q.length then y.q else y.q++ [o],y.pure.m,y.pure.ev⟩} M' {w with c:=w.c,H:=w.H,jh:=w.jh,xq:=w.xq,cls:=l1++⟨y.kb,x',if 1024<=y.q.length then y.q else y.q++ [o],y.m,y.ev⟩::l2}:=
    h.cl (y':=⟨y.kb,x',if 1024<=y.q.length then y.q else y.q++ [o],y.m,y.ev⟩) hle hl an rfl (fun _ _ e=>e) h.co rfl rfl h.xq h.jh h.Dk U3 (h.mc y K6)
   refine ⟨({w with c:=w.c,H:=w.H,jh:=w.jh,xq:=w.xq,cls:=l1++⟨y.kb,x',if 1024<=y.q.length then y.q else y.q++ [o],y.m,y.ev⟩::l2}:Wo).ob q.p.q.c q.clock,ji.perm (nD ?_),uM.Jk _ _,rfl,{w with c:=w.c,H:=w.H,jh:=w.jh,xq:=w.xq,cls:=l1++⟨y.kb,x',if 1024<=y.q.length then y.q else y.q++ [o],y.m,y.ev⟩::l2},rfl,rfl,uM,FV,xj,rfl⟩;unfold Wo.ob;dsimp only;rw [vW];exact HQ _ _ _ _ _ _ _ _ _
end
section
open Go Go.RowKit
attribute [local irreducible] Calls
variable {kb cb:Nat} {M:Mem}
theorem aar {x:Qu} {q:List Op} (hq:Zf x q) (m:Option (Qp×Mc)) {ev:Int}:zu zf 50 [ptr kb] M [qH kb x.qv (pS m) ev] (fun u M' o=>u= .bool (!vY ⟨q,m.map (·.1),ev⟩)/\M'=M/\o= [qH kb x.qv (pS m) ev]):=by
 haveI:=hq.one;cases m with
 |some m=>
  obtain ⟨t,v,htv⟩:=Px m.2;have:pS (some m)= .iface t v:=htv;rw [this];haveI:xK (.iface t v):=by rw [<-htv];infer_instance
  refine xy Tryz.func50 rfl Tryz.ntmps50 zd (fun F w M0 hF=>zz ?_)
  repeat' (first|((apply zA);(exact qiy zd);rfl)|refine nv ?_)
  exact ⟨_,[qH kb x.qv (.iface t v) ev],zP,zE,zh,zq,rfl,rfl,rfl⟩
 |none=>
  have key: ∀(A:Option Addr) (cap:Nat),x.qv= .slice A q.length cap->zu zf 50 [ptr kb] M [qH kb x.qv (pS none) ev] (fun u M' o=>u= .bool (!vY ⟨q,none,ev⟩)/\M'=M/\o= [qH kb x.qv (pS none) ev]):=fun A cap e=>by
   rw [e]
   have hd:(!vY ⟨q,none,ev⟩)=decide ((0:Int)<(q.length:Int)):=by
    unfold vY;cases q with
    |nil=>rfl
    |cons a q=>simp
   rw [hd];refine xy (args:= [ptr kb]) (zO:= [qH kb (.slice A q.length cap) .nilIface ev]) Tryz.func50 rfl Tryz.ntmps50 zd (fun F w M0 hF=>zz ?_)
   repeat' (first|((apply zA);(exact qin zd);rfl)|refine nv ?_)
   exact ⟨_,[qH kb (.slice A q.length cap) .nilIface ev],zP,zE,zh,zq,rfl,rfl,rfl⟩
  cases hq with
  |nil=>exact key _ _ rfl
  |qZ b off cap cur _ h1 h2 h3 h4=>exact key _ _ rfl
theorem PZ {cls:List Cl} (hn:jI (cls.flatMap (ZX cb))) {i:Nat} (hi:i<cls.length) (hq:Zf cls[i].x cls[i].q):zu zf 50 [ptr cls[i].kb] M (cls.flatMap (ZX cb)) (fun u M' o=>u= .bool (!vY cls[i].pure)/\M'=M/\o=cls.flatMap (ZX cb)):=by
 obtain ⟨l1,y,l2,hl,an,FQ⟩:=lE cls hi;rw [FQ] at hq⊢
 have hp:(cls.flatMap (ZX cb)).Perm ([qH y.kb y.x.qv (pS y.m) y.ev]++((y.x.qo++D7 cb y.m)++(l1.flatMap (ZX cb)++l2.flatMap (ZX cb)))):=by
  rw [hl,vW];show (l1.flatMap (ZX cb)++((qH y.kb y.x.qv (pS y.m) y.ev::(y.x.qo++D7 cb y.m))++l2.flatMap (ZX cb))).Perm _;generalize qH y.kb y.x.qv (pS y.m) y.ev=K;generalize y.x.qo++D7 cb y.m=X;generalize l1.flatMap (ZX cb)=A;generalize l2.flatMap (ZX cb)=B;haveI:DecidableEq Ob:=fun a b=>Classical.propDecidable (a=b)
  rw [Kc];intro z;simp only [Yo,Ym,nE];omega
 refine (aar hq y.m).wide ⟨hp⟩ hn ?_;rintro u M' o-⟨rfl,rfl,rfl⟩;exact ⟨cls.flatMap (ZX cb),ji.perm hp.symm,hn,rfl,rfl,rfl⟩
theorem FD {jX:Value} {cls:List Cl} (hn:jI (cls.flatMap (ZX cb))) (kW:xt M 1 qF jX (cls.map Cl.kb)) (y7:cls.length<=1000) (hq: ∀y∈cls,Zf y.x y.q):
 zu zf 74 [jX, .func (.func 50) #[] #[]] M (cls.flatMap (ZX cb)) (fun u M' o=>M'=M/\o=cls.flatMap (ZX cb)/\ ∃r:Int,u= .int .i64 r/\decide (0<=r)=!(cls.all fun y=>vY y.pure)):=by
 obtain ⟨A,c,rfl,_⟩:=id kW;rw [yo];have cI:=fun (i:Nat) (hi:i<cls.length)=>PZ (M:=M) hn hi (hq _ (yD hi))
 generalize hG:cls.flatMap (ZX cb)=G at*;refine xy Tryz.func74 rfl Tryz.ntmps74 zd (fun F w M0 hF=>zz ?_)
 repeat' (refine nv ?_)
 refine jv (fun k:Nat=>⟨M,G++F,[(0, .v (.slice A cls.length c)),(1, .v (.func (.func 50) #[] #[])),(7, .v (.int .i64 cls.length)),(8, .v (.int .i64 k))]⟩) (fun k=>k<=cls.length/\ ∀j (h:j<cls.length),j<k->vY cls[j].pure=true) (fun k=>cls.length-k) 0 ⟨rfl,ji.refl _,jY,rfl⟩ ⟨zW _,fun j h h2=>absurd h2 (Nat.not_lt_zero _)⟩ ?_;rintro k ⟨hk,uD⟩;rcases yq k cls.length with z9|ql
 · have hd:=Xp z9;obtain ⟨b2,off,hA,jk⟩:=kW.get (i:=k) (by rw [yo];exact z9);subst hA;have ZA:=jk 0 _ rfl;rw [XD] at ZA;have cK:=cI k z9
   repeat' (first|((apply zA);(first|exact zj k zd zd rfl z9|exact hY zd ZA);rfl)|refine nv ?_)
   refine kcv cK zd ?_;rintro _ M G- -⟨rfl,rfl,rfl⟩;refine zJ ?_;cases hci:vY cls[k].pure with
   |true=>
    repeat' (refine nv ?_)
    exact yG (Q:=fun _ _=>True) (k+1) ⟨rfl,ji.refl _,jY,rfl⟩ ⟨z9,fun j h h2=>by
     rcases yq j k with h3|h3
     · exact uD j h h3
     · obtain rfl:j=k:=ze;exact hci⟩ ze
   |false=>
    repeat' (refine nv ?_)
    refine ⟨_,G,zP,zE,zh,zq,rfl,rfl,k,rfl,?_⟩;rw [yk ze]
    have:(cls.all fun y=>vY y.pure)=false:=by
     rw [List.all_eq_false];exact ⟨cls[k],yD z9,by rw [hci];simp⟩
    rw [this];rfl
 · have hd:=Xq ql;have:k=cls.length:=ze;subst this
   repeat' (refine nv ?_)
   refine ⟨_,G,zP,zE,zh,zq,rfl,rfl,-1,rfl,?_⟩
   have:(cls.all fun y=>vY y.pure)=true:=by
    rw [yw];intro y hy;obtain ⟨j,hj,rfl⟩:=IS.1 hy;exact uD j hj hj
   rw [this];rfl
end
section
open Go Go.RowKit
attribute [local irreducible] Calls
variable {wb kb cb:Nat} {b:Int} {q:YI} {M:Mem} {w:Wo}
theorem oQ {jX:Value} {cls:List Cl} (hn:jI (cls.flatMap (ZX cb))) (kW:xt M 1 qF jX (cls.map Cl.kb)) (y7:cls.length<=1000) (hq: ∀y∈cls,Zf y.x y.q):
 zu zf 49 [jX, .func (.func 50) #[] #[]] M (cls.flatMap (ZX cb)) (fun u M' o=>u= .bool (!(cls.all fun y=>vY y.pure))/\M'=M/\o=cls.flatMap (ZX cb)):=by
 have cI:=FD hn kW y7 hq;haveI:=kW.yf;generalize cls.flatMap (ZX cb)=G at*;generalize (cls.all fun y=>vY y.pure)=al at*;refine xy Tryz.func49 rfl Tryz.ntmps49 zd (fun F w M0 hF=>zz ?_)
 repeat' (refine nv ?_)
 refine xQ cI ?_;rintro _ M G- -⟨rfl,rfl,r,rfl,hr⟩;refine zJ ?_;rw [<-hr]
 repeat' (refine nv ?_)
 exact ⟨_,G,zP,zE,zh,zq,rfl,rfl,rfl⟩
theorem Ej {cf:qn} {jX jK jh:Value} {clock:Int} {cls:List Cl} (hn:jI (cls.flatMap (ZX cb))) (kW:xt M 1 qF jX (cls.map Cl.kb)) (y7:cls.length<=1000) (hq: ∀y∈cls,Zf y.x y.q) [xK jK] [xK jh]:
 zu zf 29 [ptr wb] M (jC wb cb cf jX jK clock jh::cls.flatMap (ZX cb)) (fun u M' o=>u= .bool (cls.all fun y=>vY y.pure)/\M'=M/\o=jC wb cb cf jX jK clock jh::cls.flatMap (ZX cb)):=by
 have cC:=oQ hn kW y7 hq;haveI:=kW.yf;generalize cls.flatMap (ZX cb)=G at*;have hnn: ∀a:Bool,(!(!a))=a:=by decide
 rw [<-hnn (cls.all fun y=>vY y.pure)];generalize (!(cls.all fun y=>vY y.pure))=al at*;refine xy Tryz.func29 rfl Tryz.ntmps29 zd (fun F w M0 hF=>zz ?_)
 repeat' (first|refine uK cC ?_|refine nv ?_)
 exact ⟨_,jC wb cb cf jX jK clock jh::G,zP,zE,zh,zq,rfl,rfl,rfl⟩
theorem ut.nmc (h:ut b q M w):jI (w.cls.flatMap (ZX w.cb)):=UZ _ _ fun y hy=>by
 haveI:=(h.qu y hy).Jk;unfold ZX di
 infer_instance
theorem ut.idle (h:ut b q M w):(w.cls.all fun y=>vY y.pure)=dK q:=by
 unfold dK;rw [<-h.cls,t7];rfl
theorem HO {α:Type} (W E:α) (A B C:List α):(W::E::(A++(B++C))).Perm ((W::A)++(E::(B++C))):=(aU (l₁:=A)).symm.cons _
theorem DW (h:ut b q M w) {n:Nat} (hi:Zd n q) (cf:qn) (clock:Int):zu zf 29 [ptr w.wb] M (w.ob cf clock) (fun u M' o=>u= .bool (dK q)/\M'=M/\o=w.ob cf clock):=by
 have n1:=hi.nV;rw [h.nV] at n1;haveI:=h.jh.yf;haveI:=h.jK.yf;have cT:=Ej (wb:=w.wb) (cb:=w.cb) (cf:=cf) (M:=M) (jK:=w.jK) (clock:=clock) (jh:=w.jh) h.nmc h.jX ze h.qu;rw [h.idle] at cT;refine cT.wide (G:=qT w.jh w.xq::(w.qg.flatMap (fM w.cb)++w.c.ob)) ⟨HO _ _ _ _ _⟩ (h.Jk _ _) ?_;rintro u M' o-⟨rfl,rfl,rfl⟩;exact ⟨w.ob cf clock,ji.perm (HO _ _ _ _ _).symm,h.Jk _ _,rfl,rfl,rfl⟩
theorem SP (h:ut b q M w) {n:Nat} (hi:Zd n q) (cf:qn) (clock:Int):zu zf 24 [ptr w.wb, .int .i64 0] M (w.ob cf clock) (fun u M' o=>u= .tuple #[.int .i64 0, .bool (dK q)]/\M'=M/\o=w.ob cf clock):=by
 have cI:=DW h hi cf clock;haveI:=h.Jk cf clock;generalize w.ob cf clock=G at*;generalize w.wb=wb0 at*;refine xy Tryz.func24 rfl Tryz.ntmps24 zd (fun F w M0 hF=>zz ?_)
 repeat' (refine nv ?_)
 refine jv (fun k:Unit=>⟨M,G++F,[(0, .v (ptr wb0)),(1, .v (.int .i64 0)),(6, .v (.int .i64 0))]⟩) (fun k=>True) (fun k=>0) () ⟨rfl,ji.refl _,ka,rfl⟩ trivial ?_;rintro k-;have hd:decide ((0:Int)<0)=false:=by decide
 repeat' (first|refine uK cI ?_|refine nv ?_)
 exact ⟨_,G,kH,zE,zh,zq,rfl,rfl,rfl⟩
theorem RP {sb:Nat} {H:List (Int×Nat)} {p:jf} {c:Co} (h:yO cb sb b p H M c):zu zf 47 [ptr sb] M c.ob (fun u M' o=>M.le M'/\o=c.ob/\xK u):=by
 have:=fR c.s M h.st.ok;rw [h.st.sb] at this;exact XV (this.mono fun u M' o hle ⟨e,l,hl,_⟩=>⟨hle,e,hl.yf⟩)
theorem Bk {sb:Nat} {H:List (Int×Nat)} {p:jf} {c:Co} (h:yO cb sb b p H M c) {cf:qn} {jX jK jh:Value} [xK jX] [xK jK] [xK jh] {clock:Int}:zu zf 26 [ptr wb] M (jC wb cb cf jX jK clock jh::c.ob) (fun u M' o=>M.le M'/\xK u/\o=jC wb cb cf jX jK clock jh::c.ob):=by
 have cS:=Xi h;have cN:=RP h;refine xy Tryz.func26 rfl Tryz.ntmps26 zd (fun F w M0 hF=>zz ?_)
 repeat' (first|refine uK cS ?_|refine nv ?_)
 refine xQ cN ?_;rintro u M2 _ zD-⟨-,rfl,hu⟩;refine zJ ?_
 repeat' (refine nv ?_)
 exact ⟨_,jC wb cb cf jX jK clock jh::c.ob,zP,zD,zh,zq,zD,hu,rfl⟩
theorem Li {sb:Nat} {H:List (Int×Nat)} {p:jf} {c:Co} (h:yO cb sb b p H M c) (hb:b<=90000) {cf:qn} {jX jK jh:Value} [xK jX] [xK jK] [xK jh] {clock:Int}:zu zf 27 [ptr wb] M (jC wb cb cf jX jK clock jh::c.ob) (fun u M' o=>M.le M'/\xt M' 2 zi u (sO p.q)/\o=jC wb cb cf jX jK clock jh::c.ob):=by
 have cS:=Xi h;have cN:=XV (c:=c) ((Lx h.st hb).mono fun u M' o hle ⟨e1,e2,e3⟩=>(⟨e1,e2,e3⟩:M.le M'/\o=c.s.ob/\xt M' 2 zi u (sO p.q)));refine xy Tryz.func27 rfl Tryz.ntmps27 zd (fun F w M0 hF=>zz ?_)
 repeat' (first|refine uK cS ?_|refine nv ?_)
 refine xQ cN ?_;rintro u M2 _ zD-⟨-,rfl,hu⟩;refine zJ ?_
 repeat' (refine nv ?_)
 exact ⟨_,jC wb cb cf jX jK clock jh::c.ob,zP,zD,zh,zq,zD,hu,rfl⟩
theorem ij {α:Type} (W E:α) (A B C:List α):(W::E::(A++(B++C))).Perm ((W::C)++(E::(A++B))):=by
 haveI:DecidableEq α:=fun a b=>Classical.propDecidable (a=b)
 rw [Kc];intro z;simp only [Yo,Ym];omega
theorem N9 (h:ut b q M w) (cf:qn) (clock:Int):zu zf 26 [ptr w.wb] M (w.ob cf clock) (fun u M' o=>M.le M'/\xK u/\o=w.ob cf clock):=by
 haveI:=h.jh.yf;haveI:=h.jK.yf;haveI:=h.jX.yf;refine (Bk (wb:=w.wb) h.co (cf:=cf) (jX:=w.jX) (jK:=w.jK) (jh:=w.jh) (clock:=clock)).wide (G:=qT w.jh w.xq::(w.cls.flatMap (ZX w.cb)++w.qg.flatMap (fM w.cb))) ⟨ij _ _ _ _ _⟩ (h.Jk _ _) ?_;rintro u M' o-⟨h1,h2,rfl⟩;exact ⟨w.ob cf clock,ji.perm (ij _ _ _ _ _).symm,h.Jk _ _,h1,h2,rfl⟩
theorem abO (h:ut b q M w) (hb:b<=90000) (cf:qn) (clock:Int):zu zf 27 [ptr w.wb] M (w.ob cf clock) (fun u M' o=>M.le M'/\xt M' 2 zi u (sO q.p.q)/\o=w.ob cf clock):=by
 haveI:=h.jh.yf;haveI:=h.jK.yf;haveI:=h.jX.yf;refine (Li (wb:=w.wb) h.co hb (cf:=cf) (jX:=w.jX) (jK:=w.jK) (jh:=w.jh) (clock:=clock)).wide (G:=qT w.jh w.xq::(w.cls.flatMap (ZX w.cb)++w.qg.flatMap (fM w.cb))) ⟨ij _ _ _ _ _⟩ (h.Jk _ _) ?_;rintro u M' o-⟨h1,h2,rfl⟩;exact ⟨w.ob cf clock,ji.perm (ij _ _ _ _ _).symm,h.Jk _ _,h1,h2,rfl⟩
end
section
open Go Go.RowKit
attribute [local irreducible] Calls
structure aiT where
 k:Nat
 M:Mem
 v:Value
 l:List ZY
structure aiU (M:Mem) (xq:List ZY) (y:aiT):Prop where
 hk:y.k<=xq.length
 hle:M.le y.M
 v:j2 y.v y.l.length
 ok:Qq y.M y.l
 len:y.l.length=y.k
 eq:y.l.map ZY.e=(xq.map ZY.e).take y.k
theorem n6 {wb cb:Nat} {cf:qn} {jX jK jh:Value} {clock:Int} {xq:List ZY} {M:Mem} [xK jX] [xK jK] (hv:j2 jh xq.length) (ju:Qq M xq) (hn:xq.length<=1000000) (oT: ∀x∈xq,x.e.a.ps.length<=100000000):
 zu zf 25 [ptr wb] M [jC wb cb cf jX jK clock jh,qT jh xq] (fun u M' o=>M.le M'/\o= [jC wb cb cf jX jK clock jh,qT jh xq]/\ ∃l:List ZY,xt M' 15 xT u l/\Qq M' l/\l.map ZY.e=xq.map ZY.e):=by
 have bh: ∀x:ZY,(xT x).length=15:=fun _=>rfl
 obtain ⟨Ae,ce,rfl,hce⟩:=hv.sl2;have y7:=ki bh xq;refine xy Tryz.func25 rfl Tryz.ntmps25 zd (fun F w M0 hF=>zz ?_);refine uU 49 15 ?_
 repeat' (refine nv ?_)
 refine gC (.zC (.slice none 0 0) 49 15 0 []::jC wb cb cf jX jK clock (.slice Ae xq.length ce)::qT (.slice Ae xq.length ce) xq::F) ?_
 refine jv (fun y:aiT=>⟨y.M, .zC y.v 49 15 y.l.length (y.l.flatMap xT)::jC wb cb cf jX jK clock (.slice Ae xq.length ce)::qT (.slice Ae xq.length ce) xq::F,[(0, .v (ptr wb)),(3, .v y.v),(11, .v (.slice Ae xq.length ce)),(12, .v (.int .i64 xq.length)),(13, .v (.int .i64 y.k))]⟩)
  (aiU M xq) (fun y=>xq.length-y.k) ⟨0,M, .slice none 0 0,[]⟩ ⟨rfl,ji.refl _,kX,rfl⟩ ⟨zW _,zE, .inl ⟨rfl,rfl⟩,fun x hx=>(nomatch hx),rfl,rfl⟩ ?_
 rintro ⟨k,M1,v,l⟩ ⟨hk,qR,P3,ad4,an,Um⟩;dsimp only at hk qR P3 ad4 an Um⊢;rcases yq k xq.length with z9|ql
 · have hd:=Xp z9;obtain ⟨eb,ce2,aeg,vK,qD⟩:=xB hv ze;injection aeg with hA hB hC;subst hA hC;have hat:=Iv bh xq z9;have hle:=gp bh xq z9;have hx:=(ju _ (yD z9)).mono qR;have hpx:=oT _ (yD z9)
   have alu: ∀w,(l++ [(⟨xq[k].e,w⟩:ZY)]).map ZY.e=(xq.map ZY.e).take (k+1):=fun w=>by
    rw [jo,Um,vF (by rw [yo];exact z9)];simp
   generalize xq[k]=x at*;obtain ⟨xe,xp⟩:=x;dsimp only at*;obtain ⟨Ap,cp,hxp,_⟩:=id hx;subst hxp;have cC:=zu.iq (M:=M1) fun W hW=>jU _ xe.a.ps W (hx.xS hW) ze
   repeat' (first|refine yh (dst:=some 5) zh fun b5=>?_|(refine pW cC fun r hr=>?_;obtain ⟨A3,c3,rfl⟩:=hr.sl;refine Yu (uw.one _ _) fun M2 zD JP=>?_)|((apply zA);(first|exact zj k zd zd rfl z9|exact Oi zd hat hle);rfl)|refine nv ?_)
   have gd:xt M2 2 zi (.slice A3 xe.a.ps.length c3) xe.a.ps:=JP.YB (fun _ _=>rfl);have e1:(l++ [(⟨xe, .slice A3 xe.a.ps.length c3⟩:ZY)]).length=l.length+1:=by simp
   have e2:(l++ [(⟨xe, .slice A3 xe.a.ps.length c3⟩:ZY)]).flatMap xT=l.flatMap xT++xT ⟨xe, .slice A3 xe.a.ps.length c3⟩:=by simp
   repeat' (first|refine gM zd (fun _=>rfl) (fun b9 c9 v9 Tg=>?_)|refine nv ?_)
   exact yG (Q:=fun _ _=>True) ⟨k+1,M2,v9,l++ [(⟨xe, .slice A3 xe.a.ps.length c3⟩:ZY)]⟩ ⟨rfl,by dsimp only;rw [e1,e2];exact zq (zw:= [_,_,_]) (F:=F),kX,rfl⟩ ⟨z9,qR.trans zD,by dsimp only;rw [e1];exact Tg,fun z hz=>by
    rcases jH.1 hz with h1|h1
    · exact (ad4 z h1).mono zD
    · rw [jx.1 h1];exact gd,by dsimp only;rw [e1,an],alu _⟩ (by dsimp only;omega)
 · have hd:=Xq ql;obtain rfl:k=xq.length:=ze;rw [wD (by rw [yo];exact zN _)] at Um;refine wG (uw.one _ _) fun M2 zD JP=>?_
   have gd:xt M2 15 xT v l:=JP.YB (fun _ _=>rfl)
   repeat' (refine nv ?_)
   have l2:=qR.trans zD;exact ⟨_,[jC wb cb cf jX jK clock (.slice Ae xq.length ce),qT (.slice Ae xq.length ce) xq],zP,l2,zh,zq,l2,rfl,l,gd,ad4.mono zD,Um⟩
end
section
open Go Go.RowKit
attribute [local irreducible] Calls
def bO (kb:Nat):Cl:=⟨kb,⟨.slice none 0 0,[]⟩,[],none,0⟩
structure aiN where
 i:Nat
 v:Value
 vz:List Nat
structure aiO (n:Nat) (y:aiN):Prop where
 hi:y.i<=n
 v:j2 y.v y.vz.length
 len:y.vz.length=y.i
theorem RF (cb:Nat) (vz:List Nat) (kb:Nat):((vz++ [kb]).map bO).flatMap (ZX cb)=(vz.map bO).flatMap (ZX cb)++ [qH kb (.slice none 0 0) .nilIface 0]:=by
 rw [jo,JF];rfl
structure aiL where
 i:Nat
 v:Value
 qg:List (Wk×dG)
 H:List (Int×Nat)
 c:Co
structure aiM (cb sb:Nat) (p:jf) (n m:Nat) (M:Mem) (y:aiL):Prop where
 hi:y.i<=m
 v:j2 y.v y.qg.length
 qg:y.qg.map (·.2)=(List.range y.i).map fun i=>⟨((n+i:Nat):Int),none,em,false,0⟩
 co:yO cb sb 0 p y.H M y.c
 at_: ∀z∈y.qg,o9 y.H z.2 z.1
theorem O6 {α:Type} (W B E K C:α) (X F:List α):(W::(X++(B::E::K::C::F))).Perm (C::W::(X++(B::E::K::F))):=by
 haveI:DecidableEq α:=fun a b=>Classical.propDecidable (a=b)
 rw [Kc];intro z;simp only [Yo,Ym];omega
theorem T5 {α:Type} (R W K:α) (A G:List α):(R::K::W::(A++G)).Perm (R::W::(A++ [K]++G)):=by
 haveI:DecidableEq α:=fun a b=>Classical.propDecidable (a=b)
 rw [Kc];intro z;simp only [Yo,Ym,nE];omega
theorem T3 {α:Type} (W B E K:α) (A X F:List α):(W::(A++(X++(B::E::K::F)))).Perm (K::W::(X++(A++(B::E::F)))):=by
 haveI:DecidableEq α:=fun a b=>Classical.propDecidable (a=b)
 rw [Kc];intro z;simp only [Yo,Ym];omega
theorem T0 {α:Type} (R T W:α) (X C B K:List α):(R::T::(X++(C++(W::(B++K))))).Perm ((R::W::(C++((B++X)++K)))++ [T]):=by
 haveI:DecidableEq α:=fun a b=>Classical.propDecidable (a=b)
 rw [Kc];intro z;simp only [Yo,Ym,nE];omega
theorem T4 {α:Type} (W E X:α) (A C B F:List α):(W::(C++(B++(A++(X::E::F))))).Perm (((W::E::(A++(B++C)))++F)++ [X]):=by
 haveI:DecidableEq α:=fun a b=>Classical.propDecidable (a=b)
 rw [Kc];intro z;simp only [Yo,Ym,nE];omega
theorem TG {α β:Type} {M:Mem} {k:Nat} {cells:β->List Value} {v:Value} {l:List α} (g:α->β) (h:xt M k (fun x=>cells (g x)) v l):xt M k cells v (l.map g):=by
 unfold xt at*;simpa [qd] using h
abbrev bn (z:Wk×dG):List Value:= [ptr z.1.wb]
theorem Eh (c:qn) (hc:Oj c=true) (n m:Nat) (hn:1<=n) (AZ:n<=255) (hm:m<=255) (M:Mem):zu zf 22 [c.av, .int .i64 n, .int .i64 m] M [] (fun u M' o=>M.le M'/\ ∃w:Wo,u= .tuple #[ptr w.wb, .int .i64 0]/\o=w.ob c 0/\ut 0 (vP c n m) M' w):=by
 have cN:=MN c hc (M:=M);have g1:decide ((n:Int)<1)=false:=z6 ze;have g2:decide ((255:Int)<(n:Int))=false:=z6 ze;have g3:decide ((m:Int)<0)=false:=z6 ze;have g4:decide ((255:Int)<(m:Int))=false:=z6 ze;refine xy eK rfl eN zd (fun F w M0 hF=>zz ?_);refine uU 95 1 ?_;refine uU 101 1 ?_;refine uU 49 15 ?_
 repeat' (first|refine yZ zd zh fun b3=>?_|refine nv ?_)
 refine xQ cN ?_;rintro _ M2 _ zD-⟨-,cb,sb,x,rfl,rfl,hx⟩;refine zJ ?_
 repeat' (first|refine yZ zd zh fun wb=>?_|refine nv ?_)
 refine KE (.zC (.slice none 0 0) 95 1 0 []::jC wb cb c (.slice none 0 0) (.slice none 0 0) 0 (.slice none 0 0)::(x.ob++(.zK (ptr b3) 23 (Vh c):: .zC (.slice none 0 0) 49 15 0 []:: .zC (.slice none 0 0) 101 1 0 []::F))) ?_ (ji.perm (O6 _ _ _ _ _ _ _));obtain ⟨G,hG⟩: ∃G,G=x.ob++(.zK (ptr b3) 23 (Vh c):: .zC (.slice none 0 0) 49 15 0 []:: .zC (.slice none 0 0) 101 1 0 []::F):=⟨_,rfl⟩;haveI hnG:jI G:=by rw [hG];infer_instance
 rw [<-hG]
 refine jv (fun y:aiN=>⟨M2, .zC y.v 95 1 y.vz.length (y.vz.flatMap qF)::jC wb cb c y.v (.slice none 0 0) 0 (.slice none 0 0)::((y.vz.map bO).flatMap (ZX cb)++G),[(1, .v (.int .i64 n)),(2, .v (.int .i64 m)),(8, .v (ptr cb)),(10, .v (ptr wb)),(38, .v (.int .i64 n)),(39, .v (.int .i64 y.i))]⟩)
  (aiO n) (fun y=>n-y.i) ⟨0, .slice none 0 0,[]⟩ ⟨rfl,ji.refl _,JE,rfl⟩ ⟨zW _, .inl ⟨rfl,rfl⟩,rfl⟩ ?_
 rintro ⟨i,v,vz⟩ ⟨hi,hv,hl⟩;dsimp only at hi hv hl⊢;obtain ⟨A,hA⟩: ∃A,A=(vz.map bO).flatMap (ZX cb):=⟨_,rfl⟩;haveI hnA:jI A:=by rw [hA];exact UZ _ _ fun y hy=>by obtain ⟨k,-,rfl⟩:=uT.1 hy;unfold ZX di bO;infer_instance
 have gT:=fun kb=>RF cb vz kb
 rw [<-hA] at gT⊢;have ov:=hv.yf;rcases yq i n with z9|ql
 · have hd:=Xp z9;have e1:=fun kb=>show (vz++ [kb]).length=vz.length+1 by simp
   have e2:=fun kb=>show (vz++ [kb]).flatMap qF=vz.flatMap qF++qF kb by simp
   repeat' (first|refine yZ zd zh fun kb=>?_|(refine gM zd (fun _=>rfl) (fun b9 c9 v9 Tg=>?_);have ov9:=Tg.yf)|refine nv ?_)
   exact yG (Q:=fun _ _=>True) ⟨i+1,v9,vz++ [kb]⟩ ⟨rfl,by dsimp only;rw [e1,e2,gT];exact ji.perm (T5 _ _ _ _ _),JE,rfl⟩ ⟨z9,by dsimp only;rw [e1];exact Tg,by dsimp only;rw [e1,hl]⟩ (by dsimp only;omega)
 · have hd:=Xq ql;refine wG (uw.one _ _) fun M3 yc aq=>?_
   have MH:xt M3 1 qF v vz:=aq.YB (fun _ _=>rfl)
   repeat' (refine nv ?_)
   have hx3:=hx.mono yc;clear hx hd aq gT;obtain ⟨K,hK⟩: ∃K,K=A++(.zK (ptr b3) 23 (Vh c):: .zC (.slice none 0 0) 49 15 0 []::F):=⟨_,rfl⟩;haveI hnK:jI K:=by rw [hK];infer_instance
   have hpK:(jC wb cb c v (.slice none 0 0) 0 (.slice none 0 0)::(A++G)).Perm (.zC (.slice none 0 0) 101 1 0 []::jC wb cb c v (.slice none 0 0) 0 (.slice none 0 0)::(x.ob++K)):=by rw [hG,hK];exact T3 _ _ _ _ _ _ _
   refine KE (.zC (.slice none 0 0) 101 1 0 []::jC wb cb c v (.slice none 0 0) 0 (.slice none 0 0)::(x.ob++K)) ?_ (ji.perm hpK)
   refine jv (fun y:aiL=>⟨M3, .zC y.v 101 1 y.qg.length (y.qg.flatMap bn)::jC wb cb c v y.v 0 (.slice none 0 0)::(y.c.ob++(y.qg.flatMap (fM cb)++K)),[(1, .v (.int .i64 n)),(8, .v (ptr cb)),(10, .v (ptr wb)),(53, .v (.int .i64 m)),(54, .v (.int .i64 y.i))]⟩)
    (aiM cb sb (aak c) n m M3) (fun y=>m-y.i) ⟨0, .slice none 0 0,[],[],x⟩ ⟨rfl,ji.refl _,kX,rfl⟩ ⟨zW _, .inl ⟨rfl,rfl⟩,rfl,hx3,fun z hz=>(nomatch hz)⟩ ?_
   rintro ⟨j,v2,qg,H,co⟩ ⟨hj,Th,MD,hco,hwa⟩;dsimp only at hj Th MD hco hwa⊢;have D8:qg.length=j:=by rw [<-yo (f:=(·.2)),MD,yo,fm]
   obtain ⟨B,hB⟩: ∃B,B=qg.flatMap (fM cb):=⟨_,rfl⟩;haveI hnB:jI B:=by rw [hB];exact UZ _ _ fun y hy=>by unfold fM;infer_instance
   have hfB:=fun z=>show (qg++ [z]).flatMap (fM cb)=qg.flatMap (fM cb)++fM cb z by simp
   rw [<-hB] at hfB⊢;have ov2:=Th.yf;rcases yq j m with Wa|Ro
   · have hd:=Xp Wa;have cW:=tw hco (th:=(n:Int)+(j:Int)) ze ze;have e1:=fun z=>show (qg++ [z]).length=qg.length+1 by simp
     have e2:=fun z=>show (qg++ [z]).flatMap bn=qg.flatMap bn++bn z by simp
     repeat' (first|refine zU [.v (ptr wb), .v v2, .l co.ob] [4,9,10,11,14] [9] 2 yI zd zd ?_|refine nv ?_)
     repeat' (first|(refine xF cW rfl ?_ ?_;(rintro _ M3 _- -⟨rfl,z,H',c',rfl,hH,rfl,vk,hz⟩;refine yJ ?_))|((refine Uc rfl rfl (fun w1 be=>?_) ?_);obtain ⟨bb1,cc1,rfl,MV,MU⟩:=xB be ze)|refine V2 rfl rfl rfl (fun w2 V9=>have ow2:=j2.yf V9;?_) ?_|refine nu ?_|exact zx|refine nz ?_ ?_)
     all_goals
      repeat' (refine nv ?_)
     all_goals
      exact yG (Q:=fun _ _=>True) ⟨j+1,w2,qg++ [(z,⟨(n:Int)+(j:Int),none,em,false,0⟩)],H',c'⟩ ⟨rfl,by dsimp only;rw [e1,e2,hfB];exact ⟨_,T0 _ _ _ _ _ _ _⟩,kX,rfl⟩
       ⟨Wa,by dsimp only;rw [e1];exact V9,by dsimp only;rw [jo,MD,nF,jo];simp,vk,fun y hy=>by
        rcases jH.1 hy with h1|h1
        · exact (hwa y h1).mono hH
        · rw [jx.1 h1];exact hz⟩ (by dsimp only;omega)
   · have hd:=Xq Ro;refine wG (uw.one _ _) fun M4 yQ iC=>?_
     repeat' (refine nv ?_)
     obtain rfl:j=m:=ze;have gQ:vz.length=n:=ze
     have uM:ut 0 (vP c n j) M4 ⟨wb,cb,sb,co,H,v,v2, .slice none 0 0,vz.map bO,qg,[]⟩:=by
      refine ⟨hco.mono yQ,?_,MD,rfl,?_,?_, .inl ⟨rfl,rfl⟩,fun x hx=>(nomatch hx),?_,?_,hwa⟩
      · unfold vP;dsimp only;rw [XB,<-gQ];exact List.map_const' (l:=vz) (b:=(⟨[],none,0⟩:S0))
      · dsimp only;rw [XB,show (Cl.kb∘bO)=id from rfl,tY];exact MH.mono yQ
      · have h2:xt M4 1 bn v2 qg:=iC.YB (fun _ _=>rfl);exact TG (fun y:Wk×dG=>y.1.wb) h2
      · intro y hy;obtain ⟨k,-,rfl⟩:=uT.1 hy;exact .nil
      · intro y hy m hm;obtain ⟨k,-,rfl⟩:=uT.1 hy;cases hm
     haveI:=uM.Jk c 0;refine ⟨_,Wo.ob ⟨wb,cb,sb,co,H,v,v2, .slice none 0 0,vz.map bO,qg,[]⟩ c 0,kH,zD.trans (yc.trans yQ),zh,?_,zD.trans (yc.trans yQ),⟨wb,cb,sb,co,H,v,v2, .slice none 0 0,vz.map bO,qg,[]⟩,rfl,rfl,uM⟩;unfold Wo.ob;dsimp only;rw [hK,hA,hB];exact ⟨_,T4 _ _ _ _ _ _ _⟩
theorem Bm (c:qn) (n m:Int) (h:n<1\/255<n\/m<0\/255<m) (M:Mem):zu zf 22 [c.av, .int .i64 n, .int .i64 m] M [] (fun u M' o=>M'=M/\u= .tuple #[.pointer none, .int .i64 2]/\o= []):=by
 by_cases h1:n<1
 · have g1:decide (n<1)=true:=yk h1;refine xy eK rfl eN zd (fun F w M0 hF=>zz ?_)
   repeat' (first|refine yZ zd zh fun b3=>?_|refine nv ?_)
   exact ⟨_,[],kH,zE,zh,zq,rfl,rfl,rfl⟩
 have g1:decide (n<1)=false:=z6 h1;by_cases h2:255<n
 · have g2:decide (255<n)=true:=yk h2;refine xy eK rfl eN zd (fun F w M0 hF=>zz ?_)
   repeat' (first|refine yZ zd zh fun b3=>?_|refine nv ?_)
   exact ⟨_,[],kH,zE,zh,zq,rfl,rfl,rfl⟩
 have g2:decide (255<n)=false:=z6 h2;by_cases h3:m<0
 · have g3:decide (m<0)=true:=yk h3;refine xy eK rfl eN zd (fun F w M0 hF=>zz ?_)
   repeat' (first|refine yZ zd zh fun b3=>?_|refine nv ?_)
   exact ⟨_,[],kH,zE,zh,zq,rfl,rfl,rfl⟩
 have g3:decide (m<0)=false:=z6 h3;have g4:decide (255<m)=true:=yk ze;refine xy eK rfl eN zd (fun F w M0 hF=>zz ?_)
 repeat' (first|refine yZ zd zh fun b3=>?_|refine nv ?_)
 exact ⟨_,[],kH,zE,zh,zq,rfl,rfl,rfl⟩
theorem Bl (c:qn) (hc:Oj c=false) (n m:Int) (h1:¬ n<1) (h2:¬ 255<n) (h3:¬ m<0) (h4:¬ 255<m) (M:Mem):zu zf 22 [c.av, .int .i64 n, .int .i64 m] M [] (fun u M' o=>M'=M/\u= .tuple #[.pointer none, .int .i64 2]/\o= []):=by
 have cN:=MP c hc (M:=M);have g1:decide (n<1)=false:=z6 h1;have g2:decide (255<n)=false:=z6 h2;have g3:decide (m<0)=false:=z6 h3;have g4:decide (255<m)=false:=z6 h4;refine xy eK rfl eN zd (fun F w M0 hF=>zz ?_)
 repeat' (first|refine yZ zd zh fun b3=>?_|refine nv ?_)
 refine xQ cN ?_;rintro _ M _- -⟨rfl,rfl,rfl⟩;refine zJ ?_
 repeat' (refine nv ?_)
 exact ⟨_,[],kH,zE,zh,zq,rfl,rfl,rfl⟩
def ly (c:qn) (n m:Int):Bool:=decide (1<=n)&&decide (n<=255)&&decide (0<=m)&&decide (m<=255)&&Oj c
theorem Ei (c:qn) (n m:Int) (h:ly c n m=false) (M:Mem):zu zf 22 [c.av, .int .i64 n, .int .i64 m] M [] (fun u M' o=>M'=M/\u= .tuple #[.pointer none, .int .i64 2]/\o= []):=by
 by_cases hb:n<1\/255<n\/m<0\/255<m
 · exact Bm c n m hb M
 · refine Bl c ?_ n m (fun h=>hb (.inl h)) (fun h=>hb (.inr (.inl h))) (fun h=>hb (.inr (.inr (.inl h)))) (fun h=>hb (.inr (.inr (.inr h)))) M;unfold ly at h;rw [yk ze,yk ze,yk ze,yk ze] at h;exact h
end
section
open Go Go.RowKit
attribute [local irreducible] Calls
variable {b:Int} {q:YI} {M:Mem} {w:Wo}
def Ow (q:YI):Prop:= ∀e∈q.xq,e.a.ps.length<=100000
theorem Mj {n:Nat} {p:jf} {m:Qp} (h:WP n p m):(lJ m).ps.length<=100000:=by
 cases m with
 |rd r=>exact zW _
 |wr r=>exact zW _
 |kn s=>
  obtain ⟨k1,_⟩:=(h:kN n s/\_/\_);have h1:=k1.out;have h2:=k1.lN;show s.out.length<=100000;omega
theorem Gn {clock:Int} {ok:Bool} {m:Qp} {e:iK} (hm:(lJ m).ps.length<=100000) (he:e.a.ps.length<=100000):(Yd clock ok m e).a.ps.length<=100000:=by
 unfold Yd;dsimp only;split<;>split<;>first|exact hm|exact he
theorem Fe {α:Type} {l:List α} {i:Nat} {f:α->α} {y:α} (h:y∈l.modify i f):y∈l\/ ∃x∈l,y=f x:=by
 obtain ⟨j,hj,rfl⟩:=IS.1 h;rw [List.getElem_modify];rw [G4] at hj;split
 · exact .inr ⟨l[j],yD hj,rfl⟩
 · exact .inl (yD hj)
theorem Ow.pick (h:Ow q) (hq:Yz b q.p.q) {n:Nat} (hi:Zd n q) (t:Int):Ow (qN q t):=by
 unfold qN;split
 · unfold qE;dsimp only;split
   · rename_i k hk
     have A9:k∈q.cls:=Xj hk;split
     · rename_i m hm
       obtain ⟨mi,e0,e1⟩:=hi.mc k A9 m hm;have h2:=Mj (lI hq hi.h0 mi).1;intro e he;unfold Ko at he;dsimp only at he;rcases Fe he with h3|⟨x,h3,rfl⟩
       · exact h e h3
       · exact Gn h2 (h x h3)
     · split
       · exact h
       · unfold XW;split
         all_goals
          intro e he;rcases jH.1 he with h3|h3
          · exact h e h3
          · rw [jx.1 h3];exact zW _
   · split
     · exact h
     · exact h
 · exact h
theorem Ow.aet (h:Ow q) (t:Int) (o:Op):Ow (vA q t o):=by
 unfold vA;split
 · exact h
 · split
   · split
     · exact h
     · exact h
   · exact h
theorem Ow.new (c:qn) (n m:Nat):Ow (vP c n m):=fun e he=>(nomatch he)
theorem Zd.new (c:qn) (n m:Nat) (hn:n<=255) (hm:m<=255):Zd 0 (vP c n m):=by
 refine ⟨by unfold vP;simpa using hn,by unfold vP;simpa using hm,k9 _,k9 _,zN _,k9 _,by show (aak c).ch<=_;exact k9 _,fun k hk x hx=>?_,fun k hk=>?_,fun k hk y hy=>?_⟩
 · unfold vP at hk;rw [m7 hk] at hx;cases hx
 · unfold vP at hk;rw [m7 hk];exact ⟨zW _,fun o ho=>(nomatch ho)⟩
 · unfold vP at hk;obtain ⟨i,-,rfl⟩:=uT.1 hk;cases hy
theorem HP {α:Type} (W E:α) (A B C:List α):(W::E::(A++(B++C))).Perm ([W,E]++(A++(B++C))):= .refl _
theorem DY (h:ut b q M w) {n:Nat} (hi:Zd n q) (hn:n<=1000000) (he:Ow q) (cf:qn) (clock:Int):
 zu zf 25 [ptr w.wb] M (w.ob cf clock) (fun u M' o=>M.le M'/\o=w.ob cf clock/\ ∃l:List ZY,xt M' 15 xT u l/\Qq M' l/\l.map ZY.e=q.xq):=by
 haveI:=h.jK.yf;haveI:=h.jX.yf;have y7:w.xq.length=q.xq.length:=by rw [<-h.xq,yo]
 have cH:=n6 (wb:=w.wb) (cb:=w.cb) (cf:=cf) (jX:=w.jX) (jK:=w.jK) (clock:=clock) h.jh h.Dk (by have:=hi.ev;omega) (fun x hx=>jZ (he x.e (by rw [<-h.xq];exact m5 hx)) Kq);refine cH.wide (G:=w.cls.flatMap (ZX w.cb)++(w.qg.flatMap (fM w.cb)++w.c.ob)) ⟨HP _ _ _ _ _⟩ (h.Jk _ _) ?_;rintro u M' o-⟨h1,rfl,l,h2,h3,h4⟩;exact ⟨w.ob cf clock,ji.perm (HP _ _ _ _ _).symm,h.Jk _ _,h1,rfl,l,h2,h3,h4.trans h.xq⟩
end
end Go.Proofs.YtaibdpjjojihmaaGreat
