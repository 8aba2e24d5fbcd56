/- A part of the proof of TopPrefix; no conditions. -/
import Derived.Test.YtaibdpjjojihmaaGreatPCy3
import Derived.Test.YtaibdpjjojihmaaGreatPKn8
set_option linter.unusedVariables false
set_option linter.unusedSimpArgs false
set_option maxRecDepth 20000
set_option maxHeartbeats 4000000
namespace Go.Proofs.YtaibdpjjojihmaaGreat
section
open Go Go.RowKit
attribute [local irreducible] Calls
variable {cb sb:Nat} {b:Int} {p:jf} {H:List (Int×Nat)} {M:Mem} {c:Co}
theorem Ns (h:yO cb sb b p H M c) (hb:b<=999999999) {y:Yx} {x:Cy} (hy:Vx H y x) (hi:dA p y):zu zf 157 [ptr x.yb] M (qy cb x y::c.ob) (fun u M' o=>M.le M'/\u= .bool true/\ ∃c':Co,o=qy cb x (Uq p y).2::c'.ob/\yO cb sb b (Uq p y).1 H M' c'):=by
 have cS:=Xi h;have cN:=XV (c:=c) (uI h.st y.at_);have ig1:=h.st.inv.get y.at_;have ig2:=h.st.inv.get y.Uw;have hc:=h.st.inv.c;have U8:Uq p y=Uq p y:=rfl
 conv at U8=>rhs;unfold Uq
 generalize Uq p y=ZV at*;generalize P9:p.q.get y.at_=n0 at*;generalize hn1:p.q.get y.Uw=n1 at*;refine xy Tryz.func157 rfl Tryz.ntmps157 zd (fun F w M0 hF=>zz ?_)
 repeat' (first|refine uK cS ?_|refine nv ?_)
 refine xQ cN ?_;rintro _ M2 _ zD-⟨-,rfl,z,rfl,hz,jL⟩;refine zJ ?_;have oz:=zI hz;have h2:=h.mono zD;have cN2:=XV (c:=c) (uI h2.st y.Uw);clear cN cS
 repeat' (first|refine yh (dst:=some 4) zh fun b4=>?_|refine nv ?_)
 refine xQ cN2 ?_;rintro _ M3 _ yc-⟨-,rfl,z2,rfl,UF,ahP⟩;refine zJ ?_;rw [hn1] at ahP;have T8:=zI UF;have l3:=zD.trans yc;have h3:=h.mono l3;have hz1:=hz.mono yc;clear cN2 hz;subst jL ahP;have ig1:=ig1.xW;have ig2:=ig2.xW;have cCf:=eB h3;have cDe:=tz p.q.c z z2 y.i M3 b hc ze hz1 UF ig1 ig2
 repeat' (first|refine yh (dst:=some 6) zh fun b6=>?_|refine kV (x:= .region 4 _ _) (fun s'=>vo s' ⟨M3, .zK (ptr b6) 143 (yr z2):: .zK (ptr b4) 143 (yr z)::mG cb x {y with fin:=z2.high} (Ve y.nx)::(c.ob++F),[(0, .v (ptr x.yb)),(3, .v (ptr sb)),(4, .v (ptr b4)),(6, .v (ptr b6))]⟩) ?_ ?_|refine nv ?_)
 · skip
   exact ⟨rfl,xZ jY⟩
 rintro s' hs;refine x8 _ hs ?_;clear hs s'
 repeat' (first|refine kV (x:= .region 5 _ _) (fun s'=>vo s' ⟨M3, .zK (ptr b6) 143 (yr z2):: .zK (ptr b4) 143 (yr z)::mG cb x {y with fin:=z2.high} (.func (.func 118) #[] #[])::(c.ob++F),[(0, .v (ptr x.yb)),(3, .v (ptr sb)),(4, .v (ptr b4)),(6, .v (ptr b6))]⟩) ?_ ?_|refine nv ?_)
 · skip
   exact ⟨rfl,xZ jY⟩
 rintro s' hs;refine x8 _ hs ?_;clear hs s';change VC _ _ _ _ _ ⟨M3, .zK (ptr b6) 143 (yr z2):: .zK (ptr b4) 143 (yr z)::qy cb x {y with fin:=z2.high,nx:= .choose}::(c.ob++F),[(0, .v (ptr x.yb)),(3, .v (ptr sb)),(4, .v (ptr b4)),(6, .v (ptr b6))]⟩ _;have P1:Vx H {y with fin:=z2.high,nx:= .choose} x:=⟨hy.hand,hy.th⟩;have ao:dA p {y with fin:=z2.high,nx:= .choose}:=⟨hi.ch0,hi.ch1,hi.aba,hi.aa9⟩;have e1:({y with fin:=z2.high,nx:= .choose}:Yx).at_=y.at_:=rfl;have e2:({y with fin:=z2.high,nx:= .choose}:Yx).Uw=y.Uw:=rfl;have e3:({y with fin:=z2.high,nx:= .choose}:Yx).i=y.i:=rfl;have e4:({y with fin:=z2.high,nx:= .choose}:Yx).nx= .choose:=rfl;have e5:({y with fin:=z2.high,nx:= .choose,at_:=y.Uw}:Yx)= {({y with fin:=z2.high,nx:= .choose}:Yx) with at_:=y.Uw}:=rfl;have e0:({y with fin:=z2.high,nx:= .choose}:Yx).th=y.th:=rfl;rw [show (bare z2).high=z2.high from rfl,e5] at U8;generalize ({y with fin:=z2.high,nx:= .choose}:Yx)=y1 at*;rw [<-e3] at cDe;rw [<-e0,<-e1,<-e2,<-e3] at U8;clear e5 e0 e1 e2 e3 hy hi;generalize hdd:VY p.q.c (bare z) (bare z2) y1.i=d at*;refine AL (x:= .seq (.region 6 _ _) (.block 0 _)) (fun s'=> ∃(M4:Mem) (p1:jf) (c1:Co),M3.le M4/\yO cb sb b p1 H M4 c1/\p1.ch=p.ch/\ZV=ru p1 y1/\vo s' ⟨M4,qy cb x y1::(c1.ob++F),[(0, .v (ptr x.yb))]⟩) ?_ ?_
 · repeat' (first|refine zU [] [1,9] [] 1 yI zd zd ?_|refine nv ?_)
   repeat' (refine nu ?_)
   refine YG cCf rfl ?_ zx;refine Vu 1 ?_;refine xF cDe rfl ?_ zx;rintro u M4 _ yQ-⟨-,rfl,rfl⟩;refine yJ ?_
   repeat' (refine nu ?_)
   have l4:=l3.trans yQ;have h4:=h3.mono yQ;have agO:=hz1.mono yQ;have agN:=UF.mono yQ;clear cDe cCf h3 hz1 UF h h2;by_cases d3:d=3
   · have g3:(d==3)=true:=beq_iff_eq.2 d3;have cP:=ez h4 (Nf h4.st ze y1.at_ y1.i);rw [zo d3] at U8;by_cases he:bN p.q y1.at_ y1.i=0
     · have g5:(bN p.q y1.at_ y1.i !=0)=false:=by rw [he];rfl
       rw [zo he] at U8
       repeat' (first|refine zU [.l c.ob] [11,12] [11] 1 yI zd zd ?_|refine nv ?_)
       repeat' (refine nu ?_)
       refine xF cP rfl ?_ zx;rintro _ M5 _ kG-⟨-,rfl,c5,rfl,h5⟩;refine yJ ?_
       repeat' (first|refine nu ?_|exact zx|refine nz ?_ ?_)
       repeat' (refine nv ?_)
       exact .inl ⟨rfl,M5,_,c5,yQ.trans kG,h5,rfl,U8,xZ xc⟩
     · have g5:(bN p.q y1.at_ y1.i !=0)=true:=bne_iff_ne.2 he;rw [zn he] at U8;subst U8
       repeat' (first|refine zU [.l c.ob] [11,12] [11] 1 yI zd zd ?_|refine nv ?_)
       repeat' (refine nu ?_)
       refine xF cP rfl ?_ zx;rintro _ M5 _ kG-⟨-,rfl,c5,rfl,h5⟩;refine yJ ?_
       repeat' (first|refine nu ?_|exact zx|refine nz ?_ ?_)
       have cO:=Q0 h5 P1 (Ve y1.nx) (bN p.q y1.at_ y1.i)
       repeat' (refine nv ?_)
       refine xQ cO ?_;rintro _ M6 _- -⟨hM,rfl,c6,rfl,h6⟩;subst hM;refine zJ ?_
       repeat' (refine nv ?_)
       have l5:=l4.trans kG;exact .inr ⟨rfl,_,mG cb x (wL {p with q:=(lj p.q y1.at_ y1.i).1} y1 (bN p.q y1.at_ y1.i)).2 (Ve y1.nx)::c6.ob,zP,l5,zh,zq,l5,rfl,c6,rfl,h6⟩
   · have g3:(d==3)=false:=beq_eq_false_iff_ne.2 d3;rw [zn d3] at U8;by_cases d4:d=4
     · have g4:(d==4)=true:=beq_iff_eq.2 d4;rw [zo d4] at U8;have cPo:=LY p.q.c z z2 y1.i M4 b hc ze agO agN ig1 ig2;obtain ⟨ip1,ip2⟩:=LZ hc (i:=y1.i) ig1.bare ig2.bare;have cCf:=eB h4;generalize Ww p.q.c (bare z) (bare z2) y1.i=pq at*;obtain ⟨pa,pb,pn⟩:=pq;dsimp only at cPo U8 ip1 ip2
       repeat' (first|refine kV (x:= .region 13 _ _) (fun s'=> ∃(M5:Mem) (za zb:Nd),M4.le M5/\za.Ok M5/\zb.Ok M5/\bare za=pa/\bare zb=pb/\vo s' ⟨M5, .zK (ptr b6) 143 (yr zb):: .zK (ptr b4) 143 (yr za)::qy cb x y1::(c.ob++F),[(0, .v (ptr x.yb)),(3, .v (ptr sb)),(4, .v (ptr b4)),(6, .v (ptr b6))]⟩) ?_ ?_|refine nv ?_)
       · refine zU [.v (ptr b4), .v (ptr b6)] [1,9,10,11,12,13,14,15] [14] 3 yI zd zd ?_
         repeat' (refine nu ?_)
         refine YG cCf rfl ?_ zx;refine Vu 1 ?_;refine xF cPo rfl ?_ zx;rintro _ M5 _ kG-⟨-,rfl,za,zb,rfl,hza,hzb,hba,Ga⟩;refine yJ ?_;have oza:=zI hza;have ozb:=zI hzb
         repeat' (first|refine nu ?_|exact zx|refine nz ?_ ?_)
         all_goals exact ⟨rfl,M5,za,zb,kG,hza,hzb,hba,Ga,xZ jY⟩
       rintro s' ⟨M5,za,zb,kG,hza,hzb,hba,Ga,hs⟩;refine x8 _ hs ?_;clear hs s' cCf cPo agO agN;have oza:=zI hza;have ozb:=zI hzb;have h5:=h4.mono kG;have cSa:=ez h5 (XO h5.st ze za hza (by rw [<-hba] at ip1;exact ip1.xW));clear h4
       repeat' (refine nv ?_)
       refine xQ cSa ?_;rintro _ M6 _ Uy-⟨-,rfl,c6,rfl,h6⟩;refine zJ ?_;have cSb:=ez h6 (XO h6.st ze zb (hzb.mono Uy) (by rw [<-Ga] at ip2;exact ip2.xW));clear cSa h5
       repeat' (refine nv ?_)
       refine xQ cSb ?_;rintro _ M7 _ cj-⟨-,rfl,c7,rfl,h7⟩;refine zJ ?_
       repeat' (refine nv ?_)
       rw [hba,Ga] at h7;exact .inl ⟨rfl,M7,_,c7,((yQ.trans kG).trans Uy).trans cj,h7,rfl,U8,xZ xc⟩
     · have g4:(d==4)=false:=beq_eq_false_iff_ne.2 d4;rw [zn d4] at U8;by_cases d5:d=5
       · have g5:(d==5)=true:=beq_iff_eq.2 d5;rw [zo d5] at U8;subst U8;have cL:=eA h4 P1.hand y1.at_
         repeat' (first|refine zU [.l c.ob] [9] [9] 1 yI zd zd ?_|refine nv ?_)
         repeat' (refine nu ?_)
         refine xF cL rfl ?_ zx;rintro _ M5 _- -⟨hM,-,c5,rfl,h5⟩;subst hM;refine yJ ?_
         repeat' (refine nu ?_)
         repeat' (refine nv ?_)
         exact .inr ⟨rfl,_,mG cb x {y1 with at_:=y1.Uw} (Ve y1.nx)::c5.ob,zP,l4,zh,zq,l4,rfl,c5,rfl,h5⟩
       · have g5:(d==5)=false:=beq_eq_false_iff_ne.2 d5;rw [zn d5] at U8;subst U8;have cO:=Q0 h4 P1 (Ve y1.nx) 0
         repeat' (refine nv ?_)
         refine xQ cO ?_;rintro _ M6 _- -⟨hM,rfl,c6,rfl,h6⟩;subst hM;refine zJ ?_
         repeat' (refine nv ?_)
         exact .inr ⟨rfl,_,mG cb x (wL p y1 0).2 (Ve y1.nx)::c6.ob,zP,l4,zh,zq,l4,rfl,c6,rfl,h6⟩
 · rintro s' ⟨M4,p1,c1,yQ,h4,hch,km,hs⟩;refine x8 _ hs ?_;clear hs s';subst km;have cM:=mD h4 (y:=y1) (x:=x) ⟨by rw [hch];exact ao.ch0,by rw [hch];exact ao.ch1,ao.aba,ao.aa9⟩ (Ve y1.nx)
   repeat' (refine nv ?_)
   refine xQ cM ?_;rintro _ M5 _ kG-⟨-,c5,rfl,h5⟩;refine zJ ?_;have cL:=eA h5 (th:=y1.th) P1.hand y1.Uw
   repeat' (first|refine zU [.l c5.ob] [9] [9] 1 yI zd zd ?_|refine nv ?_)
   repeat' (refine nu ?_)
   refine xF cL rfl ?_ zx;rintro _ M6 _- -⟨hM,-,c6,rfl,h6⟩;subst hM;refine yJ ?_
   repeat' (refine nu ?_)
   repeat' (refine nv ?_)
   have l5:=(l3.trans yQ).trans kG;exact ⟨_,mG cb x (Vd p1 y1).2 (Ve y1.nx)::c6.ob,zP,l5,zh,zq,l5,rfl,c6,rfl,h6⟩
end
section
open Go Go.RowKit
attribute [local irreducible] Calls
variable {cb sb:Nat} {b:Int} {p:jf} {H:List (Int×Nat)} {M:Mem} {c:Co}
theorem gn (h:yO cb sb b p H M c) {th:Int} (h0:0<=th) (ht:th<1000) (k:ByteArray):zu zf 83 [ptr cb, .int .i64 th, .string k] M c.ob (fun u M' o=>M'=M/\ ∃(x:Cy) (H':List (Int×Nat)) (c':Co),u=ptr x.yb/\(∀t z,yU H t=some z->yU H' t=some z)/\o=qy cb x (WI th k .take)::c'.ob/\yO cb sb b p H' M c'/\Vx H' (WI th k .take) x):=by
 have cH:=dg h h0;refine xy Tryz.func83 rfl Tryz.ntmps83 zd (fun F w M0 hF=>zz ?_)
 repeat' (refine nv ?_)
 refine xQ cH ?_;rintro _ M2 _- -⟨hM,hb,H',c',rfl,hl,hH,rfl,vk⟩;subst hM;refine zJ ?_
 repeat' (first|refine yZ zd zh fun yb=>?_|refine nv ?_)
 refine ⟨_,mG cb ⟨yb,hb⟩ (WI th k .take) (.func (.func 102) #[] #[])::c'.ob,zP,zE,zh,?_,rfl,⟨yb,hb⟩,H',c',rfl,hH,rfl,vk,⟨hl,ht⟩⟩;change ji (mG cb ⟨yb,hb⟩ (WI th k .take) (.func (.func 102) #[] #[])::(c'.ob++F)) _;exact zq
theorem Gj (h:yO cb sb b p H M c) {th:Int} (h0:0<=th) (ht:th<1000) (k:ByteArray):zu zf 165 [ptr cb, .int .i64 th, .string k] M c.ob (fun u M' o=>M'=M/\ ∃(x:Cy) (H':List (Int×Nat)) (c':Co),u=ptr x.yb/\(∀t z,yU H t=some z->yU H' t=some z)/\o=qy cb x (WI th k .choose)::c'.ob/\yO cb sb b p H' M c'/\Vx H' (WI th k .choose) x):=by
 have cN:=gn h h0 ht k;refine xy Tryz.func165 rfl Tryz.ntmps165 zd (fun F w M0 hF=>zz ?_)
 repeat' (refine nv ?_)
 refine xQ cN ?_;rintro _ M2 _- -⟨hM,x,H',c',rfl,hH,rfl,vk,hx⟩;subst hM;refine zJ ?_
 repeat' (refine nv ?_)
 exact ⟨_,mG cb x (WI th k .take) (.func (.func 118) #[] #[])::c'.ob,zP,zE,zh,zq,rfl,x,H',c',rfl,hH,rfl,vk,⟨hx.hand,hx.th⟩⟩
theorem mE (h:yO cb sb b p H M c) (hb:b<=999999999) {y:Yx} {x:Cy} (hy:Vx H y x) (hi:dA p y):zu zf 84 [ptr x.yb] M (qy cb x y::c.ob) (fun u M' o=>M.le M'/\u= .bool (jM p y).2.2/\ ∃c':Co,o=qy cb x (jM p y).2.1::c'.ob/\yO cb sb (b+1) (jM p y).1 H M' c'):=by
 unfold jM;rcases XK y.done with hd|hd
 · rw [zo hd];refine xy Tryz.func84 rfl Tryz.ntmps84 zd (fun F w M0 hF=>zz ?_)
   repeat' (refine nv ?_)
   exact ⟨_,qy cb x y::c.ob,zP,zE,zh,zq,zE,rfl,c,rfl,h.up ze⟩
 · rw [zn (by rw [hd];simp)]
   have key: ∀(f:FuncId) (r:Bool) (ZV:jf×Yx) [zG zf f],Ve y.nx= .func (.func f) #[] #[]->zu zf f [ptr x.yb] M (qy cb x y::c.ob) (fun u M' o=>M.le M'/\u= .bool r/\ ∃c':Co,o=qy cb x ZV.2::c'.ob/\yO cb sb (b+1) ZV.1 H M' c')->
    zu zf 84 [ptr x.yb] M (qy cb x y::c.ob) (fun u M' o=>M.le M'/\u= .bool r/\ ∃c':Co,o=qy cb x ZV.2::c'.ob/\yO cb sb (b+1) ZV.1 H M' c'):=by
    intro f r ZV _ Oq cL;dsimp only [qy] at cL⊢;rw [Oq] at cL⊢;refine xy Tryz.func84 rfl Tryz.ntmps84 zd (fun F w M0 hF=>zz ?_)
    repeat' (refine nv ?_)
    refine kcv cL zd ?_;rintro _ M2 _ zD-⟨-,rfl,c',rfl,vk⟩;refine zJ ?_
    repeat' (refine nv ?_)
    exact ⟨_,qy cb x ZV.2::c'.ob,zP,zD,zh,zq,zD,rfl,c',rfl,vk⟩
   unfold RJ;cases WB:y.nx
   all_goals dsimp only
   case take=>
    refine key _ _ ((Km p y).1,(Km p y).2.1) (by rw [WB];rfl) ((Gr h hy).mono ?_);rintro u M' o hle ⟨rfl,rfl,c',rfl,vk⟩;exact ⟨zE,rfl,c',rfl,vk.up ze⟩
   case choose=>exact key _ true (Yg p y) (by rw [WB];rfl) (tF h hb hy hi)
   case reach=>
    refine key _ _ ((Y8 p y).1,(Y8 p y).2.1) (by rw [WB];rfl) ((Dr h hy).mono ?_);rintro u M' o hle ⟨rfl,rfl,c',rfl,vk⟩;exact ⟨zE,rfl,c',rfl,vk.up ze⟩
   case act=>
    refine key _ true (Uq p y) (by rw [WB];rfl) ((Ns h hb hy hi).mono ?_);rintro u M' o hle ⟨h1,rfl,c',rfl,vk⟩;exact ⟨h1,rfl,c',rfl,vk.up ze⟩
theorem aE (x:Cy) (y:Yx):zu zf 85 [ptr x.yb] M [qy cb x y] (fun u M' o=>u= .bool y.done/\M'=M/\o= [qy cb x y]):=by
 refine xy Tryz.func85 rfl Tryz.ntmps85 zd (fun F w M0 hF=>zz ?_)
 repeat' (refine nv ?_)
 exact ⟨_,[qy cb x y],zP,zE,zh,zq,rfl,rfl,rfl⟩
theorem Nt (x:Cy) (y:Yx):zu zf 198 [ptr x.yb] M [qy cb x y] (fun u M' o=>u= .int .i64 y.Qx/\M'=M/\o= [qy cb x y]):=by
 refine xy Tryz.func198 rfl Tryz.ntmps198 zd (fun F w M0 hF=>zz ?_)
 repeat' (refine nv ?_)
 exact ⟨_,[qy cb x y],zP,zE,zh,zq,rfl,rfl,rfl⟩
theorem Gs (x:Cy) (y:Yx):zu zf 103 [ptr x.yb] M [qy cb x y] (fun u M' o=>u= .string (eu y)/\M'=M/\o= [qy cb x y]):=by
 have cD:=aE (cb:=cb) (M:=M) x y;unfold eu;rcases XK y.done with hd|hd
 · rw [zo hd];rw [hd] at cD;refine xy Tryz.func103 rfl Tryz.ntmps103 zd (fun F w M0 hF=>zz ?_)
   repeat' (first|refine uK cD ?_|refine nv ?_)
   exact ⟨_,[qy cb x y],zP,zE,zh,zq,rfl,rfl,rfl⟩
 · rw [zn (by rw [hd];simp)];rw [hd] at cD;refine xy Tryz.func103 rfl Tryz.ntmps103 zd (fun F w M0 hF=>zz ?_)
   repeat' (first|refine uK cD ?_|refine nv ?_)
   exact ⟨_,[qy cb x y],zP,zE,zh,zq,rfl,rfl,rfl⟩
theorem ry {p:jf} {y:Yx} (h0:0<=p.ch) (h1:0<=y.Qx):(0<=(jM p y).1.ch/\(jM p y).1.ch<=p.ch+1)/\0<=(jM p y).2.1.Qx/\(jM p y).2.1.Qx<=y.Qx+1:=by
 unfold jM;split
 · dsimp only;omega
 · unfold RJ;split
   · unfold Km;split<;>(dsimp only;omega)
   · dsimp only;unfold Yg Vd wL JA
     repeat' split
     all_goals (dsimp only;omega)
   · unfold Y8;split<;>(dsimp only;omega)
   · dsimp only;unfold Uq ru wL JA
     repeat' split
     all_goals (dsimp only;omega)
theorem rt {p:jf} {y:Yx}:(jM p y).2.1.th=y.th:=by
 unfold jM;split
 · rfl
 · unfold RJ;split
   · unfold Km;split<;>rfl
   · dsimp only;unfold Yg Vd wL
     repeat' split
     all_goals rfl
   · unfold Y8;split<;>rfl
   · dsimp only;unfold Uq ru wL
     repeat' split
     all_goals rfl
end
section
open Go Go.RowKit
attribute [local irreducible] Calls
section
variable {P:Program} {w:World} {M0:Mem} {N:Nat} {xJ U:List Ob} {e2:List Nat} {l:List Oper} {n i:Nat} {xz ks:List Nat} {M:Mem} {own:List Ob} {env:Env} {Q:St->Prop} {dst:Option Tmp} {ty:TypeId} {pos:String} {z7:Array Edge}
theorem Sq {f:FuncId} {vs:List Value} {zO F:List Ob} {R:Value->Mem->List Ob->Prop} {xs:Array Operand} {qz:Array TypeId} {j:Nat} {want:Bool} {oj:Oper} {d:Tmp} [hf:zG P f] (hc:zu P f vs M zO R) (ho:l[i]?=some ⟨dst, .call ⟨.value (.func f),xs,qz⟩,ty,pos,z7,some (j,want)⟩)
 (h: ∀v M' o,M.le M'->jI o->R v M' o->VWn P w M0 N xJ U e2 l n (xz.erase i) ⟨M',o++F,env.put dst (.v v)⟩ Q) (h2:WL P w M0 N xJ U e2 l n xz ks ⟨M,own,env⟩ Q) (hj:l.toArray[j]?=some oj:=by rfl) (yE:oj.dst=some d:=by rfl) (hb:env.get d=some (.v (.bool want)):=by rfl) (hv:env.kP xs.toList=some vs:=by rfl) (ht:uu own zO F:=by infer_instance) (hn:jI own:=by infer_instance) (hk:yi N dst=true:=by rfl) (zV:yR env 0=true:=by rfl):WL P w M0 N xJ U e2 l n xz (i::ks) ⟨M,own,env⟩ Q:=by
 refine Vs {x:Value×Mem×List Ob//M.le x.2.1/\jI x.2.2/\R x.1 x.2.1 x.2.2} (fun x=>x.1.2.1) (fun x=>x.1.2.2++F) (fun x=>x.1.1) ho ⟨fun hd a W hR=>?_⟩ hk (fun x=>⟨x.2.1,(h _ _ _ x.2.1 x.2.2.1 x.2.2.2).1,(h _ _ _ x.2.1 x.2.2.1 x.2.2.2).2⟩) h2;rw [zo (by rw [YK (s:=⟨M,own,env⟩) hR rfl hj yE hb];simp)];rw [Va (P:=P) (w:=w) (M0:=M0) (N:=N) (s:=⟨M,own,env⟩) hv hd a W hR];simp only [kj];obtain ⟨Zy,h1⟩:=hR.1.KJ (zw:=zO++F) (ji.perm ht.h);exact (hc F (hn.J1 ht.h).right w M0 Zy W h1).mono fun e W' ⟨v,yE,o,M',he,hle,wK,Zl,hp⟩=>⟨v,he,⟨⟨v,M',o⟩,hle,wK,hp⟩,yE,Zl,rfl⟩
end
structure dG where
 th:Int
 cy:Option Yx
 cur:ByteArray
 parked:Bool
 at_:Int
def X7 (p:jf) (w:dG):dG×Bool:=({w with parked:=w.parked&&!(w.at_ !=p.ch)},(w.parked&&!(w.at_ !=p.ch))||p.wa==0)
def UK (p:jf) (w:dG) (y:Yx):dG:=if eu y=em then {w with cur:=eu y,cy:=none,parked:=w.at_==p.ch,at_:=p.ch} else {w with cur:=eu y,cy:=none}
def Bs (p:jf) (w:dG) (y:Yx):jf×dG×Bool:=((jM p y).1,if (jM p y).2.1.done=true then UK (jM p y).1 w (jM p y).2.1 else {w with cy:=some (jM p y).2.1},(jM p y).2.2)
def kO (p:jf) (w:dG):jf×dG×Bool:=match w.cy with
 |some y=>Bs p w y
 |none=>if (X7 p w).2=true then (p,(X7 p w).1,false) else Bs p (X7 p w).1 (WI w.th w.cur .take)
structure Wk where
 wb:Nat
 cy:Cy
abbrev AT (cb wb:Nat) (w:dG) (v:Value):Ob:= .zK (ptr wb) 131 [ptr cb, .int .i64 w.th,v, .string w.cur, .bool w.parked, .int .i64 w.at_]
def WT (cb:Nat) (x:Wk) (w:dG):List Ob:=match w.cy with
 |some y=> [AT cb x.wb w (ptr x.cy.yb),qy cb x.cy y]
 |none=> [AT cb x.wb w (.pointer none)]
theorem adq (cb:Nat) (x:Wk) (w:dG):jI (WT cb x w):=by unfold WT;split<;>infer_instance
instance (cb:Nat) (x:Wk) (w:dG):jI (WT cb x w):=adq cb x w
structure o9 (H:List (Int×Nat)) (w:dG) (x:Wk):Prop where
 cy: ∀y,w.cy=some y->Vx H y x.cy
 D6:0<=w.th
 th:w.th<1000
theorem o9.mono {H H':List (Int×Nat)} {w:dG} {x:Wk} (h:o9 H w x) (hH: ∀t z,yU H t=some z->yU H' t=some z):o9 H' w x:=⟨fun y e=>(h.cy y e).mono hH,h.D6,h.th⟩
variable {cb sb:Nat} {b:Int} {p:jf} {H:List (Int×Nat)} {M:Mem} {c:Co}
theorem tw (h:yO cb sb b p H M c) {th:Int} (h0:0<=th) (ht:th<1000):zu zf 41 [ptr cb, .int .i64 th] M c.ob (fun u M' o=>M'=M/\ ∃(x:Wk) (H':List (Int×Nat)) (c':Co),u=ptr x.wb/\(∀t z,yU H t=some z->yU H' t=some z)/\o=WT cb x ⟨th,none,em,false,p.ch⟩++c'.ob/\yO cb sb b p H' M c'/\o9 H' ⟨th,none,em,false,p.ch⟩ x):=by
 have cH:=dg h h0;refine xy Tryz.func41 rfl Tryz.ntmps41 zd (fun F w M0 hF=>zz ?_)
 repeat' (refine nv ?_)
 refine xQ cH ?_;rintro _ M2 _- -⟨hM,hb,H',c',rfl,hl,hH,rfl,vk⟩;subst hM;refine zJ ?_;have cC:=aG vk
 repeat' (first|refine uK cC ?_|refine yZ zd zh fun wb=>?_|refine nv ?_)
 refine ⟨_,AT cb wb ⟨th,none,em,false,p.ch⟩ (.pointer none)::c'.ob,zP,zE,zh,?_,rfl,⟨wb,⟨0,0⟩⟩,H',c',rfl,hH,rfl,vk,⟨fun y e=>(nomatch e),h0,ht⟩⟩;change ji (AT cb wb ⟨th,none,em,false,p.ch⟩ (.pointer none)::(c'.ob++F)) _;exact zq
theorem Bp (h:yO cb sb b p H M c) {w:dG} {wb:Nat}:zu zf 82 [ptr wb] M (AT cb wb w (.pointer none)::c.ob) (fun u M' o=>u= .bool (X7 p w).2/\M'=M/\o=AT cb wb (X7 p w).1 (.pointer none)::c.ob):=by
 have cC:=aG h;have cW:=Gw h;obtain ⟨th,cy,cur,parked,at_⟩:=w;unfold X7;cases parked with
 |false=>
  refine xy Tryz.func82 rfl Tryz.ntmps82 zd (fun F w M0 hF=>zz ?_)
  repeat' (first|refine zU [] [] [] 1 yI zd zd ?_|refine nv ?_)
  repeat' (refine nu ?_)
  repeat' (first|refine uK cW ?_|refine nv ?_)
  exact ⟨_,AT cb wb ⟨th,cy,cur,false,at_⟩ (.pointer none)::c.ob,zP,zE,zh,zq,rfl,rfl,rfl⟩
 |true=>
  dsimp only;rw [XC];cases jt:(at_ !=p.ch) with
  |true=>
   refine xy Tryz.func82 rfl Tryz.ntmps82 zd (fun F w M0 hF=>zz ?_)
   repeat' (first|refine zU [] [13,14,15] [] 1 yI zd zd ?_|refine nv ?_)
   repeat' (refine nu ?_)
   refine Sq cC rfl ?_ zx;rintro _ _ _- -⟨rfl,rfl,rfl⟩;refine yJ ?_
   repeat' (first|refine nu ?_|exact zx|refine nz ?_ ?_)
   repeat' (first|refine uK cW ?_|refine nv ?_)
   exact ⟨_,AT cb wb ⟨th,cy,cur,false,at_⟩ (.pointer none)::c.ob,zP,zE,zh,zq,rfl,rfl,rfl⟩
  |false=>
   refine xy Tryz.func82 rfl Tryz.ntmps82 zd (fun F w M0 hF=>zz ?_)
   repeat' (first|refine zU [] [13,14,15] [] 1 yI zd zd ?_|refine nv ?_)
   repeat' (refine nu ?_)
   refine Sq cC rfl ?_ zx;rintro _ _ _- -⟨rfl,rfl,rfl⟩;refine yJ ?_
   repeat' (first|refine nu ?_|exact zx|refine nz ?_ ?_)
   repeat' (refine nv ?_)
   exact ⟨_,AT cb wb ⟨th,cy,cur,true,at_⟩ (.pointer none)::c.ob,zP,zE,zh,zq,rfl,rfl,rfl⟩
theorem Bo (h:yO cb sb b p H M c) {k:dG} {wb:Nat} {x:Cy} {y:Yx}:zu zf 86 [ptr wb] M (AT cb wb k (ptr x.yb)::qy cb x y::c.ob) (fun u M' o=>M'=M/\o=AT cb wb (UK p k y) (.pointer none)::c.ob):=by
 have cN:=Gs (cb:=cb) (M:=M) x y;have cC:=aG h;unfold UK;generalize eu y=nx at*;by_cases hn:nx=em
 · have g1:decide (nx=(⟨#[]⟩:ByteArray))=true:=yk hn;rw [zo hn];refine xy Tryz.func86 rfl Tryz.ntmps86 zd (fun F w M0 hF=>zz ?_)
   repeat' (first|refine uK cN ?_|refine uK cC ?_|refine nv ?_)
   exact ⟨_,AT cb wb {k with cur:=nx,cy:=none,parked:=k.at_==p.ch,at_:=p.ch} (.pointer none)::c.ob,yH.nil rfl,zE,zh,zq,rfl,rfl⟩
 · have g1:decide (nx=(⟨#[]⟩:ByteArray))=false:=z6 hn;rw [zn hn];refine xy Tryz.func86 rfl Tryz.ntmps86 zd (fun F w M0 hF=>zz ?_)
   repeat' (first|refine uK cN ?_|refine nv ?_)
   exact ⟨_,AT cb wb {k with cur:=nx,cy:=none} (.pointer none)::c.ob,yH.nil rfl,zE,zh,zq,rfl,rfl⟩
theorem Bq (h:yO cb sb b p H M c) (hb:b<=999999999) {k:dG} {x:Wk} (hx:o9 H k x) (hi: ∀y,k.cy=some y->dA p y) (h0:0<=p.ch) (h1:p.ch<=1000000000):zu zf 67 [ptr x.wb] M (WT cb x k++c.ob) (fun u M' o=>M.le M'/\u= .bool (kO p k).2.2/\ ∃(x':Wk) (H':List (Int×Nat)) (c':Co),x'.wb=x.wb/\(∀t z,yU H t=some z->yU H' t=some z)/\o=WT cb x' (kO p k).2.1++c'.ob/\yO cb sb (b+1) (kO p k).1 H' M' c'/\o9 H' (kO p k).2.1 x'):=by
 have cI:=Bp h (w:=k) (wb:=x.wb);obtain ⟨ZV,km⟩: ∃r,r=kO p k:=⟨_,rfl⟩;rw [<-km]
 obtain ⟨v,G,hv,hG⟩: ∃(v:Value) (G:List Ob),xK v/\WT cb x k=AT cb x.wb k v::G/\(v= .pointer none/\k.cy=none/\G= []\/ ∃y,v=ptr x.cy.yb/\k.cy=some y/\G= [qy cb x.cy y]):=by
  unfold WT;cases hk:k.cy with
  |none=>exact ⟨_,_,⟨rfl⟩,rfl, .inl ⟨rfl,rfl,rfl⟩⟩
  |some y=>exact ⟨_,_,⟨rfl⟩,rfl, .inr ⟨y,rfl,rfl,rfl⟩⟩
 haveI hnG:jI G:=by
  rcases hG.2 with ⟨_,_,rfl⟩|⟨y,_,_,rfl⟩<;>infer_instance
 rw [hG.1];refine xy Tryz.func67 rfl Tryz.ntmps67 zd (fun F w M0 hF=>zz ?_)
 repeat' (first|refine AL (x:= .seq (.region 3 _ _) _) (fun s'=> ∃(k1:dG) (y:Yx) (z:Cy) (H':List (Int×Nat)) (c1:Co),ZV=Bs p k1 y/\k1.th=k.th/\yO cb sb b p H' M c1/\(∀t z,yU H t=some z->yU H' t=some z)/\Vx H' y z/\dA p y/\vo s' ⟨M,AT cb x.wb k1 (ptr z.yb)::qy cb z y::(c1.ob++F),[(0, .v (ptr x.wb))]⟩) ?_ ?_|refine nv ?_)
 · rcases hG.2 with ⟨rfl,hk,rfl⟩|⟨y,rfl,hk,rfl⟩
   · unfold kO at km;rw [hk] at km;dsimp only at km;have hcy:(X7 p k).1.cy=none:=hk;have MG:(X7 p k).1.th=k.th:=rfl;have ahK:(X7 p k).1.cur=k.cur:=rfl;generalize X7 p k=id at*;obtain ⟨k1,idl⟩:=id;dsimp only at*;cases idl with
     |true=>
      rw [zo rfl] at km
      repeat' (first|refine uK cI ?_|refine nv ?_)
      subst km;exact .inr ⟨rfl,_,AT cb x.wb k1 (.pointer none)::c.ob,zP,zE,zh,zq,zE,rfl,x,H,c,rfl,fun _ _ e=>e,by unfold WT;dsimp only;rw [hcy];rfl,h.up ze,⟨fun y e=>(by rw [hcy] at e;cases e),by rw [MG];exact hx.D6,by rw [MG];exact hx.th⟩⟩
     |false=>
      rw [zn yx] at km;have cN:=gn h (th:=k.th) hx.D6 hx.th k.cur;rw [<-MG,<-ahK] at cN
      repeat' (first|refine uK cI ?_|refine zU [.v (ptr x.wb), .l c.ob] [13,16] [13] 2 yI zd zd ?_|refine nv ?_)
      repeat' (refine nu ?_)
      refine xF cN rfl ?_ zx;rintro _ M2 _- -⟨hM,z,H',c',rfl,hH,rfl,vk,hz⟩;subst hM;refine yJ ?_
      repeat' (first|refine nu ?_|exact zx|refine nz ?_ ?_)
      refine .inl ⟨rfl,k1,_,z,H',c',?_,MG,vk,hH,hz,⟨h0,h1,k9 _,by show (0:Int)<=_;decide⟩,xZ xc⟩;rw [km,MG,ahK]
   · unfold kO at km;rw [hk] at km;dsimp only at km;rw [wQ,Yn]
     repeat' (refine nv ?_)
     exact .inl ⟨rfl,k,y,x.cy,H,c,km,rfl,h,fun _ _ e=>e,hx.cy y hk,hi y hk,xZ xc⟩
 · rintro s' ⟨k1,y,z,H',c1,hr,MG,vK,hH,hy,hiy,hs⟩;refine x8 _ hs ?_;clear hs s' km hG hnG cI hv hi;have cS:=mE vK hb hy hiy;have hyt:=rt (p:=p) (y:=y);unfold Bs at hr;generalize jM p y=st at*;obtain ⟨p2,y2,ok⟩:=st;dsimp only at*
   repeat' (refine nv ?_)
   refine xQ cS ?_;rintro _ M2 _ zD-⟨-,rfl,c2,rfl,h2⟩;refine zJ ?_;have cD:=aE (cb:=cb) (M:=M2) z y2;have MC:Vx H' y2 z:=⟨by rw [hyt];exact hy.hand,by rw [hyt];exact hy.th⟩;cases hd:y2.done with
   |true=>
    rw [hd] at cD;rw [zo hd] at hr;have cT:=Bo h2 (k:=k1) (wb:=x.wb) (x:=z) (y:=y2);have htt:(UK p2 k1 y2).th=k1.th/\(UK p2 k1 y2).cy=none:=by unfold UK;split<;>exact ⟨rfl,rfl⟩
    generalize UK p2 k1 y2=k2 at*;obtain ⟨Ti,Om⟩:=htt
    repeat' (first|refine uK cD ?_|refine nv ?_)
    refine xQ cT ?_;rintro _ _ _- -⟨rfl,rfl⟩;refine zJ ?_
    repeat' (refine nv ?_)
    subst hr;exact ⟨_,AT cb x.wb k2 (.pointer none)::c2.ob,zP,zD,zh,zq,zD,rfl,x,H',c2,rfl,hH,by unfold WT;dsimp only;rw [Om];rfl,h2,⟨fun y e=>(by rw [Om] at e;cases e),by rw [Ti,MG];exact hx.D6,by rw [Ti,MG];exact hx.th⟩⟩
   |false=>
    rw [hd] at cD;rw [zn (by rw [hd];simp)] at hr
    repeat' (first|refine uK cD ?_|refine nv ?_)
    subst hr;exact ⟨_,AT cb x.wb k1 (ptr z.yb)::qy cb z y2::c2.ob,zP,zD,zh,zq,zD,rfl,⟨x.wb,z⟩,H',c2,rfl,hH,rfl,h2,⟨fun y e=>(by cases e;exact MC),by rw [MG];exact hx.D6,by rw [MG];exact hx.th⟩⟩
end
section
open Go Go.RowKit
attribute [local irreducible] Calls
inductive WrN where
 |take
 |n7
 |QR (y:Yx)
structure JM where
 th:Int
 o:Op
 nx:WrN
 qS:Int
 yd:Bool
 done:Bool
 e:Int
def pj (th:Int) (o:Op):JM:=⟨th,o, .take,0,false,false,0⟩
def vO (p:jf) (r:JM):jf×JM×Bool:=
 if (kC p.T r.th 0 true).2=true then ({p with T:=(kC p.T r.th 0 true).1},{r with nx:= .n7},true) else ({p with T:=(kC p.T r.th 0 true).1},r,false)
def Uf (p:jf) (r:JM) (e:Int):jf×JM:=({p with T:=Qf p.T r.th},{r with e:=e,yd:=true,done:=true})
def Xr (p:jf) (o:Op):jf:=if J4 p.q o=0 then JA {p with q:=(QO p.q o).1} else {p with q:=(QO p.q o).1}
def UI (p:jf) (r:JM):jf×JM:=
 if J4 p.q r.o≠4 then Uf (Xr p r.o) r (J4 p.q r.o)
 else if 0<((Xr p r.o).q.get 0).level then (Xr p r.o,{r with nx:= .QR (WI r.th r.o.key .choose),qS:=r.qS+1})
 else if KZ (Xr p r.o).q≠0 then Uf {Xr p r.o with q:=(U1 (Xr p r.o).q).1} r 4
 else (JA {Xr p r.o with q:=(U1 (Xr p r.o).q).1},r)
def YJ (p:jf) (r:JM) (y:Yx):jf×JM×Bool:=
 if (jM p y).2.1.done=false then ((jM p y).1,{r with nx:= .QR (jM p y).2.1},(jM p y).2.2)
 else if (jM p y).2.1.Qx=0 then ((Uf (jM p y).1 {r with nx:= .QR (jM p y).2.1} 4).1,(Uf (jM p y).1 {r with nx:= .QR (jM p y).2.1} 4).2,true)
 else ((jM p y).1,{r with nx:= .take},(jM p y).2.2)
def Lh (p:jf) (r:JM):jf×JM×Bool:=match r.nx with
 | .take=>vO p r
 | .n7=>((UI p r).1,(UI p r).2,true)
 | .QR y=>YJ p r y
def jE (p:jf) (r:JM):jf×JM×Bool:=if r.done=true then (p,r,false) else Lh p {r with yd:=false}
structure Wr where
 rb:Nat
 hb:Nat
 cv:Value
 cy:Cy
def ac6:WrN->Value
 | .take=> .func (.func 121) #[] #[]
 | .n7=> .func (.func 142) #[] #[]
 | .QR _=> .func (.func 166) #[] #[]
instance (n:WrN):xK (ac6 n):=⟨by cases n<;>rfl⟩
abbrev UE (cb:Nat) (x:Wr) (r:JM) (fn cv:Value):Ob:= .zK (ptr x.rb) 223 [ptr cb,ptr x.hb, .int .i64 r.th, .int .i64 r.o.kind, .string r.o.key, .string r.o.hi, .bool r.o.vx, .string r.o.val, .int .i64 r.o.yt,fn,cv, .int .i64 r.qS, .bool r.yd, .bool r.done, .int .i64 r.e]
def u6 (cb:Nat) (x:Wr) (r:JM):List Ob:=match r.nx with
 | .QR y=> [UE cb x r (ac6 (.QR y)) (ptr x.cy.yb),qy cb x.cy y]
 |n=> [UE cb x r (ac6 n) x.cv]
theorem adp (cb:Nat) (x:Wr) (r:JM):jI (u6 cb x r):=by unfold u6;split<;>infer_instance
instance (cb:Nat) (x:Wr) (r:JM):jI (u6 cb x r):=adp cb x r
structure UD (H:List (Int×Nat)) (r:JM) (x:Wr):Prop where
 hand:yU H r.th=some x.hb
 D6:0<=r.th
 th:r.th<1000
 one:xK x.cv
 cy: ∀y,r.nx= .QR y->Vx H y x.cy/\y.th=r.th
theorem UD.mono {H H':List (Int×Nat)} {r:JM} {x:Wr} (h:UD H r x) (hH: ∀t z,yU H t=some z->yU H' t=some z):UD H' r x:=⟨hH _ _ h.hand,h.D6,h.th,h.one,fun y e=>⟨(h.cy y e).1.mono hH,(h.cy y e).2⟩⟩
variable {cb sb:Nat} {b:Int} {p:jf} {H:List (Int×Nat)} {M:Mem} {c:Co}
theorem Eg (h:yO cb sb b p H M c) {th:Int} (h0:0<=th) (ht:th<1000) (o:Op):zu zf 106 [ptr cb, .int .i64 th,o.av] M c.ob (fun u M' o'=>M'=M/\ ∃(x:Wr) (H':List (Int×Nat)) (c':Co),u=ptr x.rb/\(∀t z,yU H t=some z->yU H' t=some z)/\o'=u6 cb x (pj th o)++c'.ob/\yO cb sb b p H' M c'/\UD H' (pj th o) x):=by
 have cH:=dg h h0;refine xy Tryz.func106 rfl Tryz.ntmps106 zd (fun F w M0 hF=>zz ?_)
 repeat' (first|refine yZ zd zh fun bx=>?_|refine nv ?_)
 refine xQ cH ?_;rintro _ M2 _- -⟨hM,hb,H',c',rfl,hl,hH,rfl,vk⟩;subst hM;refine zJ ?_
 repeat' (first|refine yZ zd zh fun rb=>?_|refine nv ?_)
 refine ⟨_,UE cb ⟨rb,hb, .pointer none,⟨0,0⟩⟩ (pj th o) (.func (.func 121) #[] #[]) (.pointer none)::c'.ob,zP,zE,zh,?_,rfl,⟨rb,hb, .pointer none,⟨0,0⟩⟩,H',c',rfl,hH,rfl,vk,⟨hl,h0,ht,⟨rfl⟩,fun y e=>(nomatch e)⟩⟩;change ji (UE cb ⟨rb,hb, .pointer none,⟨0,0⟩⟩ (pj th o) (.func (.func 121) #[] #[]) (.pointer none)::(c'.ob++ .zK (ptr bx) 31 (kZ o)::F)) _;exact zq
theorem WQ (h:yO cb sb b p H M c) {r:JM} {x:Wr} (hl:yU H r.th=some x.hb) (fn cv:Value) [of:xK fn] [ov:xK cv] (e:Int):zu zf 164 [ptr x.rb, .int .i64 e] M (UE cb x r fn cv::c.ob) (fun u M' o=>M'=M/\u= .bool true/\ ∃c':Co,o=UE cb x (Uf p r e).2 fn cv::c'.ob/\yO cb sb b (Uf p r e).1 H M c'):=by
 have cD:=mJ h hl;refine V_d 4 Tryz.func164 rfl rfl Tryz.ntmps164 zd fun F w M0 hF=>zJ ?_
 repeat' (refine nv ?_)
 refine ⟨rfl,?_⟩;simp only [List.take]
 repeat' (refine nv ?_)
 refine ⟨rfl,_,rfl,?_⟩
 repeat' (refine nv ?_)
 refine ⟨rfl,?_⟩
 repeat' (refine nv ?_)
 refine ⟨rfl,c.ob,UE cb x {r with e:=e,yd:=true,done:=true} fn cv::F,_,cD,zh,zh,rfl,?_⟩;rintro _ M' o-wK ⟨rfl,c',rfl,vk⟩;exact ⟨_,UE cb x {r with e:=e,yd:=true,done:=true} fn cv::c'.ob,zP,zE,zh,zq,rfl,rfl,c',rfl,vk⟩
theorem Bf (h:yO cb sb b p H M c) {r:JM} {x:Wr} (hr:UD H r x):zu zf 121 [ptr x.rb] M (UE cb x r (.func (.func 121) #[] #[]) x.cv::c.ob) (fun u M' o=>M'=M/\u= .bool (vO p r).2.2/\ ∃c':Co,o=UE cb x (vO p r).2.1 (if (vO p r).2.2=true then .func (.func 142) #[] #[] else .func (.func 121) #[] #[]) x.cv::c'.ob/\yO cb sb b (vO p r).1 H M c'):=by
 have ov:=hr.one;have cT:=Y9 h hr.hand hr.th 0 true;unfold vO;generalize kC p.T r.th 0 true=tq at*;obtain ⟨T1,ok⟩:=tq;dsimp only at*;cases ok with
 |false=>
  rw [zn yx];dsimp only;rw [zn yx];refine xy Tryz.func121 rfl Tryz.ntmps121 zd (fun F w M0 hF=>zz ?_)
  repeat' (refine nv ?_)
  refine xQ cT ?_;rintro _ M2 _- -⟨hM,rfl,c1,rfl,h1⟩;subst hM;refine zJ ?_
  repeat' (refine nv ?_)
  exact ⟨_,UE cb x r (.func (.func 121) #[] #[]) x.cv::c1.ob,zP,zE,zh,zq,rfl,rfl,c1,rfl,h1⟩
 |true=>
  rw [zo rfl];dsimp only;rw [zo rfl];refine xy Tryz.func121 rfl Tryz.ntmps121 zd (fun F w M0 hF=>zz ?_)
  repeat' (refine nv ?_)
  refine xQ cT ?_;rintro _ M2 _- -⟨hM,rfl,c1,rfl,h1⟩;subst hM;refine zJ ?_
  repeat' (refine nv ?_)
  exact ⟨_,UE cb x r (.func (.func 142) #[] #[]) x.cv::c1.ob,zP,zE,zh,zq,rfl,rfl,c1,rfl,h1⟩
end
section
open Go Go.RowKit
attribute [local irreducible] Calls
theorem iJ {P:Program} {w:World} {M0:Mem} {N:Nat} {x y:Code} {s:St} {Q:zX} (R:St->Prop) (h1:Unit->VC P w M0 N x s (fun e s'=>e= .normal/\R s')) (h2: ∀s',R s'->VC P w M0 N y s' Q):VC P w M0 N (.seq x y) s Q:=kV R (h1 ()) h2
variable {cb sb:Nat} {b:Int} {p:jf} {H:List (Int×Nat)} {M:Mem} {c:Co}
theorem UJ {cb:Nat} {x:Wr} {r:JM} (h:r.nx= .n7):u6 cb x r= [UE cb x r (.func (.func 142) #[] #[]) x.cv]:=by unfold u6;rw [h];rfl
theorem ph {cb:Nat} {x:Wr} {r:JM} (h:r.nx= .take):u6 cb x r= [UE cb x r (.func (.func 121) #[] #[]) x.cv]:=by unfold u6;rw [h];rfl
theorem Lg {cb:Nat} {x:Wr} {r:JM} {y:Yx} (h:r.nx= .QR y):u6 cb x r= [UE cb x r (.func (.func 166) #[] #[]) (ptr x.cy.yb),qy cb x.cy y]:=by unfold u6;rw [h];rfl
theorem Hv (p:jf) (o:Op):p.ch<=(Xr p o).ch/\(Xr p o).ch<=p.ch+1:=by unfold Xr JA;split<;>(dsimp only;omega)
theorem Oz (p:jf) (o:Op):(Xr p o).q=(QO p.q o).1:=by unfold Xr JA;split<;>rfl
theorem Ef (h:yO cb sb b p H M c) (hb:b<=999999990) {r:JM} {x:Wr} (hr:UD H r x) (WB:r.nx= .n7) (ho:r.o.key.size<=1000000) (h0:0<=p.ch) (h1:p.ch<=999999990) (hh0:0<=r.qS) (hh1:r.qS<=1000000000):zu zf 142 [ptr x.rb] M (UE cb x r (.func (.func 142) #[] #[]) x.cv::c.ob) (fun u M' o=>M.le M'/\u= .bool true/\ ∃(x':Wr) (H':List (Int×Nat)) (c':Co),x'.rb=x.rb/\(∀t z,yU H t=some z->yU H' t=some z)/\o=u6 cb x' (UI p r).2++c'.ob/\yO cb sb (b+2) (UI p r).1 H' M' c'/\UD H' (UI p r).2 x'):=by
 have ov:=hr.one;have cS:=Xi h;have cI:=ez h (oP h.st ze r.o ho);obtain ⟨ZV,km⟩: ∃q,q=UI p r:=⟨_,rfl⟩;rw [<-km];unfold UI at km;have hch:=Hv p r.o;have hq:=Oz p r.o;refine xy Tryz.func142 rfl Tryz.ntmps142 zd (fun F w M0 hF=>zz ?_)
 repeat' (first|refine uK cS ?_|refine nv ?_)
 refine xQ cI ?_;rintro _ M2 _ zD-⟨-,rfl,c2,rfl,h2⟩;refine zJ ?_;have cM:=tJ h2 h0 (by dsimp only;omega)
 repeat' (first|refine iJ (x:= .seq (.region 3 _ _) _) (fun s'=> ∃(M3:Mem) (c3:Co),M2.le M3/\yO cb sb (b+1) (Xr p r.o) H M3 c3/\vo s' ⟨M3,UE cb x r (.func (.func 142) #[] #[]) x.cv::(c3.ob++F),[(0, .v (ptr x.rb)),(3, .v (ptr sb)),(5, .v (.int .i64 (J4 p.q r.o)))]⟩) ?_ ?_|refine nv ?_)
 · intro _;unfold Xr;cases he:(J4 p.q r.o==0) with
   |true=>
    rw [zo (beq_iff_eq.1 he)]
    repeat' (refine nv ?_)
    refine xQ cM ?_;rintro _ M3 _ yc-⟨-,-,c3,rfl,h3⟩;refine zJ ?_
    repeat' (refine nv ?_)
    exact ⟨rfl,M3,c3,yc,h3,xZ ka⟩
   |false=>
    rw [zn (beq_eq_false_iff_ne.1 he)]
    repeat' (refine nv ?_)
    exact ⟨rfl,M2,c2,zE,h2,xZ ka⟩
 rintro s' ⟨M3,c3,yc,h3,hs⟩;refine x8 _ hs ?_;clear hs s' cM cI cS h2;have l3:=zD.trans yc;rw [<-hq] at*;generalize Xr p r.o=p1 at*;generalize J4 p.q r.o=e at*;by_cases he:e=4
 · have g1:(e !=4)=false:=by rw [he];rfl
   rw [zn (by simp [he])] at km;have cN:=XV (c:=c3) (uI h3.st 0)
   repeat' (refine nv ?_)
   refine xQ cN ?_;rintro _ M4 _ yQ-⟨-,rfl,z,rfl,hz,jL⟩;refine zJ ?_;have oz:=zI hz;have h4:=h3.mono yQ;have l4:=l3.trans yQ;have K3:(p1.q.get 0).level=z.level:=by rw [<-jL];rfl
   rw [K3] at km;cases d1:decide ((0:Int)<z.level) with
   |true=>
    rw [zo (qc d1)] at km;have cG:=Gj h4 hr.D6 hr.th r.o.key
    repeat' (first|refine yh (dst:=some 6) zh fun b6=>?_|refine zU [.v (ptr x.rb), .l c3.ob] [14,17] [14] 2 yI zd zd ?_|refine nv ?_)
    repeat' (refine nu ?_)
    refine xF cG rfl ?_ zx;rintro _ M5 _- -⟨hM,y,H',c5,rfl,hH,rfl,h5,hy⟩;subst hM;refine yJ ?_
    repeat' (first|refine nu ?_|exact zx|refine nz ?_ ?_)
    repeat' (refine nv ?_)
    subst km;exact ⟨_,UE cb x {r with qS:=r.qS+1} (.func (.func 166) #[] #[]) (ptr y.yb)::qy cb y (WI r.th r.o.key .choose)::c5.ob,zP,l4,zh,zq,l4,rfl,⟨x.rb,x.hb, .pointer none,y⟩,H',c5,rfl,hH,rfl,h5.up ze,⟨hH _ _ hr.hand,hr.D6,hr.th,⟨rfl⟩,fun y' e=>(by cases e;exact ⟨hy,rfl⟩)⟩⟩
   |false=>
    rw [zn (wc d1)] at km;have cL:=ez h4 (p9 h4.st ze);by_cases hle:KZ p1.q=0
    · have g2:(KZ p1.q !=0)=false:=by rw [hle];rfl
      rw [zn (by simp [hle])] at km
      repeat' (first|refine yh (dst:=some 6) zh fun b6=>?_|refine nv ?_)
      refine xQ cL ?_;rintro _ M5 _ kG-⟨-,rfl,c5,rfl,h5⟩;refine zJ ?_;have cM:=tJ h5 (by dsimp only;omega) (by dsimp only;omega)
      repeat' (refine nv ?_)
      refine xQ cM ?_;rintro _ M6 _ Uy-⟨-,-,c6,rfl,h6⟩;refine zJ ?_
      repeat' (refine nv ?_)
      have l6:=(l4.trans kG).trans Uy;subst km;exact ⟨_,UE cb x r (.func (.func 142) #[] #[]) x.cv::c6.ob,zP,l6,zh,zq,l6,rfl,x,H,c6,rfl,fun _ _ e=>e,by rw [UJ WB];rfl,h6.up ze,hr⟩
    · have g2:(KZ p1.q !=0)=true:=bne_iff_ne.2 hle;rw [zo hle] at km
      repeat' (first|refine yh (dst:=some 6) zh fun b6=>?_|refine nv ?_)
      refine xQ cL ?_;rintro _ M5 _ kG-⟨-,rfl,c5,rfl,h5⟩;refine zJ ?_;have cE:=WQ h5 (r:=r) (x:=x) hr.hand (.func (.func 142) #[] #[]) x.cv 4
      repeat' (refine nv ?_)
      refine xQ cE ?_;rintro _ M6 _- -⟨hM,rfl,c6,rfl,h6⟩;subst hM;refine zJ ?_
      repeat' (refine nv ?_)
      have l6:=l4.trans kG;subst km;exact ⟨_,UE cb x (Uf {p1 with q:=(U1 p1.q).1} r 4).2 (.func (.func 142) #[] #[]) x.cv::c6.ob,zP,l6,zh,zq,l6,rfl,x,H,c6,rfl,fun _ _ e=>e,by rw [UJ (by exact WB)];rfl,h6.up ze,⟨hr.hand,hr.D6,hr.th,hr.one,hr.cy⟩⟩
 · have g1:(e !=4)=true:=bne_iff_ne.2 he;rw [zo he] at km;have cE:=WQ h3 (r:=r) (x:=x) hr.hand (.func (.func 142) #[] #[]) x.cv e
   repeat' (refine nv ?_)
   refine xQ cE ?_;rintro _ M6 _- -⟨hM,rfl,c6,rfl,h6⟩;subst hM;refine zJ ?_
   repeat' (refine nv ?_)
   subst km;exact ⟨_,UE cb x (Uf p1 r e).2 (.func (.func 142) #[] #[]) x.cv::c6.ob,zP,l3,zh,zq,l3,rfl,x,H,c6,rfl,fun _ _ e=>e,by rw [UJ (by exact WB)];rfl,h6.up ze,⟨hr.hand,hr.D6,hr.th,hr.one,hr.cy⟩⟩
end
end Go.Proofs.YtaibdpjjojihmaaGreat
