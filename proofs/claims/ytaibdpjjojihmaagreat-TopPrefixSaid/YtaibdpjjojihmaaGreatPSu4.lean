/- A part of the proof of TopPrefix; no conditions. -/
import Derived.Test.YtaibdpjjojihmaaGreatPSu3
set_option linter.unusedVariables false
set_option linter.unusedSimpArgs false
set_option maxRecDepth 20000
set_option maxHeartbeats 4000000
namespace Go.Proofs.YtaibdpjjojihmaaGreat
open Go Go.RowKit
attribute [local irreducible] Calls
theorem mY {n:Nd} {i:Int} {k:ByteArray} {x:Int} (y:Int) (h:wM n i k x=none):wM n i k y=none:=by
 unfold wM at h⊢;split
 · rfl
 · rename_i h0
   rw [zn h0] at h;split
   · rename_i h1
     rw [zo h1] at h;cases h
   · rfl
theorem Dv {n a b a' b':Nd} {x y:Int} {k k':ByteArray} (h:kK n x=some (a,b,k)) (h2:kK n y=some (a',b',k')):k'=k:=by
 unfold kK at h h2;cases hh:qm n with
 |none=>rw [hh] at h;cases h
 |some q=>
  rw [hh] at h h2;simp only [ur,Ua,JH] at h h2;rw [<-h.2.2,<-h2.2.2]
def bN (s:kY) (p i:Int):Int:=
 if s.has p=false\/i<0\/((s.get p).ks.length:Int)<=i then 8 else
 if s.has ((s.get p).ks.getD i.toNat 0)=false then 8 else
 if kE s.c (s.get p)=true then 9 else
 match kK (s.get ((s.get p).ks.getD i.toNat 0)) 0 with
 |none=>6
 |some (_,_,k)=>
  match wM (s.get p) i k (s.next:Nat) with
  |none=>6
  |some out=>if s.fr= [] then 4 else if (s.tk (s.get ((s.get p).ks.getD i.toNat 0))).has out.slot=true then 0 else 8
theorem O7 {sb:Nat} {b:Int} {q:kY} {M:Mem} {s:qC} (h:qe sb b q M s) (hb:b<=1000000000) (p i:Int) (he:q.has p=false\/i<0\/((q.get p).ks.length:Int)<=i):
 zu zf 186 [ptr sb, .int .i64 p, .int .i64 i] M s.ob (fun r M' o'=>M.le M'/\r= .int .i64 8/\o'=s.ob):=by
 have cN:=uI h p;cases hh:q.has p with
 |false=>
  rw [hh] at cN;refine xy Kr rfl Kw zd (fun F w M0 hF=>zz ?_)
  repeat' (refine nv ?_)
  refine xQ cN ?_;rintro _ M2 _ zD-⟨-,rfl,z,rfl,hz,jL⟩;refine zJ ?_;have oz:=zI hz
  repeat' (first|refine yh (dst:=some 7) zh fun b7=>?_|refine nv ?_)
  exact ⟨_,s.ob,zP,zD,zh,zq,zD,rfl,rfl⟩
 |true=>
  rw [hh] at cN he;have he:i<0\/((q.get p).ks.length:Int)<=i:=he.resolve_left yx;cases d1:decide (i<(0:Int)) with
  |true=>
   refine xy Kr rfl Kw zd (fun F w M0 hF=>zz ?_)
   repeat' (refine nv ?_)
   refine xQ cN ?_;rintro _ M2 _ zD-⟨-,rfl,z,rfl,hz,jL⟩;refine zJ ?_;have oz:=zI hz
   repeat' (first|refine yh (dst:=some 7) zh fun b7=>?_|refine nv ?_)
   exact ⟨_,s.ob,zP,zD,zh,zq,zD,rfl,rfl⟩
  |false=>
   have he:=he.resolve_left (wc d1);refine xy Kr rfl Kw zd (fun F w M0 hF=>zz ?_)
   repeat' (refine nv ?_)
   refine xQ cN ?_;rintro _ M2 _ zD-⟨-,rfl,z,rfl,hz,jL⟩;refine zJ ?_;have Ch:=hz.1.yf;have HU:=hz.2.2.1.yf;have Cg:=hz.2.2.2.yf;have Ig:z.ks=(q.get p).ks:=by rw [<-jL];rfl
   rw [<-Ig] at he;obtain ⟨A,c,X4,_⟩:=id hz.2.1;have d2:decide ((z.ks.length:Int)<=i)=true:=yk he
   (try unfold Nd.av)
   rw [X4]
   repeat' (first|refine yh (dst:=some 7) zh fun b7=>?_|refine nv ?_)
   exact ⟨_,s.ob,zP,zD,zh,zq,zD,rfl,rfl⟩
theorem Nf {sb:Nat} {b:Int} {q:kY} {M:Mem} {s:qC} (h:qe sb b q M s) (hb:b<=1000000000) (p i:Int):
 zu zf 186 [ptr sb, .int .i64 p, .int .i64 i] M s.ob (fun r M' o'=>M.le M'/\r= .int .i64 (bN q p i)/\ ∃s':qC,o'=s'.ob/\qe sb b (lj q p i).1 M' s'):=by
 have cN:=uI h p;have ip:=h.inv.get p;have hc:=h.inv.c;have o0:=zI (vI M);unfold bN lj;by_cases he:q.has p=false\/i<0\/((q.get p).ks.length:Int)<=i
 · rw [zo he,zo he];exact (O7 h hb p i he).mono fun r M' o' hle hr=>⟨hr.1,hr.2.1,s,hr.2.2,h.mono hle⟩
 · rw [zn he,zn he]
   have hh:q.has p=true:=by
    rcases XK (q.has p) with h1|h1
    · exact h1
    · exact absurd (.inl h1) he
   have WE:0<=i:=Int.not_lt.1 fun h1=>he (.inr (.inl h1))
   have J6:i<((q.get p).ks.length:Int):=Int.not_le.1 fun h1=>he (.inr (.inr h1))
   clear he;obtain ⟨j,rfl⟩: ∃j:Nat,i=(j:Int):=⟨i.toNat,ze⟩;have hj:j<(q.get p).ks.length:=ze;rw [Yp,show (q.get p).ks.getD j 0=(q.get p).ks[j] by simp [List.getD,hj]];have d1:decide ((j:Int)<(0:Int))=false:=z6 ze;have d2:decide (((q.get p).ks.length:Int)<=(j:Int))=false:=z6 ze;rw [hh] at cN;generalize FT:(q.get p).ks[j]=kd;have ik:=h.inv.get kd;have cK:=fun (M':Mem) (hM:M.le M')=>uI (h.mono hM) kd
   have cC:=fun (M':Mem) (hM:M.le M')=>Zp (h.mono hM)
   have ad: ∀(M2:Mem) (z:Nd),z.Ok M2->bare z=q.get p-> ∃ba off c,z.kv= .slice (some ⟨ba,off,none⟩) z.ks.length c/\z.ks.length=(q.get p).ks.length/\M2.cell ba (off+j*1+0)=some (.int .i64 kd):=fun M2 z hz jL=>by
    have Ig:z.ks=(q.get p).ks:=by rw [<-jL];rfl
    have FU:j<z.ks.length:=by rw [Ig];exact hj
    have hkz:z.ks[j]=kd:=by simp only [Ig];exact FT
    have UF:=hz.2.1;obtain ⟨A,c,X4,_⟩:=id UF;rw [X4] at UF;obtain ⟨ba,off,rfl,jk⟩:=UF.get FU;exact ⟨ba,off,c,X4,by rw [Ig],jk 0 _ (by rw [hkz];rfl)⟩
   cases hhk:q.has kd with
   |false=>
    rw [zo rfl,zo rfl];simp only [hhk] at cK;refine xy Kr rfl Kw zd (fun F w M0 hF=>zz ?_)
    repeat' (refine nv ?_)
    refine xQ cN ?_;rintro _ M2 _ zD-⟨-,rfl,z,rfl,hz,jL⟩;refine zJ ?_;have Ch:=hz.1.yf;have HU:=hz.2.2.1.yf;have Cg:=hz.2.2.2.yf;obtain ⟨ba,off,c,X4,K3,jk⟩:=ad M2 z hz jL;have FU:j<z.ks.length:=ze;rw [<-K3] at d2;have NC:=cK M2 zD
    (try unfold Nd.av)
    rw [X4]
    repeat' (first|refine yh (dst:=some 7) zh fun b7=>?_|((apply zA);(first|exact zj j zd zd rfl FU|exact hY zd jk);rfl)|refine nv ?_)
    refine xQ NC ?_;rintro _ M3 _ yc-⟨-,rfl,x,rfl,hx,dE⟩;refine zJ ?_;have ox:=zI hx;have l3:=zD.trans yc
    repeat' (first|refine yh (dst:=some 9) zh fun b9=>?_|refine nv ?_)
    exact ⟨_,s.ob,zP,l3,zh,zq,l3,rfl,s,rfl,h.mono l3⟩
   |true=>
    rw [zn (show ¬ (true=false) by simp),zn (show ¬ (true=false) by simp)];simp only [hhk] at cK;cases gS:kE q.c (q.get p) with
    |true=>
     rw [zo rfl,zo rfl];refine xy Kr rfl Kw zd (fun F w M0 hF=>zz ?_)
     repeat' (refine nv ?_)
     refine xQ cN ?_;rintro _ M2 _ zD-⟨-,rfl,z,rfl,hz,jL⟩;refine zJ ?_;have Ch:=hz.1.yf;have HU:=hz.2.2.1.yf;have Cg:=hz.2.2.2.yf;obtain ⟨ba,off,c,X4,K3,jk⟩:=ad M2 z hz jL;have FU:j<z.ks.length:=ze;rw [<-K3] at d2;have NC:=cK M2 zD
     (try unfold Nd.av)
     rw [X4]
     repeat' (first|refine yh (dst:=some 7) zh fun b7=>?_|((apply zA);(first|exact zj j zd zd rfl FU|exact hY zd jk);rfl)|refine nv ?_)
     refine xQ NC ?_;rintro _ M3 _ yc-⟨-,rfl,x,rfl,hx,dE⟩;refine zJ ?_;have ox:=zI hx;have l3:=zD.trans yc;have RR:=cC M3 l3;have mQ: ∀W,M3.le (Mem.of W)->_:=fun (W:World) (hW:M3.le (Mem.of W))=>wo q.c z W ((hz.mono yc).mono hW)
     (try unfold Nd.av at mQ)
     rw [show kE q.c z=kE q.c (q.get p) by rw [<-jL];rfl,gS,X4] at mQ
     repeat' (first|refine yh (dst:=some 9) zh fun b9=>?_|refine zU [] [1,3,4] [] 1 yI zd zd ?_|refine nv ?_)
     repeat' (first|refine YG RR rfl ?_ zx|refine Vt zd (by exact Y4 (by exact zm zd mQ)) zd ?_ ?_|refine nu ?_|exact zx|refine nz ?_ ?_)
     repeat' (refine nv ?_)
     exact ⟨_,s.ob,zP,l3,zh,zq,l3,rfl,s,rfl,h.mono l3⟩
    |false=>
     rw [zn (show ¬ (false=true) by simp),zn (show ¬ (false=true) by simp)];cases kW:kK (q.get kd) 0 with
     |none=>
      dsimp only;cases p8:wM (q.get p) (j:Nat) em 0 with
      |none=>
       refine xy Kr rfl Kw zd (fun F w M0 hF=>zz ?_)
       repeat' (refine nv ?_)
       refine xQ cN ?_;rintro _ M2 _ zD-⟨-,rfl,z,rfl,hz,jL⟩;refine zJ ?_;have Ch:=hz.1.yf;have HU:=hz.2.2.1.yf;have Cg:=hz.2.2.2.yf;obtain ⟨ba,off,c,X4,K3,jk⟩:=ad M2 z hz jL;have FU:j<z.ks.length:=ze;rw [<-K3] at d2;have NC:=cK M2 zD
       (try unfold Nd.av)
       rw [X4]
       repeat' (first|refine yh (dst:=some 7) zh fun b7=>?_|((apply zA);(first|exact zj j zd zd rfl FU|exact hY zd jk);rfl)|refine nv ?_)
       refine xQ NC ?_;rintro _ M3 _ yc-⟨-,rfl,x,rfl,hx,dE⟩;refine zJ ?_;have ox:=zI hx;have l3:=zD.trans yc;have RR:=cC M3 l3;have mQ: ∀W,M3.le (Mem.of W)->_:=fun (W:World) (hW:M3.le (Mem.of W))=>wo q.c z W ((hz.mono yc).mono hW)
       (try unfold Nd.av at mQ)
       rw [show kE q.c z=kE q.c (q.get p) by rw [<-jL];rfl,gS,X4] at mQ
       repeat' (first|refine yh (dst:=some 9) zh fun b9=>?_|refine zU [] [1,3,4] [] 1 yI zd zd ?_|refine nv ?_)
       repeat' (first|refine YG RR rfl ?_ zx|refine Vt zd (by exact Y4 (by exact zm zd mQ)) zd ?_ ?_|refine nu ?_|exact zx|refine nz ?_ ?_)
       have cCl:=mO x 0 M3 q.c b hc hx (yB.xW (dE▸ik)) (dE▸kW)
       repeat' (refine nv ?_)
       refine xQ cCl ?_;rintro _ M4 _ yQ-⟨-,rfl,rfl⟩;refine zJ ?_;have l4:=l3.trans yQ;have FG:=hz.mono (yc.trans yQ);have tM:=IK z (j:Nat) em 0 M4 q.c b hc FG (yB.xW (jL▸ip)) (jL▸p8)
       (try unfold Nd.av at tM)
       rw [X4] at tM
       repeat' (first|refine yh (dst:=some 10) zh fun b10=>?_|refine yh (dst:=some 11) zh fun NI=>?_|refine uK tM ?_|refine yh (dst:=some 14) zh fun b14=>?_|refine nv ?_)
       exact ⟨_,s.ob,zP,l4,zh,zq,l4,rfl,s,rfl,h.mono l4⟩
      |some out=>
       refine xy Kr rfl Kw zd (fun F w M0 hF=>zz ?_)
       repeat' (refine nv ?_)
       refine xQ cN ?_;rintro _ M2 _ zD-⟨-,rfl,z,rfl,hz,jL⟩;refine zJ ?_;have Ch:=hz.1.yf;have HU:=hz.2.2.1.yf;have Cg:=hz.2.2.2.yf;obtain ⟨ba,off,c,X4,K3,jk⟩:=ad M2 z hz jL;have FU:j<z.ks.length:=ze;rw [<-K3] at d2;have NC:=cK M2 zD
       (try unfold Nd.av)
       rw [X4]
       repeat' (first|refine yh (dst:=some 7) zh fun b7=>?_|((apply zA);(first|exact zj j zd zd rfl FU|exact hY zd jk);rfl)|refine nv ?_)
       refine xQ NC ?_;rintro _ M3 _ yc-⟨-,rfl,x,rfl,hx,dE⟩;refine zJ ?_;have ox:=zI hx;have l3:=zD.trans yc;have RR:=cC M3 l3;have mQ: ∀W,M3.le (Mem.of W)->_:=fun (W:World) (hW:M3.le (Mem.of W))=>wo q.c z W ((hz.mono yc).mono hW)
       (try unfold Nd.av at mQ)
       rw [show kE q.c z=kE q.c (q.get p) by rw [<-jL];rfl,gS,X4] at mQ
       repeat' (first|refine yh (dst:=some 9) zh fun b9=>?_|refine zU [] [1,3,4] [] 1 yI zd zd ?_|refine nv ?_)
       repeat' (first|refine YG RR rfl ?_ zx|refine Vt zd (by exact Y4 (by exact zm zd mQ)) zd ?_ ?_|refine nu ?_|exact zx|refine nz ?_ ?_)
       have cCl:=mO x 0 M3 q.c b hc hx (yB.xW (dE▸ik)) (dE▸kW)
       repeat' (refine nv ?_)
       refine xQ cCl ?_;rintro _ M4 _ yQ-⟨-,rfl,rfl⟩;refine zJ ?_;have l4:=l3.trans yQ;have FG:=hz.mono (yc.trans yQ);have tM:=iH z (j:Nat) em 0 M4 q.c b hc hb FG (yB.xW (jL▸ip)) (jL▸p8)
       (try unfold Nd.av at tM)
       rw [X4] at tM
       repeat' (first|refine yh (dst:=some 10) zh fun b10=>?_|refine yh (dst:=some 11) zh fun NI=>?_|refine nv ?_)
       refine xQ tM ?_;rintro _ M5 _ kG-⟨-,rfl,y,rfl,hy,-⟩;refine zJ ?_;have oy:=zI hy;have l5:=l4.trans kG
       repeat' (first|refine yh (dst:=some 14) zh fun b14=>?_|refine nv ?_)
       exact ⟨_,s.ob,zP,l5,zh,zq,l5,rfl,s,rfl,h.mono l5⟩
     |some q0=>
      obtain ⟨xa0,xb0,key⟩:=q0;dsimp only;obtain ⟨_,_,hks,_,_⟩:=Vg ik kW;cases p8:wM (q.get p) (j:Nat) key 0 with
      |none=>
       rw [mY _ p8];dsimp only;refine xy Kr rfl Kw zd (fun F w M0 hF=>zz ?_)
       repeat' (refine nv ?_)
       refine xQ cN ?_;rintro _ M2 _ zD-⟨-,rfl,z,rfl,hz,jL⟩;refine zJ ?_;have Ch:=hz.1.yf;have HU:=hz.2.2.1.yf;have Cg:=hz.2.2.2.yf;obtain ⟨ba,off,c,X4,K3,jk⟩:=ad M2 z hz jL;have FU:j<z.ks.length:=ze;rw [<-K3] at d2;have NC:=cK M2 zD
       (try unfold Nd.av)
       rw [X4]
       repeat' (first|refine yh (dst:=some 7) zh fun b7=>?_|((apply zA);(first|exact zj j zd zd rfl FU|exact hY zd jk);rfl)|refine nv ?_)
       refine xQ NC ?_;rintro _ M3 _ yc-⟨-,rfl,x,rfl,hx,dE⟩;refine zJ ?_;have ox:=zI hx;have l3:=zD.trans yc;have RR:=cC M3 l3;have mQ: ∀W,M3.le (Mem.of W)->_:=fun (W:World) (hW:M3.le (Mem.of W))=>wo q.c z W ((hz.mono yc).mono hW)
       (try unfold Nd.av at mQ)
       rw [show kE q.c z=kE q.c (q.get p) by rw [<-jL];rfl,gS,X4] at mQ
       repeat' (first|refine yh (dst:=some 9) zh fun b9=>?_|refine zU [] [1,3,4] [] 1 yI zd zd ?_|refine nv ?_)
       repeat' (first|refine YG RR rfl ?_ zx|refine Vt zd (by exact Y4 (by exact zm zd mQ)) zd ?_ ?_|refine nu ?_|exact zx|refine nz ?_ ?_)
       have cCl:=Vf x 0 M3 q.c b hc hb hx (yB.xW (dE▸ik)) (dE▸kW)
       repeat' (refine nv ?_)
       refine xQ cCl ?_;rintro _ M4 _ yQ-⟨-,rfl,u,v,rfl,hu,hv,-,-⟩;refine zJ ?_;have ou:=zI hu;have ov:=zI hv;have l4:=l3.trans yQ;have FG:=hz.mono (yc.trans yQ);have tM:=IK z (j:Nat) key 0 M4 q.c b hc FG (yB.xW (jL▸ip)) (jL▸p8)
       (try unfold Nd.av at tM)
       rw [X4] at tM
       repeat' (first|refine yh (dst:=some 10) zh fun b10=>?_|refine yh (dst:=some 11) zh fun NI=>?_|refine uK tM ?_|refine yh (dst:=some 14) zh fun b14=>?_|refine nv ?_)
       exact ⟨_,s.ob,zP,l4,zh,zq,l4,rfl,s,rfl,h.mono l4⟩
      |some out0=>
       cases Na:wM (q.get p) (j:Nat) key (q.next:Nat) with
       |none=>rw [mY 0 Na] at p8;cases p8
       |some out=>
        dsimp only;by_cases ef:q.fr= []
        · rw [zo ef,zo ef];refine xy Kr rfl Kw zd (fun F w M0 hF=>zz ?_)
          repeat' (refine nv ?_)
          refine xQ cN ?_;rintro _ M2 _ zD-⟨-,rfl,z,rfl,hz,jL⟩;refine zJ ?_;have Ch:=hz.1.yf;have HU:=hz.2.2.1.yf;have Cg:=hz.2.2.2.yf;obtain ⟨ba,off,c,X4,K3,jk⟩:=ad M2 z hz jL;have FU:j<z.ks.length:=ze;rw [<-K3] at d2;have NC:=cK M2 zD
          (try unfold Nd.av)
          rw [X4]
          repeat' (first|refine yh (dst:=some 7) zh fun b7=>?_|((apply zA);(first|exact zj j zd zd rfl FU|exact hY zd jk);rfl)|refine nv ?_)
          refine xQ NC ?_;rintro _ M3 _ yc-⟨-,rfl,x,rfl,hx,dE⟩;refine zJ ?_;have ox:=zI hx;have l3:=zD.trans yc;have RR:=cC M3 l3;have mQ: ∀W,M3.le (Mem.of W)->_:=fun (W:World) (hW:M3.le (Mem.of W))=>wo q.c z W ((hz.mono yc).mono hW)
          (try unfold Nd.av at mQ)
          rw [show kE q.c z=kE q.c (q.get p) by rw [<-jL];rfl,gS,X4] at mQ
          repeat' (first|refine yh (dst:=some 9) zh fun b9=>?_|refine zU [] [1,3,4] [] 1 yI zd zd ?_|refine nv ?_)
          repeat' (first|refine YG RR rfl ?_ zx|refine Vt zd (by exact Y4 (by exact zm zd mQ)) zd ?_ ?_|refine nu ?_|exact zx|refine nz ?_ ?_)
          have cCl:=Vf x 0 M3 q.c b hc hb hx (yB.xW (dE▸ik)) (dE▸kW)
          repeat' (refine nv ?_)
          refine xQ cCl ?_;rintro _ M4 _ yQ-⟨-,rfl,u,v,rfl,hu,hv,-,-⟩;refine zJ ?_;have ou:=zI hu;have ov:=zI hv;have l4:=l3.trans yQ;have FG:=hz.mono (yc.trans yQ);have tM:=iH z (j:Nat) key 0 M4 q.c b hc hb FG (yB.xW (jL▸ip)) (jL▸p8)
          (try unfold Nd.av at tM)
          rw [X4] at tM
          repeat' (first|refine yh (dst:=some 10) zh fun b10=>?_|refine yh (dst:=some 11) zh fun NI=>?_|refine nv ?_)
          refine xQ tM ?_;rintro _ M5 _ kG-⟨-,rfl,y,rfl,hy,-⟩;refine zJ ?_;have oy:=zI hy;have l5:=l4.trans kG;have cT:=LB (h.mono l5) x ef
          repeat' (first|refine yh (dst:=some 14) zh fun b14=>?_|refine uK cT ?_|refine nv ?_)
          exact ⟨_,s.ob,zP,l5,zh,zq,l5,rfl,s,rfl,h.mono l5⟩
        · rw [zn ef,zn ef];cases C5:kK (q.get kd) (q.next:Nat) with
          |none=>rw [gr 0 C5] at kW;cases kW
          |some q2=>
           obtain ⟨na,nb,agB⟩:=q2;dsimp only;obtain rfl:=Dv kW C5;obtain ⟨ia,ib,_,_,_⟩:=Vg ik C5;have ne0:(q.get p).level≠0:=fun e0=>by unfold wM at Na;rw [zo e0] at Na;cases Na
           have io:=(GD ip hks (by unfold kE at gS;rw [zn (by simpa using ne0)] at gS;have:=wc gS;omega) Na).1;refine xy Kr rfl Kw zd (fun F w M0 hF=>zz ?_)
           repeat' (refine nv ?_)
           refine xQ cN ?_;rintro _ M2 _ zD-⟨-,rfl,z,rfl,hz,jL⟩;refine zJ ?_;have Ch:=hz.1.yf;have HU:=hz.2.2.1.yf;have Cg:=hz.2.2.2.yf;obtain ⟨ba,off,c,X4,K3,jk⟩:=ad M2 z hz jL;have FU:j<z.ks.length:=ze;rw [<-K3] at d2;have NC:=cK M2 zD
           (try unfold Nd.av)
           rw [X4]
           repeat' (first|refine yh (dst:=some 7) zh fun b7=>?_|((apply zA);(first|exact zj j zd zd rfl FU|exact hY zd jk);rfl)|refine nv ?_)
           refine xQ NC ?_;rintro _ M3 _ yc-⟨-,rfl,x,rfl,hx,dE⟩;refine zJ ?_;have ox:=zI hx;have l3:=zD.trans yc;have RR:=cC M3 l3;have mQ: ∀W,M3.le (Mem.of W)->_:=fun (W:World) (hW:M3.le (Mem.of W))=>wo q.c z W ((hz.mono yc).mono hW)
           (try unfold Nd.av at mQ)
           rw [show kE q.c z=kE q.c (q.get p) by rw [<-jL];rfl,gS,X4] at mQ
           repeat' (first|refine yh (dst:=some 9) zh fun b9=>?_|refine zU [] [1,3,4] [] 1 yI zd zd ?_|refine nv ?_)
           repeat' (first|refine YG RR rfl ?_ zx|refine Vt zd (by exact Y4 (by exact zm zd mQ)) zd ?_ ?_|refine nu ?_|exact zx|refine nz ?_ ?_)
           have cCl:=Vf x 0 M3 q.c b hc hb hx (yB.xW (dE▸ik)) (dE▸kW)
           repeat' (refine nv ?_)
           refine xQ cCl ?_;rintro _ M4 _ yQ-⟨-,rfl,u,v,rfl,hu,hv,-,-⟩;refine zJ ?_;have ou:=zI hu;have ov:=zI hv;have l4:=l3.trans yQ;have FG:=hz.mono (yc.trans yQ);have tM:=iH z (j:Nat) agB 0 M4 q.c b hc hb FG (yB.xW (jL▸ip)) (jL▸p8)
           (try unfold Nd.av at tM)
           rw [X4] at tM
           repeat' (first|refine yh (dst:=some 10) zh fun b10=>?_|refine yh (dst:=some 11) zh fun NI=>?_|refine nv ?_)
           refine xQ tM ?_;rintro _ M5 _ kG-⟨-,rfl,y,rfl,hy,-⟩;refine zJ ?_;have oy:=zI hy;have l5:=l4.trans kG;have hx5:=hx.mono (yQ.trans kG);have hz5:=FG.mono kG;have cT:=bB (h.mono l5) hb x hx5 (yB.xW (dE▸ik)) ef;rw [dE] at cT
           repeat' (first|refine yh (dst:=some 14) zh fun b14=>?_|refine nv ?_)
           refine xQ cT ?_;rintro _ M6 _ Uy-⟨-,rfl,s6,rfl,h6⟩;refine zJ ?_;have l6:=l5.trans Uy;have cC2:=Vf x (q.next:Nat) M6 q.c b hc hb (hx5.mono Uy) (yB.xW (dE▸ik)) (dE▸C5)
           repeat' (refine nv ?_)
           refine xQ cC2 ?_;rintro _ M7 _ cj-⟨-,rfl,ra,rb,rfl,hra,hrb,bra,brb⟩;refine zJ ?_;have ora:=zI hra;have orb:=zI hrb;have l7:=l6.trans cj;have cA2:=iH z (j:Nat) agB (q.next:Nat) M7 q.c b hc hb ((hz5.mono Uy).mono cj) (yB.xW (jL▸ip)) (jL▸Na)
           (try unfold Nd.av at cA2)
           rw [X4] at cA2
           repeat' (first|refine yh (dst:=some 18) zh fun b18=>?_|refine yh (dst:=some 19) zh fun b19=>?_|refine nv ?_)
           refine xQ cA2 ?_;rintro _ M8 _ FS-⟨-,rfl,ro,rfl,hro,bro⟩;refine zJ ?_;have oro:=zI hro;have l8:=l7.trans FS;have cS1:=XO (h6.mono (cj.trans FS)) hb ra (hra.mono FS) (yB.xW (bra▸ia));rw [bra] at cS1
           repeat' (first|refine yh (dst:=some 22) zh fun b22=>?_|refine nv ?_)
           refine xQ cS1 ?_;rintro _ M9 _ Rh-⟨-,rfl,s9,rfl,h9⟩;refine zJ ?_;have l9:=l8.trans Rh;have cS2:=XO h9 hb rb (hrb.mono (FS.trans Rh)) (yB.xW (brb▸ib));rw [brb] at cS2
           repeat' (refine nv ?_)
           refine xQ cS2 ?_;rintro _ M10 _ acp-⟨-,rfl,s10,rfl,h10⟩;refine zJ ?_;have l10:=l9.trans acp;have cS3:=XO h10 hb ro (hro.mono (Rh.trans acp)) (yB.xW (bro▸io));rw [bro] at cS3
           repeat' (refine nv ?_)
           refine xQ cS3 ?_;rintro _ M11 _ ahv-⟨-,rfl,s11,rfl,h11⟩;refine zJ ?_;have l11:=l10.trans ahv
           repeat' (refine nv ?_)
           exact ⟨_,s11.ob,zP,l11,zh,zq,l11,by rw [<-bro];rfl,s11,rfl,h11⟩
end Go.Proofs.YtaibdpjjojihmaaGreat
