/- A part of the proof of TopPrefix; no conditions. -/
import Derived.Test.YtaibdpjjojihmaaGreatPCl2
set_option linter.unusedVariables false
set_option linter.unusedSimpArgs false
set_option maxRecDepth 20000
set_option maxHeartbeats 4000000
namespace Go.Proofs.YtaibdpjjojihmaaGreat
section
open Go Go.RowKit
attribute [local irreducible] Calls
theorem Gc (n:Nd) (M:Mem) (hn:n.Ok M) (h0:n.level≠0) (h2:vC n.ps n.ks=true) (h4:4<=n.ks.length) (hk:n.ks.length<=1000) (WC: ∀m∈n.ms,m.key.size<=1000000) (WD:n.ms.length<=1000000):
 zu zf 212 [n.av] M [] (fun r M' o=>M.le M'/\o= []/\ ∃x y:Nd,r= .tuple #[x.av,y.av, .string (wi n.ps ((n.ks.length+1)/2-1)), .bool true]/\x.Ok M'/\y.Ok M'/\
  bare x= {bare n with ps:=n.ps.take ((n.ks.length+1)/2-1),ks:=n.ks.take ((n.ks.length+1)/2),ms:=jR n.ms ⟨em,wi n.ps ((n.ks.length+1)/2-1),false⟩}/\
  bare y= {bare n with ps:=n.ps.drop ((n.ks.length+1)/2),ks:=n.ks.drop ((n.ks.length+1)/2),ms:=jR n.ms ⟨wi n.ps ((n.ks.length+1)/2-1),em,true⟩}):=by
 obtain ⟨uL,y7⟩:=W7 h2;have cR:=fun W hW=>XY n.pv n.kv n.ps n.ks W (hn.1.xS hW) (hn.2.1.xS hW) ze
 rw [h2] at cR;have cH:=Dz n.pv n.kv n.ps n.ks M hn.1 hn.2.1 h4 ze y7;have cC:=fun (M':Mem) (hM:M.le M') (s:yW)=>(zu.iq (M:=M') fun W hW=>Kb n.mv n.ms s W ((hn.2.2.1.mono hM).xS hW) WC ze).le.sl (fun _ _=>rfl)
 have o1:=hn.1.yf;have o2:=hn.2.1.yf;have o3:=hn.2.2.1.yf;have o4:=hn.2.2.2.yf;have g1:(n.level==0)=false:=beq_eq_false_iff_ne.2 h0;clear uL h2;generalize wi n.ps ((n.ks.length+1)/2-1)=k at*;generalize n.ps.take ((n.ks.length+1)/2-1)=p1 at*;generalize n.ks.take ((n.ks.length+1)/2)=k1 at*;generalize n.ps.drop ((n.ks.length+1)/2)=p2 at*;generalize n.ks.drop ((n.ks.length+1)/2)=k2 at*;obtain ⟨slot,level,pv,ps,kv,ks,high,top,right,seen,mv,ms,rv,rs⟩:=n;dsimp only [Nd.Ok] at*;refine KC (args:= [_]) (zO:= []) nj rfl ny zd (fun F w M0 hF=>zz ?_)
 repeat' (first|refine yZ zd zh fun b1=>?_|refine yh (dst:=some 2) zh fun b2=>?_|refine yh (dst:=some 3) zh fun b3=>?_|refine zU [.v (ptr b2), .v (ptr b3)] [2,3] [2,3] 1 yI zd zd ?_|refine nv ?_)
 repeat' (first|refine nu ?_|exact zx|refine nz ?_ ?_)
 repeat' (first|((apply zA);(exact zm zd cR);rfl)|refine nv ?_)
 refine xQ cH ?_;rintro _ M2 _ zD-⟨-,rfl,a,b',c',d,rfl,ha,hb,hc,hd⟩;refine zJ ?_;have oa:=ha.yf;have ob:=hb.yf;have oc:=hc.yf;have od:=hd.yf;have cC1:=cC M2 zD ⟨em,k,false⟩
 repeat' (first|refine zU [.v (ptr b2), .v (ptr b3)] [4,9,11,13] [11,13] 1 yI zd zd ?_|refine nv ?_)
 repeat' (refine nu ?_)
 refine xF cC1 rfl ?_ zx;rintro m1 M3 _ yc-⟨-,rfl,Rc⟩;refine yJ ?_;have om1:=Rc.yf;have cC2:=cC M3 (zD.trans yc) ⟨k,em,true⟩
 repeat' (refine nu ?_)
 refine xF cC2 rfl ?_ zx;rintro m2 M4 _ yQ-⟨-,rfl,hm2⟩;refine yJ ?_;have om2:=hm2.yf
 repeat' (first|refine nu ?_|exact zx|refine nz ?_ ?_)
 repeat' (first|refine zU [] [4,5] [] 1 yI zd zd ?_|refine nv ?_)
 repeat' (first|refine nu ?_|exact zx|refine nz ?_ ?_)
 repeat' (refine nv ?_)
 have hle:=(zD.trans yc).trans yQ;have l34:=yc.trans yQ
 all_goals exact ⟨_,[],kB.four rfl (RV.agg zd) (RV.agg zd) (RV.tmp zd) (RV.tmp zd),(zD.trans yc).trans yQ,zh,zq,(zD.trans yc).trans yQ,rfl,⟨slot,level,a,p1,b',k1,high,top,right,seen,m1,_,rv,rs⟩,⟨slot,level,c',p2,d,k2,high,top,right,seen,m2,_,rv,rs⟩,rfl,⟨ha.mono (yc.trans yQ),hb.mono (yc.trans yQ),Rc.mono yQ,hn.2.2.2.mono ((zD.trans yc).trans yQ)⟩,⟨hc.mono (yc.trans yQ),hd.mono (yc.trans yQ),hm2,hn.2.2.2.mono ((zD.trans yc).trans yQ)⟩,rfl,rfl⟩
theorem Gd (n:Nd) (M:Mem) (hn:n.Ok M) (h0:n.level≠0) (h2:vC n.ps n.ks=true) (h4:n.ks.length<4) (WC: ∀m∈n.ms,m.key.size<=1000000) (WD:n.ms.length<=1000000):
 zu zf 212 [n.av] M [] (fun r M' o=>M.le M'/\o= []/\ ∃x y:Nd,r= .tuple #[x.av,y.av, .string em, .bool false]/\x.Ok M'/\y.Ok M'):=by
 obtain ⟨uL,y7⟩:=W7 h2;have cR:=fun W hW=>XY n.pv n.kv n.ps n.ks W (hn.1.xS hW) (hn.2.1.xS hW) ze
 rw [h2] at cR;have cH:=tQ n.pv n.kv n.ps n.ks M hn.1 hn.2.1 h4;have cC:=fun (M':Mem) (hM:M.le M') (s:yW)=>(zu.iq (M:=M') fun W hW=>Kb n.mv n.ms s W ((hn.2.2.1.mono hM).xS hW) WC ze).le.sl (fun _ _=>rfl)
 have o1:=hn.1.yf;have o2:=hn.2.1.yf;have o3:=hn.2.2.1.yf;have o4:=hn.2.2.2.yf;have g1:(n.level==0)=false:=beq_eq_false_iff_ne.2 h0;clear uL h2;obtain ⟨slot,level,pv,ps,kv,ks,high,top,right,seen,mv,ms,rv,rs⟩:=n;dsimp only [Nd.Ok] at*;refine KC (args:= [_]) (zO:= []) nj rfl ny zd (fun F w M0 hF=>zz ?_)
 repeat' (first|refine yZ zd zh fun b1=>?_|refine yh (dst:=some 2) zh fun b2=>?_|refine yh (dst:=some 3) zh fun b3=>?_|refine zU [.v (ptr b2), .v (ptr b3)] [2,3] [2,3] 1 yI zd zd ?_|refine nv ?_)
 repeat' (first|refine nu ?_|exact zx|refine nz ?_ ?_)
 repeat' (first|refine uK cH ?_|((apply zA);(exact zm zd cR);rfl)|refine nv ?_)
 have cC1:=cC M (zE) ⟨em,em,false⟩
 repeat' (refine zU [.v (ptr b2), .v (ptr b3)] [4,9,11,13] [11,13] 1 yI zd zd ?_)
 repeat' (refine nu ?_)
 refine xF cC1 rfl ?_ zx;rintro m1 M3 _ yc-⟨-,rfl,Rc⟩;refine yJ ?_;have om1:=Rc.yf;have cC2:=cC M3 yc ⟨em,em,true⟩
 repeat' (refine nu ?_)
 refine xF cC2 rfl ?_ zx;rintro m2 M4 _ yQ-⟨-,rfl,hm2⟩;refine yJ ?_;have om2:=hm2.yf
 repeat' (first|refine nu ?_|exact zx|refine nz ?_ ?_)
 repeat' (first|refine zU [] [4,5] [] 1 yI zd zd ?_|refine nv ?_)
 repeat' (first|refine nu ?_|exact zx|refine nz ?_ ?_)
 repeat' (refine nv ?_)
 all_goals exact ⟨_,[],kB.four rfl (RV.agg zd) (RV.agg zd) (RV.tmp zd) (RV.tmp zd),yc.trans yQ,zh,zq,yc.trans yQ,rfl,⟨slot,level,qY,[],qY,[],high,top,right,seen,m1,_,rv,rs⟩,⟨slot,level,qY,[],qY,[],high,top,right,seen,m2,_,rv,rs⟩,rfl,⟨xt.nil _ _ _,xt.nil _ _ _,Rc.mono yQ,hn.2.2.2.mono (yc.trans yQ)⟩,⟨xt.nil _ _ _,xt.nil _ _ _,hm2,hn.2.2.2.mono (yc.trans yQ)⟩⟩
theorem WJ (n:Nd) (M:Mem) (c:qn) (b:Int) (hc:uk c) (hn:n.Ok M) (hi:yB c b n):
 zu zf 212 [n.av] M [] (fun r M' o=>M.le M'/\o= []/\ ∃(x y:Nd) (k:ByteArray),r= .tuple #[x.av,y.av, .string k, .bool (qm (bare n)).isSome]/\x.Ok M'/\y.Ok M'/\ ∀q,qm (bare n)=some q->q=(bare x,bare y,k)):=by
 have gQ:=hi.kn;have aee:=hc.f64;have WD:=hi.bP hc;have WC: ∀m∈n.ms,m.key.size<=1000000:=fun m hm=>by have:=(hi.ms m hm).key;omega
 by_cases h0:n.level=0
 · by_cases h2:n.rs.length<2
   · have e:qm (bare n)=none:=by unfold qm;rw [zo (show (bare n).level=0 from h0),zo (show (bare n).rs.length<2 from h2)]
     rw [e];refine (tj n M hn h0 h2).mono ?_;rintro r M' o-⟨h1,h3,x,y,rfl,hx,hy⟩;exact ⟨h1,h3,x,y,em,rfl,hx,hy,fun q hq=>(nomatch hq)⟩
   · have e:qm (bare n)=some ({bare n with rs:=n.rs.take (XH n.rs)},{bare n with rs:=n.rs.drop (XH n.rs)},mh n.rs):=by unfold qm;rw [zo (show (bare n).level=0 from h0),zn (show ¬ (bare n).rs.length<2 from h2)];rfl
     rw [e];refine (ti n M c b hc hn hi h0 ze).mono ?_;rintro r M' o-⟨h1,h3,x,y,rfl,hx,hy,h5,h6⟩;exact ⟨h1,h3,x,y,_,rfl,hx,hy,fun q hq=>by injection hq with hq;rw [<-hq,h5,h6]⟩
 · cases hr:vC n.ps n.ks with
   |false=>
    have e:qm (bare n)=none:=by unfold qm;rw [zn (show ¬ (bare n).level=0 from h0),zn (show ¬ (vC (bare n).ps (bare n).ks=true/\4<=(bare n).ks.length) from fun h=>by rw [show vC (bare n).ps (bare n).ks=false from hr] at h;cases h.1)]
    rw [e];refine (Ge n M hn h0 (by have:=hi.pn;omega) hr).mono ?_;rintro r M' o-⟨h1,h3,x,y,rfl,hx,hy⟩;exact ⟨h1,h3,x,y,em,rfl,hx,hy,fun q hq=>(nomatch hq)⟩
   |true=>
    by_cases h4:n.ks.length<4
    · have h4n:¬ 4<=n.ks.length:=ze;have e:qm (bare n)=none:=by unfold qm;rw [zn (show ¬ (bare n).level=0 from h0),zn (show ¬ (vC (bare n).ps (bare n).ks=true/\4<=(bare n).ks.length) from fun h=>h4n h.2)]
      rw [e];refine (Gd n M hn h0 hr h4 WC ze).mono ?_;rintro r M' o-⟨h1,h3,x,y,rfl,hx,hy⟩;exact ⟨h1,h3,x,y,em,rfl,hx,hy,fun q hq=>(nomatch hq)⟩
    · refine (Gc n M hn h0 hr ze ze WC ze).mono ?_;rintro r M' o-⟨h1,h3,x,y,rfl,hx,hy,h5,h6⟩;have h4y:4<=n.ks.length:=ze;have e:qm (bare n)=some (bare x,bare y,wi n.ps ((n.ks.length+1)/2-1)):=by unfold qm;rw [zn (show ¬ (bare n).level=0 from h0),zo (show vC (bare n).ps (bare n).ks=true/\4<=(bare n).ks.length from ⟨hr,h4y⟩),h5,h6];rfl
      rw [e];exact ⟨h1,h3,x,y,_,rfl,hx,hy,fun q hq=>by injection hq with hq;exact hq.symm⟩
end
section
open Go Go.RowKit
attribute [local irreducible] Calls
theorem zI {n:Nd} {M:Mem} (h:n.Ok M):Hj (yr n):=⟨XQ h⟩
theorem mO (n:Nd) (slot:Int) (M:Mem) (c:qn) (b:Int) (hc:uk c) (hn:n.Ok M) (hi:yB c b n) (he:kK (bare n) slot=none):
 zu zf 182 [n.av, .int .i64 slot] M [] (fun r M' o=>M.le M'/\o= []/\r= .tuple #[wZ.av,wZ.av, .string em, .bool false]):=by
 have he':qm (bare n)=none:=by
  unfold kK at he;cases hh:qm (bare n) with
  |none=>rfl
  |some q=>rw [hh] at he;cases he
 have cH:=WJ n M c b hc hn hi;rw [he'] at cH;dsimp only [Option.isSome] at cH;have on:=zI hn;refine KC Tryz.func182 rfl Tryz.ntmps182 zd (fun F w M0 hF=>zz ?_)
 repeat' (first|refine yZ zd zh fun b1=>?_|refine yh (dst:=some 4) zh fun b4=>?_|refine yh (dst:=some 5) zh fun b5=>?_|refine nv ?_)
 refine xQ cH ?_;rintro _ M2 _ hle-⟨-,rfl,x,y,k,rfl,hx,hy,-⟩;refine zJ ?_;have ox:=zI hx;have oy:=zI hy
 repeat' (refine nv ?_)
 exact ⟨_,[],kB.four rfl (RV.agg zd) (RV.agg zd) (RV.tmp zd) (RV.tmp zd),hle,zh,zq,hle,rfl,rfl⟩
theorem Vf (n:Nd) (slot:Int) (M:Mem) (c:qn) (b:Int) (hc:uk c) (hb:b<=1000000000) (hn:n.Ok M) (hi:yB c b n) {qa qb:Nd} {qk:ByteArray} (he:kK (bare n) slot=some (qa,qb,qk)):
 zu zf 182 [n.av, .int .i64 slot] M [] (fun r M' o=>M.le M'/\o= []/\ ∃x y:Nd,r= .tuple #[x.av,y.av, .string qk, .bool true]/\x.Ok M'/\y.Ok M'/\bare x=qa/\bare y=qb):=by
 have cH:=WJ n M c b hc hn hi;unfold kK at he;cases hh:qm (bare n) with
 |none=>rw [hh] at he;cases he
 |some q=>
 obtain ⟨a0,b0,k0⟩:=q;rw [hh] at he cH;dsimp only [Option.isSome] at cH;simp only [ur,Ua,JH] at he;obtain ⟨h1,h2,rfl⟩:=he;obtain ⟨ia,ib,ik,_⟩:=gi hi.bare hh;have on:=zI hn;refine KC Tryz.func182 rfl Tryz.ntmps182 zd (fun F w M0 hF=>zz ?_)
 repeat' (first|refine yZ zd zh fun b1=>?_|refine yh (dst:=some 4) zh fun b4=>?_|refine yh (dst:=some 5) zh fun b5=>?_|refine nv ?_)
 refine xQ cH ?_;rintro _ M2 _ hle-⟨-,rfl,x,y,k,rfl,hx,hy,hq⟩;refine zJ ?_;have hq:=hq _ rfl;simp only [JH] at hq;obtain ⟨rfl,rfl,rfl⟩:=hq;have ox:=zI hx;have oy:=zI hy;have cA:=qP {x with high:=k0,top:=false,right:=slot} M2 hx ((yB.xW (n:= {x with high:=k0,top:=false,right:=slot}) {ia with high:=ik}).NF hc hb);have cB:=fun (M':Mem) (h:M2.le M')=>qP {y with slot:=slot} M' (hy.mono h) ((yB.xW (n:= {y with slot:=slot}) {ib with}).NF hc hb)
 repeat' (first|refine zU [.v (ptr b4), .v (ptr b5)] [1,3,5,6] [5] 2 yI zd zd ?_|refine nv ?_)
 repeat' (refine nu ?_)
 refine xF cA rfl ?_ zx;rintro _ M3 _ yc-⟨rfl,x2,rfl,Te,dE⟩;refine yJ ?_;have ox2:=zI Te;have cB:=cB M3 yc
 repeat' (refine nu ?_)
 refine xF cB rfl ?_ zx;rintro _ M4 _ yQ-⟨rfl,y2,rfl,MC,Ed⟩;refine yJ ?_;have oy2:=zI MC
 repeat' (first|refine nu ?_|exact zx|refine nz ?_ ?_)
 repeat' (refine nv ?_)
 have hl:=(hle.trans yc).trans yQ;exact ⟨_,[],kB.four rfl (RV.agg zd) (RV.agg zd) (RV.tmp zd) (RV.tmp zd),hl,zh,zq,hl,rfl,x2,y2,rfl,Te.mono yQ,MC,dE.trans h1,Ed.trans h2⟩
end
section
open Go Go.RowKit
attribute [local irreducible] Calls
theorem adx (n:Nd) (x y:Int) (M:Mem) (c:qn) (b:Int) (hc:uk c) (hn:n.Ok M) (hi:yB c b n) (he:J2 (bare n) x y=none):
 zu zf 154 [n.av, .int .i64 x, .int .i64 y] M [] (fun r M' o=>M.le M'/\o= []/\r= .tuple #[wZ.av,wZ.av,wZ.av, .bool false]):=by
 have he':kK (bare n) y=none:=by
  unfold J2 at he;cases hh:kK (bare n) y with
  |none=>rfl
  |some q=>rw [hh] at he;cases he
 have cH:=mO n y M c b hc hn hi he';have o0:=zI (vI M);have on:=zI hn;refine KC Tryz.func154 rfl Tryz.ntmps154 zd (fun F w M0 hF=>zz ?_)
 repeat' (first|refine yZ zd zh fun b3=>?_|refine yh (dst:=some 6) zh fun b6=>?_|refine yh (dst:=some 7) zh fun b7=>?_|refine yh (dst:=some 8) zh fun b8=>?_|refine nv ?_)
 refine xQ cH ?_;rintro _ M2 _ hle-⟨-,rfl,rfl⟩;refine zJ ?_
 repeat' (refine nv ?_)
 exact ⟨_,[],kB.four rfl (RV.agg zd) (RV.agg zd) (RV.agg zd) (RV.tmp zd),hle,zh,zq,hle,rfl,rfl⟩
theorem Fj (n:Nd) (x y:Int) (M:Mem) (c:qn) (b:Int) (hc:uk c) (hb:b<=1000000000) (hn:n.Ok M) (hi:yB c b n) {qr qa qb:Nd} (he:J2 (bare n) x y=some (qr,qa,qb)):
 zu zf 154 [n.av, .int .i64 x, .int .i64 y] M [] (fun r M' o=>M.le M'/\o= []/\ ∃z u v:Nd,r= .tuple #[z.av,u.av,v.av, .bool true]/\z.Ok M'/\u.Ok M'/\v.Ok M'/\bare z=qr/\bare u=qa/\bare v=qb):=by
 unfold J2 at he;cases hh:kK (bare n) y with
 |none=>rw [hh] at he;cases he
 |some q=>
 obtain ⟨a0,b0,k0⟩:=q;rw [hh] at he;simp only [ur,Ua,JH] at he;obtain ⟨h1,h2,h3⟩:=he;have cH:=Vf n y M c b hc hb hn hi hh;have cC:=fun (M':Mem) (h:M.le M')=>qP n M' (hn.mono h) (hi.NF hc hb)
 have on:=zI hn;have oU:=hi.PA;have am:=hi.H7;refine KC Tryz.func154 rfl Tryz.ntmps154 zd (fun F w M0 hF=>zz ?_)
 repeat' (first|refine yZ zd zh fun b3=>?_|refine yh (dst:=some 6) zh fun b6=>?_|refine yh (dst:=some 7) zh fun b7=>?_|refine yh (dst:=some 8) zh fun b8=>?_|refine nv ?_)
 refine xQ cH ?_;rintro _ M2 _ zD-⟨-,rfl,u,v,rfl,hu,hv,hbu,hbv⟩;refine zJ ?_;have ou:=zI hu;have ov:=zI hv;have ou1:=hu.1.yf;have ou2:=hu.2.1.yf;have ou3:=hu.2.2.2.yf;have ov1:=hv.1.yf;have ov2:=hv.2.1.yf;have ov3:=hv.2.2.2.yf
 repeat' (refine nv ?_)
 refine xQ (cC M2 zD) ?_;rintro _ M3 _ yc-⟨rfl,z,rfl,hz,jL⟩;refine zJ ?_;have oz:=zI hz;have Ch:=hz.2.2.1.yf;have K3:z.level=n.level:=(show (bare z).level=(bare n).level by rw [jL]);have apW:0<=z.level:=ze;have apU:z.level<=1000000000:=ze;by_cases h0:n.level=0
 · have g1:(n.level !=0)=false:=by rw [h0];rfl
   repeat' (first|(refine kbn (dst:=some 31) rfl (fun p1 MJ=>?_);refine Yu (uw.one _ _) fun M4 yQ iC=>?_;have op1:=MJ.yf)|(refine kbn (dst:=some 34) rfl (fun k1 gR=>?_);refine Yu (uw.one _ _) fun M5 kG hR5=>?_;have dY:=gR.yf)|refine zU [] [3,4,5] [] 1 yI zd zd ?_|refine nv ?_)
   repeat' (first|refine nu ?_|exact zx|refine nz ?_ ?_)
   repeat' (refine nv ?_)
   all_goals
    have hs4:xt M4 1 zM p1 [k0]:=ud.YB (fun _ _=>rfl) iC;have hs5:xt M5 1 zF k1 [x,y]:=ud.YB (fun _ _=>rfl) hR5;have l35:=yQ.trans kG;have Fv:=yc.trans l35;have l5:=zD.trans Fv;refine ⟨_,[],kB.four rfl (RV.agg zd) (RV.agg zd) (RV.agg zd) (RV.tmp zd),l5,zh,zq,l5,rfl,⟨z.slot,z.level+1,p1,[k0],k1,[x,y],z.high,z.top,z.right,z.seen,qY,[],qY,[]⟩,⟨x,u.level,u.pv,u.ps,u.kv,u.ks,u.high,u.top,u.right,u.seen,qY,[],u.rv,u.rs⟩,⟨v.slot,v.level,v.pv,v.ps,v.kv,v.ks,v.high,v.top,v.right,v.seen,qY,[],v.rv,v.rs⟩,rfl,⟨hs4.mono kG,hs5,xt.nil _ _ _,xt.nil _ _ _⟩,⟨hu.1.mono Fv,hu.2.1.mono Fv,xt.nil _ _ _,hu.2.2.2.mono Fv⟩,⟨hv.1.mono Fv,hv.2.1.mono Fv,xt.nil _ _ _,hv.2.2.2.mono Fv⟩,?_,?_,?_⟩
    · rw [<-h1,<-jL];simp [bare,K3,h0]
    · rw [<-h2,<-hbu];simp [bare,h0]
    · rw [<-h3,<-hbv];simp [bare,h0]
 · have g1:(n.level !=0)=true:=bne_iff_ne.2 h0
   repeat' (first|(refine kbn (dst:=some 31) rfl (fun p1 MJ=>?_);refine Yu (uw.one _ _) fun M4 yQ iC=>?_;have op1:=MJ.yf)|(refine kbn (dst:=some 34) rfl (fun k1 gR=>?_);refine Yu (uw.one _ _) fun M5 kG hR5=>?_;have dY:=gR.yf)|refine zU [] [3,4,5] [] 1 yI zd zd ?_|refine nv ?_)
   repeat' (first|refine nu ?_|exact zx|refine nz ?_ ?_)
   repeat' (refine nv ?_)
   all_goals
    have hs4:xt M4 1 zM p1 [k0]:=ud.YB (fun _ _=>rfl) iC;have hs5:xt M5 1 zF k1 [x,y]:=ud.YB (fun _ _=>rfl) hR5;have l35:=yQ.trans kG;have Fv:=yc.trans l35;have l5:=zD.trans Fv;refine ⟨_,[],kB.four rfl (RV.agg zd) (RV.agg zd) (RV.agg zd) (RV.tmp zd),l5,zh,zq,l5,rfl,⟨z.slot,z.level+1,p1,[k0],k1,[x,y],z.high,z.top,z.right,z.seen,z.mv,z.ms,qY,[]⟩,⟨x,u.level,u.pv,u.ps,u.kv,u.ks,u.high,u.top,u.right,0,qY,[],u.rv,u.rs⟩,⟨v.slot,v.level,v.pv,v.ps,v.kv,v.ks,v.high,v.top,v.right,0,qY,[],v.rv,v.rs⟩,rfl,⟨hs4.mono kG,hs5,hz.2.2.1.mono l35,xt.nil _ _ _⟩,⟨hu.1.mono Fv,hu.2.1.mono Fv,xt.nil _ _ _,hu.2.2.2.mono Fv⟩,⟨hv.1.mono Fv,hv.2.1.mono Fv,xt.nil _ _ _,hv.2.2.2.mono Fv⟩,?_,?_,?_⟩
    · rw [<-h1,<-jL];simp [bare,K3,h0]
    · rw [<-h2,<-hbu];simp [bare,h0]
    · rw [<-h3,<-hbv];simp [bare,h0]
theorem IK (n:Nd) (i:Int) (k:ByteArray) (slot:Int) (M:Mem) (c:qn) (b:Int) (hc:uk c) (hn:n.Ok M) (hi:yB c b n) (he:wM (bare n) i k slot=none):
 zu zf 215 [n.av, .int .i64 i, .string k, .int .i64 slot] M [] (fun r M' o=>r= .tuple #[wZ.av, .bool false]/\M'=M/\o= []):=by
 have on:=zI hn;have gQ:=hi.kn;have CS:=hi.pn;have hf:=hc.f64;by_cases h0:n.level=0
 · have g1:(n.level==0)=true:=by rw [h0];rfl
   refine KC Tryz.func215 rfl Tryz.ntmps215 zd (fun F w M0 hF=>zz ?_)
   repeat' (first|refine yZ zd zh fun b4=>?_|refine yh (dst:=some 8) zh fun b8=>?_|refine nv ?_)
   exact ⟨_,[],kB.two rfl (RV.agg zd) (RV.tmp zd),zE,zh,zq,rfl,rfl,rfl⟩
 · have g1:(n.level==0)=false:=beq_eq_false_iff_ne.2 h0
   have hx:Ie (bare n) i k=false:=by
    unfold wM at he;rw [zn (show ¬ (bare n).level=0 from h0)] at he;split at he
    · cases he
    · rename_i h;simpa using h
   have cI:=o8 n.pv n.kv n.ps n.ks i k slot M hn.1 hn.2.1 ze ze hx;refine KC Tryz.func215 rfl Tryz.ntmps215 zd (fun F w M0 hF=>zz ?_)
   repeat' (first|refine yZ zd zh fun b4=>?_|refine yh (dst:=some 8) zh fun b8=>?_|refine uK cI ?_|refine nv ?_)
   exact ⟨_,[],kB.two rfl (RV.agg zd) (RV.tmp zd),zE,zh,zq,rfl,rfl,rfl⟩
theorem iH (n:Nd) (i:Int) (k:ByteArray) (slot:Int) (M:Mem) (c:qn) (b:Int) (hc:uk c) (hb:b<=1000000000) (hn:n.Ok M) (hi:yB c b n) {q:Nd} (he:wM (bare n) i k slot=some q):
 zu zf 215 [n.av, .int .i64 i, .string k, .int .i64 slot] M [] (fun r M' o=>M.le M'/\o= []/\ ∃z:Nd,r= .tuple #[z.av, .bool true]/\z.Ok M'/\bare z=q):=by
 have on:=zI hn;have gQ:=hi.kn;have CS:=hi.pn;have hf:=hc.f64;unfold wM at he;split at he
 · cases he
 rename_i h0
 have h0:n.level≠0:=h0;have g1:(n.level==0)=false:=beq_eq_false_iff_ne.2 h0;split at he
 case isFalse=>cases he
 rename_i hx
 injection he with he;have Uk:=hi.kids h0;unfold Ie at hx;simp only [yF,j5,KB,gx] at hx;obtain ⟨⟨⟨x1,x2⟩,x3⟩,x4⟩:=hx;obtain ⟨j,rfl⟩: ∃j:Nat,i=(j:Int):=⟨i.toNat,ze⟩;rw [Yp] at he;have x2:j<n.ks.length:=by have:((bare n).ks.length:Int)=n.ks.length:=rfl;omega
 have cI:=tP n.pv n.kv n.ps n.ks j k slot M hn.1 hn.2.1 ze Uk x2 x3 x4;have cC:=fun (M':Mem) (h:M.le M')=>qP n M' (hn.mono h) (hi.NF hc hb)
 have an:(((n.ks.take (j+1)++slot::n.ks.drop (j+1)).length:Int)==0)=false:=by rw [rH];simp;omega
 generalize oT:n.ps.take j++k::n.ps.drop j=ps2 at*;generalize hks:n.ks.take (j+1)++slot::n.ks.drop (j+1)=ks2 at*;refine KC Tryz.func215 rfl Tryz.ntmps215 zd (fun F w M0 hF=>zz ?_)
 repeat' (first|refine yZ zd zh fun b4=>?_|refine yh (dst:=some 8) zh fun b8=>?_|refine nv ?_)
 refine xQ cI ?_;rintro _ M2 _ zD-⟨-,rfl,p1,k1,rfl,MJ,gR⟩;refine zJ ?_;obtain ⟨A3,c3,rfl,_⟩:=id gR;have op1:=MJ.yf
 repeat' (refine nv ?_)
 refine xQ (cC M2 zD) ?_;rintro _ M3 _ yc-⟨rfl,z,rfl,hz,jL⟩;refine zJ ?_;have oz:=zI hz;have Ch:=hz.2.2.1.yf;have T8:=hz.2.2.2.yf
 repeat' (first|refine yh (dst:=some 12) zh fun b12=>?_|refine nv ?_)
 have hl:=zD.trans yc;refine ⟨_,[],kB.two rfl (RV.agg zd) (RV.tmp zd),hl,zh,zq,hl,rfl,⟨z.slot,z.level,p1,ps2, .slice A3 ks2.length c3,ks2,z.high,z.top,z.right,z.seen,z.mv,z.ms,z.rv,z.rs⟩,rfl,⟨MJ.mono yc,gR.mono yc,hz.2.2.1,hz.2.2.2⟩,?_⟩;rw [<-he,<-jL];simp only [bare];rw [<-oT,<-hks,show n.ps=z.ps from (z5 Nd.ps jL).symm,show n.ks=z.ks from (z5 Nd.ks jL).symm]
end
end Go.Proofs.YtaibdpjjojihmaaGreat
