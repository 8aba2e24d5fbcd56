/- A part of the proof of TopPrefix; no conditions. -/
import Derived.Test.YtaibdpjjojihmaaGreatPPo2
set_option linter.unusedVariables false
set_option linter.unusedSimpArgs false
set_option maxRecDepth 20000
set_option maxHeartbeats 4000000
namespace Go.Proofs.YtaibdpjjojihmaaGreat
section
open Go Go.RowKit
attribute [local irreducible] Calls
def UO (l:List xi) (x:Int):Bool:=l.any fun m=>m.xD==x
theorem BK (l:List xi) (k:Nat) (h:k<l.length) (x:Int):UO (l.take (k+1)) x=(UO (l.take k) x||(l[k].xD==x)):=by
 unfold UO;rw [vF h,List.any_append];simp
theorem PF {es:List (Int×Value)} {l:List xi} {k:Nat} (h:k<l.length) (he: ∀x,(uZ es x).getD (.bool false)= .bool (UO (l.take k) x)) (x:Int):(uZ (V8 es l[k].xD (.bool true)) x).getD (.bool false)= .bool (UO (l.take (k+1)) x):=by
 rw [d8,BK l k h];by_cases hx:l[k].xD=x
 · rw [zo hx,show (l[k].xD==x)=true from beq_iff_eq.2 hx,Bool.or_true];rfl
 · rw [zn hx,show (l[k].xD==x)=false from beq_eq_false_iff_ne.2 hx,Bool.or_false];exact he x
theorem Mq (L:List xi) (s:yW) (l:List xi) (k:Nat) (h:k<l.length):(l.take (k+1)).flatMap (w5 L s)=(l.take k).flatMap (w5 L s)++w5 L s l[k]:=by
 rw [vF h,JF];simp
theorem PK (L:List xi) (s:yW) (m:xi):(w5 L s m).length<=1:=by
 unfold w5
 repeat' split
 all_goals simp
theorem pU (L:List xi) (s:yW): ∀l:List xi,(l.flatMap (w5 L s)).length<=l.length
 | []=>zN _
 |m::l=>by
  have:=pU L s l;have:=PK L s m;rw [j6,yK,xd];omega
theorem EU (c:qn) (p k:Nd) (i:Int) (M:Mem) (b:Int) (hc:uk c) (hb:b<=1000000000) (hp:p.Ok M) (hk:k.Ok M) (ip:yB c b p) (ik:yB c b k) (Iq:ZO (bare p) (bare k) i=true) (p7:(kw c (bare p) (bare k) i).2≠ []):
 zu zf 187 [c.av,p.av,k.av, .int .i64 i] M [] (fun r M' o=>M.le M'/\o= []/\ ∃x y:Nd,r= .tuple #[x.av,y.av, .int .i64 (kw c (bare p) (bare k) i).2.length]/\x.Ok M'/\y.Ok M'/\bare x= {bare p with ms:=p.ms.flatMap (w5 (kw c (bare p) (bare k) i).2 (xL p.ps i))}/\bare y= {(kw c (bare p) (bare k) i).1 with seen:=(((kw c (bare p) (bare k) i).2.getLast?).getD QI).xD}):=by
 have oU:=ip.PA;have am:=ip.H7;have WD:=ip.bP hc;have CS:=ip.pn;have hf:=hc.f64;have cR:=QD p k i M hp ze ze;have cM:=W9 c p k i M b hc hb hp hk ip ik;have cP:=fun (M':Mem) (h:M.le M')=>qP p M' (hp.mono h) (ip.NF hc hb)
 have cRg:=fun (M':Mem) (h:M.le M') (W:World) (hW:M'.le (Mem.of W))=>ZS p.pv p.ps i W ((hp.1.mono h).xS hW) ze
 have op:=zI hp;have ok:=zI hk;have op1:=hp.2.2.1.yf;have op2:=hp.1.yf;have o0:=zI (vI M);rw [show ZO (bare p) (bare k) i=ZO p k i from rfl] at Iq;rw [Iq] at cR;generalize kw c (bare p) (bare k) i=D at*;obtain ⟨dn,dl⟩:=D;dsimp only at*;have hdl:=Qk.2 p7;have g1:((dl.length:Int)==0)=false:=beq_eq_false_iff_ne.2 ze;refine KC Tryz.func187 rfl Tryz.ntmps187 zd (fun F w M0 hF=>zz ?_)
 repeat' (first|refine yZ (dst:=some 4) zd zh fun b4=>?_|refine yZ (dst:=some 5) zd zh fun b5=>?_|refine yZ (dst:=some 6) zd zh fun b6=>?_|refine yh (dst:=some 8) zh fun b8=>?_|refine yh (dst:=some 9) zh fun b9=>?_|refine uK cR ?_|refine nv ?_)
 refine xQ cM ?_;rintro _ M1 _ qR-⟨-,rfl,z,wv,rfl,hz,jL,hw⟩;refine zJ ?_;have oz:=zI hz;have Ch:=hz.1.yf;have T8:=hz.2.1.yf;have HU:=hz.2.2.1.yf;have Cg:=hz.2.2.2.yf;obtain ⟨A,cw,rfl,be,V9,_⟩:=id hw;unfold maxLen at V9
 repeat' (first|refine yh (dst:=some 11) zh fun NI=>?_|refine kmk fun bm=>?_|refine nv ?_)
 refine jv (fun x:Nat×List (Int×Value)=>⟨M1, .vj (.map (some bm)) x.2:: .zK (ptr NI) 143 (yr z):: .zK (ptr b9) 143 [.int .i64 0, .int .i64 0, .slice none 0 0, .slice none 0 0, .string em, .bool false, .int .i64 0, .int .i64 0, .slice none 0 0, .slice none 0 0]:: .zK (ptr b8) 143 [.int .i64 0, .int .i64 0, .slice none 0 0, .slice none 0 0, .string em, .bool false, .int .i64 0, .int .i64 0, .slice none 0 0, .slice none 0 0]:: .zK (ptr b5) 143 (yr p)::F,[(3, .v (.int .i64 i)),(5, .v (ptr b5)),(8, .v (ptr b8)),(9, .v (ptr b9)),(11, .v (ptr NI)),(12, .v (.slice A dl.length cw)),(13, .v (.map (some bm))),(45, .v (.slice A dl.length cw)),(46, .v (.int .i64 dl.length)),(47, .v (.int .i64 x.1))]⟩)
  (fun x=>x.1<=dl.length/\ ∀y,(uZ x.2 y).getD (.bool false)= .bool (UO (dl.take x.1) y)) (fun x=>dl.length-x.1) (0,[]) (xZ ⟨rfl,rfl,rfl,rfl,rfl,rfl,rfl,rfl,rfl,rfl,trivial⟩) ⟨zW _,fun y=>rfl⟩ ?_
 rintro ⟨j,es⟩ ⟨hj,oW⟩;dsimp only at hj oW⊢;rcases yq j dl.length with z9|ql
 · have hd:=Xp z9;obtain ⟨ba,off,rfl,jk⟩:=hw.get z9
   repeat' (first|refine yh (dst:=some 15) zh fun b15=>?_|refine agA zd zd zd ?_|((apply zA);(first|exact zj (j) zd zd ze ze|exact zZ _ zd jk _ zd);rfl)|refine nv ?_)
   exact yG (Q:=fun _ _=>True) (j+1,V8 es dl[j].xD (.bool true)) (xZ ⟨rfl,rfl,rfl,rfl,rfl,rfl,rfl,rfl,rfl,rfl,trivial⟩) ⟨z9,PF z9 oW⟩ (by dsimp only;omega)
 · have hd:=Xq ql;obtain rfl:j=dl.length:=ze;rw [xk] at oW
   repeat' (refine nv ?_)
   refine xQ (cP _ qR) ?_;rintro _ M2 _ zD-⟨rfl,q,rfl,hq,hbq⟩;refine zJ ?_;have oq:=zI hq;have oq1:=hq.1.yf;have oq2:=hq.2.1.yf;have oq3:=hq.2.2.2.yf;obtain ⟨Am,cm,hpm,apF,apE,_⟩:=id hp.2.2.1
   repeat' (first|refine yh (dst:=some 16) zh fun b16=>?_|refine nv ?_)
   rw [hpm]
   repeat' (refine nv ?_)
   refine uU 200 6 ?_;have YC: ∀m∈p.ms,m.key.size<=1000000:=fun m hm=>by have:=(ip.ms m hm).key;omega
   refine jv (fun x:Nat×Value×List xi=>⟨M2, .zC x.2.1 200 6 x.2.2.length (x.2.2.flatMap zR):: .zK (ptr b16) 143 [.int .i64 q.slot, .int .i64 q.level,q.pv,q.kv, .string q.high, .bool q.top, .int .i64 q.right, .int .i64 q.seen,x.2.1,q.rv]:: .vj (.map (some bm)) es:: .zK (ptr NI) 143 (yr z):: .zK (ptr b9) 143 [.int .i64 0, .int .i64 0, .slice none 0 0, .slice none 0 0, .string em, .bool false, .int .i64 0, .int .i64 0, .slice none 0 0, .slice none 0 0]:: .zK (ptr b8) 143 [.int .i64 0, .int .i64 0, .slice none 0 0, .slice none 0 0, .string em, .bool false, .int .i64 0, .int .i64 0, .slice none 0 0, .slice none 0 0]:: .zK (ptr b5) 143 (yr p)::F,[(3, .v (.int .i64 i)),(5, .v (ptr b5)),(8, .v (ptr b8)),(9, .v (ptr b9)),(11, .v (ptr NI)),(12, .v (.slice A dl.length cw)),(13, .v (.map (some bm))),(16, .v (ptr b16)),(59, .v (.slice Am p.ms.length cm)),(60, .v (.int .i64 p.ms.length)),(61, .v (.int .i64 x.1))]⟩)
    (fun x=>x.1<=p.ms.length/\j2 x.2.1 x.2.2.length/\x.2.2=(p.ms.take x.1).flatMap (w5 dl (xL p.ps i))) (fun x=>p.ms.length-x.1) (0, .slice none 0 0,[]) ⟨rfl,ji.refl _,⟨rfl,rfl,rfl,rfl,rfl,rfl,rfl,rfl,rfl,rfl,rfl,trivial⟩,rfl⟩ ⟨zW _, .inl ⟨rfl,rfl⟩,rfl⟩ ?_
   clear hj;rintro ⟨j,u,ls⟩ ⟨hj,hu,Ux⟩;dsimp only at hj hu Ux⊢;rcases yq j p.ms.length with z9|ql
   · have hd:=Xp z9;have hp3:=hp.2.2.1.mono (qR.trans zD);rw [hpm] at hp3;obtain ⟨ba,off,hba,jk⟩:=hp3.get z9;cases hba;have kt:=Mq dl (xL p.ps i) p.ms j z9;have hmz:=YC _ (yD z9);rw [<-Ux] at kt;have hlk:=oW p.ms[j].xD
     have nX:ls.length<=1024:=by
      have:=pU dl (xL p.ps i) (p.ms.take j);rw [<-Ux,yC] at this;omega
     generalize p.ms[j]=m at*;cases Ik:UO dl m.xD with
     |false=>
      rw [Ik] at hlk;have FJ:w5 dl (xL p.ps i) m= [m]:=zn (by show ¬ UO dl m.xD=true;rw [Ik];simp);rw [FJ] at kt;have e1:(ls++ [m]).length=ls.length+1:=by simp
      have e2:(ls++ [m]).flatMap zR=ls.flatMap zR++zR m:=by simp
      repeat' (first|refine yh (dst:=some 18) zh fun b18=>?_|(refine gM zd (fun _=>rfl) (fun b3 c3 v3 FI=>?_);have ov3:=FI.yf)|((apply zA);(first|exact zj (j) zd zd ze ze|exact zZ _ zd jk _ zd|exact qlk zd zd hlk);rfl)|refine nv ?_)
      exact yG (Q:=fun _ _=>True) (j+1,v3,ls++ [m]) ⟨rfl,by dsimp only;rw [e1,e2];exact (zh:gZ _ _).h,⟨rfl,rfl,rfl,rfl,rfl,rfl,rfl,rfl,rfl,rfl,rfl,trivial⟩,rfl⟩ ⟨z9,by dsimp only;rw [e1];exact FI,kt.symm⟩ (by dsimp only;omega)
     |true=>
      rw [Ik] at hlk;cases h4:decide (m.kind=4) with
      |false=>
       have h4':(m.kind==4)=false:=beq_eq_false_iff_ne.2 (wc h4)
       have FJ:w5 dl (xL p.ps i) m= []:=by
        unfold w5;rw [zo (show (dl.any fun x=>x.xD==m.xD)=true from Ik),zn (wc h4)]
       rw [FJ,xR] at kt
       repeat' (first|refine yh (dst:=some 18) zh fun b18=>?_|((apply zA);(first|exact zj (j) zd zd ze ze|exact zZ _ zd jk _ zd|exact qlk zd zd hlk);rfl)|refine nv ?_)
       exact yG (Q:=fun _ _=>True) (j+1,u,ls) ⟨rfl,(zh:gZ _ _).h,⟨rfl,rfl,rfl,rfl,rfl,rfl,rfl,rfl,rfl,rfl,rfl,trivial⟩,rfl⟩ ⟨z9,hu,kt.symm⟩ (by dsimp only;omega)
      |true=>
       have h4':(m.kind==4)=true:=beq_iff_eq.2 (qc h4)
       have FJ:w5 dl (xL p.ps i) m=if (Z0 m (xL p.ps i)).2=true then [(Z0 m (xL p.ps i)).1] else []:=by
        unfold w5;rw [zo (show (dl.any fun x=>x.xD==m.xD)=true from Ik),zo (qc h4)]
       rw [FJ] at kt;have cW:=fun W=>sG m (xL p.ps i) W hmz
       have cG:=cRg M2 (qR.trans zD);generalize Z0 m (xL p.ps i)=wf at*;obtain ⟨m2,ok⟩:=wf;dsimp only at*;cases ok with
       |false=>
        rw [zn yx,xR] at kt
        repeat' (first|refine yh (dst:=some 18) zh fun b18=>?_|refine zU [.v (ptr b18)] [9] [9] 5 yI zd zd ?_|((apply zA);(first|exact zj (j) zd zd ze ze|exact zZ _ zd jk _ zd|exact qlk zd zd hlk);rfl)|refine nv ?_)
        repeat' (first|refine X0 zd (by exact Y4 (by first|exact zm zd cG|exact zm zd (fun W _=>cW W))) zd ?_|refine nu ?_|exact zx|refine nz ?_ ?_)
        repeat' (refine nv ?_)
        exact yG (Q:=fun _ _=>True) (j+1,u,ls) ⟨rfl,(zh:gZ _ _).h,⟨rfl,rfl,rfl,rfl,rfl,rfl,rfl,rfl,rfl,rfl,rfl,trivial⟩,rfl⟩ ⟨z9,hu,kt.symm⟩ (by dsimp only;omega)
       |true=>
        rw [zo rfl] at kt;have e1:(ls++ [m2]).length=ls.length+1:=by simp
        have e2:(ls++ [m2]).flatMap zR=ls.flatMap zR++zR m2:=by simp
        repeat' (first|refine yh (dst:=some 18) zh fun b18=>?_|refine zU [.v (ptr b18)] [9] [9] 5 yI zd zd ?_|((apply zA);(first|exact zj (j) zd zd ze ze|exact zZ _ zd jk _ zd|exact qlk zd zd hlk);rfl)|refine nv ?_)
        repeat' (first|refine X0 zd (by exact Y4 (by first|exact zm zd cG|exact zm zd (fun W _=>cW W))) zd ?_|refine nu ?_|exact zx|refine nz ?_ ?_)
        repeat' (first|(refine gM zd (fun _=>rfl) (fun b3 c3 v3 FI=>?_);have ov3:=FI.yf)|refine nv ?_)
        exact yG (Q:=fun _ _=>True) (j+1,v3,ls++ [m2]) ⟨rfl,by dsimp only;rw [e1,e2];exact (zh:gZ _ _).h,⟨rfl,rfl,rfl,rfl,rfl,rfl,rfl,rfl,rfl,rfl,rfl,trivial⟩,rfl⟩ ⟨z9,by dsimp only;rw [e1];exact FI,kt.symm⟩ (by dsimp only;omega)
   · have hd:=Xq ql;obtain rfl:j=p.ms.length:=ze;rw [xk] at Ux;refine wG (uw.one _ _) fun M3 yc aq=>?_
     have MH:xt M3 6 zR u ls:=ud.YB (fun _ _=>rfl) aq;have ou:=MH.yf;have l3:=(qR.trans zD).trans yc;have l13:=zD.trans yc;obtain ⟨jl,Wb⟩: ∃jl,jl+1=dl.length:=⟨dl.length-1,ze⟩;have dC:jl<dl.length:=ze;obtain ⟨ba,off,hba,jk⟩:=(hw.mono l13).get dC;subst hba
     have hgl:(dl.getLast?.getD QI).xD=dl[jl].xD:=by
      rw [Si,show dl.length-1=jl by omega,jA dC];rfl
     have hj1:((dl.length:Nat):Int)-1=(jl:Int):=ze
     repeat' (first|refine zU [.v (ptr b8), .v (ptr b9)] [4,5] [4] 1 yI zd zd ?_|((apply zA);(first|exact zj (jl) zd zd ze ze|exact zY zd (jk 0 _ zd)|exact xG (z5 (Value.int .i64) hj1) (yN zd zd (Qs ze ze)));rfl)|refine nv ?_)
     repeat' (first|refine nu ?_|exact zx|refine nz ?_ ?_)
     repeat' (refine nv ?_)
     exact ⟨_,[],kB.three rfl (RV.agg zd) (RV.agg zd) (RV.tmp zd),l3,zh,zq,l3,rfl,⟨q.slot,q.level,q.pv,q.ps,q.kv,q.ks,q.high,q.top,q.right,q.seen,u,ls,q.rv,q.rs⟩,⟨z.slot,z.level,z.pv,z.ps,z.kv,z.ks,z.high,z.top,z.right,dl[jl].xD,z.mv,z.ms,z.rv,z.rs⟩,rfl,⟨hq.1.mono yc,hq.2.1.mono yc,MH,hq.2.2.2.mono yc⟩,hz.mono l13,by rw [<-Ux,<-hbq];rfl,by rw [hgl,<-jL];rfl⟩
theorem LY (c:qn) (p k:Nd) (i:Int) (M:Mem) (b:Int) (hc:uk c) (hb:b<=1000000000) (hp:p.Ok M) (hk:k.Ok M) (ip:yB c b p) (ik:yB c b k):
 zu zf 187 [c.av,p.av,k.av, .int .i64 i] M [] (fun r M' o=>M.le M'/\o= []/\ ∃x y:Nd,r= .tuple #[x.av,y.av, .int .i64 (Ww c (bare p) (bare k) i).2.2]/\x.Ok M'/\y.Ok M'/\bare x=(Ww c (bare p) (bare k) i).1/\bare y=(Ww c (bare p) (bare k) i).2.1):=by
 unfold Ww;by_cases he:ZO (bare p) (bare k) i=true/\(kw c (bare p) (bare k) i).2≠ []
 · rw [zo he];exact EU c p k i M b hc hb hp hk ip ik he.1 he.2
 · rw [zn he];exact EV c p k i M b hc hb hp hk ip ik he
end
section
open Go Go.RowKit
attribute [local irreducible] Calls
theorem L6 (o:Op) (w:World):Calls zf 243 #[o.av] w fun r w'=>r= .returned (.bool (decide (1<=o.kind)&&decide (o.kind<=4)))/\Below w.heap.size w w':=by
 refine zQ Tryz.func243 rfl Tryz.ntmps243 zd (Mem.xE _) ?_
 repeat' (first|refine vw ?_|(refine vd ?_ ?_<;>intro hq))
 all_goals
  show yH _ _ _ _;refine yH.one zd (zy zd ?_);simp_all
  try (intros;omega)
end
section
open Go Go.RowKit
attribute [local irreducible] Calls
theorem tA (c:qn) (n:Nd) (k:ByteArray) (M:Mem) (b:Int) (hc:uk c) (hn:n.Ok M) (hi:yB c b n):
 zu zf 133 [c.av,n.av, .string k] M [] (fun r M' o=>r= .tuple #[.int .i64 (Yi c (bare n) k).1, .int .i64 ((Yi c (bare n) k).2:Nat)]/\M'=M/\o= []):=by
 have on:=zI hn;have WD:=hi.bP hc;have CS:=hi.pn;have hf:=hc.f64;have cF:=fun (W:World) (hW:M.le (Mem.of W))=>wo c n W (hn.mono hW)
 have cR:=fun (W:World) (hW:M.le (Mem.of W))=>ZR n.pv n.ps k W (hn.1.xS hW) ze (XP hi.ps.1)
 have cV:=fun (h:0<n.ms.length) (W:World) (hW:M.le (Mem.of W))=>tv n.pv n.mv n.ps n.ms W (hn.1.xS hW) ze (XP hi.ps.1) (hn.2.2.1.xS hW) (fun m hm=>by have:=(hi.ms m hm).key;have:=(hi.ms m hm).hi;have:=(hi.ms m hm).val;omega) ze h
 have cV0:=fun (h:n.ms= []) (W:World) (hW:M.le (Mem.of W))=>oZ n.pv n.mv W (h▸hn.2.2.1.xS hW)
 unfold Yi sf;rw [show (bare n).level=n.level from rfl,show (bare n).slot=n.slot from rfl,show kE c (bare n)=kE c n from rfl,show (bare n).ms=n.ms from rfl,show (bare n).ps=n.ps from rfl];by_cases h0:n.level=0
 · have g1:(n.level==0)=true:=beq_iff_eq.2 h0;rw [zo h0];refine xy eO rfl eT zd (fun F w M0 hF=>zz ?_)
   repeat' (first|refine yZ zd zh fun bx=>?_|refine nv ?_)
   exact ⟨_,[],kH,zE,zh,zq,rfl,rfl,rfl⟩
 · have g1:(n.level==0)=false:=beq_eq_false_iff_ne.2 h0;rw [zn h0]
   have rest:¬ (n.slot=0/\kE c n=true)->zu zf 133 [c.av,n.av, .string k] M [] (fun r M' o=>r= .tuple #[.int .i64 2, .int .i64 ((if n.ms= [] then jq n.ps k else gX (Jb n.ps (kh n.ms)) (n.ps.length+1):Nat):Int)]/\M'=M/\o= []):=fun wK=>by
    by_cases hm:n.ms= []
    · rw [zo hm];have cV1:=cV0 hm;by_cases hs:n.slot=0
      · have g2:(n.slot==0)=true:=beq_iff_eq.2 hs;have gS:kE c n=false:=by rcases XK (kE c n) with h|h;exact absurd ⟨hs,h⟩ wK;exact h
        rw [gS] at cF;refine xy eO rfl eT zd (fun F w M0 hF=>zz ?_)
        repeat' (first|refine yZ zd zh fun bx=>?_|((apply zA);(first|exact zm zd cF|exact zm zd cV1|exact zm zd cR);rfl)|refine nv ?_)
        exact ⟨_,[],kH,zE,zh,zq,rfl,rfl,rfl⟩
      · have g2:(n.slot==0)=false:=beq_eq_false_iff_ne.2 hs;refine xy eO rfl eT zd (fun F w M0 hF=>zz ?_)
        repeat' (first|refine yZ zd zh fun bx=>?_|((apply zA);(first|exact zm zd cV1|exact zm zd cR);rfl)|refine nv ?_)
        exact ⟨_,[],kH,zE,zh,zq,rfl,rfl,rfl⟩
    · rw [zn hm];have cV1:=cV (Qk.2 hm);by_cases hs:n.slot=0
      · have g2:(n.slot==0)=true:=beq_iff_eq.2 hs;have gS:kE c n=false:=by rcases XK (kE c n) with h|h;exact absurd ⟨hs,h⟩ wK;exact h
        rw [gS] at cF;refine xy eO rfl eT zd (fun F w M0 hF=>zz ?_)
        repeat' (first|refine yZ zd zh fun bx=>?_|((apply zA);(first|exact zm zd cF|exact zm zd cV1);rfl)|refine nv ?_)
        exact ⟨_,[],kH,zE,zh,zq,rfl,rfl,rfl⟩
      · have g2:(n.slot==0)=false:=beq_eq_false_iff_ne.2 hs;refine xy eO rfl eT zd (fun F w M0 hF=>zz ?_)
        repeat' (first|refine yZ zd zh fun bx=>?_|((apply zA);(exact zm zd cV1);rfl)|refine nv ?_)
        exact ⟨_,[],kH,zE,zh,zq,rfl,rfl,rfl⟩
   by_cases hb:n.slot=0/\kE c n=true
   · rw [zo hb];obtain ⟨hs,gS⟩:=hb;have g2:(n.slot==0)=true:=beq_iff_eq.2 hs;rw [gS] at cF;refine xy eO rfl eT zd (fun F w M0 hF=>zz ?_)
     repeat' (first|refine yZ zd zh fun bx=>?_|((apply zA);(exact zm zd cF);rfl)|refine nv ?_)
     exact ⟨_,[],kH,zE,zh,zq,rfl,rfl,rfl⟩
   · rw [zn hb];exact rest hb
theorem tz (c:qn) (p k:Nd) (i:Int) (M:Mem) (b:Int) (hc:uk c) (hb:b<=1000000000) (hp:p.Ok M) (hk:k.Ok M) (ip:yB c b p) (ik:yB c b k):
 zu zf 185 [c.av,p.av,k.av, .int .i64 i] M [] (fun r M' o=>M.le M'/\o= []/\r= .int .i64 (VY c (bare p) (bare k) i)):=by
 have op:=zI hp;have ok:=zI hk;have cFp:=fun (W:World) (hW:M.le (Mem.of W))=>wo c p W (hp.mono hW)
 have cFk:=fun (W:World) (hW:M.le (Mem.of W))=>wo c k W (hk.mono hW)
 have cC:=ld c p k i M b hc hb hp hk ip ik;have cN:=fun (M':Mem) (h:M.le M')=>EY c p k i M' b hc hb (hp.mono h) (hk.mono h) ip ik
 unfold VY;rw [show (bare k).level=k.level from rfl,show kE c (bare k)=kE c k from rfl,show kE c (bare p)=kE c p from rfl];generalize ey c (bare p) (bare k) i=n at*;generalize sI c (bare p) (bare k) i=nd at*;generalize kE c p=fp at*;generalize kE c k=fk at*
 have rest:¬ (k.level>0/\fk=true)->zu zf 185 [c.av,p.av,k.av, .int .i64 i] M [] (fun r M' o=>M.le M'/\o= []/\r= .int .i64 (if n>0 then 4 else if k.level>0 then 5 else if nd=true then (if fp=true then 0 else 3) else 0)):=fun wK=>by
  cases hlv:decide ((0:Int)<k.level) with
  |true=>
   have hl:=qc hlv;have hfk:fk=false:=by cases fk;rfl;exact absurd ⟨hl,rfl⟩ wK
   subst hfk;cases hn:decide ((0:Int)<(n:Int)) with
   |true=>
    rw [zo (by have:=qc hn;omega)];cases fp
    all_goals
     refine xy ne rfl nt zd (fun F w M0 hF=>zz ?_)
     repeat' (first|refine yZ zd zh fun bx=>?_|((apply zA);(first|exact zm zd cFp|exact zm zd cFk);rfl)|refine nv ?_)
     refine xQ cC ?_;rintro _ M2 _ zD-⟨-,rfl,rfl⟩;refine zJ ?_
     repeat' (refine nv ?_)
     exact ⟨_,[],zP,zD,zh,zq,zD,rfl,rfl⟩
   |false=>
    rw [zn (by have:=wc hn;omega),zo hl];cases fp
    all_goals
     refine xy ne rfl nt zd (fun F w M0 hF=>zz ?_)
     repeat' (first|refine yZ zd zh fun bx=>?_|((apply zA);(first|exact zm zd cFp|exact zm zd cFk);rfl)|refine nv ?_)
     refine xQ cC ?_;rintro _ M2 _ zD-⟨-,rfl,rfl⟩;refine zJ ?_
     repeat' (refine nv ?_)
     exact ⟨_,[],zP,zD,zh,zq,zD,rfl,rfl⟩
  |false=>
   have hl:=wc hlv;cases hn:decide ((0:Int)<(n:Int)) with
   |true=>
    rw [zo (by have:=qc hn;omega)];cases fp
    all_goals
     refine xy ne rfl nt zd (fun F w M0 hF=>zz ?_)
     repeat' (first|refine yZ zd zh fun bx=>?_|((apply zA);(exact zm zd cFp);rfl)|refine nv ?_)
     refine xQ cC ?_;rintro _ M2 _ zD-⟨-,rfl,rfl⟩;refine zJ ?_
     repeat' (refine nv ?_)
     exact ⟨_,[],zP,zD,zh,zq,zD,rfl,rfl⟩
   |false=>
    rw [zn (by have:=wc hn;omega),zn hl];cases fp
    all_goals
     refine xy ne rfl nt zd (fun F w M0 hF=>zz ?_)
     repeat' (first|refine yZ zd zh fun bx=>?_|((apply zA);(exact zm zd cFp);rfl)|refine nv ?_)
     refine xQ cC ?_;rintro _ M2 _ zD-⟨-,rfl,rfl⟩;refine zJ ?_;have op2:=zI (hp.mono zD);have AV:=zI (hk.mono zD);have cN2:=cN M2 zD
     repeat' (refine nv ?_)
     refine xQ cN2 ?_;rintro _ M3 _ yc-⟨-,rfl,rfl⟩;refine zJ ?_;have hle:=zD.trans yc;cases nd
     all_goals
      repeat' (refine nv ?_)
      exact ⟨_,[],zP,hle,zh,zq,hle,rfl,rfl⟩
 by_cases Ga:k.level>0/\fk=true
 · rw [zo Ga];obtain ⟨hl,rfl⟩:=Ga;have hlv:decide ((0:Int)<k.level)=true:=yk hl;cases fp
   all_goals
    refine xy ne rfl nt zd (fun F w M0 hF=>zz ?_)
    repeat' (first|refine yZ zd zh fun bx=>?_|((apply zA);(first|exact zm zd cFp|exact zm zd cFk);rfl)|refine nv ?_)
    exact ⟨_,[],zP,zE,zh,zq,zE,rfl,rfl⟩
 · rw [zn Ga];exact rest Ga
theorem E3 (o:Op) (st:Int) (M:Mem) (hk:o.key.size<=1000000):
 zu zf 225 [o.av, .int .i64 st] M [] (fun r M' o2=>r= .tuple #[((Jl o st).getD QI).av, .bool (Jl o st).isSome]/\M'=M/\o2= []):=by
 have cR0:=fun W=>lp o W hk
 have cW:=fun W=>L6 o W
 unfold Jl
 have neg:¬ (jb o=true/\1<=o.kind/\o.kind<=4/\1<=st)->zu zf 225 [o.av, .int .i64 st] M [] (fun r M' o2=>r= .tuple #[QI.av, .bool false]/\M'=M/\o2= []):=fun wK=>by
  cases h1:jb o with
  |false=>
   have cR: ∀W,Calls zf 35 #[o.av] W fun e w'=>e= .returned (.int .i64 3)/\Below W.heap.size W w':=fun W=>by have:=cR0 W;rw [h1] at this;exact this
   refine KC Tryz.func225 rfl t8 zd (fun F w M0 hF=>zz ?_)
   repeat' (first|refine yZ zd zh fun bx=>?_|refine yh (dst:=some 4) zh fun b4=>?_|((apply zA);(exact zm zd (fun W _=>cR W));rfl)|refine nv ?_)
   exact ⟨_,[],kB.two rfl (RV.agg zd) (RV.tmp zd),zE,zh,zq,rfl,rfl,rfl⟩
  |true=>
   have cR: ∀W,Calls zf 35 #[o.av] W fun e w'=>e= .returned (.int .i64 0)/\Below W.heap.size W w':=fun W=>by have:=cR0 W;rw [h1] at this;exact this
   cases h2:decide (1<=o.kind)&&decide (o.kind<=4) with
   |false=>
    rw [h2] at cW;refine KC Tryz.func225 rfl t8 zd (fun F w M0 hF=>zz ?_)
    repeat' (first|refine yZ zd zh fun bx=>?_|refine yh (dst:=some 4) zh fun b4=>?_|((apply zA);(first|exact zm zd (fun W _=>cR W)|exact zm zd (fun W _=>cW W));rfl)|refine nv ?_)
    exact ⟨_,[],kB.two rfl (RV.agg zd) (RV.tmp zd),zE,zh,zq,rfl,rfl,rfl⟩
   |true=>
    rw [h2] at cW
    have d3:decide (st<(1:Int))=true:=yk (by
     rcases Q4 st 1 with h|h
     · exact h
     · rw [yF] at h2;exact absurd ⟨h1,qc h2.1,qc h2.2,h⟩ wK)
    refine KC Tryz.func225 rfl t8 zd (fun F w M0 hF=>zz ?_)
    repeat' (first|refine yZ zd zh fun bx=>?_|refine yh (dst:=some 4) zh fun b4=>?_|((apply zA);(first|exact zm zd (fun W _=>cR W)|exact zm zd (fun W _=>cW W));rfl)|refine nv ?_)
    exact ⟨_,[],kB.two rfl (RV.agg zd) (RV.tmp zd),zE,zh,zq,rfl,rfl,rfl⟩
 by_cases hy:jb o=true/\1<=o.kind/\o.kind<=4/\1<=st
 · rw [zo hy];obtain ⟨h1,h2,h3,h4⟩:=hy;have cR: ∀W,Calls zf 35 #[o.av] W fun e w'=>e= .returned (.int .i64 0)/\Below W.heap.size W w':=fun W=>by have:=cR0 W;rw [h1] at this;exact this
   rw [yk h2,yk h3] at cW;have d3:decide (st<(1:Int))=false:=z6 ze;refine KC Tryz.func225 rfl t8 zd (fun F w M0 hF=>zz ?_)
   repeat' (first|refine yZ zd zh fun bx=>?_|refine yh (dst:=some 4) zh fun b4=>?_|((apply zA);(first|exact zm zd (fun W _=>cR W)|exact zm zd (fun W _=>cW W));rfl)|refine nv ?_)
   exact ⟨_,[],kB.two rfl (RV.agg zd) (RV.tmp zd),zE,zh,zq,rfl,rfl,rfl⟩
 · rw [zn hy];exact neg hy
end
section
open Go Go.RowKit
attribute [local irreducible] Calls
theorem rc (ns:List Nd) (us:List Bool) (i:Int):JU (ns.map bare) us i=bare (JU ns us i):=by
 unfold JU;split
 · simp only [List.getD,qd];cases ns[i.toNat]?<;>rfl
 · rfl
theorem qC.O0 (s:qC) (i:Int):s.pure.get i=bare (JU s.ns s.us i):=rc _ _ _
theorem qC.OZ (s:qC) {n m:Nd} (h:bare m=bare n):(s.set n.slot m).pure=s.pure.set (bare n):=by
 unfold qC.set qC.pure kY.set;rw [show (bare n).slot=n.slot from rfl];dsimp only;split
 · rw [<-h,aR]
 · rfl
theorem qC.TV (s:qC) {n m:Nd} (h:bare m= {bare n with slot:=(s.pure.next:Int)}):(s.tk s.pure.next m).pure=s.pure.tk (bare n):=by
 show kY.mk _ _ _ _=kY.mk _ _ _ _;rw [<-h];exact z5 (fun l=>kY.mk s.c l (s.us.set s.pure.next true) (j8 Kk s.fr).dropLast) aR
structure qe (sb:Nat) (b:Int) (q:kY) (M:Mem) (s:qC):Prop where
 sb:s.sb=sb
 ok:s.Ok M
 inv:Yz b q
 pure:s.pure=q
theorem qe.mono {sb:Nat} {b:Int} {q:kY} {M M':Mem} {s:qC} (h:qe sb b q M s) (hM:M.le M'):qe sb b q M' s:=⟨h.sb,h.ok.mono hM,h.inv,h.pure⟩
theorem Zp {sb:Nat} {b:Int} {q:kY} {M:Mem} {s:qC} (h:qe sb b q M s):zu zf 77 [ptr sb] M s.ob (fun u M' o=>u=q.c.av/\M'=M/\o=s.ob):=by
 have:=sk s M;rw [h.sb,show s.c=q.c from z5 kY.c h.pure] at this;exact this
theorem BJ {sb:Nat} {b:Int} {q:kY} {M:Mem} {s:qC} (h:qe sb b q M s):zu zf 155 [ptr sb] M s.ob (fun u M' o=>u= .int .i64 q.fr.length/\M'=M/\o=s.ob):=by
 have:=Ew s M;rw [h.sb,show s.fr=q.fr from z5 kY.fr h.pure] at this;exact this
theorem uI {sb:Nat} {b:Int} {q:kY} {M:Mem} {s:qC} (h:qe sb b q M s) (i:Int):zu zf 71 [ptr sb, .int .i64 i] M s.ob (fun u M' o=>M.le M'/\o=s.ob/\ ∃m:Nd,u= .tuple #[m.av, .bool (q.has i)]/\m.Ok M'/\bare m=q.get i):=by
 have:=iS s i M h.ok;rw [h.sb] at this;refine this.mono ?_;rintro u M' o hle ⟨rfl,m,rfl,hm,hb⟩;refine ⟨hle,rfl,m,?_,hm,by rw [hb,<-h.pure,s.O0]⟩;rw [<-h.pure];rfl
theorem XO {sb:Nat} {b:Int} {q:kY} {M:Mem} {s:qC} (h:qe sb b q M s) (hb:b<=1000000000) (n:Nd) (hn:n.Ok M) (hi:yB q.c b n):zu zf 100 [ptr sb,n.av] M s.ob (fun u M' o=>M.le M'/\u= .int .i64 (if q.has n.slot=true then 0 else 8)/\ ∃s':qC,o=s'.ob/\qe sb b (q.set (bare n)) M' s'):=by
 have aej:=hi.NF h.inv.c hb;have:=pC s n M h.ok hn aej;rw [h.sb] at this;refine this.mono ?_;rintro u M' o hle ⟨rfl,m,hm,hbm,rfl⟩;refine ⟨hle,by rw [<-h.pure];rfl,_,rfl,h.sb,qC.ada (h.ok.mono hle) _ hm ?_,h.inv.set hi.bare,by rw [s.OZ hbm,h.pure]⟩;exact (yB.xW (hbm▸hi.bare)).NF h.inv.c hb
theorem bB {sb:Nat} {b:Int} {q:kY} {M:Mem} {s:qC} (h:qe sb b q M s) (hb:b<=1000000000) (n:Nd) (hn:n.Ok M) (hi:yB q.c b n) (h0:q.fr≠ []):zu zf 80 [ptr sb,n.av] M s.ob (fun u M' o=>M.le M'/\u= .tuple #[.int .i64 (q.next:Int), .int .i64 0]/\ ∃s':qC,o=s'.ob/\qe sb b (q.tk (bare n)) M' s'):=by
 have aej:=hi.NF h.inv.c hb;obtain ⟨hn1,AZ⟩:=kY.aaj h.inv h0;have ef:s.fr=q.fr:=z5 kY.fr h.pure;have nX:s.ns.length=q.ns.length:=by have:=z5 (fun x=>x.ns.length) h.pure;simpa [qC.pure] using this
 have:=Ev s n q.next M h.ok hn aej (by rw [ef];exact h0) (by rw [nX];exact hn1) (by rw [ef];exact AZ);rw [h.sb] at this;refine this.mono ?_;rintro u M' o hle ⟨rfl,m,hm,hbm,rfl⟩;have CS:s.pure.next=q.next:=by rw [h.pure]
 refine ⟨hle,rfl,_,rfl,h.sb,qC.HA (h.ok.mono hle) _ hm ?_,h.inv.tk hi.bare,by rw [<-CS,s.TV (by rw [CS];exact hbm),h.pure]⟩;exact (yB.xW (hbm▸ {hi.bare with})).NF h.inv.c hb
theorem LB {sb:Nat} {b:Int} {q:kY} {M:Mem} {s:qC} (h:qe sb b q M s) (n:Nd) (h0:q.fr= []):zu zf 80 [ptr sb,n.av] M s.ob (fun u M' o=>u= .tuple #[.int .i64 0, .int .i64 4]/\M'=M/\o=s.ob):=by
 have:=BI s n M (by rw [show s.fr=q.fr from z5 kY.fr h.pure];exact h0);rw [h.sb] at this;exact this
end
section
open Go Go.RowKit
attribute [local irreducible] Calls
section
variable {P:Program} {w:World} {M0:Mem} {N:Nat} {xJ U:List Ob} {e2:List Nat} {l:List Oper} {M:Mem} {own:List Ob} {env:Env} {Q:St->Prop} {n i:Nat} {xz ks:List Nat} {dst:Option Tmp} {ty:TypeId} {pos:String} {z7:Array Edge}
theorem Sp {t e:TypeId} {x y:Operand} {k bytes:Nat} {kl kc:IntKind} {z:Value} (m:Nat) {i1 i2:Int} (cells:List Value) (ho:l[i]?=some ⟨dst, .makeSlice t x y,ty,pos,z7,none⟩) [hE:kr P t e k bytes] [hz:kM P e z] (hx:env.op x=some (.v (.int kl i1))) (hy:env.op y=some (.v (.int kc i2))) (h1:i1=(m:Int)) (h2:i2=(m:Int)) (hc:(madeCells z.cells (m*k)).toList=cells) (hm:m<=maxLen) (hb:bytes*m<=281474976710656)
 (h: ∀u,j2 u m->gA P w M0 N xJ U e2 l n (xz.erase i) ⟨M, .zC u e k m cells::own,env.put dst (.v u)⟩ Q) (hr:WL P w M0 N xJ U e2 l n xz ks ⟨M,own,env⟩ Q) (hs:ji own (Kp e2 xJ U (xz.erase i)):=by first|exact Yc zd zh|exact Jm zh zh) (hk:yi N dst=true:=by rfl):WL P w M0 N xJ U e2 l n xz (i::ks) ⟨M,own,env⟩ Q:=by
 have hx:=XU.ex (Ho (P:=P) (w:=w) (M0:=M0) (N:=N) (ops:=l.toArray) (c:=fun u=>own++ [.zC u e k m cells]) rfl (AR (P:=P) (w:=w) (M0:=M0) (N:=N) (dst:=dst) (ty:=ty) (pos:=pos) (z7:=z7) (g:=none) (M:=M) (own:=own) (env:=env) (t:=t) (x:=x) (y:=y) m cells hx hy h1 h2 hc hm hb) (fun u=>⟨rfl⟩));exact Vs {u:Value//j2 u m} (fun _=>M) (fun u=> .zC u.1 e k m cells::own) (fun u=>u.1) ho (hx.KJ fun u=>ji.perm uQ) hk (fun u=>⟨zE,KU hs,h u.1 u.2⟩) hr
end
theorem lK {α:Type} (z:Array Value) (a:α) (cells:α->List Value) (k:Nat) (hk:0<k) (hz:z.size=k) (hc:cells a=z.toList) (n:Nat):(madeCells z (n*k)).toList=(List.replicate n a).flatMap cells:=by
 apply AB;intro q;have hl: ∀x∈List.replicate n a,(cells x).length=k:=fun x hx=>by rw [m7 hx,hc];simpa using hz
 have y7:((List.replicate n a).flatMap cells).length=n*k:=by rw [List.flatMap_replicate,List.length_flatten];simp [hc,hz]
 rcases yq q (n*k) with h|h
 · have hi:q/k<n:=Nat.div_lt_of_lt_mul (by rw [t5];exact h);have hj:=tW q hk;have h2:q/k*k+q % k=q:=by rw [t5];exact Nat.div_add_mod q k
   have h3:=vm (k:=k) (cells:=cells) (List.replicate n a) (q/k) (q % k) (by rw [m6];exact hi) hl hj;rw [h2,List.getElem_replicate,hc] at h3;rw [h3];have hzj:q % k<z.size:=by rw [hz];exact hj
   simp [madeCells,h,hz,hj,hzj]
 · rw [dq (by simp [madeCells];exact h),dq (by rw [y7];exact h)]
def Xu (m:Nat):List Int:=(List.range m).map Int.ofNat
def HD (a:SA) (m:Nat):List Ob:= [vB a m m (Xf Kk m (m/2) (Xu m)),Xh a.fb a.fc (Xf Kk m (m/2) (Xu m)),wV a (List.replicate m false),XX a (List.replicate m wZ)]
theorem ER (k:Nat):Xu (k+1)=Xu k++ [(k:Int)]:=by unfold Xu;rw [nF,jo];rfl
theorem LF (m:Nat) (M:Mem) (h1:1<=m) (h2:m<=4096):
 zu zf 79 [.int .i64 m] M [] (fun u M' o=>M'=M/\ ∃a:SA,u= .tuple #[ptr a.lb, .int .i64 0]/\o=HD a m):=by
 have d1:decide ((m:Int)<1)=false:=z6 ze;have d2:decide ((4096:Int)<(m:Int))=false:=z6 ze;refine xy Tryz.func79 rfl Tryz.ntmps79 zd (fun F w M0 hF=>zz ?_)
 repeat' (first|refine kV (x:= .region 3 _ _) (fun s'=> ∃a:SA,vo s' ⟨M, .zK (ptr a.lb) 168 [.slice (some ⟨a.cb,0,none⟩) m a.cc, .slice (some ⟨a.ub,0,none⟩) m a.uc, .slice none 0 0]:: .zC (.slice (some ⟨a.ub,0,none⟩) m a.uc) 4 1 m ((List.replicate m false).flatMap YX):: .zC (.slice (some ⟨a.cb,0,none⟩) m a.cc) 143 10 m ((List.replicate m wZ).flatMap yr)::F,[(0, .v (.int .i64 m)),(4, .v (ptr a.lb))]⟩) ?_ ?_|refine zU [] [1,3,4,5,6] [] 1 yI zd zd ?_|refine nv ?_)
 · repeat' (first|(refine Sp m ((List.replicate m wZ).flatMap yr) rfl rfl rfl rfl rfl (by exact lK _ wZ yr 10 Kq rfl rfl m) (by unfold maxLen;omega) ze (fun u1 hu1=>?_) ?_;obtain ⟨cb,cc,rfl,_,_⟩:=xB hu1 ze)|(refine Sp m ((List.replicate m false).flatMap YX) rfl rfl rfl rfl rfl (by exact lK _ false YX 1 Kq rfl rfl m) (by unfold maxLen;omega) ze (fun u2 hu2=>?_) ?_;obtain ⟨ub,uc,rfl,_,_⟩:=xB hu2 ze)|(refine aeS rfl rfl (fun lb=>?_) ?_)|refine nu ?_|exact zx|refine nz ?_ ?_)
   all_goals
    exact ⟨rfl,⟨lb,cb,cc,ub,uc,0,0⟩,xZ j4⟩
 · rintro s' ⟨a,hs⟩;refine x8 _ hs ?_;refine uU 3 1 ?_
   repeat' (refine nv ?_)
   refine jv (fun x:Nat×Value=>⟨M, .zC x.2 3 1 (Xu x.1).length ((Xu x.1).flatMap zF):: .zK (ptr a.lb) 168 [.slice (some ⟨a.cb,0,none⟩) m a.cc, .slice (some ⟨a.ub,0,none⟩) m a.uc,x.2]:: .zC (.slice (some ⟨a.ub,0,none⟩) m a.uc) 4 1 m ((List.replicate m false).flatMap YX):: .zC (.slice (some ⟨a.cb,0,none⟩) m a.cc) 143 10 m ((List.replicate m wZ).flatMap yr)::F,[(4, .v (ptr a.lb)),(18, .v (.int .i64 m)),(19, .v (.int .i64 x.1))]⟩)
    (fun x=>x.1<=m/\j2 x.2 x.1) (fun x=>m-x.1) (0, .slice none 0 0) ⟨rfl,ji.refl _,ka,rfl⟩ ⟨zW _, .inl ⟨rfl,rfl⟩⟩ ?_
   rintro ⟨k,v⟩ ⟨hk,hv⟩;dsimp only at hk hv⊢;have Tj: ∀k,(Xu k).length=k:=fun k=>by unfold Xu;rw [yo,fm]
   rcases yq k m with z9|ql
   · have hd:=Xp z9;have e1:(Xu (k+1)).flatMap zF=(Xu k).flatMap zF++ [.int .i64 (k:Int)]:=by rw [ER,JF];rfl
     rw [Tj]
     repeat' (first|(refine gM zd (fun _=>rfl) (fun b3 c3 v3 FI=>?_);have ov3:=FI.yf)|refine nv ?_)
     exact yG (Q:=fun _ _=>True) (k+1,v3) ⟨rfl,by dsimp only;rw [Tj,e1];exact (zh:gZ _ _).h,ka,rfl⟩ ⟨z9,FI⟩ (by dsimp only;omega)
   · have hd:=Xq ql;obtain rfl:k=m:=ze;obtain ⟨fb,fc,rfl,_,_⟩:=xB hv ze;have cI:=Ni a.lb fb fc (.slice (some ⟨a.cb,0,none⟩) k a.cc) (.slice (some ⟨a.ub,0,none⟩) k a.uc) (Xu k) M (by rw [Tj];omega);unfold UA at cI;have kg:(Xf Kk k (k/2) (Xu k)).length=k:=by rw [(aj Kk k (k/2) (Xu k)).length_eq,Tj]
     dsimp only [BN,Xh] at cI;rw [Tj,kg] at cI;rw [Tj];unfold HD
     repeat' (first|refine uK cI ?_|refine nv ?_)
     refine ⟨_,[vB ⟨a.lb,a.cb,a.cc,a.ub,a.uc,fb,fc⟩ k k (Xf Kk k (k/2) (Xu k)),Xh fb fc (Xf Kk k (k/2) (Xu k)),wV a (List.replicate k false),XX a (List.replicate k wZ)],kH,zE,zh,?_,rfl,⟨a.lb,a.cb,a.cc,a.ub,a.uc,fb,fc⟩,rfl,rfl⟩;dsimp only [vB,BN,Xh,wV,XX];rw [kg,m6,m6];exact zq
end
section
open Go Go.RowKit
attribute [local irreducible] Calls
theorem adm {c:qn} (h:Oj c=true):uk c:=by
 unfold Oj XA at h;simp only [yF,j5] at h;constructor<;>omega
def BY (slot:Int):Nd:=⟨slot,0,qY,[],qY,[],em,true,-1,0,qY,[],qY,[]⟩
theorem OU (slot:Int) (M:Mem):(BY slot).Ok M:=⟨xt.nil _ _ _,xt.nil _ _ _,xt.nil _ _ _,xt.nil _ _ _⟩
theorem LL {c:qn} (hc:uk c) {b:Int} (hb:0<=b) (slot:Int):yB c b (BY slot):= {UY hc hb with}
def dZ (c:qn):kY:=⟨c,List.replicate c.kD.toNat wZ,List.replicate c.kD.toNat false,Xf Kk c.kD.toNat (c.kD.toNat/2) (Xu c.kD.toNat)⟩
def ags (c:qn):kY:=(dZ c).tk (BY 0)
theorem H5 (c:qn):(dZ c).fr.Perm (Xu c.kD.toNat):=aj _ _ _ _
theorem Cp (c:qn):(dZ c).fr.length=c.kD.toNat:=by rw [(H5 c).length_eq];unfold Xu;rw [yo,fm]
theorem Pn {c:qn} (hc:uk c):Yz 0 (dZ c):=by
 have h1:=hc.s1;have h2:=hc.OR;refine ⟨hc,by unfold dZ;simp,by unfold dZ;simp;omega,fun n hn=>?_,by rw [Cp];unfold dZ;simp,fun f hf=>?_,k9 _⟩
 · rw [m7 hn];exact UY hc (k9 _)
 · have:=(H5 c).mem_iff.1 hf;unfold Xu at this;obtain ⟨k,hk,rfl⟩:=uT.1 this;exact ⟨k,rfl,by unfold dZ;simpa using GI.1 hk⟩
theorem Ey (c:qn) (M:Mem) (h:Oj c=false):zu zf 64 [c.av] M [] (fun u M' o=>u= .tuple #[.pointer none, .int .i64 2]/\M'=M/\o= []):=by
 have cR:=fun W=>bz c W
 rw [h] at cR;refine xy Tryz.func64 rfl Tryz.ntmps64 zd (fun F w M0 hF=>zz ?_)
 repeat' (first|refine yZ zd zh fun bx=>?_|((apply zA);(exact zm zd (fun W _=>cR W));rfl)|refine nv ?_)
 exact ⟨_,[],kH,zE,zh,zq,rfl,rfl,rfl⟩
theorem Ex (c:qn) (M:Mem) (h:Oj c=true):zu zf 64 [c.av] M [] (fun u M' o=>M.le M'/\ ∃(sb:Nat) (s:qC),u= .tuple #[ptr sb, .int .i64 0]/\o=s.ob/\qe sb 0 (ags c) M' s):=by
 have cR:=fun W=>bz c W
 have hc:=adm h;have h1:=hc.s1;have h2:=hc.OR;rw [h] at cR;obtain ⟨m,hm⟩: ∃m:Nat,c.kD=(m:Int):=⟨c.kD.toNat,ze⟩;have cN:=LF m M ze ze;rw [<-hm] at cN;have cL: ∀W,Calls zf 81 #[.int .i64 0] W fun e w'=>e= .returned ((BY 0).av)/\Below W.heap.size W w':=fun W=>Mb 0 W
 refine xy Tryz.func64 rfl Tryz.ntmps64 zd (fun F w M0 hF=>zz ?_)
 repeat' (first|refine yZ zd zh fun bx=>?_|((apply zA);(exact zm zd (fun W _=>cR W));rfl)|refine nv ?_)
 refine xQ cN ?_;rintro _ M2 _ zD-⟨hM,a,rfl,rfl⟩;subst hM
 have hS:qe 0 0 (dZ c) M2 ⟨0,a,c,List.replicate m wZ,List.replicate m false,Xf Kk m (m/2) (Xu m)⟩:=by
  have hmm:c.kD.toNat=m:=ze;have hi:=Pn hc;refine ⟨rfl,⟨by simp,by simp;omega,fun n hn=>?_,?_,?_⟩,hi,?_⟩
  · rw [m7 hn];exact ⟨vI _,lr⟩
  · have:=hi.frn;unfold dZ at this;rw [hmm] at this;exact this
  · have:=hi.frb;unfold dZ at this;rw [hmm] at this;exact this
  · unfold qC.pure dZ;rw [hmm];simp [bare,wZ]
 refine zJ ?_
 repeat' (first|refine yZ zd zh fun sb=>?_|refine nv ?_)
 have hob:(⟨sb,a,c,List.replicate m wZ,List.replicate m false,Xf Kk m (m/2) (Xu m)⟩:qC).ob=iT sb a.lb c::HD a m:=by
  unfold qC.ob HD;simp only [m6]
 refine wd ((⟨sb,a,c,List.replicate m wZ,List.replicate m false,Xf Kk m (m/2) (Xu m)⟩:qC).ob++(.zK (ptr bx) 23 [.int .i64 c.jz, .int .i64 c.leaf, .int .i64 c.yV, .int .i64 c.kD, .int .i64 c.yu]::F)) ?_ (by rw [hob];exact ji.refl _);have hS2:qe sb 0 (dZ c) M2 ⟨sb,a,c,List.replicate m wZ,List.replicate m false,Xf Kk m (m/2) (Xu m)⟩:=⟨rfl,⟨hS.ok.len,hS.ok.n,hS.ok.nd,hS.ok.frn,hS.ok.frb⟩,hS.inv,hS.pure⟩;have cT:=bB hS2 ze (BY 0) (OU 0 M2) (LL hc (k9 _) 0) (fun e=>by have:=Cp c;rw [e] at this;simp at this;omega);generalize (⟨sb,a,c,List.replicate m wZ,List.replicate m false,Xf Kk m (m/2) (Xu m)⟩:qC)=s0 at*;have cL2:=fun (W:World) (hW:M2.le (Mem.of W))=>cL W
 repeat' (((apply zA);(exact zm zd cL2);rfl))
 refine xQ cT ?_;rintro _ M3 _ yc-⟨-,rfl,s',rfl,h'⟩;refine zJ ?_
 repeat' (refine nv ?_)
 exact ⟨_,s'.ob,kH,yc,zh,zq,yc,sb,s',rfl,rfl,h'⟩
end
end Go.Proofs.YtaibdpjjojihmaaGreat
