/- A part of the proof of TopPrefix; no conditions. -/
import Derived.Test.YtaibdpjjojihmaaGreatPKn5
set_option linter.unusedVariables false
set_option linter.unusedSimpArgs false
set_option maxRecDepth 20000
set_option maxHeartbeats 4000000
namespace Go.Proofs.YtaibdpjjojihmaaGreat
section
open Go Go.RowKit
attribute [local irreducible] Calls
section
variable {P:Program} {w:World} {M0:Mem} {N:Nat} {M:Mem} {zO:List Ob}
theorem AL {x y:Code} {s:St} {Q:zX} (R:St->Prop) (h1:VC P w M0 N x s (fun e s'=>(e= .normal/\R s')\/(e= .ret/\Q .ret s'))) (h2: ∀s',R s'->VC P w M0 N y s' Q):VC P w M0 N (.seq x y) s Q:=
 KD (AK h1 fun e s' h=>by
  rcases h with ⟨rfl,hr⟩|⟨rfl,hq⟩
  · exact h2 s' hr
  · exact hq)
theorem zu.agd {f:FuncId} {vs:List Value} {u:Value} {e:TypeId} {k n:Nat} {cs:List Value} {R:Value->Mem->List Ob->Prop} (hc: ∀M',M.le M'->ud M' k n cs u->zu P f vs M' zO R):zu P f vs M (.zC u e k n cs::zO) R:=fun F hF w M0 hd W hW=>by
 obtain ⟨M1,Zy,l1,r1,w1⟩:=Wd.fz hW;refine (hc M1 l1 r1 F hF w M0 Zy W w1).mono ?_;rintro e W' ⟨v,yE,zw,M',he,hle,wK,Zl,hp⟩;exact ⟨v,yE,zw,M',he,l1.trans hle,wK,Zl,hp⟩
end
variable {cb sb:Nat} {b:Int} {p:jf} {H:List (Int×Nat)} {M:Mem} {c:Co}
theorem Mw (p:jf) (s:qM):Zv p s=if (s.to==0&&J3 s (p.q.get s.to).seen)=true then uH p (xb s (p.q.get s.to).seen) else ai p (if (s.to==0)=true then xb s (p.q.get s.to).seen else s) (p.q.get s.to):=by
 unfold Zv;by_cases h:s.to=0
 · rw [zo h,h];simp
 · rw [zn h];have:(s.to==0)=false:=beq_eq_false_iff_ne.2 h;rw [this];simp
theorem Fh (a b:List xi):(wJ [a,b]).length<=a.length+b.length:=jZ (ag _ _) (by unfold X8;simp)
theorem BL {n:Nd} (h:n.high.size<=16):jB 90 (Jc n):=by
 unfold Jc;split
 · exact ⟨by decide,by decide⟩
 · exact ir ⟨zW _,by show n.high.size<=90;omega⟩
theorem kN.meets {n:Nat} {s:qM} (h:kN n s) (v:Int):kN n (xb s v):=by
 unfold xb;split
 · exact ⟨h.ms,h.len,h.x,h.rest,h.sub,h.lN,h.out⟩
 · exact h
theorem De {ms:List xi} {s:yW} {v:Int} (h: ∀m∈ms,YA m):(∀m∈Jv ms s v,YA m)/\(Jv ms s v).length<=ms.length:=⟨fun m hm=>h m (ZE.1 hm).1,Ql _ _⟩
theorem PJ {a b:List xi} (ha: ∀m∈a,YA m) (hb: ∀m∈b,YA m): ∀m∈wJ [a,b],YA m:=lM Pq fun l hl=>by
 rcases jm.1 hl with rfl|hl
 · exact ha
 · rw [jx.1 hl];exact hb
theorem ss (h:yO cb sb b p H M c) (hb:b<=1000000000) {s:qM} {x:Kn} (hr:uX cb H M s x) (hd:s.done=false) {n:Nat} (hi:kN n s) (hn:n<=80000) (hl: -1000000000000<=s.left/\s.left<=1000000000000):zu zf 162 [ptr x.kb] M (kR cb x s::xO x s::c.ob) (fun u M' o=>M.le M'/\u= .bool true/\ ∃(x':Kn) (c':Co),x'.kb=x.kb/\o=wq cb x' (Zv p s).2++c'.ob/\yO cb sb b (Zv p s).1 H M' c'/\uX cb H M' (Zv p s).2 x'):=by
 have om:=hr.ms.yf;have oo:=hr.one;have cS:=Xi h;have cN:=XV (c:=c) (uI h.st s.to);have ig:=h.st.inv.get s.to;have hc:=h.st.inv.c;rw [Mw];generalize P9:p.q.get s.to=n0 at*;refine xy Tryz.func162 rfl Tryz.ntmps162 zd (fun F w M0 hF=>zz ?_)
 repeat' (first|refine kV (x:= .region 1 _ _) (fun s'=> ∃(M2:Mem) (b3:Nat) (z:Nd),M.le M2/\z.Ok M2/\bare z=n0/\vo s' ⟨M2, .zK (ptr b3) 143 (yr z)::kR cb x s::xO x s::(c.ob++F),[(0, .v (ptr x.kb)),(3, .v (ptr b3))]⟩) ?_ ?_|refine zU [] [4,9,10,11,12,13,14,15] [] 1 yI zd zd ?_|refine nv ?_)
 · repeat' (first|refine YG cS rfl ?_ ?_|refine G9 rfl (fun b3=>?_) ?_|(refine xF cN rfl ?_ ?_;rintro _ M2 _ zD-⟨-,rfl,z,rfl,hz,jL⟩;refine yJ ?_;have oz:=zI hz)|refine nu ?_|exact zx|refine nz ?_ ?_)
   all_goals
    exact ⟨rfl,_,_,z,zD,hz,jL,xZ j4⟩
 · rintro s' ⟨M2,b3,z,zD,hz,jL,hs⟩;refine x8 _ hs ?_;clear hs s' cS cN;have oz:=zI hz;have h2:=h.mono zD;have KL:=hr.mono (fun _ _ e=>e) zD;clear h hr;have pX:z.seen=n0.seen:=by rw [<-jL];rfl
   rw [<-pX];have Tq:=Wq (cb:=cb) (M:=M2) (s:=s) (x:=x) om oo z oz;obtain ⟨q1,q2,q3,q4,q5⟩:=bT s z.seen;have kq:=KL.meets z.seen;refine AL (x:= .seq (.region 2 _ _) _) (fun s'=>(s.to==0&&J3 s z.seen)=false/\vo s' ⟨M2, .zK (ptr b3) 143 (yr z)::kR cb x (if (s.to==0)=true then xb s z.seen else s)::xO x s::(c.ob++F),[(0, .v (ptr x.kb)),(3, .v (ptr b3))]⟩) ?_ ?_
   · cases hto:(s.to==0) with
     |false=>
      rw [zn yx]
      repeat' (refine nv ?_)
      exact .inl ⟨rfl,rfl,xZ j4⟩
     |true=>
      rw [zo rfl,XC];cases kt:J3 s z.seen with
      |false=>
       rw [kt] at Tq;generalize xb s z.seen=s1 at*
       repeat' (first|refine uK Tq ?_|refine nv ?_)
       exact .inl ⟨rfl,rfl,xZ j4⟩
      |true=>
       rw [kt] at Tq;rw [zo rfl];have cA:=Ws h2 kq (q1.trans hd) (by rw [q5];exact hl);have Wc:(uH p (xb s z.seen)).2.done=false:=q1.trans hd;generalize uH p (xb s z.seen)=ZV at*;have e1:(xb s z.seen).out=s.out:=q4;generalize xb s z.seen=s1 at*;have e2:xO x s1=xO x s:=by dsimp only [xO];rw [e1]
       rw [e2] at cA
       repeat' (first|refine uK Tq ?_|refine nv ?_)
       refine xQ cA ?_;rintro _ M3 _- -⟨hM,rfl,x',c',U3,rfl,vk,U5⟩;subst hM;refine zJ ?_
       repeat' (refine nv ?_)
       exact .inr ⟨rfl,_,kR cb x' ZV.2::xO x' ZV.2::c'.ob,zP,zD,zh,zq,zD,rfl,x',c',U3,by rw [ug Wc];rfl,vk,U5⟩
   · rintro s' ⟨kt,hs⟩;rw [kt,zn yx];refine x8 _ hs ?_;clear hs s' Tq kt pX;have e1:xO x (if (s.to==0)=true then xb s z.seen else s)=xO x s:=by split;exact (by dsimp only [xO];rw [q4]);rfl
     have ao:kN n (if (s.to==0)=true then xb s z.seen else s):=by split;exact hi.meets _;exact hi
     have Zy:(if (s.to==0)=true then xb s z.seen else s).done=false:=by split;exact q1.trans hd;exact hd
     have hr1:uX cb H M2 (if (s.to==0)=true then xb s z.seen else s) x:=by split;exact kq;exact KL
     rw [<-e1];generalize (if (s.to==0)=true then xb s z.seen else s)=s1 at*;clear e1 q1 q2 q3 q4 q5 kq KL hi hd hl P9 s
     rename qM=>s
     rename kN n s=>hi
     rename s.done=false=>hd
     rename uX cb H M2 s x=>hr
     subst jL;have ig:=ig.xW;rw [show ai p s (bare z)=ai p s z from rfl];unfold ai
     repeat' (first|refine kV (x:= .region 4 _ _) (fun s'=>vo s' ⟨M2, .zK (ptr b3) 143 (yr z)::gL cb x {s with wy:=s.to} (.func (.func 194) #[] #[]) x.mv x.ov::xO x s::(c.ob++F),[(0, .v (ptr x.kb)),(3, .v (ptr b3))]⟩) ?_ ?_|refine nv ?_)
     · skip
       exact ⟨rfl,xZ j4⟩
     rintro s' hs;refine x8 _ hs ?_;clear hs s';have cH:=fun W=>Cn z s.rest.lo W
     cases hh:tf z s.rest.lo with
     |false=>
      rw [hh] at cH;rw [zo rfl]
      repeat' (first|refine zU [] [] [] 1 yI zd zd ?_|refine nv ?_)
      repeat' (first|refine X0 zd (by exact Y4 (by exact zm zd (fun W _=>cH W))) zd ?_|refine nu ?_)
      repeat' (refine nv ?_)
      exact ⟨_,gL cb x {s with wy:=s.to,to:=z.right} (.func (.func 194) #[] #[]) x.mv x.ov::xO x s::c.ob,zP,zD,zh,zq,zD,rfl,x,c,rfl,by rw [ug (by exact hd)];rfl,h2,⟨hr.hand,hr.th,hr.ms,hr.out,hr.fin,hr.one⟩⟩
     |true=>
      rw [hh] at cH;rw [zn yx];have cSp:=fun W=>pR z W
      have cMe:=fun W=>YM s.sub (Jc z) W
      have JR:jB 90 (vT s.sub (Jc z)):=QL hi.sub (BL ig.high);generalize vT s.sub (Jc z)=n9 at*;dsimp only
      repeat' (first|refine zU [] [] [] 1 yI zd zd ?_|refine nv ?_)
      · repeat' (first|refine X0 zd (by exact Y4 (by exact zm zd (fun W _=>cH W))) zd ?_|refine nu ?_)
        repeat' (first|refine kV (x:= .region 8 _ _) (fun s'=>vo s' ⟨M2, .zK (ptr b3) 143 (yr z)::gL cb x {s with wy:=s.to,sub:=n9} (.func (.func 194) #[] #[]) x.mv x.ov::xO x s::(c.ob++F),[(0, .v (ptr x.kb)),(3, .v (ptr b3))]⟩) ?_ ?_|refine nv ?_)
        · refine zU [.v (ptr x.kb)] [10] [10] 2 yI zd zd ?_
          repeat' (first|refine X0 zd (by exact Y4 (by first|exact zm zd (fun W _=>cMe W)|exact zm zd (fun W _=>cSp W))) zd ?_|refine nu ?_|exact zx|refine nz ?_ ?_)
          exact ⟨rfl,xZ j4⟩
        rintro s' hs;refine x8 _ hs ?_;clear hs s' cH cSp cMe;obtain ⟨E5,FO⟩: ∃E5,(if s.fixed=true then Jv s.ms n9 z.seen else s.ms)=E5:=⟨_,rfl⟩;rw [FO];refine kV (x:= .seq (.region 9 _ _) _) (fun s'=> ∃(M3:Mem) (mv':Value),M2.le M3/\xt M3 6 zR mv' E5/\vo s' ⟨M3, .zK (ptr b3) 143 (yr z)::gL cb x {s with wy:=s.to,sub:=n9} (.func (.func 194) #[] #[]) mv' x.ov::xO x s::(c.ob++F),[(0, .v (ptr x.kb)),(3, .v (ptr b3))]⟩) ?_ ?_
        · rcases XK s.fixed with hf|hf
          · rw [zo hf] at FO;have cFr:=(Ct x.mv s.ms n9 z.seen M2 hr.ms (by have:=hi.len;omega) (fun m hm=>by have:=(hi.ms m hm).key;omega)).sl (fun _ _=>rfl);rw [FO] at cFr
            repeat' (first|refine zU [.v (ptr x.kb)] [11,14] [14] 2 yI zd zd ?_|refine nv ?_)
            repeat' (refine nu ?_)
            refine xF cFr rfl ?_ zx;rintro u M3 _ yc-⟨-,rfl,hu⟩;refine yJ ?_;have ou:=hu.yf
            repeat' (first|refine nu ?_|exact zx|refine nz ?_ ?_)
            exact ⟨rfl,M3,u,yc,hu,xZ j4⟩
          · rw [zn (by rw [hf];simp)] at FO;subst FO
            repeat' (refine nv ?_)
            exact ⟨rfl,M2,x.mv,zE,hr.ms,xZ j4⟩
        rintro s' ⟨M3,mv',yc,A0,hs⟩;refine x8 _ hs ?_;clear hs s';have omv:=A0.yf;have l3:=zD.trans yc;have h3:=h2.mono yc;have hr3:=hr.mono (fun _ _ e=>e) yc;have hz3:=hz.mono yc;have FP:(∀m∈E5,YA m)/\E5.length<=s.ms.length:=by rw [<-FO];split;exact De hi.ms;exact ⟨hi.ms,zN _⟩
        have y7:=hi.len;clear FO h2 hr hz zD om;by_cases oU:z.level=0
        · have g1:(z.level==0)=true:=beq_iff_eq.2 oU;rw [zo oU];have cLf:=su h3 (s:= {s with wy:=s.to,nx:= .take,sub:=n9,ms:=E5}) (x:=⟨x.kb,x.hb,mv',x.ov⟩) ⟨hr3.hand,hr3.th,A0,hr3.out,hr3.fin,hr3.one⟩ hd (n:=n) ⟨FP.1,by have:=FP.2;dsimp only;omega,hi.x,hi.rest,JR,hi.lN,hi.out⟩ ze z hz3 ig;change zu _ _ _ _ (gL cb x {s with wy:=s.to,sub:=n9} (.func (.func 194) #[] #[]) mv' x.ov::xO x s::c.ob) _ at cLf;generalize Zw p {s with wy:=s.to,nx:= .take,sub:=n9,ms:=E5} z=ZV at*
          repeat' (refine nv ?_)
          refine xQ cLf ?_;rintro _ M4 _ yQ-⟨-,rfl,x',c',U3,rfl,vk,U5⟩;refine zJ ?_
          repeat' (refine nv ?_)
          have l4:=l3.trans yQ;exact ⟨_,wq cb x' ZV.2++c'.ob,zP,l4,zh,zq,l4,rfl,x',c',U3,rfl,vk,U5⟩
        · have g1:(z.level==0)=false:=beq_eq_false_iff_ne.2 oU;rw [zn oU];have Rk:=ig.kids oU;have aaw:=ig.ps.1;have CS:=ig.pn;have aee:=hc.f64;have WD:=ig.bP hc;obtain ⟨Am,cm,rfl,-⟩:=id A0;have CO:=hz3.2.2.1;obtain ⟨Az,cz,hzv,-⟩:=id CO;rw [hzv] at CO;dsimp only [yr] at oz⊢;rw [hzv]
          have cLs: ∀w1:Value,zu zf 128 [w1] M3 [.zC w1 141 1 2 [.slice Am E5.length cm, .slice Az z.ms.length cz]] (fun u M' o=>o= []/\xt M' 6 zR u (wJ [E5,z.ms])):=fun w1=>zu.agd fun M' hle hR=>((f7 w1 [⟨.slice Am E5.length cm,E5⟩,⟨.slice Az z.ms.length cz,z.ms⟩] M' (ud.YB (l:= [(⟨.slice Am E5.length cm,E5⟩:Lm),⟨.slice Az z.ms.length cz,z.ms⟩]) (fun _ _=>rfl) hR) (fun y hy=>by
           rcases jm.1 hy with rfl|hy
           · exact A0.mono hle
           · rw [jx.1 hy];exact CO.mono hle) (by show (2:Nat)<1000000;decide) (by show X8 [E5,z.ms]<=_;unfold X8;simp;have:=FP.2;omega)).le.sl (fun _ _=>rfl)).mono fun u M'' o _ h=>⟨h.2.1,h.2.2⟩
          generalize wJ [E5,z.ms]=ls at*
          repeat' (first|refine kV (x:= .region 13 _ _) (fun s'=> ∃(M4:Mem) (u:Value),M3.le M4/\xt M4 6 zR u ls/\vo s' ⟨M4, .zK (ptr b3) 143 (yr z)::gL cb x {s with wy:=s.to,sub:=n9} (.func (.func 194) #[] #[]) u x.ov::xO x s::(c.ob++F),[(0, .v (ptr x.kb)),(3, .v (ptr b3))]⟩) ?_ ?_|refine nv ?_)
          · refine zU [.v (ptr x.kb)] [7,8,11] [11] 2 yI zd zd ?_
            repeat' (refine nu ?_)
            refine Uc rfl rfl (fun w1 be=>?_) zx;refine Vu 1 ?_;refine xF (cLs w1) rfl ?_ zx;rintro u M4 _ yQ-⟨rfl,hu⟩;refine yJ ?_;have ou:=hu.yf
            repeat' (first|refine nu ?_|exact zx|refine nz ?_ ?_)
            exact ⟨rfl,M4,u,yQ,hu,by dsimp only [yr];rw [hzv];exact xZ j4⟩
          rintro s' ⟨M4,u,yQ,hu,hs⟩;refine x8 _ hs ?_;clear hs s' cLs FP y7 CO;have l4:=l3.trans yQ;have h4:=h3.mono yQ;have hr4:=hr3.mono (fun _ _ e=>e) yQ;have FG:=hz3.mono yQ;have ou:=hu.yf;have Cg:=zI FG;have cRo:=fun (W:World) (hW:M4.le (Mem.of W))=>ZR z.pv z.ps s.rest.lo W (FG.1.xS hW) ze (XP aaw)
          have cRa:=fun (i:Nat) (W:World) (hW:M4.le (Mem.of W))=>ZS z.pv z.ps (i:Int) W (FG.1.xS hW) ze
          have Tj:=X3 z.ps s.rest.lo;generalize jq z.ps s.rest.lo=ro at*;have CR:ro<z.ks.length:=ze;rw [show z.ks.getD ro 0=z.ks[ro] by simp [List.getD,CR]];have UF:=FG.2.1;obtain ⟨Ak,ck,X4,_⟩:=id UF;rw [X4] at UF;obtain ⟨ba,off,rfl,jk⟩:=UF.get CR;have ZA:=jk 0 _ rfl;have cRa:=cRa ro;have cMe:=fun W=>YM n9 (xL z.ps (ro:Nat)) W
          generalize xL z.ps (ro:Nat)=rg at*;generalize vT n9 rg=ajV at*;dsimp only [yr] at Cg⊢
          (try unfold Nd.av)
          rw [X4]
          repeat' (first|refine zU [] [] [] 1 yI zd zd ?_|refine nv ?_)
          repeat' (first|refine X0 zd (by exact Y4 (by exact zm zd cRo)) zd ?_|refine nu ?_)
          repeat' (first|refine zU [.v (ptr x.kb)] [18,21] [18] 3 yI zd zd ?_|refine nv ?_)
          repeat' (first|refine X0 zd (by exact Y4 (by first|exact zm zd cRa|exact zj ro zd zd rfl CR|exact hY zd ZA|exact zm zd (fun W _=>cMe W))) zd ?_|refine nu ?_|exact zx|refine nz ?_ ?_)
          repeat' (refine nv ?_)
          exact ⟨_,gL cb x {s with wy:=s.to,sub:=ajV,to:=z.ks[ro]} (.func (.func 194) #[] #[]) u x.ov::xO x s::c.ob,zP,l4,zh,zq,l4,rfl,⟨x.kb,x.hb,u,x.ov⟩,c,rfl,by rw [ug (by exact hd)];rfl,h4,⟨hr4.hand,hr4.th,hu,hr4.out,hr4.fin,hr4.one⟩⟩
end
section
open Go Go.RowKit
attribute [local irreducible] Calls
variable {cb sb:Nat} {b:Int} {p:jf} {H:List (Int×Nat)} {M:Mem} {c:Co}
instance:xK Value.nilFunc:=⟨rfl⟩
theorem BR (h:yO cb sb b p H M c) {th:Int} (h0:0<=th) (ht:th<1000) (x:yW) (yt yu:Int):zu zf 105 [ptr cb, .int .i64 th,x.av, .int .i64 yt, .int .i64 yu] M c.ob (fun u M' o=>M'=M/\ ∃(y:Kn) (H':List (Int×Nat)) (c':Co),u=ptr y.kb/\(∀t z,yU H t=some z->yU H' t=some z)/\o=wq cb y (Jo p th x yt yu).2++c'.ob/\yO cb sb b (Jo p th x yt yu).1 H' M c'/\uX cb H' M (Jo p th x yt yu).2 y):=by
 have cH:=dg h h0;have cN:=fun W=>ZK x W
 have Wc:(Jo p th x yt yu).2.done=false:=rfl
 rw [show (fun u M' o=>M'=M/\ ∃(y:Kn) (H':List (Int×Nat)) (c':Co),u=ptr y.kb/\(∀t z,yU H t=some z->yU H' t=some z)/\o=wq cb y (Jo p th x yt yu).2++c'.ob/\yO cb sb b (Jo p th x yt yu).1 H' M c'/\uX cb H' M (Jo p th x yt yu).2 y)=(fun u M' o=>M'=M/\ ∃(y:Kn) (H':List (Int×Nat)) (c':Co),u=ptr y.kb/\(∀t z,yU H t=some z->yU H' t=some z)/\o=kR cb y (Jo p th x yt yu).2::xO y (Jo p th x yt yu).2::c'.ob/\yO cb sb b (Jo p th x yt yu).1 H' M c'/\uX cb H' M (Jo p th x yt yu).2 y) from by
  funext u M' o;refine propext ⟨fun ⟨e,y,H',c',h1,h2,h3,h4⟩=>⟨e,y,H',c',h1,h2,?_,h4⟩,fun ⟨e,y,H',c',h1,h2,h3,h4⟩=>⟨e,y,H',c',h1,h2,?_,h4⟩⟩
  · rw [ug Wc] at h3;exact h3
  · rw [ug Wc];exact h3]
 unfold Jo;refine xy Tryz.func105 rfl Tryz.ntmps105 zd (fun F w M0 hF=>zz ?_);refine uU 54 2 ?_
 repeat' (first|refine yZ zd zh fun bx=>?_|refine nv ?_)
 refine xQ cH ?_;rintro _ M2 _- -⟨hM,hb,H',c',rfl,hl,hH,rfl,vk⟩;subst hM;refine zJ ?_
 repeat' (first|refine yZ zd zh fun kb=>?_|((apply zA);(exact zm zd (fun W _=>cN W));rfl)|refine nv ?_)
 change VL _ _ _ _ _ _ ⟨M2,gL cb ⟨kb,hb, .slice none 0 0, .slice none 0 0⟩ ⟨th,Kj x,EA,EA,yt,yu,0,false,decide (yu<0), .top,0,0,[],[],false,false⟩ .nilFunc (.slice none 0 0) (.slice none 0 0)::(c'.ob++ .zK (ptr bx) 118 [.string x.lo, .string x.hi, .bool x.vx]:: .zC (.slice none 0 0) 54 2 0 []::F),_⟩ _;have cB:=Kf vk (s:=⟨th,Kj x,EA,EA,yt,yu,0,false,decide (yu<0), .top,0,0,[],[],false,false⟩) (x:=⟨kb,hb, .slice none 0 0, .slice none 0 0⟩) ⟨hl,ht,xt.nil _ _ _,fun _=> .inl ⟨rfl,rfl⟩,fun e=>(nomatch e),⟨rfl⟩⟩ rfl .nilFunc;change zu _ _ _ _ (gL cb ⟨kb,hb, .slice none 0 0, .slice none 0 0⟩ ⟨th,Kj x,EA,EA,yt,yu,0,false,decide (yu<0), .top,0,0,[],[],false,false⟩ .nilFunc (.slice none 0 0) (.slice none 0 0):: .zC (.slice none 0 0) 54 2 0 []::c'.ob) _ at cB;generalize Zj p ⟨th,Kj x,EA,EA,yt,yu,0,false,decide (yu<0), .top,0,0,[],[],false,false⟩=ZV at*
 skip
 refine xQ cB ?_;rintro _ M3 _- -⟨hM,x',c2,U3,rfl,qD,Ul⟩;subst hM;refine zJ ?_;obtain rfl:x'.kb=kb:=U3
 repeat' (refine nv ?_)
 exact ⟨_,kR cb x' ZV.2::xO x' ZV.2::c2.ob,zP,zE,zh,zq,rfl,x',H',c2,rfl,hH,rfl,qD,Ul⟩
theorem sx (h:yO cb sb b p H M c) (hb:b<=1000000000) {s:qM} {x:Kn} (hr:uX cb H M s x) {n:Nat} (hi:kN n s) (hn:n<=80000) (hl: -1000000000000<=s.left/\s.left<=1000000000000):zu zf 293 [ptr x.kb] M (wq cb x s++c.ob) (fun u M' o=>M.le M'/\u= .bool (jF p s).2.2/\ ∃(x':Kn) (c':Co),x'.kb=x.kb/\o=wq cb x' (jF p s).2.1++c'.ob/\yO cb sb b (jF p s).1 H M' c'/\uX cb H M' (jF p s).2.1 x'):=by
 have om:=hr.ms.yf;have oo:=hr.one;unfold jF;rcases XK s.done with hd|hd
 · rw [zo hd,K1 hd];refine xy Tryz.func293 rfl Tryz.ntmps293 zd (fun F w M0 hF=>zz ?_)
   repeat' (refine nv ?_)
   exact ⟨_,[kR cb x s]++c.ob,zP,zE,zh,zq,zE,rfl,x,c,rfl,by rw [K1 hd],h,hr⟩
 · rw [zn (by rw [hd];simp),ug hd];have iv:uX cb H M {s with yd:=false} x:=⟨hr.hand,hr.th,hr.ms,hr.out,hr.fin,hr.one⟩;have WE:kN n {s with yd:=false}:=⟨hi.ms,hi.len,hi.x,hi.rest,hi.sub,hi.lN,hi.out⟩;have oU: -1000000000000<=({s with yd:=false}:qM).left/\({s with yd:=false}:qM).left<=1000000000000:=hl;have Xo:({s with yd:=false}:qM).done=false:=hd;have enx:s.nx=({s with yd:=false}:qM).nx:=rfl
   have key: ∀(f:FuncId) (r:Bool) (ZV:jf×qM) [zG zf f],Fx s.nx= .func (.func f) #[] #[]->zu zf f [ptr x.kb] M (kR cb x {s with yd:=false}::xO x {s with yd:=false}::c.ob) (fun u M' o=>M.le M'/\u= .bool r/\ ∃(x':Kn) (c':Co),x'.kb=x.kb/\o=wq cb x' ZV.2++c'.ob/\yO cb sb b ZV.1 H M' c'/\uX cb H M' ZV.2 x')->
    zu zf 293 [ptr x.kb] M ([kR cb x s,xO x s]++c.ob) (fun u M' o=>M.le M'/\u= .bool r/\ ∃(x':Kn) (c':Co),x'.kb=x.kb/\o=wq cb x' ZV.2++c'.ob/\yO cb sb b ZV.1 H M' c'/\uX cb H M' ZV.2 x'):=by
    intro f r ZV _ Oq cL;dsimp only [kR] at cL⊢;rw [Oq] at cL⊢;refine xy Tryz.func293 rfl Tryz.ntmps293 zd (fun F w M0 hF=>zz ?_)
    repeat' (refine nv ?_)
    refine kcv cL zd ?_;rintro _ M2 _ zD-⟨-,rfl,x',c',U3,rfl,vk,D9⟩;refine zJ ?_
    repeat' (refine nv ?_)
    exact ⟨_,wq cb x' ZV.2++c'.ob,zP,zD,zh,zq,zD,rfl,x',c',U3,rfl,vk,D9⟩
   rw [enx] at key;generalize ({s with yd:=false}:qM)=s0 at*;unfold Fw;cases WB:s0.nx
   all_goals dsimp only
   case top=>
    have Wc:(Jn p s0).2.1.done=false:=by unfold Jn;split<;>exact Xo
    have c0:=BQ h iv Xo;refine key _ _ ((Jn p s0).1,(Jn p s0).2.1) (by rw [WB];rfl) (c0.mono ?_);rintro u M' o hle ⟨e,rfl,x',c',U3,rfl,vk,U5⟩;subst e;exact ⟨zE,rfl,x',c',U3,by rw [ug Wc];rfl,vk,U5⟩
   case take=>
    have Wc:(Zu p s0).2.1.done=false:=by unfold Zu;split<;>exact Xo
    have c0:=sr h iv Xo;refine key _ _ ((Zu p s0).1,(Zu p s0).2.1) (by rw [WB];rfl) (c0.mono ?_);rintro u M' o hle ⟨e,rfl,c',rfl,vk,U5⟩;subst e;exact ⟨zE,rfl,x,c',rfl,by rw [ug Wc];rfl,vk,U5⟩
   case look=>
    exact key _ true (Zv p s0) (by rw [WB];rfl) (ss h hb iv Xo WE hn oU)
   case last=>
    have Wc:(Zx p s0).2.1.done=false:=by unfold Zx;split<;>exact Xo
    have c0:=sw h iv Xo;refine key _ _ ((Zx p s0).1,(Zx p s0).2.1) (by rw [WB];rfl) (c0.mono ?_);rintro u M' o hle ⟨e,rfl,c',rfl,vk,U5⟩;subst e;exact ⟨zE,rfl,x,c',rfl,by rw [ug Wc];rfl,vk,U5⟩
   case check=>
    exact key _ true (vJ p s0) (by rw [WB];rfl) (oD h iv Xo oU)
theorem aao (x:Kn) (s:qM): ∃G,uu (wq cb x s) [kR cb x s] G:=by
 unfold wq;split
 · exact ⟨[],⟨.refl _⟩⟩
 · exact ⟨[xO x s],⟨.refl _⟩⟩
theorem Ic {f:FuncId} {vs:List Value} {v:Value} {x:Kn} {s:qM} (h:zu zf f vs M [kR cb x s] (fun u M' o=>u=v/\M'=M/\o= [kR cb x s])):zu zf f vs M (wq cb x s) (fun u M' o=>u=v/\M'=M/\o=wq cb x s):=by
 obtain ⟨G,ht⟩:=aao (cb:=cb) x s;refine h.wide ht zh ?_;rintro u M' o-⟨rfl,rfl,rfl⟩;exact ⟨wq cb x s,ji.perm ht.h.symm,zh,rfl,rfl,rfl⟩
theorem bH (x:Kn) (s:qM) [xK x.mv] [xK x.ov]:zu zf 291 [ptr x.kb] M (wq cb x s) (fun u M' o=>u= .bool s.done/\M'=M/\o=wq cb x s):=by
 refine Ic ?_;refine xy Tryz.func291 rfl Tryz.ntmps291 zd (fun F w M0 hF=>zz ?_)
 repeat' (refine nv ?_)
 exact ⟨_,[kR cb x s],zP,zE,zh,zq,rfl,rfl,rfl⟩
theorem oE (x:Kn) (s:qM) [xK x.mv] [xK x.ov]:zu zf 292 [ptr x.kb] M (wq cb x s) (fun u M' o=>u= .bool s.yd/\M'=M/\o=wq cb x s):=by
 refine Ic ?_;refine xy Tryz.func292 rfl Tryz.ntmps292 zd (fun F w M0 hF=>zz ?_)
 repeat' (refine nv ?_)
 exact ⟨_,[kR cb x s],zP,zE,zh,zq,rfl,rfl,rfl⟩
end
section
open Go Go.RowKit
attribute [local irreducible] Calls
variable {cb:Nat} {M:Mem}
theorem iZ (x:Kn) (s:qM) [xK x.mv] (hd:s.done=true) (hs:xt M 2 zi x.ov s.out) (hn:s.out.length<=1000000000):zu zf 290 [ptr x.kb] M (wq cb x s) (fun u M' o=>M.le M'/\ ∃w,u= .agg #[.int .i64 0, .bool false, .string em,w]/\xt M' 2 zi w s.out/\o=wq cb x s):=by
 have oo:=hs.yf;have cD:=bH (cb:=cb) (M:=M) x s;have cC:=zu.iq fun W hW=>jU _ s.out W (hs.xS hW) ze
 rw [hd] at cD;rw [K1 hd] at cD⊢;refine KC Tryz.func290 rfl Tryz.ntmps290 zd (fun F w M0 hF=>zz ?_)
 repeat' (first|refine yh (dst:=some 2) zh fun b2=>?_|refine uK cD ?_|refine pW cC fun r hr=>?_|refine nv ?_)
 have or:=hr.yf;refine Yu (zh:uw _ (.zC r 54 2 s.out.length (s.out.flatMap zi)) _) fun M2 zD JP=>?_
 have gd:xt M2 2 zi r s.out:=JP.YB (fun _ _=>rfl)
 repeat' (refine nv ?_)
 exact ⟨_,[kR cb x s],kB.one rfl (RV.agg zd),zD,zh,zq,zD,r,rfl,gd,rfl⟩
theorem kN.mono {n m:Nat} {s:qM} (h:kN n s) (hn:n<=m):kN m s:=⟨h.ms,by have:=h.len;have:=Nat.mul_le_mul_left 1024 hn;omega,h.x,h.rest,h.sub,h.lN,h.out⟩
theorem aa0 {n:Nat} {s:yW} {k:ByteArray} (h:jB n s) (hk:k.size<=n):jB n (Qb s k):=by
 unfold Qb;exact QL h ⟨hk,zW _⟩
theorem L4 (l:List y6) (s:yW) (ms:List xi) (k:ByteArray) (left:Int) {n:Nat} (hs:jB n s) (hk:k.size<=n):(ww l s ms k left).2.1.size<=n:=by
 unfold ww;split
 · exact hk
 · dsimp only;split
   · exact zW _
   · exact hs.2
theorem rE {p:jf} {s:qM} {n:Nat} (h:kN n s):kN n (Zj p s).2:=⟨h.ms,h.len,h.x,h.x,h.sub,h.lN,by show ((0:Nat):Int)<=s.yt;have:=h.lN;omega⟩
theorem rF {p:jf} {s:qM} {n:Nat} (h:kN n s):kN n (uH p s).2:=rE (p:=p) (s:= {s with fixed:=s.fixed||decide (s.left<=0),left:=s.left-1}) ⟨h.ms,h.len,h.x,h.rest,h.sub,h.lN,h.out⟩
theorem IA {p:jf} {s:qM} {n:Nat} (h:kN n s):kN n (U2 p s).2:=⟨h.ms,h.len,h.x,h.rest,h.sub,h.lN,h.out⟩
theorem PL {p:jf} {s:qM} {z:Nd} {n:Nat} (h:kN n s):kN n (Zw p s z).2:=by
 have FM:=lh z.rs s.sub s.ms s.rest.lo (s.yt-s.out.length) (by have:=h.out;omega);have hpo:=L4 z.rs s.sub s.ms s.rest.lo (s.yt-s.out.length) h.sub h.rest.1;have h1: ∀nx,kN n {s with out:=s.out++(ww z.rs s.sub s.ms s.rest.lo (s.yt-s.out.length)).1,rest:=Qb s.rest (ww z.rs s.sub s.ms s.rest.lo (s.yt-s.out.length)).2.1,nx:=nx}:=fun nx=>⟨h.ms,h.len,h.x,aa0 h.rest hpo,h.sub,h.lN,by show (((s.out++_).length:Nat):Int)<=s.yt;rw [yK];omega⟩
 unfold Zw;dsimp only;split
 · split
   · exact IA (h1 s.nx)
   · exact h1 .top
 · exact ⟨(h1 .top).ms,(h1 .top).len,(h1 .top).x,(h1 .top).rest,(h1 .top).sub,(h1 .top).lN,(h1 .top).out⟩
theorem PX {p:jf} {s:qM} {b:Int} {z:Nd} {n:Nat} (hc:uk p.q.c) (iz:yB p.q.c b z) (h:kN n s):kN (n+1) (ai p s z).2:=by
 have JR:jB 90 (vT s.sub (Jc z)):=QL h.sub (BL iz.high)
 have WC:(∀m∈(if s.fixed=true then Jv s.ms (vT s.sub (Jc z)) z.seen else s.ms),YA m)/\(if s.fixed=true then Jv s.ms (vT s.sub (Jc z)) z.seen else s.ms).length<=s.ms.length:=by
  split
  · exact De h.ms
  · exact ⟨h.ms,zN _⟩
 have hl:=h.len;have WD:=iz.bP hc;unfold ai;dsimp only;split
 · exact kN.mono (n:=n) ⟨h.ms,h.len,h.x,h.rest,h.sub,h.lN,h.out⟩ ze
 · split
   · refine kN.mono (n:=n) (PL ?_) ze;exact ⟨WC.1,jZ WC.2 hl,h.x,h.rest,JR,h.lN,h.out⟩
   · exact ⟨PJ WC.1 fun m hm=>(iz.ms m hm).t,by
      show (wJ _).length<=_;have:=Fh (if s.fixed=true then Jv s.ms (vT s.sub (Jc z)) z.seen else s.ms) z.ms;have:=WC.2;omega,h.x,h.rest,QL JR ⟨by have:=(Jh (n:=16) iz.ps.2 (jq z.ps s.rest.lo:Nat)).1;omega,by have:=(Jh (n:=16) iz.ps.2 (jq z.ps s.rest.lo:Nat)).2;omega⟩,h.lN,h.out⟩
theorem lS {p:jf} {s:qM} {b:Int} {n:Nat} (hq:Yz b p.q) (h:kN n s):kN (n+1) (jF p s).2.1:=by
 have h0:kN n {s with yd:=false}:=⟨h.ms,h.len,h.x,h.rest,h.sub,h.lN,h.out⟩;unfold jF;split
 · exact h.mono ze
 · generalize ({s with yd:=false}:qM)=s0 at*;unfold Fw;split
   · unfold Jn;split
     · exact ⟨fun m hm=>(nomatch hm),zW _,h0.x,h0.rest,h0.rest,h0.lN,h0.out⟩
     · exact h0.mono ze
   · unfold Zu;split
     · exact kN.mono (n:=n) ⟨h0.ms,h0.len,h0.x,h0.rest,h0.sub,h0.lN,h0.out⟩ ze
     · exact h0.mono ze
   · show kN (n+1) (Zv p s0).2;unfold Zv;split
     · split
       · exact (rF (h0.meets _)).mono ze
       · exact PX hq.c (hq.get 0) (h0.meets _)
     · exact PX hq.c (hq.get s0.to) h0
   · unfold Zx;split
     · exact kN.mono (n:=n) ⟨h0.ms,h0.len,h0.x,h0.rest,h0.sub,h0.lN,h0.out⟩ ze
     · exact h0.mono ze
   · show kN (n+1) (vJ p s0).2;unfold vJ;split
     · exact (rF (h0.meets _)).mono ze
     · exact (IA (h0.meets _)).mono ze
theorem QM (s:qM) (v:Int):(xb s v).left=s.left:=by unfold xb;split<;>rfl
theorem CI {p:jf} {s:qM}:s.left-1<=(jF p s).2.1.left/\(jF p s).2.1.left<=s.left:=by
 have hb: ∀(q:jf) (t:qM),(Zj q t).2.left=t.left:=fun _ _=>rfl
 have ha: ∀(q:jf) (t:qM),(uH q t).2.left=t.left-1:=fun _ _=>rfl
 have hl: ∀(q:jf) (t:qM) (z:Nd),(Zw q t z).2.left=t.left:=fun q t z=>by
  unfold Zw;dsimp only;split
  · split<;>rfl
  · rfl
 have hi: ∀(q:jf) (t:qM) (z:Nd),(ai q t z).2.left=t.left:=fun q t z=>by
  unfold ai;dsimp only;split
  · rfl
  · split
    · exact hl _ _ _
    · rfl
 unfold jF;split
 · exact ⟨by dsimp only;omega,k9 _⟩
 · rw [show s.left=({s with yd:=false}:qM).left from rfl];generalize ({s with yd:=false}:qM)=s0;unfold Fw;split
   · unfold Jn;split<;>(dsimp only;omega)
   · unfold Zu;split<;>(dsimp only;omega)
   · show s0.left-1<=(Zv p s0).2.left/\(Zv p s0).2.left<=s0.left;unfold Zv;split
     · split
       · rw [ha,QM];omega
       · rw [hi,QM];omega
     · rw [hi];omega
   · unfold Zx;split<;>(dsimp only;omega)
   · show s0.left-1<=(vJ p s0).2.left/\(vJ p s0).2.left<=s0.left;unfold vJ;split
     · rw [ha,QM];omega
     · show s0.left-1<=(xb s0 _).left/\(xb s0 _).left<=s0.left;rw [QM];omega
end
end Go.Proofs.YtaibdpjjojihmaaGreat
