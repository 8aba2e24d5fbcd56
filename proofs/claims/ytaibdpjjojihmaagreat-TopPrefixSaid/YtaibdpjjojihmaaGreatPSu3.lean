/- A part of the proof of TopPrefix; no conditions. -/
import Derived.Test.YtaibdpjjojihmaaGreatPSu5
set_option linter.unusedVariables false
set_option linter.unusedSimpArgs false
set_option maxRecDepth 20000
set_option maxHeartbeats 4000000
namespace Go.Proofs.YtaibdpjjojihmaaGreat
section
open Go Go.RowKit
attribute [local irreducible] Calls
theorem CM {sb:Nat} {b:Int} {q:kY} {M:Mem} {s:qC} (h:qe sb b q M s) (hb:b<=999999999) (o:Op) (ho:o.key.size<=1000000):
 zu zf 197 [ptr sb,o.av] M s.ob (fun r M' o'=>M.le M'/\o'=s.ob/\ ∃z:Nd,r= .tuple #[z.av, .int .i64 (Xc q o).2]/\z.Ok M'/\bare z=(Xc q o).1):=by
 have cN:=uI h 0;have WE:=h.inv.get 0;have hc:=h.inv.c;have o0:=zI (vI M);have Tf:=pp h.inv o;unfold Xc at*;cases hh:q.has 0 with
 |false=>
  rw [hh] at cN;rw [zo rfl];refine KC eP rfl eU zd (fun F w M0 hF=>zz ?_)
  repeat' (first|refine yZ zd zh fun bx=>?_|refine yh (dst:=some 4) zh fun b4=>?_|refine nv ?_)
  refine xQ cN ?_;rintro _ M2 _ zD-⟨-,rfl,z,rfl,hz,jL⟩;refine zJ ?_;have oz:=zI hz
  repeat' (first|refine yh (dst:=some 6) zh fun b6=>?_|refine nv ?_)
  exact ⟨_,s.ob,kB.two rfl (RV.agg zd) (RV.tmp zd),zD,zh,zq,zD,rfl,z,rfl,hz,jL⟩
 |true=>
  rw [hh] at cN Tf;rw [zn yx] at*;have cM:=fun M':Mem=>E3 o ((q.get 0).seen+1) M' ho
  have MI:=WE.LC;have Ik:=WE.EB;cases hm:Jl o ((q.get 0).seen+1) with
  |none=>
   simp only [hm] at cM⊢;refine KC eP rfl eU zd (fun F w M0 hF=>zz ?_)
   repeat' (first|refine yZ zd zh fun bx=>?_|refine yh (dst:=some 4) zh fun b4=>?_|refine nv ?_)
   refine xQ cN ?_;rintro _ M2 _ zD-⟨-,rfl,z,rfl,hz,jL⟩;refine zJ ?_;have oz:=zI hz;have Ij:z.seen=(q.get 0).seen:=by rw [<-jL];rfl
   rw [<-Ij] at MI Ik;simp only [<-Ij] at cM;have IF:=cM M2;dsimp only [Option.getD,Option.isSome] at IF
   repeat' (first|refine yh (dst:=some 6) zh fun b6=>?_|refine yh (dst:=some 8) zh fun b8=>?_|refine uK IF ?_|refine nv ?_)
   exact ⟨_,s.ob,kB.two rfl (RV.agg zd) (RV.tmp zd),zD,zh,zq,zD,rfl,z,rfl,hz,jL⟩
  |some m=>
   simp only [hm] at cM Tf⊢;obtain ⟨FP,apP⟩:=bR (b:=b+1) hm ze;by_cases hl:(q.get 0).level=0
   · rw [zo hl] at Tf⊢;cases hf:w6 (q.get 0).rs m q.c.leaf with
     |true=>
      rw [zo rfl];refine KC eP rfl eU zd (fun F w M0 hF=>zz ?_)
      repeat' (first|refine yZ zd zh fun bx=>?_|refine yh (dst:=some 4) zh fun b4=>?_|refine nv ?_)
      refine xQ cN ?_;rintro _ M2 _ zD-⟨-,rfl,z,rfl,hz,jL⟩;refine zJ ?_;have oz:=zI hz;have Ch:=hz.1.yf;have T8:=hz.2.1.yf;have HU:=hz.2.2.1.yf;have Cg:=hz.2.2.2.yf;have Ij:z.seen=(q.get 0).seen:=by rw [<-jL];rfl
      have K3:z.level=0:=by rw [<-hl,<-jL];rfl
      have FE:z.rs=(q.get 0).rs:=by rw [<-jL];rfl
      have g1:(z.level==0)=true:=by rw [K3];rfl
      rw [<-Ij] at MI Ik;simp only [<-Ij] at cM;have IF:=cM M2;dsimp only [Option.getD,Option.isSome] at IF;have cC:=Zp (h.mono zD);have hrn:=WE.rn;have Ri:=hc.l64;have cT:=lO z.rv z.rs m q.c.leaf M2 hz.2.2.2 (by rw [FE];exact WE.rows.ok ze) FP.t.ok (by rw [FE];exact hf)
      repeat' (first|refine yh (dst:=some 6) zh fun b6=>?_|refine yh (dst:=some 8) zh fun b8=>?_|refine uK IF ?_|refine zU [.v (ptr b6)] [4,5,6,7,8,9,11,12] [11] 8 yI zd zd ?_|refine nv ?_)
      repeat' (first|refine YG cC rfl ?_ zx|refine nu ?_|exact zx|refine nz ?_ ?_)
      refine xF cT rfl ?_ zx;rintro _ M3 _ yc-⟨-,rfl,u,rfl,hu⟩;refine yJ ?_;have ou:=hu.yf;have hle:=zD.trans yc
      repeat' (first|refine nu ?_|exact zx|refine nz ?_ ?_)
      all_goals
       repeat' (refine nv ?_)
       exact ⟨_,s.ob,kB.two rfl (RV.agg zd) (RV.tmp zd),hle,zh,zq,hle,rfl,⟨z.slot,z.level,z.pv,z.ps,z.kv,z.ks,z.high,z.top,z.right,m.xD,z.mv,z.ms,u,XF z.rs m⟩,rfl,⟨hz.1.mono yc,hz.2.1.mono yc,hz.2.2.1.mono yc,hu⟩,by rw [<-FE,<-jL];rfl⟩
     |false=>
      rw [zn yx];refine KC eP rfl eU zd (fun F w M0 hF=>zz ?_)
      repeat' (first|refine yZ zd zh fun bx=>?_|refine yh (dst:=some 4) zh fun b4=>?_|refine nv ?_)
      refine xQ cN ?_;rintro _ M2 _ zD-⟨-,rfl,z,rfl,hz,jL⟩;refine zJ ?_;have oz:=zI hz;have Ch:=hz.1.yf;have T8:=hz.2.1.yf;have HU:=hz.2.2.1.yf;have Ij:z.seen=(q.get 0).seen:=by rw [<-jL];rfl
      have K3:z.level=0:=by rw [<-hl,<-jL];rfl
      have FE:z.rs=(q.get 0).rs:=by rw [<-jL];rfl
      have g1:(z.level==0)=true:=by rw [K3];rfl
      rw [<-Ij] at MI Ik;simp only [<-Ij] at cM;have IF:=cM M2;dsimp only [Option.getD,Option.isSome] at IF;have cC:=Zp (h.mono zD);have hrn:=WE.rn;have Ri:=hc.l64;have cT:=lP z.rv z.rs m q.c.leaf M2 hz.2.2.2 (by rw [FE];exact WE.rows.ok ze) FP.t.ok (by rw [FE];exact hf)
      repeat' (first|refine yh (dst:=some 6) zh fun b6=>?_|refine yh (dst:=some 8) zh fun b8=>?_|refine uK IF ?_|refine zU [.v (ptr b6)] [4,5,6,7,8,9,11,12] [11] 8 yI zd zd ?_|refine nv ?_)
      repeat' (first|refine YG cC rfl ?_ zx|refine YG cT rfl ?_ zx|refine nu ?_|exact zx|refine nz ?_ ?_)
      all_goals
       repeat' (refine nv ?_)
       exact ⟨_,s.ob,kB.two rfl (RV.agg zd) (RV.tmp zd),zD,zh,zq,zD,rfl,⟨z.slot,z.level,z.pv,z.ps,z.kv,z.ks,z.high,z.top,z.right,z.seen,z.mv,z.ms,qY,[]⟩,rfl,⟨hz.1,hz.2.1,hz.2.2.1,xt.nil _ _ _⟩,by rw [<-jL];rfl⟩
   · rw [zn hl] at Tf⊢;have hmz:=WE.bP hc;have aqw:=hc.b36;have aqv:=hc.RY;have cA:=fun (M':Mem) (v:Value) (hv:xt M' 6 zR v (q.get 0).ms)=>zu.ofM (M:=M') fun W hW=>mR v (q.get 0).ms m q.c.yV W M' hW hv (fun x hx=>by have:=(WE.ms x hx).key;have:=(WE.ms x hx).hi;have:=(WE.ms x hx).val;omega) ze (by have:=FP.key;omega) (by have:=FP.val;omega) ze ⟨ze,ze⟩
     cases hf:XI (q.get 0).ms m q.c.yV with
     |true=>
      rw [zo rfl];simp only [hf] at cA;refine KC eP rfl eU zd (fun F w M0 hF=>zz ?_)
      repeat' (first|refine yZ zd zh fun bx=>?_|refine yh (dst:=some 4) zh fun b4=>?_|refine nv ?_)
      refine xQ cN ?_;rintro _ M2 _ zD-⟨-,rfl,z,rfl,hz,jL⟩;refine zJ ?_;have oz:=zI hz;have Ch:=hz.1.yf;have T8:=hz.2.1.yf;have HU:=hz.2.2.1.yf;have Cg:=hz.2.2.2.yf;have Ij:z.seen=(q.get 0).seen:=by rw [<-jL];rfl
      have K3:z.level=(q.get 0).level:=by rw [<-jL];rfl
      have CO:z.ms=(q.get 0).ms:=by rw [<-jL];rfl
      have g1:(z.level==0)=false:=by rw [K3];exact beq_eq_false_iff_ne.2 hl
      rw [<-Ij] at MI Ik;simp only [<-Ij] at cM;have IF:=cM M2;dsimp only [Option.getD,Option.isSome] at IF;have cC:=Zp (h.mono zD);have cA2:=cA M2 z.mv (CO▸hz.2.2.1)
      repeat' (first|refine yh (dst:=some 6) zh fun b6=>?_|refine yh (dst:=some 8) zh fun b8=>?_|refine uK IF ?_|refine zU [.v (ptr b6)] [4,5,6,7,8,9,11,12] [11] 8 yI zd zd ?_|refine nv ?_)
      repeat' (first|refine YG cC rfl ?_ zx|refine nu ?_|exact zx|refine nz ?_ ?_)
      refine xF cA2 rfl ?_ zx;rintro _ M3 _ yc-⟨rfl,u,rfl,hu⟩;refine yJ ?_;have ou:=hu.yf;have hle:=zD.trans yc
      repeat' (first|refine nu ?_|exact zx|refine nz ?_ ?_)
      all_goals
       repeat' (refine nv ?_)
       exact ⟨_,s.ob,kB.two rfl (RV.agg zd) (RV.tmp zd),hle,zh,zq,hle,rfl,⟨z.slot,z.level,z.pv,z.ps,z.kv,z.ks,z.high,z.top,z.right,m.xD,u,(q.get 0).ms++ [m],z.rv,z.rs⟩,rfl,⟨hz.1.mono yc,hz.2.1.mono yc,hu,hz.2.2.2.mono yc⟩,by rw [<-CO,<-jL];rfl⟩
     |false=>
      rw [zn yx];simp only [hf] at cA;refine KC eP rfl eU zd (fun F w M0 hF=>zz ?_)
      repeat' (first|refine yZ zd zh fun bx=>?_|refine yh (dst:=some 4) zh fun b4=>?_|refine nv ?_)
      refine xQ cN ?_;rintro _ M2 _ zD-⟨-,rfl,z,rfl,hz,jL⟩;refine zJ ?_;have oz:=zI hz;have Ch:=hz.1.yf;have T8:=hz.2.1.yf;have HU:=hz.2.2.1.yf;have Cg:=hz.2.2.2.yf;have Ij:z.seen=(q.get 0).seen:=by rw [<-jL];rfl
      have K3:z.level=(q.get 0).level:=by rw [<-jL];rfl
      have CO:z.ms=(q.get 0).ms:=by rw [<-jL];rfl
      have g1:(z.level==0)=false:=by rw [K3];exact beq_eq_false_iff_ne.2 hl
      rw [<-Ij] at MI Ik;simp only [<-Ij] at cM;have IF:=cM M2;dsimp only [Option.getD,Option.isSome] at IF;have cC:=Zp (h.mono zD);have cA2:=cA M2 z.mv (CO▸hz.2.2.1)
      repeat' (first|refine yh (dst:=some 6) zh fun b6=>?_|refine yh (dst:=some 8) zh fun b8=>?_|refine uK IF ?_|refine zU [.v (ptr b6)] [4,5,6,7,8,9,11,12] [11] 8 yI zd zd ?_|refine nv ?_)
      repeat' (first|refine YG cC rfl ?_ zx|refine nu ?_|exact zx|refine nz ?_ ?_)
      refine xF cA2 rfl ?_ zx;rintro _ M3 _ yc-⟨rfl,u,rfl,hu⟩;refine yJ ?_;have ou:=hu.yf;have hle:=zD.trans yc
      repeat' (first|refine nu ?_|exact zx|refine nz ?_ ?_)
      all_goals
       repeat' (refine nv ?_)
       exact ⟨_,s.ob,kB.two rfl (RV.agg zd) (RV.tmp zd),hle,zh,zq,hle,rfl,⟨z.slot,z.level,z.pv,z.ps,z.kv,z.ks,z.high,z.top,z.right,z.seen,u,[],z.rv,z.rs⟩,rfl,⟨hz.1.mono yc,hz.2.1.mono yc,hu,hz.2.2.2.mono yc⟩,by rw [<-jL];rfl⟩
end
section
open Go Go.RowKit
attribute [local irreducible] Calls
def J4 (s:kY) (o:Op):Int:=if (Xc s o).2=0 then (if s.has (Xc s o).1.slot=true then 0 else 8) else (Xc s o).2
def If (s:kY) (o:Op):Int:=if (Xc s o).2=0 then (Xc s o).1.seen else 0
theorem qe.up {sb:Nat} {b b':Int} {q:kY} {M:Mem} {s:qC} (h:qe sb b q M s) (hb:b<=b'):qe sb b' q M s:=⟨h.sb,h.ok,h.inv.mono hb,h.pure⟩
theorem oP {sb:Nat} {b:Int} {q:kY} {M:Mem} {s:qC} (h:qe sb b q M s) (hb:b<=999999999) (o:Op) (ho:o.key.size<=1000000):
 zu zf 163 [ptr sb,o.av] M s.ob (fun r M' o'=>M.le M'/\r= .tuple #[.int .i64 (If q o), .int .i64 (J4 q o)]/\ ∃s':qC,o'=s'.ob/\qe sb (b+1) (QO q o).1 M' s'):=by
 have cW:=CM h hb o ho;have h1:=h.up (show b<=b+1 by omega);have Tf:=pp h.inv o;unfold If J4 QO;by_cases h0:(Xc q o).2=0
 · rw [zo h0,zo h0,zo h0];rw [h0] at cW;have Tf:=Tf h0;generalize (Xc q o).1=n at*;refine xy Tryz.func163 rfl Tryz.ntmps163 zd (fun F w M0 hF=>zz ?_)
   repeat' (first|refine yZ zd zh fun bx=>?_|refine nv ?_)
   refine xQ cW ?_;rintro _ M2 _ zD-⟨-,rfl,z,rfl,hz,jL⟩;refine zJ ?_;have oz:=zI hz;have cS:=XO (h1.mono zD) ze z hz (yB.xW (jL▸Tf));rw [jL] at cS
   repeat' (first|refine yh (dst:=some 6) zh fun b6=>?_|refine zU [.l s.ob] [4,6] [4] 1 yI zd zd ?_|refine nv ?_)
   repeat' (refine nu ?_)
   refine xF cS rfl ?_ zx;rintro _ M3 _ yc-⟨-,rfl,s',rfl,P6⟩;refine yJ ?_;have hle:=zD.trans yc
   repeat' (first|refine nu ?_|exact zx|refine nz ?_ ?_)
   all_goals
    repeat' (refine nv ?_)
    exact ⟨_,s'.ob,kH,hle,zh,zq,hle,by rw [<-jL];rfl,s',rfl,P6⟩
 · rw [zn h0,zn h0,zn h0];have g1:((Xc q o).2 !=0)=true:=bne_iff_ne.2 h0;refine xy Tryz.func163 rfl Tryz.ntmps163 zd (fun F w M0 hF=>zz ?_)
   repeat' (first|refine yZ zd zh fun bx=>?_|refine nv ?_)
   refine xQ cW ?_;rintro _ M2 _ zD-⟨-,rfl,z,rfl,hz,jL⟩;refine zJ ?_;have oz:=zI hz
   repeat' (first|refine yh (dst:=some 6) zh fun b6=>?_|refine nv ?_)
   exact ⟨_,s.ob,kH,zD,zh,zq,zD,rfl,s,rfl,h1.mono zD⟩
theorem gr {n:Nd} {x:Int} (y:Int) (h:kK n x=none):kK n y=none:=by
 unfold kK at h⊢;rw [Option.map_eq_none_iff] at h⊢;exact h
theorem pT {n:Nd} {x y:Int} (x' y':Int) (h:J2 n x y=none):J2 n x' y'=none:=by
 unfold J2 at h⊢;rw [Option.map_eq_none_iff] at h⊢;exact gr y' h
def KZ (s:kY):Int:=
 if s.has 0=false then 1 else
 match J2 (s.get 0) (s.next:Nat) ((s.tk (s.get 0)).next:Nat) with
 |none=>6
 |some (_,_,b)=>if s.fr.length<2 then 4 else if ((s.tk (s.get 0)).tk (s.get 0)).has b.slot=true then 0 else 8
theorem p9 {sb:Nat} {b:Int} {q:kY} {M:Mem} {s:qC} (h:qe sb b q M s) (hb:b<=999999999):
 zu zf 134 [ptr sb] M s.ob (fun r M' o'=>M.le M'/\r= .int .i64 (KZ q)/\ ∃s':qC,o'=s'.ob/\qe sb (b+1) (U1 q).1 M' s'):=by
 have cN:=uI h 0;have WE:=h.inv.get 0;have hc:=h.inv.c;have h1:=h.up (show b<=b+1 by omega);have o0:=zI (vI M);unfold KZ U1;cases hh:q.has 0 with
 |false=>
  rw [hh] at cN;rw [zo rfl,zo rfl];refine xy Tryz.func134 rfl t9 zd (fun F w M0 hF=>zz ?_)
  repeat' (refine nv ?_)
  refine xQ cN ?_;rintro _ M2 _ zD-⟨-,rfl,z,rfl,hz,jL⟩;refine zJ ?_;have oz:=zI hz
  repeat' (first|refine yh (dst:=some 3) zh fun b3=>?_|refine nv ?_)
  exact ⟨_,s.ob,zP,zD,zh,zq,zD,rfl,s,rfl,h1.mono zD⟩
 |true=>
  rw [hh] at cN;rw [zn yx,zn yx];cases hl:J2 (q.get 0) 0 0 with
  |none=>
   rw [pT _ _ hl];dsimp only;refine xy Tryz.func134 rfl t9 zd (fun F w M0 hF=>zz ?_)
   repeat' (refine nv ?_)
   refine xQ cN ?_;rintro _ M2 _ zD-⟨-,rfl,z,rfl,hz,jL⟩;refine zJ ?_;have oz:=zI hz;have cL:=adx z 0 0 M2 q.c b hc hz (yB.xW (jL▸WE)) (jL▸hl)
   repeat' (first|refine yh (dst:=some 3) zh fun b3=>?_|refine nv ?_)
   refine xQ cL ?_;rintro _ M3 _ yc-⟨-,rfl,rfl⟩;refine zJ ?_;have hle:=zD.trans yc
   repeat' (first|refine yh (dst:=some 5) zh fun b5=>?_|refine yh (dst:=some 6) zh fun b6=>?_|refine yh (dst:=some 7) zh fun b7=>?_|refine nv ?_)
   exact ⟨_,s.ob,zP,hle,zh,zq,hle,rfl,s,rfl,h1.mono hle⟩
  |some q0=>
   obtain ⟨r0,x0,y0⟩:=q0;cases J5:J2 (q.get 0) (q.next:Nat) ((q.tk (q.get 0)).next:Nat) with
   |none=>rw [pT 0 0 J5] at hl;cases hl
   |some q2=>
    obtain ⟨r2,x2,y2⟩:=q2;obtain ⟨i1,i2,i3⟩:=Mp hc WE J5;dsimp only;by_cases ef:q.fr.length<2
    · rw [zo ef,zo ef];have d1:decide ((q.fr.length:Int)<2)=true:=yk ze;refine xy Tryz.func134 rfl t9 zd (fun F w M0 hF=>zz ?_)
      repeat' (refine nv ?_)
      refine xQ cN ?_;rintro _ M2 _ zD-⟨-,rfl,z,rfl,hz,jL⟩;refine zJ ?_;have oz:=zI hz;have cL:=Fj z 0 0 M2 q.c b hc ze hz (yB.xW (jL▸WE)) (jL▸hl)
      repeat' (first|refine yh (dst:=some 3) zh fun b3=>?_|refine nv ?_)
      refine xQ cL ?_;rintro _ M3 _ yc-⟨-,rfl,u,v,x,rfl,hu,hv,hx,-,-,-⟩;refine zJ ?_;have ou:=zI hu;have ov:=zI hv;have ox:=zI hx;have hle:=zD.trans yc;have cR:=BJ (h.mono hle)
      repeat' (first|refine yh (dst:=some 5) zh fun b5=>?_|refine yh (dst:=some 6) zh fun b6=>?_|refine yh (dst:=some 7) zh fun b7=>?_|refine uK cR ?_|refine nv ?_)
      exact ⟨_,s.ob,zP,hle,zh,zq,hle,rfl,s,rfl,h1.mono hle⟩
    · rw [zn ef,zn ef];have d1:decide ((q.fr.length:Int)<2)=false:=z6 ze;have hf0:q.fr≠ []:=fun e=>ef (by rw [e];decide)
      have hf1: ∀n,(q.tk n).fr≠ []:=fun n e=>by
       have e2:(j8 Kk q.fr).dropLast= []:=e;have:=z5 List.length e2;rw [rO,(ue Kk q.fr).length_eq] at this;simp at this;omega
      refine xy Tryz.func134 rfl t9 zd (fun F w M0 hF=>zz ?_)
      repeat' (refine nv ?_)
      refine xQ cN ?_;rintro _ M2 _ zD-⟨-,rfl,z,rfl,hz,jL⟩;refine zJ ?_;have oz:=zI hz;have iz:yB q.c b z:=yB.xW (jL▸WE);have cL:=Fj z 0 0 M2 q.c b hc ze hz iz (jL▸hl)
      repeat' (first|refine yh (dst:=some 3) zh fun b3=>?_|refine nv ?_)
      refine xQ cL ?_;rintro _ M3 _ yc-⟨-,rfl,u,v,x,rfl,hu,hv,hx,-,-,-⟩;refine zJ ?_;have ou:=zI hu;have ov:=zI hv;have ox:=zI hx;have l3:=zD.trans yc;have cR:=BJ (h.mono l3);have cT1:=bB (h.mono l3) ze z (hz.mono yc) iz hf0;rw [jL] at cT1
      repeat' (first|refine yh (dst:=some 5) zh fun b5=>?_|refine yh (dst:=some 6) zh fun b6=>?_|refine yh (dst:=some 7) zh fun b7=>?_|refine uK cR ?_|refine nv ?_)
      refine xQ cT1 ?_;rintro _ M4 _ yQ-⟨-,rfl,s4,rfl,h4⟩;refine zJ ?_;have l4:=l3.trans yQ;have cT2:=bB h4 ze z (hz.mono (yc.trans yQ)) iz (hf1 _);rw [jL] at cT2
      repeat' (refine nv ?_)
      refine xQ cT2 ?_;rintro _ M5 _ kG-⟨-,rfl,s5,rfl,h5⟩;refine zJ ?_;have l5:=l4.trans kG;have cL2:=Fj z (q.next:Nat) ((q.tk (q.get 0)).next:Nat) M5 q.c b hc ze (hz.mono ((yc.trans yQ).trans kG)) iz (jL▸J5)
      repeat' (refine nv ?_)
      refine xQ cL2 ?_;rintro _ M6 _ Uy-⟨-,rfl,ra,xa,ya,rfl,hra,hxa,hya,bra,bxa,bya⟩;refine zJ ?_;have ora:=zI hra;have oxa:=zI hxa;have oya:=zI hya;have l6:=l5.trans Uy;have h6:=(h5.mono Uy).up (show b<=b+1 by omega);have cS1:=XO h6 ze ra hra (yB.xW (bra▸i1));rw [bra] at cS1
      repeat' (first|refine yh (dst:=some 13) zh fun b13=>?_|refine yh (dst:=some 14) zh fun b14=>?_|refine yh (dst:=some 15) zh fun b15=>?_|refine nv ?_)
      refine xQ cS1 ?_;rintro _ M7 _ cj-⟨-,rfl,s7,rfl,h7⟩;refine zJ ?_;have l7:=l6.trans cj;have cS2:=XO h7 ze xa (hxa.mono cj) (yB.xW (bxa▸i2));rw [bxa] at cS2
      repeat' (refine nv ?_)
      refine xQ cS2 ?_;rintro _ M8 _ FS-⟨-,rfl,s8,rfl,h8⟩;refine zJ ?_;have l8:=l7.trans FS;have cS3:=XO h8 ze ya (hya.mono (cj.trans FS)) (yB.xW (bya▸i3));rw [bya] at cS3
      repeat' (refine nv ?_)
      refine xQ cS3 ?_;rintro _ M9 _ Rh-⟨-,rfl,s9,rfl,h9⟩;refine zJ ?_;have l9:=l8.trans Rh
      repeat' (refine nv ?_)
      exact ⟨_,s9.ob,zP,l9,zh,zq,l9,by rw [<-bya];rfl,s9,rfl,h9⟩
end
end Go.Proofs.YtaibdpjjojihmaaGreat
