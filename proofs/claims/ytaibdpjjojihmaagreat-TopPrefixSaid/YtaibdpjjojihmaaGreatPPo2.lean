/- A part of the proof of TopPrefix; no conditions. -/
import Derived.Test.YtaibdpjjojihmaaGreatPCl5
set_option linter.unusedVariables false
set_option linter.unusedSimpArgs false
set_option maxRecDepth 20000
set_option maxHeartbeats 4000000
namespace Go.Proofs.YtaibdpjjojihmaaGreat
section
open Go Go.RowKit
attribute [local irreducible] Calls
theorem QD (p k:Nd) (i:Int) (M:Mem) (hp:p.Ok M) (h0: -1000<=p.level) (h1:p.level<=1000000000):
 zu zf 216 [p.av,k.av, .int .i64 i] M [] (fun u M' o=>u= .bool (ZO p k i)/\M'=M/\o= []):=by
 obtain ⟨A,c,hk,_⟩:=hp.2.1;have oh:=hp.2.1.yf
 suffices h:zu zf 216 [.agg #[.int .i64 p.slot, .int .i64 p.level,p.pv, .slice A p.ks.length c, .string p.high, .bool p.top, .int .i64 p.right, .int .i64 p.seen,p.mv,p.rv],k.av, .int .i64 i] M [] (fun u M' o=>u= .bool (ZO p k i)/\M'=M/\o= []) by
  rw [<-hk] at h;exact h
 unfold ZO;rw [hk] at oh;rcases XK (decide (1<=p.level)) with d1|d1
 · rcases XK (decide (k.level=p.level-1)) with d2|d2
   · have e2:(k.level==p.level-1)=true:=beq_iff_eq.2 (qc d2);rcases XK (decide (0<=i)) with d3|d3
     · refine xy Tryz.func216 rfl Aa zd (fun F w M0 hF=>zz ?_)
       repeat' (first|refine yZ zd zh fun b=>?_|refine nv ?_)
       exact ⟨_,[],zP,zE,zh,zq,z5 Value.bool (by rw [d1,d2,d3];rfl),rfl,rfl⟩
     · refine xy Tryz.func216 rfl Aa zd (fun F w M0 hF=>zz ?_)
       repeat' (first|refine yZ zd zh fun b=>?_|refine nv ?_)
       exact ⟨_,[],zP,zE,zh,zq,z5 Value.bool (by rw [d1,d2,d3];rfl),rfl,rfl⟩
   · have e2:(k.level==p.level-1)=false:=beq_eq_false_iff_ne.2 (wc d2);refine xy Tryz.func216 rfl Aa zd (fun F w M0 hF=>zz ?_)
     repeat' (first|refine yZ zd zh fun b=>?_|refine nv ?_)
     exact ⟨_,[],zP,zE,zh,zq,z5 Value.bool (by rw [d1,d2];rfl),rfl,rfl⟩
 · refine xy Tryz.func216 rfl Aa zd (fun F w M0 hF=>zz ?_)
   repeat' (first|refine yZ zd zh fun b=>?_|refine nv ?_)
   exact ⟨_,[],zP,zE,zh,zq,z5 Value.bool (by rw [d1];rfl),rfl,rfl⟩
theorem sG (m:xi) (s:yW) (w:World) (hk:m.key.size<=1000000):
 Calls zf 218 #[m.av,s.av] w fun e w'=>e= .returned (.tuple #[(Z0 m s).1.av, .bool (Z0 m s).2])/\Below w.heap.size w w':=by
 have cC:=fun W=>QK m ⟨s.hi,em,true⟩ W hk
 unfold Z0;rcases XK s.vx with d1|d1
 · rw [zo d1];refine zQ Tryz.func218 rfl Tryz.ntmps218 zd (Mem.xE _) ?_
   repeat' (refine vw ?_)
   show yH _ _ _ _;refine yH.two zd (xr zd zd _ zd ?_) (zy zd ?_)
   · rfl
   · rfl
 · rw [zn (by rw [d1];simp)];refine zQ Tryz.func218 rfl Tryz.ntmps218 zd (Mem.xE _) ?_
   repeat' (first|((apply zA);(exact zm zd (fun W _=>cC W));rfl)|refine vw ?_)
   show yH _ _ _ _;refine yH.two zd (xr zd zd _ zd ?_) (zy zd ?_)
   · rfl
   · rfl
theorem UR {α:Type} {M:Mem} {k:Nat} {cells:α->List Value} {A:Option Addr} {n c:Nat} {l:List α} (h:xt M k cells (.slice A n c) l) (hn:n=l.length) {q:Nat} (hq:q<=l.length):xt M k cells (sliced A 0 q c k) (l.take q):=by
 subst hn;obtain ⟨A',c',he,h1,_⟩:=id h;injection he with _ _ hc;have:=xt.part h (p:=0) (q:=q) (m:=c) (zW _) hq ze ze
 rwa [JJ] at this
theorem E6 (c:qn) (p k:Nd) (i:Int) (M:Mem) (b:Int) (hc:uk c) (hb:b<=1000000000) (hp:p.Ok M) (hk:k.Ok M) (ip:yB c b p) (ik:yB c b k) (h0:k.level=0):
 zu zf 217 [c.av,p.av,k.av, .int .i64 i] M [] (fun r M' o=>M.le M'/\o= []/\ ∃(z:Nd) (w:Value),r= .tuple #[z.av,w]/\z.Ok M'/\bare z=(kw c (bare p) (bare k) i).1/\xt M' 6 zR w (kw c (bare p) (bare k) i).2):=by
 have WD:=ip.bP hc;have CS:=ip.pn;have hf:=hc.f64;have FR:=hc.l64;have J5:=hc.l2;have cF:=(zu.iq (M:=M) fun W hW=>ej p.pv p.mv p.ps p.ms i W (hp.1.xS hW) ze (XP ip.ps.1) (hp.2.2.1.xS hW) (fun m hm=>by have:=(ip.ms m hm).key;omega) ze).le.sl (fun _ _=>rfl);have cC:=fun (M':Mem) (h:M.le M')=>qP k M' (hk.mono h) (ik.NF hc hb)
 have op:=zI hp;have ok:=zI hk;have o0:=zI (vI M);have op1:=hp.2.2.1.yf;have op2:=hp.1.yf
 have Tp: ∀m∈jW p i,YA m:=fun x hx=>by
  obtain ⟨m,hm,rfl,kW⟩:=ek hx;exact (Qg (ip.ms m hm) (Jh ip.ps.2 i) kW).t
 have gT:(jW p i).length<=1024:=jZ (jZ (cU p.ps (kh p.ms) i) (Ju p.ms)) WD;refine KC Tryz.func217 rfl Tryz.ntmps217 zd (fun F w M0 hF=>zz ?_)
 repeat' (first|refine yZ zd zh fun bx=>?_|refine yh (dst:=some 8) zh fun b8=>?_|refine nv ?_)
 refine xQ cF ?_;rintro f M2 _ zD-⟨-,rfl,CZ⟩;refine zJ ?_;have of:=CZ.yf
 repeat' (refine nv ?_)
 refine xQ (cC M2 zD) ?_;rintro _ M3 _ yc-⟨rfl,z,rfl,hz,jL⟩;refine zJ ?_;have oz:=zI hz;have Ch:=hz.2.2.2.yf;have T8:=hz.1.yf;have HU:=hz.2.1.yf;have Cg:=hz.2.2.1.yf;have K3:z.level=0:=(show (bare z).level=(bare k).level by rw [jL]).trans h0;have FE:z.rs=k.rs:=(show (bare z).rs=(bare k).rs by rw [jL]);have g1:(z.level==0)=true:=by rw [K3];rfl
 have cD:=Fp z.rv f z.rs (jW p i) c.leaf M3 hz.2.2.2 (CZ.mono yc) (fun m hm=>(Tp m hm).ok) (by rw [FE];exact It ik.rows Tp (by have:=ik.rn;omega));obtain ⟨-,-,-,hdl⟩:=aC (jW p i) (n:=0) (l:=z.rs) (xU:=c.leaf) (by rw [FE];exact ik.rows) (by rw [FE];exact ik.rn) fun m hm=>⟨(Tp m hm).k,(Tp m hm).val⟩
 rw [FE] at cD hdl;unfold kw;rw [zo (show (bare k).level=0 from h0)];rw [show jW (bare p) i=jW p i from rfl,show (bare k).rs=k.rs from rfl];generalize ZB k.rs (jW p i) c.leaf 0=D at*;obtain ⟨dl,dn⟩:=D;dsimp only at*
 repeat' (refine nv ?_)
 refine xQ cD ?_;rintro _ M4 _ yQ-⟨-,rfl,q,rfl,hq⟩;refine zJ ?_;have oq:=hq.yf;have hf4:=(CZ.mono yc).mono yQ;obtain ⟨A,cf,rfl,hf5,hf6,_⟩:=id CZ
 repeat' (first|refine zU [.v (ptr b8)] [4] [4] 1 yI zd zd ?_|refine nv ?_)
 have sV:=UR hf4 rfl (q:=dn) (show dn<=(jW p i).length by omega);have Wc:dn<=(Xx p.ps (kh p.ms) i).length:=by have:(jW p i).length=(Xx p.ps (kh p.ms) i).length:=rfl;omega
 repeat' (first|refine X0 zd (by exact Y4 (by exact yg 0 dn cf zd rfl zd rfl ze ze ze ze)) zd ?_|refine nu ?_|exact zx|refine nz ?_ ?_)
 repeat' (refine nv ?_)
 have hle:=(zD.trans yc).trans yQ
 all_goals exact ⟨_,[],kB.two rfl (RV.agg zd) (RV.tmp zd),hle,zh,zq,hle,rfl,⟨z.slot,z.level,z.pv,z.ps,z.kv,z.ks,z.high,z.top,z.right,z.seen,z.mv,z.ms,q,dl⟩,_,rfl,⟨hz.1.mono yQ,hz.2.1.mono yQ,hz.2.2.1.mono yQ,hq⟩,by rw [<-jL];rfl,sV⟩
theorem Pr (c:qn) (p k:Nd) (i:Int) (M:Mem) (b:Int) (hc:uk c) (hb:b<=1000000000) (hp:p.Ok M) (hk:k.Ok M) (ip:yB c b p) (ik:yB c b k) (h0:k.level≠0):
 zu zf 217 [c.av,p.av,k.av, .int .i64 i] M [] (fun r M' o=>M.le M'/\o= []/\ ∃(z:Nd) (w:Value),r= .tuple #[z.av,w]/\z.Ok M'/\bare z=(kw c (bare p) (bare k) i).1/\xt M' 6 zR w (kw c (bare p) (bare k) i).2):=by
 have WD:=ip.bP hc;have CS:=ip.pn;have hf:=hc.f64;have hb3:=hc.b36;have hb4:=hc.RY;have cF:=(zu.iq (M:=M) fun W hW=>ej p.pv p.mv p.ps p.ms i W (hp.1.xS hW) ze (XP ip.ps.1) (hp.2.2.1.xS hW) (fun m hm=>by have:=(ip.ms m hm).key;omega) ze).le.sl (fun _ _=>rfl);have cC:=fun (M':Mem) (h:M.le M')=>qP k M' (hk.mono h) (ik.NF hc hb)
 have op:=zI hp;have ok:=zI hk;have o0:=zI (vI M);have op1:=hp.2.2.1.yf;have op2:=hp.1.yf
 have Tp: ∀m∈jW p i,we b m:=fun x hx=>by
  obtain ⟨m,hm,rfl,kW⟩:=ek hx;exact Qg (ip.ms m hm) (Jh ip.ps.2 i) kW
 have gT:(jW p i).length<=1024:=jZ (jZ (cU p.ps (kh p.ms) i) (Ju p.ms)) WD;refine KC Tryz.func217 rfl Tryz.ntmps217 zd (fun F w M0 hF=>zz ?_)
 repeat' (first|refine yZ (dst:=some 4) zd zh fun b4=>?_|refine yZ (dst:=some 6) zd zh fun bx=>?_|refine yZ zd zh fun b5=>?_|refine yh (dst:=some 8) zh fun b8=>?_|refine nv ?_)
 refine xQ cF ?_;rintro f M2 _ zD-⟨-,rfl,CZ⟩;rw [show Xx p.ps (kh p.ms) i=jW p i from rfl] at CZ;refine zJ ?_;have of:=CZ.yf
 repeat' (refine nv ?_)
 refine xQ (cC M2 zD) ?_;rintro _ M3 _ yc-⟨rfl,z,rfl,hz,jL⟩;refine zJ ?_;have oz:=zI hz;have Ch:=hz.2.2.2.yf;have T8:=hz.1.yf;have HU:=hz.2.1.yf;have Cg:=hz.2.2.1.yf;have K3:z.level=k.level:=(show (bare z).level=(bare k).level by rw [jL]);have CO:z.ms=k.ms:=(show (bare z).ms=(bare k).ms by rw [jL]);have g1:(z.level==0)=false:=by rw [K3];exact beq_eq_false_iff_ne.2 h0
 unfold kw;rw [zn (show ¬ (bare k).level=0 from h0)];rw [show jW (bare p) i=jW p i from rfl,show (bare k).ms=k.ms from rfl];generalize hD:Ur k.ms (jW p i) c.yV 0=D;obtain ⟨A,cf,rfl,hf5,hf6,_⟩:=id CZ
 repeat' (refine nv ?_)
 refine jv (fun x:Nat×Mem×Value×List xi=>⟨x.2.1, .zK (ptr bx) 143 [.int .i64 z.slot, .int .i64 z.level,z.pv,z.kv, .string z.high, .bool z.top, .int .i64 z.right, .int .i64 z.seen,x.2.2.1,z.rv]:: .zK (ptr b8) 143 [.int .i64 0, .int .i64 0, .slice none 0 0, .slice none 0 0, .string em, .bool false, .int .i64 0, .int .i64 0, .slice none 0 0, .slice none 0 0]:: .zK (ptr b4) 23 [.int .i64 c.jz, .int .i64 c.leaf, .int .i64 c.yV, .int .i64 c.kD, .int .i64 c.yu]::F,[(4, .v (ptr b4)),(6, .v (ptr bx)),(8, .v (ptr b8)),(10, .v (.slice A (jW p i).length cf)),(41, .v (.slice A (jW p i).length cf)),(42, .v (.int .i64 (jW p i).length)),(43, .v (.int .i64 x.1))]⟩)
  (fun x=>x.1<=(jW p i).length/\M3.le x.2.1/\xt x.2.1 6 zR x.2.2.1 x.2.2.2/\(∀m∈x.2.2.2,we b m)/\uY x.2.2.2<=c.yV/\Ur x.2.2.2 ((jW p i).drop x.1) c.yV x.1=D) (fun x=>(jW p i).length-x.1) (0,M3,z.mv,k.ms) (xZ Qj) ⟨zW _,zE,by rw [<-CO];exact hz.2.2.1,ik.ms,ik.mz,hD⟩ ?_
 clear hD;rintro ⟨j,M4,v,ms⟩ ⟨hj,yQ,hv,FP,hmz,p8⟩;dsimp only at hj yQ hv FP hmz p8⊢;have l4:=(zD.trans yc).trans yQ;have hf4:=(CZ.mono yc).mono yQ;have ov:=hv.yf;rcases yq j (jW p i).length with z9|ql
 · have hd:=Xp z9;obtain ⟨ba,off,rfl,jk⟩:=hf4.get z9;have hmj:=Tp _ (yD z9);have apQ:=pG ms;have cA:=zu.ofM (M:=M4) fun W hW=>mR v ms (jW p i)[j] c.yV W M4 hW hv (fun m hm=>by have:=(FP m hm).key;have:=(FP m hm).hi;have:=(FP m hm).val;omega) ze (by have:=hmj.key;omega) (by have:=hmj.val;omega) ze ⟨ze,ze⟩
   rw [Zc z9] at p8;unfold Ur at p8;cases hao:XI ms (jW p i)[j] c.yV with
   |true=>
    rw [hao] at cA;rw [zo hao] at p8
    repeat' (first|refine yh (dst:=some 13) zh fun b13=>?_|((apply zA);(first|exact zj (j) zd zd ze ze|exact zZ _ zd jk _ zd);rfl)|refine nv ?_)
    refine xQ cA ?_;rintro _ M5 _ kG-⟨rfl,u,rfl,hu⟩;refine zJ ?_;have ou:=hu.yf
    repeat' (refine nv ?_)
    exact yG (Q:=fun _ _=>True) (j+1,M5,u,ms++ [(jW p i)[j]]) (xZ Qj) ⟨z9,yQ.trans kG,hu,fun x hx=>by
     rcases jH.1 hx with h1|h1
     · exact FP x h1
     · rw [jx.1 h1];exact hmj,aM hao,p8⟩ (by dsimp only;omega)
   |false=>
    rw [hao] at cA;rw [zn (by rw [hao];simp)] at p8
    repeat' (first|refine yh (dst:=some 13) zh fun b13=>?_|((apply zA);(first|exact zj (j) zd zd ze ze|exact zZ _ zd jk _ zd);rfl)|refine nv ?_)
    refine xQ cA ?_;rintro _ M5 _ kG-⟨rfl,u,rfl,-⟩;refine zJ ?_;have sV:=UR (hf4.mono kG) rfl (q:=j) hj
    repeat' (first|refine zU [.v (ptr b8)] [4] [4] 1 yI zd zd ?_|refine nv ?_)
    repeat' (first|refine X0 zd (by exact Y4 (by exact yg 0 j cf zd rfl zd rfl ze ze ze ze)) zd ?_|refine nu ?_|exact zx|refine nz ?_ ?_)
    repeat' (refine nv ?_)
    subst p8;have l5:=l4.trans kG;have l45:=yQ.trans kG;exact ⟨_,[],kB.two rfl (RV.agg zd) (RV.tmp zd),l5,zh,zq,l5,rfl,⟨z.slot,z.level,z.pv,z.ps,z.kv,z.ks,z.high,z.top,z.right,z.seen,v,ms,z.rv,z.rs⟩,_,rfl,⟨hz.1.mono l45,hz.2.1.mono l45,hv.mono kG,hz.2.2.2.mono l45⟩,by rw [<-jL];rfl,sV⟩
 · have hd:=Xq ql;obtain rfl:j=(jW p i).length:=ze;rw [nG] at p8;unfold Ur at p8;subst p8
   repeat' (refine nv ?_)
   skip
   skip
   exact ⟨_,[],kB.two rfl (RV.agg zd) (RV.tmp zd),l4,zh,zq,l4,rfl,⟨z.slot,z.level,z.pv,z.ps,z.kv,z.ks,z.high,z.top,z.right,z.seen,v,ms,z.rv,z.rs⟩,_,rfl,⟨hz.1.mono yQ,hz.2.1.mono yQ,hv,hz.2.2.2.mono yQ⟩,by rw [<-jL];rfl,by rw [xk];exact hf4⟩
end
section
open Go Go.RowKit
open Go.MapKept (run_checkKey run_findKey)
def V8:List (Int×Value)->Int->Value->List (Int×Value)
 | [],n,u=> [(n,u)]
 |p::l,n,u=>if p.1=n then (n,u)::l else p::V8 l n u
theorem Zt (p:Int×Value) (l:List (Int×Value)) (x:Int):uZ (p::l) x=if p.1=x then some p.2 else uZ l x:=by
 unfold uZ;rw [GM];by_cases h:p.1=x
 · rw [zo h,show (p.1==x)=true from beq_iff_eq.2 h];rfl
 · rw [zn h,show (p.1==x)=false from beq_eq_false_iff_ne.2 h]
theorem d8 (n:Int) (u:Value): ∀(es:List (Int×Value)) (x:Int),uZ (V8 es n u) x=if n=x then some u else uZ es x
 | [],x=>by unfold V8;rw [Zt]
 |p::l,x=>by
  unfold V8;split
  · rename_i h
    rw [Zt,Zt,h];split<;>rfl
  · rename_i h
    rw [Zt,Zt,d8 n u l x];by_cases h1:p.1=x
    · rw [zo h1,zo h1,zn (fun e=>h (h1.trans e.symm))]
    · rw [zn h1,zn h1]
theorem gq (x:Int) (u:Value): ∀(en:List MapEntry) (es:List (Int×Value)) (i:Nat),en.map (fun e=>(e.key,e.val))=es.map (fun p=>(Value.int .i64 p.1,p.2))->
 (Instr.findNow (.int .i64) (.int .i64 x) en i=some none/\V8 es x u=es++ [(x,u)])\/ ∃v j e,Instr.findNow (.int .i64) (.int .i64 x) en i=some (some (i+j,v))/\en[j]?=some e/\e.key= .int .i64 x/\(en.modify j fun e=> {e with key:= .int .i64 x,val:=u}).map (fun e=>(e.key,e.val))=(V8 es x u).map (fun p=>(Value.int .i64 p.1,p.2))
 | [],[],_,_=> .inl ⟨rfl,rfl⟩
 | [],_::_,_,h=>by simp at h
 |_::_,[],_,h=>by simp at h
 |e::en,(k,v)::es,i,h=>by
  obtain ⟨key,val,abk⟩:=e;simp only [xw,List.cons.injEq,JH] at h;obtain ⟨⟨rfl,rfl⟩,h⟩:=h;by_cases hx:x=k
  · subst hx;refine .inr ⟨val,0,⟨.int .i64 x,val,abk⟩,by simp [Instr.findNow,Instr.sameNow],rfl,rfl,?_⟩;unfold V8;rw [zo rfl,xw,<-h];rfl
  · have h2:(x==k)=false:=beq_eq_false_iff_ne.2 hx;have e2:Instr.findNow (.int .i64) (.int .i64 x) (⟨.int .i64 k,val,abk⟩::en) i=Instr.findNow (.int .i64) (.int .i64 x) en (i+1):=by simp [Instr.findNow,Instr.sameNow,h2]
    have e3:V8 ((k,val)::es) x u=(k,val)::V8 es x u:=by
     show (if k=x then _ else _)=_;rw [zn (fun e=>hx e.symm)]
    rw [e2,e3];rcases gq x u en es (i+1) h with ⟨h3,h4⟩|⟨v,j,e,h3,h4,h5,h6⟩
    · exact .inl ⟨h3,by rw [h4];rfl⟩
    · refine .inr ⟨v,j+1,e,by rw [h3,show i+1+j=i+(j+1) by omega],h4,h5,?_⟩;rw [xw,<-h6];rfl
class NMp (own:List Ob) (b:Nat) (es:outParam (List (Int×Value))):Prop where
 h: ∃i:Nat,own[i]?=some (.vj (.map (some b)) es)
instance (priority:=high) NMp.one (b:Nat) (es:List (Int×Value)) (l:List Ob):NMp (.vj (.map (some b)) es::l) b es:=⟨0,rfl⟩
instance NMp.cons (p:Ob) (l:List Ob) (b:Nat) (es:List (Int×Value)) [i:NMp l b es]:NMp (p::l) b es:=⟨by obtain ⟨i,h⟩:=i.h;exact ⟨i+1,h⟩⟩
class MSt (own:List Ob) (b:Nat) (es es':List (Int×Value)) (zw:outParam (List Ob)):Prop where
 h: ∃i:Nat,own[i]?=some (.vj (.map (some b)) es)/\zw=own.set i (.vj (.map (some b)) es')
instance (priority:=high) MSt.one (b:Nat) (es es':List (Int×Value)) (l:List Ob):MSt (.vj (.map (some b)) es::l) b es es' (.vj (.map (some b)) es'::l):=⟨0,rfl,rfl⟩
instance MSt.cons (o:Ob) (l l':List Ob) (b:Nat) (es es':List (Int×Value)) [i:MSt l b es es' l']:MSt (o::l) b es es' (o::l'):=⟨by obtain ⟨i,h1,h2⟩:=i.h;exact ⟨i+1,h1,by rw [h2];rfl⟩⟩
section
variable {P:Program} {w:World} {M0:Mem} {N:Nat} {dst:Option Tmp} {ty:TypeId} {pos:String} {z7:Array Edge} {g:Option (Nat×Bool)} {M:Mem} {own zw:List Ob} {env:Env} {s:St}
theorem Ss {ops:Array Oper} {l:List Oper} {Q:zX} {es:List (Int×Value)} (i:Nat) (hi:own[i]?=some (.omap es))
 (h: ∀b,VL P w M0 N ops l ⟨M,own.set i (.vj (.map (some b)) es),JV i (.map (some b)) env⟩ Q):VL P w M0 N ops l ⟨M,own,env⟩ Q:= .mk fun hd a W hR=>by
 have hO:=hR.1.own i _ hi;obtain ⟨b,en,clock,hb,h1,h3,h4⟩:=id hO;have h2:=QX (i:=i) hR.2;rw [hb] at h2;exact (h b).go hd a W ⟨hR.1.vD hi yx ⟨hb,b,en,clock,hb,h1,h3,h4⟩,h2⟩
theorem kmk {t:TypeId} {ops:Array Oper} {l:List Oper} {Q:zX} (h: ∀b,VL P w M0 N ops l ⟨M, .vj (.map (some b)) []::own,env.put dst (.v (.map (some b)))⟩ Q) (hk:yi N dst=true:=by rfl) (zV:yR env 0=true:=by rfl):
 VL P w M0 N ops (⟨dst, .makeMap t none,ty,pos,z7,none⟩::l) ⟨M,own,env⟩ Q:=by
 refine Xl _ _ afg hk (vg zV) ?_;refine Ss own.length (by rw [kF (zN _),qq];rfl) fun b=>?_
 rw [Qa zV];refine wd _ (h b) (ji.perm ?_) (kS zV);rw [YF _ _ (zN _),qq];exact uQ
theorem qlk {t k e:TypeId} {x y:Operand} {b:Nat} {es:List (Int×Value)} {n:Int} {z v:Value} [ht:Oc P t k e] [hz:kM P e z] (hx:s.env.op x=some (.v (.map (some b)))) (hy:s.env.op y=some (.v (.int .i64 n)))
 (hv:(uZ es n).getD z=v) (ho:NMp s.own b es:=by infer_instance):QS P w M0 N ⟨dst, .lookup t x y false,ty,pos,z7,g⟩ s (.v v):=xH fun hd a W hR=>by
 have h1:=hR.2.eval hx;have h2:=hR.2.eval hy;simp only [SV.den] at h1 h2;obtain ⟨i,hi⟩:=ho.h;obtain ⟨h0,b',en,clock,e1,_,h3,h4⟩:=hR.1.own i _ hi;rw [h0] at e1;cases e1;have h5:=OS (P:=P) (t:=t) (x:=n) (z:=z) false h3 h4;rw [hv] at h5;simp [execOp,h1,h2,h5,SV.den,Result.andThen]
theorem abT {t k e:TypeId} {m x y:Operand} {i b:Nat} {es:List (Int×Value)} {n:Int} {u:Value} [ht:Oc P t k e] (hm:env.op m=some (.v (.map (some b)))) (hi:own[i]?=some (.vj (.map (some b)) es)) (hx:env.op x=some (.v (.int .i64 n))) (hy:env.op y=some (.v u)):
 ES P w M0 N ⟨dst, .mapUpdate t m x y,ty,pos,z7,g⟩ ⟨M,own,env⟩ (own.set i (.vj (.map (some b)) (V8 es n u))):=fun hd a W hR=>by
 have h0:=hR.2.eval hm;have h1:=hR.2.eval hx;have h2:=hR.2.eval hy;simp only [SV.den] at h0 h1 h2;obtain ⟨hu,b',en,clock,e1,Uo,h3,h4⟩:=hR.1.own i _ hi;rw [hu] at e1;cases e1;have hc:=run_checkKey (P:=P) (w:=W) (k:= .int .i64 n) ht.k rfl false 9999;have hg:(getObj b).run P W= .ok (.map en clock) W:=by simp [getObj,Sem.run,h3]
 rcases gq n u en.toList es 0 h4 with ⟨h5,h6⟩|⟨v,j,eo,h5,h6,h7,h8⟩
 · have hf:(Instr.findKey k (.int .i64 n) en.toList).run P W= .ok none W:=run_findKey (P:=P) (w:=W) ht.k h5;have hs:(setObj b (.map (en.push ⟨.int .i64 n,u,clock⟩) (clock+1))).run P W= .ok () (Go.ChangeMaps.setBlock W b (.map (en.push ⟨.int .i64 n,u,clock⟩) (clock+1))):=by simp [setObj,Sem.run,h3,Go.ChangeMaps.setBlock]
   refine ⟨Go.ChangeMaps.setBlock W b (.map (en.push ⟨.int .i64 n,u,clock⟩) (clock+1)),?_,?_⟩
   · simp [execOp,h0,h1,h2,Instr.mapUpdate,jG ht.h,hg,hc,hf,hs,Result.andThen]
   · refine hR.1.KH hi yx (row:=some b) ⟨rfl,rfl,rfl,by simp [Go.ChangeMaps.setBlock],fun j _ hj=>aiy h3 _ (fun e=>hj (by rw [e]))⟩ (fun q hq=>by cases hq;rw [hu];rfl) ⟨hu,b,_,_,hu,Uo,aix h3 _,?_⟩;rw [h6];simp [h4]
 · have hf:(Instr.findKey k (.int .i64 n) en.toList).run P W= .ok (some (0+j,v)) W:=run_findKey (P:=P) (w:=W) ht.k h5;rw [xu] at hf;have h6':en[j]?=some eo:=by rw [<-Se];exact h6
   have hks:(Instr.keyThatStays (.int .i64 n) (.int .i64 n)).run P W= .ok (.int .i64 n) W:=by
    unfold Instr.keyThatStays;rw [zo (by unfold Instr.sameBits;simp)];rfl
   have hs:(setObj b (.map (en.modify j fun e=> {e with key:= .int .i64 n,val:=u}) clock)).run P W= .ok () (Go.ChangeMaps.setBlock W b (.map (en.modify j fun e=> {e with key:= .int .i64 n,val:=u}) clock)):=by simp [setObj,Sem.run,h3,Go.ChangeMaps.setBlock]
   refine ⟨Go.ChangeMaps.setBlock W b (.map (en.modify j fun e=> {e with key:= .int .i64 n,val:=u}) clock),?_,?_⟩
   · simp [execOp,h0,h1,h2,Instr.mapUpdate,jG ht.h,hg,hc,hf,hs,h6',h7,hks,Result.andThen]
   · refine hR.1.KH hi yx (row:=some b) ⟨rfl,rfl,rfl,by simp [Go.ChangeMaps.setBlock],fun j _ hj=>aiy h3 _ (fun e=>hj (by rw [e]))⟩ (fun q hq=>by cases hq;rw [hu];rfl) ⟨hu,b,_,_,hu,Uo,aix h3 _,?_⟩;rw [Array.toList_modify];exact h8
theorem agA {t k e:TypeId} {m x y:Operand} {b:Nat} {es:List (Int×Value)} {n:Int} {u:Value} {ops:Array Oper} {l:List Oper} {Q:zX} [ht:Oc P t k e] [ho:NMp own b es] [hn:MSt own b es (V8 es n u) zw] (hm:env.op m=some (.v (.map (some b)))) (hx:env.op x=some (.v (.int .i64 n))) (hy:env.op y=some (.v u)) (h:VL P w M0 N ops l ⟨M,zw,env.put dst (.v undef)⟩ Q) (hk:yi N dst=true:=by rfl) (zV:yR env 0=true:=by rfl):
 VL P w M0 N ops (⟨dst, .mapUpdate t m x y,ty,pos,z7,none⟩::l) ⟨M,own,env⟩ Q:=by
 obtain ⟨i,h1,h3⟩:=hn.h;rw [h3] at h;exact Xl _ (.v undef) (Xn (abT hm h1 hx hy) (by rw [xj])) hk (vg zV) h
end
end
section
open Go Go.RowKit
attribute [local irreducible] Calls
theorem W9 (c:qn) (p k:Nd) (i:Int) (M:Mem) (b:Int) (hc:uk c) (hb:b<=1000000000) (hp:p.Ok M) (hk:k.Ok M) (ip:yB c b p) (ik:yB c b k):
 zu zf 217 [c.av,p.av,k.av, .int .i64 i] M [] (fun r M' o=>M.le M'/\o= []/\ ∃(z:Nd) (w:Value),r= .tuple #[z.av,w]/\z.Ok M'/\bare z=(kw c (bare p) (bare k) i).1/\xt M' 6 zR w (kw c (bare p) (bare k) i).2):=by
 by_cases h0:k.level=0
 · exact E6 c p k i M b hc hb hp hk ip ik h0
 · exact Pr c p k i M b hc hb hp hk ip ik h0
theorem ld (c:qn) (p k:Nd) (i:Int) (M:Mem) (b:Int) (hc:uk c) (hb:b<=1000000000) (hp:p.Ok M) (hk:k.Ok M) (ip:yB c b p) (ik:yB c b k):
 zu zf 213 [c.av,p.av,k.av, .int .i64 i] M [] (fun r M' o=>M.le M'/\o= []/\r= .int .i64 (ey c (bare p) (bare k) i:Nat)):=by
 have oU:=ip.PA;have am:=ip.H7;have cR:=QD p k i M hp ze ze;have cM:=W9 c p k i M b hc hb hp hk ip ik;have op:=zI hp;have ok:=zI hk;unfold ey;rw [show ZO (bare p) (bare k) i=ZO p k i from rfl];cases hko:ZO p k i with
 |false=>
  rw [hko] at cR;rw [zn yx];refine xy Tryz.func213 rfl Tryz.ntmps213 zd (fun F w M0 hF=>zz ?_)
  repeat' (first|refine yZ zd zh fun bx=>?_|refine uK cR ?_|refine nv ?_)
  exact ⟨_,[],zP,zE,zh,zq,zE,rfl,rfl⟩
 |true=>
  rw [hko] at cR;rw [zo rfl];generalize kw c (bare p) (bare k) i=D at*;obtain ⟨dn,dl⟩:=D;dsimp only at*;refine xy Tryz.func213 rfl Tryz.ntmps213 zd (fun F w M0 hF=>zz ?_)
  repeat' (first|refine yZ zd zh fun bx=>?_|refine uK cR ?_|refine nv ?_)
  refine xQ cM ?_;rintro _ M2 _ zD-⟨-,rfl,z,wv,rfl,hz,jL,hw⟩;refine zJ ?_;have oz:=zI hz;obtain ⟨A,cw,rfl,be,V9,_⟩:=id hw
  repeat' (first|refine yh (dst:=some 9) zh fun b9=>?_|refine nv ?_)
  exact ⟨_,[],zP,zD,zh,zq,zD,rfl,rfl⟩
theorem EY (c:qn) (p k:Nd) (i:Int) (M:Mem) (b:Int) (hc:uk c) (hb:b<=1000000000) (hp:p.Ok M) (hk:k.Ok M) (ip:yB c b p) (ik:yB c b k):
 zu zf 214 [c.av,p.av,k.av, .int .i64 i] M [] (fun r M' o=>M.le M'/\o= []/\r= .bool (sI c (bare p) (bare k) i)):=by
 have oU:=ip.PA;have am:=ip.H7;have WD:=ip.bP hc;have CS:=ip.pn;have hf:=hc.f64;have cR:=QD p k i M hp ze ze;have cF:=(zu.iq (M:=M) fun W hW=>ej p.pv p.mv p.ps p.ms i W (hp.1.xS hW) ze (XP ip.ps.1) (hp.2.2.1.xS hW) (fun m hm=>by have:=(ip.ms m hm).key;omega) ze).le.sl (fun _ _=>rfl);have cC:=fun (M':Mem) (h:M.le M')=>ld c p k i M' b hc hb (hp.mono h) (hk.mono h) ip ik
 have op:=zI hp;have ok:=zI hk;have op1:=hp.2.2.1.yf;have op2:=hp.1.yf;unfold sI;rw [show ZO (bare p) (bare k) i=ZO p k i from rfl,show jW (bare p) i=jW p i from rfl];generalize hn:ey c (bare p) (bare k) i=n at*;cases hko:ZO p k i with
 |false=>
  rw [hko] at cR;refine xy Tryz.func214 rfl Tryz.ntmps214 zd (fun F w M0 hF=>zz ?_)
  repeat' (first|refine yZ zd zh fun bx=>?_|refine uK cR ?_|refine nv ?_)
  exact ⟨_,[],zP,zE,zh,zq,zE,rfl,by simp⟩
 |true=>
  rw [hko] at cR;rw [show Xx p.ps (kh p.ms) i=jW p i from rfl] at cF;have Oq:(jW p i).length<=1024:=jZ (jZ (cU p.ps (kh p.ms) i) (Ju p.ms)) WD;generalize jW p i=fl at*;by_cases gT:fl= []
  · subst gT;have d1:decide ((0:Int)<(([]:List xi).length:Int))=false:=rfl;refine xy Tryz.func214 rfl Tryz.ntmps214 zd (fun F w M0 hF=>zz ?_)
    repeat' (first|refine yZ zd zh fun bx=>?_|refine uK cR ?_|refine nv ?_)
    refine xQ cF ?_;rintro f M2 _ zD-⟨-,rfl,CZ⟩;refine zJ ?_;obtain ⟨A,cw,rfl,be,V9,_⟩:=id CZ
    repeat' (refine nv ?_)
    exact ⟨_,[],zP,zD,zh,zq,zD,rfl,by simp⟩
  · have d1:decide ((0:Int)<(fl.length:Int))=true:=yk (by have:=Qk.2 gT;omega);refine xy Tryz.func214 rfl Tryz.ntmps214 zd (fun F w M0 hF=>zz ?_)
    repeat' (first|refine yZ zd zh fun bx=>?_|refine uK cR ?_|refine nv ?_)
    refine xQ cF ?_;rintro f M2 _ zD-⟨-,rfl,CZ⟩;refine zJ ?_;obtain ⟨A,cw,rfl,be,V9,_⟩:=id CZ;have op3:=zI (hp.mono zD);have cC2:=cC M2 zD
    repeat' (refine nv ?_)
    refine xQ cC2 ?_;rintro _ M3 _ yc-⟨-,rfl,rfl⟩;refine zJ ?_
    repeat' (refine nv ?_)
    have hle:=zD.trans yc;exact ⟨_,[],zP,hle,zh,zq,hle,rfl,z5 Value.bool (by rw [yk gT];cases n with|zero=>rfl|succ m=>exact beq_eq_false_iff_ne.2 ze)⟩
theorem EV (c:qn) (p k:Nd) (i:Int) (M:Mem) (b:Int) (hc:uk c) (hb:b<=1000000000) (hp:p.Ok M) (hk:k.Ok M) (ip:yB c b p) (ik:yB c b k) (he:¬ (ZO (bare p) (bare k) i=true/\(kw c (bare p) (bare k) i).2≠ [])):
 zu zf 187 [c.av,p.av,k.av, .int .i64 i] M [] (fun r M' o=>M.le M'/\o= []/\ ∃x y:Nd,r= .tuple #[x.av,y.av, .int .i64 0]/\x.Ok M'/\y.Ok M'/\bare x=bare p/\bare y=bare k):=by
 have oU:=ip.PA;have am:=ip.H7;have cR:=QD p k i M hp ze ze;have cM:=W9 c p k i M b hc hb hp hk ip ik;have cP:=fun (M':Mem) (h:M.le M')=>qP p M' (hp.mono h) (ip.NF hc hb)
 have cK:=fun (M':Mem) (h:M.le M')=>qP k M' (hk.mono h) (ik.NF hc hb)
 have op:=zI hp;have ok:=zI hk;have o0:=zI (vI M);rw [show ZO (bare p) (bare k) i=ZO p k i from rfl] at he;cases hko:ZO p k i with
 |false=>
  rw [hko] at cR;refine KC Tryz.func187 rfl Tryz.ntmps187 zd (fun F w M0 hF=>zz ?_)
  repeat' (first|refine yZ zd zh fun bx=>?_|refine yh (dst:=some 8) zh fun b8=>?_|refine yh (dst:=some 9) zh fun b9=>?_|refine uK cR ?_|refine zU [.v (ptr b8), .v (ptr b9)] [1,3,4,5] [4] 1 yI zd zd ?_|refine nv ?_)
  repeat' (refine nu ?_)
  refine xF (cP _ (Mem.le_refl M)) rfl ?_ zx;rintro _ M2 _ zD-⟨rfl,x,rfl,hx,dE⟩;refine yJ ?_;have ox:=zI hx;have l2:=(Mem.le_refl M).trans zD
  repeat' (refine nu ?_)
  refine xF (cK _ l2) rfl ?_ zx;rintro _ M3 _ yc-⟨rfl,y,rfl,hy,Ed⟩;refine yJ ?_;have oy:=zI hy;have l3:=l2.trans yc
  repeat' (first|refine nu ?_|exact zx|refine nz ?_ ?_)
  repeat' (refine nv ?_)
  exact ⟨_,[],kB.three rfl (RV.agg zd) (RV.agg zd) (RV.tmp zd),l3,zh,zq,l3,rfl,x,y,rfl,hx.mono yc,hy,dE,Ed⟩
 |true=>
  rw [hko] at cR
  have p7:(kw c (bare p) (bare k) i).2= []:=by
   rcases t6 ((kw c (bare p) (bare k) i).2= []) with h|h
   · exact h
   · exact absurd ⟨hko,h⟩ he
  rw [p7] at cM;have g1:((([]:List xi).length:Int)==0)=true:=rfl;refine KC Tryz.func187 rfl Tryz.ntmps187 zd (fun F w M0 hF=>zz ?_)
  repeat' (first|refine yZ zd zh fun bx=>?_|refine yh (dst:=some 8) zh fun b8=>?_|refine yh (dst:=some 9) zh fun b9=>?_|refine uK cR ?_|refine nv ?_)
  refine xQ cM ?_;rintro _ M1 _ qR-⟨-,rfl,z,wv,rfl,hz,jL,hw⟩;refine zJ ?_;have oz:=zI hz;obtain ⟨A,cw,rfl,be,V9,_⟩:=id hw
  repeat' (first|refine yh (dst:=some 11) zh fun NI=>?_|refine zU [.v (ptr b8), .v (ptr b9)] [1,3,4,5] [4] 1 yI zd zd ?_|refine nv ?_)
  repeat' (refine nu ?_)
  refine xF (cP _ qR) rfl ?_ zx;rintro _ M2 _ zD-⟨rfl,x,rfl,hx,dE⟩;refine yJ ?_;have ox:=zI hx;have l2:=qR.trans zD
  repeat' (refine nu ?_)
  refine xF (cK _ l2) rfl ?_ zx;rintro _ M3 _ yc-⟨rfl,y,rfl,hy,Ed⟩;refine yJ ?_;have oy:=zI hy;have l3:=l2.trans yc
  repeat' (first|refine nu ?_|exact zx|refine nz ?_ ?_)
  repeat' (refine nv ?_)
  exact ⟨_,[],kB.three rfl (RV.agg zd) (RV.agg zd) (RV.tmp zd),l3,zh,zq,l3,rfl,x,y,rfl,hx.mono yc,hy,dE,Ed⟩
end
end Go.Proofs.YtaibdpjjojihmaaGreat
