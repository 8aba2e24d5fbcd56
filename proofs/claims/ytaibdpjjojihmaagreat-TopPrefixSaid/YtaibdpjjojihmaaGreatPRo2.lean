/- A part of the proof of TopPrefix; no conditions. -/
import Derived.Test.YtaibdpjjojihmaaGreatPSu5
set_option linter.unusedVariables false
set_option linter.unusedSimpArgs false
set_option maxRecDepth 20000
set_option maxHeartbeats 4000000
namespace Go.Proofs.YtaibdpjjojihmaaGreat
section
open Go Go.RowKit
attribute [local irreducible] Calls
structure acS where
 f:Nat
 at_:Int
 lv:Int
 x:yW
 M:Mem
 v1:Value
 v2:Value
 l:List Nd
 xs:List yW
structure aeP (q:kY) (k:ByteArray) (M:Mem) (y:acS):Prop where
 hle:M.le y.M
 fuel:(y.lv= -1/\y.at_=0/\y.f=(q.get 0).level.toNat+1)\/(1<=y.lv/\y.lv<=(y.f:Int))
 n1:j2 y.v1 y.l.length
 n2:j2 y.v2 y.xs.length
 ok: ∀n∈y.l,n.Ok y.M
 len:y.l.length+y.f<=1000000001
 zip:(y.l.map bare).zip y.xs++WU q k y.f y.at_ y.lv y.x=JQ q k
 eq:y.xs.length=y.l.length
theorem pH {sb:Nat} {b:Int} {q:kY} {M:Mem} {s:qC} (h:qe sb b q M s) (hb:b<=1000000000) (k:ByteArray):
 zu zf 111 [ptr sb, .string k] M s.ob (fun r M' o=>M.le M'/\o=s.ob/\ ∃(u v:Value) (l:List Nd),r= .tuple #[u,v]/\xt M' 10 yr u l/\xt M' 3 qi v ((JQ q k).map (·.2))/\(∀n∈l,n.Ok M')/\l.map bare=(JQ q k).map (·.1)):=by
 have hc:=h.inv.c;have i0:=h.inv.get 0;have cA:=fun W=>bD W
 refine xy Tryz.func111 rfl Tryz.ntmps111 zd (fun F w M0 hF=>zz ?_);refine uU 143 10 ?_;refine uU 118 3 ?_
 repeat' (first|refine yh (dst:=some 7) zh fun b7=>?_|((apply zA);(exact zm zd (fun W _=>cA W));rfl)|refine nv ?_)
 refine jv (fun y:acS=>⟨y.M, .zK (ptr b7) 118 [.string y.x.lo, .string y.x.hi, .bool y.x.vx]:: .zC y.v2 118 3 y.xs.length (y.xs.flatMap qi):: .zC y.v1 143 10 y.l.length (y.l.flatMap yr)::(s.ob++F),[(0, .v (ptr sb)),(1, .v (.string k)),(4, .v y.v1),(5, .v y.v2),(6, .v (.int .i64 y.at_)),(7, .v (ptr b7)),(8, .v (.int .i64 y.lv))]⟩)
  (aeP q k M) (fun y=>y.f) ⟨(q.get 0).level.toNat+1,0,-1,all,M, .slice none 0 0, .slice none 0 0,[],[]⟩ ⟨rfl,ji.refl _,Qj,rfl⟩ ⟨zE, .inl ⟨rfl,rfl,rfl⟩, .inl ⟨rfl,rfl⟩, .inl ⟨rfl,rfl⟩,fun n hn=>(nomatch hn),by have:=i0.H7;simp only [Aj];omega,rfl,rfl⟩ ?_
 rintro ⟨f,at_,lv,x,M1,v1,v2,l,xs⟩ ⟨qR,gS,hn1,AZ,ju,y7,bZ,Um⟩;dsimp only at qR gS hn1 AZ ju y7 bZ Um⊢;have ia:=h.inv.get at_;have Rv:=ia.PA;have aqy:=ia.H7;obtain ⟨f,rfl⟩: ∃f',f=f'+1:=⟨f-1,ze⟩;have apT: -1<=lv/\lv<=1000000002:=ze;have cN:=uI (h.mono qR) at_
 have w9:(l.map bare).zip xs=JQ q k->l.map bare=(JQ q k).map (·.1)/\xs=(JQ q k).map (·.2):=fun hz=>by
  rw [<-hz];exact ⟨(List.map_fst_zip (by rw [yo,Um];exact zN _)).symm,(List.map_snd_zip (by rw [yo,Um];exact zN _)).symm⟩
 obtain ⟨st,kt⟩: ∃st:Bool,(!(q.has at_)||(decide (0<=lv)&&((q.get at_).level !=lv-1)))=st:=⟨_,rfl⟩
 repeat' (refine nv ?_)
 refine xQ cN ?_;rintro _ M2 _ zD-⟨-,rfl,z,rfl,hz,jL⟩;refine zJ ?_;have oz:=zI hz;have K3:z.level=(q.get at_).level:=by rw [<-jL];rfl
 have hle:=qR.trans zD;have h2:=h.mono hle
 repeat' (first|refine yh (dst:=some 9) zh fun b9=>?_|refine kV (x:= .region 4 _ _) (fun s'=>vo s' ⟨M2, .zK (ptr b9) 143 (yr z):: .zK (ptr b7) 118 [.string x.lo, .string x.hi, .bool x.vx]:: .zC v2 118 3 xs.length (xs.flatMap qi):: .zC v1 143 10 l.length (l.flatMap yr)::(s.ob++F),[(0, .v (ptr sb)),(1, .v (.string k)),(4, .v v1),(5, .v v2),(7, .v (ptr b7)),(9, .v (ptr b9)),(31, .v (.bool st))]⟩) ?_ ?_|refine nv ?_)
 · cases hha:q.has at_ with
   |false=>
    rw [hha] at kt;subst kt
    repeat' (refine nv ?_)
    exact ⟨rfl,xZ Qj⟩
   |true=>
    rw [hha] at kt;cases d1:decide (0<=lv) with
    |false=>
     rw [d1] at kt;subst kt
     repeat' (refine nv ?_)
     exact ⟨rfl,xZ Qj⟩
    |true=>
     rw [d1] at kt;rw [<-K3] at kt
     repeat' (refine nv ?_)
     subst kt;exact ⟨rfl,xZ Qj⟩
 · rintro s' hs;refine x8 _ hs ?_;cases hso:st with
   |true=>
    subst hso
    have hw:WU q k (f+1) at_ lv x= []:=by
     unfold WU;rw [zo];rw [YY,yF] at kt;rcases kt with h1|⟨h1,h2⟩
     · exact .inl (by simpa using h1)
     · exact .inr ⟨qc h1,bne_iff_ne.1 h2⟩
    rw [hw,xR] at bZ;obtain ⟨e1,e2⟩:=w9 bZ;refine wG (zh:uw _ (.zC v2 118 3 xs.length (xs.flatMap qi)) _) fun M3 yc aq=>?_
    refine wG (zh:uw _ (.zC v1 143 10 l.length (l.flatMap yr)) _) fun M4 yQ iC=>?_
    repeat' (refine nv ?_)
    have l4:=(hle.trans yc).trans yQ;exact ⟨_,s.ob,kH,l4,zh,zq,l4,rfl,v1,v2,l,rfl,ud.YB (fun _ _=>rfl) iC,e2▸(ud.YB (cells:=qi) (fun _ _=>rfl) aq).mono yQ,fun n hn=>(ju n hn).mono ((zD.trans yc).trans yQ),e1⟩
   |false=>
    subst hso
    have wK:¬ (q.has at_=false\/(0<=lv/\(q.get at_).level≠lv-1)):=by
     rw [IV,Bool.and_eq_false_iff] at kt;rintro (h1|⟨h1,h3⟩)
     · rw [h1] at kt;simp at kt
     · rcases kt.2 with h4|h4
       · exact absurd h1 (wc h4)
       · exact absurd (bne_eq_false_iff_eq.1 h4) h3
    have hw:WU q k (f+1) at_ lv x=(q.get at_,x)::(if (q.get at_).level<=0\/vC (q.get at_).ps (q.get at_).ks=false then [] else WU q k f ((q.get at_).ks.getD (jq (q.get at_).ps k) 0) (q.get at_).level (vT x (xL (q.get at_).ps (jq (q.get at_).ps k:Nat)))):=by
     show (if _ then _ else _)=_;rw [zn wK]
    rw [hw] at bZ;have a1:(l++ [z]).length=l.length+1:=by simp
    have a2:(l++ [z]).flatMap yr=l.flatMap yr++yr z:=by simp
    have a3:(xs++ [x]).length=xs.length+1:=by simp
    have a4:(xs++ [x]).flatMap qi=xs.flatMap qi++qi x:=by simp
    have hlx:((l++ [z]).map bare).zip (xs++ [x])=(l.map bare).zip xs++ [(q.get at_,x)]:=by
     rw [jo,List.zip_append (by rw [yo,Um]),List.map_singleton,jL];rfl
    have gP: ∀n∈l++ [z],n.Ok M2:=fun n hn=>by
     rcases jH.1 hn with h3|h3
     · exact (ju n h3).mono zD
     · rw [jx.1 h3];exact hz
    rw [<-List.singleton_append,<-xY,<-hlx] at bZ
    repeat' (first|refine kV (x:= .region 6 _ _) (fun s'=> ∃u1 u2,j2 u1 (l++ [z]).length/\j2 u2 (xs++ [x]).length/\vo s' ⟨M2, .zK (ptr b9) 143 (yr z):: .zK (ptr b7) 118 [.string x.lo, .string x.hi, .bool x.vx]:: .zC u2 118 3 (xs++ [x]).length ((xs++ [x]).flatMap qi):: .zC u1 143 10 (l++ [z]).length ((l++ [z]).flatMap yr)::(s.ob++F),[(0, .v (ptr sb)),(1, .v (.string k)),(4, .v u1),(5, .v u2),(7, .v (ptr b7)),(8, .v (.int .i64 z.level)),(9, .v (ptr b9))]⟩) ?_ ?_|refine nv ?_)
    · rw [a1,a2,a3,a4];refine zU [.v v1, .v v2] [2,3,6,7,10,11] [3] 2 yI zd zd ?_;have an:l.length<=1000000001:=ze;have ozh:=oz.h;have oR:xs.length<=1000000001:=ze
      repeat' (first|(refine Uc rfl rfl (fun w1 be=>?_) ?_;obtain ⟨bb1,cc1,rfl,MV,MU⟩:=xB be ze)|refine V2 rfl rfl rfl (fun w2 V9=>have ow2:=j2.one V9;?_) ?_|refine nu ?_|exact zx|refine nz ?_ ?_)
      all_goals
       refine ⟨rfl,_,_,?_,?_,xZ Qj⟩<;>assumption
    · rintro TJ ⟨u1,u2,hu1,hu2,gd⟩;refine x8 _ gd ?_;have Td:z.ps=(q.get at_).ps:=by rw [<-jL];rfl
      have Ig:z.ks=(q.get at_).ks:=by rw [<-jL];rfl
      have CS:=ia.pn;have gQ:=ia.kn;have aee:=hc.f64;have eq2:(xs++ [x]).length=(l++ [z]).length:=by rw [a1,a3,Um]
      have acs:((l++ [z]).map bare).zip (xs++ [x])=JQ q k->(l++ [z]).map bare=(JQ q k).map (·.1)/\(xs++ [x])=(JQ q k).map (·.2):=fun hz=>by
       rw [<-hz];exact ⟨(List.map_fst_zip (by rw [yo,eq2];exact zN _)).symm,(List.map_snd_zip (by rw [yo,eq2];exact zN _)).symm⟩
      have cR:=fun (W:World) (hW:M2.le (Mem.of W))=>XY z.pv z.kv z.ps z.ks W (hz.1.xS hW) (hz.2.1.xS hW) (by rw [Td];omega)
      clear hw Um w9;generalize l++ [z]=l2 at*;generalize xs++ [x]=xs2 at*;cases d2:decide (z.level<=0) with
      |true=>
       rw [zo (.inl (by rw [<-K3];exact qc d2)),xR] at bZ;obtain ⟨e1,e2⟩:=acs bZ;refine wG (zh:uw _ (.zC u2 118 3 xs2.length (xs2.flatMap qi)) _) fun M3 yc aq=>?_
       refine wG (zh:uw _ (.zC u1 143 10 l2.length (l2.flatMap yr)) _) fun M4 yQ iC=>?_
       repeat' (refine nv ?_)
       have l4:=(hle.trans yc).trans yQ;exact ⟨_,s.ob,kH,l4,zh,zq,l4,rfl,u1,u2,l2,rfl,ud.YB (fun _ _=>rfl) iC,e2▸(ud.YB (cells:=qi) (fun _ _=>rfl) aq).mono yQ,fun n hn=>(gP n hn).mono (yc.trans yQ),e1⟩
      |false=>
       have oU:¬ (q.get at_).level<=0:=by rw [<-K3];exact wc d2
       cases CR:vC z.ps z.ks with
       |false=>
        rw [zo (.inr (by rw [<-Td,<-Ig];exact CR)),xR] at bZ;rw [CR] at cR;obtain ⟨e1,e2⟩:=acs bZ;refine wG (zh:uw _ (.zC u2 118 3 xs2.length (xs2.flatMap qi)) _) fun M3 yc aq=>?_
        refine wG (zh:uw _ (.zC u1 143 10 l2.length (l2.flatMap yr)) _) fun M4 yQ iC=>?_
        have cR4:=fun (W:World) (hW:M4.le (Mem.of W))=>cR W ((yc.trans yQ).trans hW)
        repeat' (first|((apply zA);(exact zm zd cR4);rfl)|refine nv ?_)
        have l4:=(hle.trans yc).trans yQ;exact ⟨_,s.ob,kH,l4,zh,zq,l4,rfl,u1,u2,l2,rfl,ud.YB (fun _ _=>rfl) iC,e2▸(ud.YB (cells:=qi) (fun _ _=>rfl) aq).mono yQ,fun n hn=>(gP n hn).mono (yc.trans yQ),e1⟩
       |true=>
        rw [zn (by rintro (h1|h1);exact oU h1;rw [<-Td,<-Ig,CR] at h1;cases h1)] at bZ;rw [CR] at cR;have uL:=W7 CR;have cRo:=fun (W:World) (hW:M2.le (Mem.of W))=>ZR z.pv z.ps k W (hz.1.xS hW) (by rw [Td];omega) uL.1
        have Tj:=X3 z.ps k;rw [<-Td,<-Ig] at bZ;generalize jq z.ps k=r at*;have adZ:r<z.ks.length:=by rw [uL.2];omega
        have cRg:=fun (W:World) (hW:M2.le (Mem.of W))=>ZS z.pv z.ps (r:Nat) W (hz.1.xS hW) (by rw [Td];omega)
        have cMe:=fun W=>YM x (xL z.ps (r:Nat)) W
        have UF:=hz.2.1;obtain ⟨A,c,X4,_⟩:=id UF;rw [X4] at UF cR;obtain ⟨ba,off,rfl,jk⟩:=UF.get adZ;have ZA:=jk 0 _ rfl;rw [show z.ks.getD r 0=z.ks[r] by simp [List.getD,adZ]] at bZ;dsimp only [yr];rw [X4]
        repeat' (first|refine zU [.v (ptr b7)] [12] [12] 3 yI zd zd ?_|((apply zA);(first|exact zm zd cR|exact zm zd cRo);rfl)|refine nv ?_)
        repeat' (first|refine X0 zd (by exact Y4 (by first|exact zm zd cRg|exact zj r zd zd rfl adZ|exact hY zd ZA|exact zm zd (fun W _=>cMe W))) zd ?_|refine nu ?_|exact zx|refine nz ?_ ?_)
        have ak9:(q.get at_).level<=(f:Int):=by
         rcases gS with ⟨h1,h2,h3⟩|⟨h1,h2⟩
         · subst h2;omega
         · have:(q.get at_).level=lv-1:=by
            rcases t6 ((q.get at_).level=lv-1) with h3|h3
            · exact h3
            · exact absurd (.inr ⟨ze,h3⟩) wK
           omega
        exact yG (Q:=fun _ _=>True) ⟨f,z.ks[r],z.level,vT x (xL z.ps (r:Nat)),M2,u1,u2,l2,xs2⟩ (xZ Qj) ⟨hle, .inr ⟨by dsimp only;omega,by dsimp only;rw [K3];exact ak9⟩,hu1,hu2,gP,by dsimp only;rw [a1];omega,by rw [<-K3] at bZ;exact bZ,eq2⟩ (by dsimp only;omega)
end
section
open Go Go.RowKit
attribute [local irreducible] Calls
theorem EL {sb:Nat} {b:Int} {q:kY} {M:Mem} {s:qC} (h:qe sb b q M s) (hb:b<=1000000000) (k:ByteArray):
 zu zf 91 [ptr sb, .string k] M s.ob (fun r M' o=>M.le M'/\o=s.ob/\ ∃z:Nd,r= .tuple #[z.av,(kL q k).2.1.av, .bool (kL q k).2.2]/\z.Ok M'/\bare z=(kL q k).1):=by
 have cW:=pH h hb k;have o0:=zI (vI M);unfold kL;generalize JQ q k=W0 at*;refine KC Tryz.func91 rfl Tryz.ntmps91 zd (fun F w M0 hF=>zz ?_)
 repeat' (first|refine yh (dst:=some 4) zh fun b4=>?_|refine yh (dst:=some 5) zh fun b5=>?_|refine nv ?_)
 refine xQ cW ?_;rintro _ M2 _ zD-⟨-,rfl,u,v,l,rfl,hu,hv,ju,hl⟩;refine zJ ?_;obtain ⟨A,c,rfl,vK,qD,_⟩:=id hu;obtain ⟨B,d,rfl,Zy,uN,_⟩:=id hv;have nX:l.length=W0.length:=by have:=z5 List.length hl;simpa using this
 rw [yo,<-nX] at hv Zy⊢;unfold maxLen at qD;cases hW:W0 with
 |nil=>
  subst hW;obtain rfl:l= []:=dm nX;have g1:((([]:List Nd).length:Int)==0)=true:=rfl;dsimp only [List.getLast?_nil]
  repeat' (refine nv ?_)
  skip
  skip
  exact ⟨_,s.ob,kB.three rfl (RV.agg zd) (RV.agg zd) (RV.tmp zd),zD,zh,zq,zD,rfl,wZ,rfl,vI _,rfl⟩
 |cons w0 ws=>
  have jt:W0≠ []:=by rw [hW];simp
  rw [<-hW];clear hW;have U4:=Qk.2 jt;obtain ⟨j,hj⟩: ∃j,j+1=l.length:=⟨l.length-1,ze⟩;have Wb:j<l.length:=ze;have hjw:j<W0.length:=ze;have hgl:W0.getLast?=some W0[j]:=by rw [Si,show W0.length-1=j by omega,jA hjw]
  rw [hgl]
  have hzb:bare l[j]=W0[j].1:=by
   have:=z5 (fun x:List Nd=>x[j]?) hl;simp only [qd,jA Wb,jA hjw,ur,Ua] at this;exact this
  have hz:=ju _ (yD Wb);have oz:=zI hz;have g1:((l.length:Int)==0)=false:=beq_eq_false_iff_ne.2 ze;have hj1:((l.length:Nat):Int)-1=(j:Int):=ze;obtain ⟨ba,aoP,rfl,jk⟩:=hu.get Wb;have hjv:j<(W0.map (·.2)).length:=by rw [yo];exact hjw
  obtain ⟨bb,agp,Ga,iA⟩:=xt.get (by rw [yo,<-nX];exact hv) hjv;subst Ga;rw [show (W0.map (·.2))[j]=W0[j].2 by simp] at iA;generalize W0[j]=wl at*;obtain ⟨wn,wx⟩:=wl;generalize l[j]=z at*;dsimp only at*;have J5:j<W0.length:=hjw
  repeat' (first|refine zU [.v (ptr b4), .v (ptr b5)] [12,13] [12] 5 yI zd zd ?_|refine nv ?_)
  repeat' (first|refine X0 zd (by exact Y4 (by first|exact xG (z5 (Value.int .i64) hj1) (yN zd zd (Qs ze ze))|exact zj j zd zd rfl ze|exact zZ _ zd jk _ zd|exact zZ _ zd iA _ zd)) zd ?_|refine nu ?_|exact zx|refine nz ?_ ?_)
  repeat' (refine nv ?_)
  exact ⟨_,s.ob,kB.three rfl (RV.agg zd) (RV.agg zd) (RV.tmp zd),zD,zh,zq,zD,rfl,z,rfl,hz,hzb⟩
theorem Bv (q:kY) (k:ByteArray): ∀(f:Nat) (i lv:Int) (x:yW),(WU q k f i lv x).length<=f
 |0,_,_,_=>zN _
 |f+1,i,lv,x=>by
  unfold WU;split
  · exact zW _
  · split
    · simp
    · rw [xd];have:=Bv q k f ((q.get i).ks.getD (jq (q.get i).ps k) 0) (q.get i).level (vT x (xL (q.get i).ps (jq (q.get i).ps k:Nat)));omega
theorem Bu (q:kY) (k:ByteArray): ∀(f:Nat) (i lv:Int) (x:yW) (y:Nd×yW),y∈WU q k f i lv x-> ∃j,y.1=q.get j
 |0,_,_,_,y,h=>nomatch h
 |f+1,i,lv,x,y,h=>by
  unfold WU at h;split at h
  · cases h
  · rcases jm.1 h with rfl|h
    · exact ⟨i,rfl⟩
    · split at h
      · cases h
      · exact Bu q k f _ _ _ y h
theorem Bt {b:Int} {q:kY} (h:Yz b q) (k:ByteArray):((JQ q k).length:Int)<=b+1:=by
 have h1:=Bv q k ((q.get 0).level.toNat+1) 0 (-1) all;have h2:=(h.get 0).PA;have h3:=(h.get 0).H7;unfold JQ;omega
theorem iM {b:Int} {q:kY} (h:Yz b q) (k:ByteArray): ∀y∈JQ q k,yB q.c b y.1:=fun y hy=>by
 obtain ⟨j,hj⟩:=Bu q k _ _ _ _ y hy;rw [hj];exact h.get j
theorem g8 (n:Nat): ∀(ls:List (List xi)),(∀l∈ls,l.length<=n)->X8 ls<=n*ls.length
 | [],_=>zW _
 |l::ls,h=>by
  rw [dL,xd,Nat.mul_succ];have:=g8 n ls fun x hx=>h x (XJ _ hx)
  have:=h l Yq;omega
theorem EK {sb:Nat} {b:Int} {q:kY} {M:Mem} {s:qC} (h:qe sb b q M s) (hb:b<=500000) (k:ByteArray):
 zu zf 94 [ptr sb, .string k] M s.ob (fun r M' o=>M.le M'/\o=s.ob/\xt M' 6 zR r (XG q k)):=by
 have cW:=pH h ze k;have MD:=Bt h.inv k;have Tf:=iM h.inv k;have hc:=h.inv.c;unfold XG;generalize JQ q k=W0 at*;refine xy Tryz.func94 rfl Tryz.ntmps94 zd (fun F w M0 hF=>zz ?_);refine uU 141 1 ?_
 repeat' (refine nv ?_)
 refine xQ cW ?_;rintro _ M2 _ zD-⟨-,rfl,u,v,l,rfl,hu,hv,ju,hl⟩;refine zJ ?_;obtain ⟨A,c,rfl,vK,qD,_⟩:=id hu;obtain ⟨B,d,rfl,Zy,uN,_⟩:=id hv;have nX:l.length=W0.length:=by have:=z5 List.length hl;simpa using this
 rw [yo,<-nX] at hv Zy⊢;unfold maxLen at qD
 repeat' (refine nv ?_)
 refine gC (.zC (.slice none 0 0) 141 1 0 []::(s.ob++F)) ?_
 refine jv (fun x:Nat×Value×List Lm=>⟨M2, .zC x.2.1 141 1 x.2.2.length (x.2.2.flatMap ke)::(s.ob++F),[(0, .v (ptr sb)),(1, .v (.string k)),(5, .v (.slice A l.length c)),(6, .v (.slice B l.length d)),(7, .v x.2.1),(16, .v (.slice A l.length c)),(17, .v (.int .i64 l.length)),(18, .v (.int .i64 x.1))]⟩)
  (fun x=>x.1<=l.length/\j2 x.2.1 x.2.2.length/\x.2.2=(l.take x.1).map (fun n=>(⟨n.mv,n.ms⟩:Lm))) (fun x=>l.length-x.1) (0, .slice none 0 0,[]) ⟨rfl,ji.refl _,⟨rfl,rfl,rfl,rfl,rfl,rfl,rfl,rfl,trivial⟩,rfl⟩ ⟨zW _, .inl ⟨rfl,rfl⟩,rfl⟩ ?_
 rintro ⟨j,w1,ls⟩ ⟨hj,hw,Ux⟩;dsimp only at hj hw Ux⊢;have FR:ls.length=j:=by rw [Ux,yo,yC];omega
 rcases yq j l.length with z9|ql
 · have hd:=Xp z9;obtain ⟨ba,off,rfl,jk⟩:=hu.get z9;have hz:=ju _ (yD z9);have oz:=zI hz;have om:=hz.2.2.1.yf;have kt:(l.take (j+1)).map (fun n=>(⟨n.mv,n.ms⟩:Lm))=ls++ [⟨l[j].mv,l[j].ms⟩]:=by rw [vF z9,jo,Ux];rfl
   generalize l[j]=z at*;obtain ⟨Am,cm,A0,_⟩:=id hz.2.2.1;have e1:(ls++ [(⟨z.mv,z.ms⟩:Lm)]).length=ls.length+1:=by simp
   have e2:(ls++ [(⟨z.mv,z.ms⟩:Lm)]).flatMap ke=ls.flatMap ke++ [z.mv]:=by simp
   have kJ:(ls.length:Int)<=500001:=ze
   repeat' (first|refine yh (dst:=some 9) zh fun b9=>?_|((apply zA);(first|exact zj (j) zd zd ze ze|exact zZ _ zd jk _ zd);rfl)|refine nv ?_)
   generalize z.mv=mv at e1 e2 kt A0 om⊢;subst A0
   repeat' (first|refine gM zd (fun _=>rfl) (fun b3 c3 v3 FI=>?_)|refine nv ?_)
   exact yG (Q:=fun _ _=>True) (j+1,v3,ls++ [(⟨.slice Am z.ms.length cm,z.ms⟩:Lm)]) ⟨rfl,by dsimp only;rw [e1,e2];exact (zh:gZ _ _).h,⟨rfl,rfl,rfl,rfl,rfl,rfl,rfl,rfl,trivial⟩,rfl⟩ ⟨z9,by dsimp only;rw [e1];exact FI,kt.symm⟩ (by dsimp only;omega)
 · have hd:=Xq ql;obtain rfl:j=l.length:=ze;rw [xk] at Ux;cases hW:W0 with
   |nil=>
    subst hW;have g1:((l.length:Int)==0)=true:=by rw [nX];rfl
    repeat' (refine nv ?_)
    exact ⟨_,s.ob,zP,zD,zh,zq,zD,rfl,xt.nil _ _ _⟩
   |cons w0 ws=>
    have jt:W0≠ []:=by rw [hW];simp
    rw [<-hW];clear hW;have U4:=Qk.2 jt;obtain ⟨j,hj⟩: ∃j,j+1=l.length:=⟨l.length-1,ze⟩;have hjw:j<W0.length:=ze;have hgl:W0.getLast?=some W0[j]:=by rw [Si,show W0.length-1=j by omega,jA hjw]
    rw [hgl];have g1:((l.length:Int)==0)=false:=beq_eq_false_iff_ne.2 ze;have hj1:((l.length:Nat):Int)-1=(j:Int):=ze;have hjv:j<(W0.map (·.2)).length:=by rw [yo];exact hjw
    have hlm:ls.map Lm.l=W0.map (fun y=>y.1.ms):=by
     rw [Ux,XB];have:=z5 (List.map Nd.ms) hl;rw [XB,XB] at this;exact this
    have hle:ls.length=W0.length:=by have:=z5 List.length hlm;simpa using this
    have hkz: ∀y∈ls,(∀m∈y.l,m.key.size<=1000000)/\y.l.length<=1024:=fun y hy=>by
     have:y.l∈ls.map Lm.l:=m5 hy;rw [hlm] at this;obtain ⟨w,hw,he⟩:=uT.1 this;have hi:=Tf w hw;rw [<-he];exact ⟨fun m hm=>by have:=(hi.ms m hm).key;omega,hi.bP hc⟩
    have MF:X8 (ls.map Lm.l)<=1000000000:=by
     have:=g8 1024 (ls.map Lm.l) (fun l hl=>by obtain ⟨y,hy,rfl⟩:=uT.1 hl;exact (hkz y hy).2);rw [yo] at this;omega
    obtain ⟨bb,agp,Ga,iA⟩:=xt.get (by rw [yo,<-nX];exact hv) hjv;subst Ga;rw [show (W0.map (·.2))[j]=W0[j].2 by simp] at iA;rw [<-hlm];refine wG (uw.one _ _) fun M3 yc aq=>?_
    have MH:=aq.YB (cells:=ke) (fun _ _=>rfl)
    have cP:=(lF W0[j].2 w1 ls M3 MH (fun y hy=>by
     rw [Ux] at hy;obtain ⟨n,hn,rfl⟩:=uT.1 hy;exact (ju n hn).2.2.1.mono yc) ze MF (fun y hy=>(hkz y hy).1)).sl (fun _ _=>rfl)
    have alD: ∀(j1:Nat) (x:Value),(qi W0[j].2)[j1]?=some x->M3.cell bb (agp+j*3+j1)=some x:=fun j1 x hx=>yc.cell (iA j1 x hx)
    generalize W0[j]=wj at*;obtain ⟨wn,wx⟩:=wj;dsimp only at*;generalize J0 wx (ls.map Lm.l)=ZV at*
    repeat' (first|((apply zA);(first|exact xG (z5 (Value.int .i64) hj1) (yN zd zd (Qs ze ze))|exact zj j zd zd rfl ze|exact zZ _ zd alD _ zd);rfl)|refine nv ?_)
    refine xQ cP ?_;rintro r M4 _ yQ-⟨-,rfl,hr⟩;refine zJ ?_
    repeat' (refine nv ?_)
    have l4:=(zD.trans yc).trans yQ;exact ⟨_,s.ob,zP,l4,zh,zq,l4,rfl,hr⟩
end
end Go.Proofs.YtaibdpjjojihmaaGreat
