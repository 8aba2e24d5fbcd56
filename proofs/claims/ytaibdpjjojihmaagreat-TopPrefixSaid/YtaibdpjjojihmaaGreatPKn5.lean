/- A part of the proof of TopPrefix; no conditions. -/
import Derived.Test.YtaibdpjjojihmaaGreatPKn4
set_option linter.unusedVariables false
set_option linter.unusedSimpArgs false
set_option maxRecDepth 20000
set_option maxHeartbeats 4000000
namespace Go.Proofs.YtaibdpjjojihmaaGreat
section
open Go Go.RowKit
attribute [local irreducible] Calls
theorem O8 {P:List ByteArray} {l:List y6} {s:yW} {ms:List xi} {k:ByteArray} {left:Int} (h:Oe P s) (hd:(ww l s ms k left).2.2=false):(ww l s ms k left).2.1∈P:=by
 unfold ww at hd⊢;by_cases he:empty s=true
 · rw [zo he] at hd;cases hd
 · rw [zn he] at hd⊢;dsimp only at hd⊢;rw [IV] at hd;rw [zn (by rw [hd.1];simp)];exact h.resolve_left (by rw [hd.1];simp)
theorem lh (l:List y6) (s:yW) (ms:List xi) (k:ByteArray) (left:Int) (h:0<=left):((ww l s ms k left).1.length:Int)<=left:=by
 unfold ww;split
 · exact h
 · show (((fN l s ms).take _).length:Int)<=left;rw [yC];omega
theorem j2.sl2 {v:Value} {n:Nat} (h:j2 v n): ∃A c,v= .slice A n c/\n<=c:=by
 rcases h with ⟨rfl,rfl⟩|⟨b,c,rfl,h,_⟩
 · exact ⟨none,0,rfl,zN _⟩
 · exact ⟨_,c,rfl,h⟩
structure aiE where
 f:Nat
 lo:ByteArray
 M:Mem
 v:Value
 out:List y6
 b8:Nat
structure aiF (q:kY) (M:Mem) (y:aiE):Prop where
 hle:M.le y.M
 ab:gv q.mH y.lo<y.f
 lo:y.lo.size<=16
 v:j2 y.v y.out.length
 n:y.out.length<=17039360
 eq:BS q 17039360 y.f ⟨y.lo,em,true⟩ y.out=sO q
theorem Et {sb:Nat} {b:Int} {q:kY} {M:Mem} {s:qC} (h:qe sb b q M s) (hb:b<=90000):
 zu zf 72 [ptr sb, .agg #[.string em, .string em, .bool true], .int .i64 17039360] M s.ob (fun r M' o=>M.le M'/\o=s.ob/\xt M' 2 zi r (sO q)):=by
 have cN: ∀W,Calls zf 90 #[.agg #[.string em, .string em, .bool true]] W fun e w'=>e= .returned (.agg #[.string em, .string em, .bool true])/\Below W.heap.size W w':=fun W=>ZK all W
 have hc:=h.inv.c;have Ri:=hc.l64;have ap:=h.inv.b0;refine xy Tryz.func72 rfl Tryz.ntmps72 zd (fun F w M0 hF=>zz ?_);refine uU 54 2 ?_
 repeat' (first|refine yZ zd zh fun b4=>?_|refine yh (dst:=some 8) zh fun b8=>?_|((apply zA);(exact zm zd (fun W _=>cN W));rfl)|refine nv ?_)
 refine gC (.zC (.slice none 0 0) 54 2 0 []:: .zK (ptr b8) 118 [.string em, .string em, .bool true]::(s.ob++F)) ?_
 refine jv (fun y:aiE=>⟨y.M, .zC y.v 54 2 y.out.length (y.out.flatMap zi):: .zK (ptr y.b8) 118 [.string y.lo, .string em, .bool true]::(s.ob++F),[(0, .v (ptr sb)),(2, .v (.int .i64 17039360)),(7, .v y.v),(8, .v (ptr y.b8))]⟩)
  (aiF q M) (fun y=>y.f) ⟨q.mH.length+1,em,M, .slice none 0 0,[],b8⟩ ⟨rfl,ji.refl _,jY,rfl⟩ ⟨zE,Nat.lt_succ_of_le (R6 _ _),zW _, .inl ⟨rfl,rfl⟩,zW _,rfl⟩ ?_
 clear b8;rintro ⟨f,lo,M1,v,out,b8⟩ ⟨qR,hab,Qw,hv,hn,Um⟩;dsimp only at qR hab Qw hv hn Um⊢;obtain ⟨f,rfl⟩: ∃f',f=f'+1:=⟨f-1,ze⟩;have h1:=h.mono qR;obtain ⟨li,lsz,lhi⟩:=Mu h.inv lo;obtain ⟨mt,mln⟩:=aal h.inv lo;have cL:=EL h1 ze lo;have cE: ∀W,Calls zf 58 #[.agg #[.string lo, .string em, .bool true]] W fun e w'=>e= .returned (.bool false)/\Below W.heap.size W w':=fun W=>YN ⟨lo,em,true⟩ W
 have cMe:=fun W=>YM ⟨lo,em,true⟩ (kL q lo).2.1 W
 have ahl:jB 16 (vT ⟨lo,em,true⟩ (kL q lo).2.1):=QL ⟨Qw,zW _⟩ lsz;have ak3:Oe q.mH (vT ⟨lo,em,true⟩ (kL q lo).2.1):=H6 Yq (.inl rfl) lhi
 have hsc:BS q 17039360 (f+1) ⟨lo,em,true⟩ out=if (kL q lo).2.2=false\/empty ⟨lo,em,true⟩=true\/(17039360:Int)<=(out.length:Int) then out else
  if (ww (kL q lo).1.rs (vT ⟨lo,em,true⟩ (kL q lo).2.1) (XG q lo) lo (17039360-(out.length:Int))).2.2=true\/lt lo (ww (kL q lo).1.rs (vT ⟨lo,em,true⟩ (kL q lo).2.1) (XG q lo) lo (17039360-(out.length:Int))).2.1=false then out++(ww (kL q lo).1.rs (vT ⟨lo,em,true⟩ (kL q lo).2.1) (XG q lo) lo (17039360-(out.length:Int))).1
  else BS q 17039360 f (Qb ⟨lo,em,true⟩ (ww (kL q lo).1.rs (vT ⟨lo,em,true⟩ (kL q lo).2.1) (XG q lo) lo (17039360-(out.length:Int))).2.1) (out++(ww (kL q lo).1.rs (vT ⟨lo,em,true⟩ (kL q lo).2.1) (XG q lo) lo (17039360-(out.length:Int))).1):=rfl
 rw [hsc] at Um;clear hsc;have FM:=lh (kL q lo).1.rs (vT ⟨lo,em,true⟩ (kL q lo).2.1) (XG q lo) lo (17039360-(out.length:Int)) ze;have hpc:=fun hd=>O8 (l:=(kL q lo).1.rs) (ms:=XG q lo) (k:=lo) (left:=17039360-(out.length:Int)) ak3 hd
 have cP:=fun (M':Mem) (v u:Value) (hl:xt M' 2 zi v (kL q lo).1.rs) (hm:xt M' 6 zR u (XG q lo))=>iQ v u (kL q lo).1.rs (vT ⟨lo,em,true⟩ (kL q lo).2.1) (XG q lo) lo (17039360-(out.length:Int)) M' hl hm li.rows mt (ahl.mono Kq) (by have:=li.rn;omega) ze ze
 generalize ww (kL q lo).1.rs (vT ⟨lo,em,true⟩ (kL q lo).2.1) (XG q lo) lo (17039360-(out.length:Int))=pq at*;obtain ⟨pr,pc,pd⟩:=pq;dsimp only at*
 repeat' (refine nv ?_)
 refine xQ cL ?_;rintro _ M2 _ zD-⟨-,rfl,z,rfl,hz,jL⟩;refine zJ ?_;have oz:=zI hz;have hle:=qR.trans zD;have FE:z.rs=(kL q lo).1.rs:=by rw [<-jL];rfl
 have hzv:xt M2 2 zi z.rv (kL q lo).1.rs:=by rw [<-FE];exact hz.2.2.2
 generalize (kL q lo).2.1=lx at*;cases ju:(kL q lo).2.2 with
 |false=>
  rw [zo (.inl ju)] at Um;refine Yu (zh:uw _ (.zC v 54 2 out.length (out.flatMap zi)) _) fun M3 yc aq=>?_
  repeat' (first|refine yh (dst:=some 9) zh fun b9=>?_|refine yh (dst:=some 10) zh fun b10=>?_|refine nv ?_)
  have l3:=hle.trans yc;exact ⟨_,s.ob,zP,l3,zh,zq,l3,rfl,by rw [<-Um];exact ud.YB (fun _ _=>rfl) aq⟩
 |true=>
  obtain ⟨Av,cv,oS,hvc⟩:=hv.sl2;cases d1:decide ((17039360:Int)<=(out.length:Int)) with
  |true=>
   rw [zo (.inr (.inr (qc d1)))] at Um;refine Yu (zh:uw _ (.zC v 54 2 out.length (out.flatMap zi)) _) fun M3 yc aq=>?_
   subst oS
   repeat' (first|refine yh (dst:=some 9) zh fun b9=>?_|refine yh (dst:=some 10) zh fun b10=>?_|((apply zA);(exact zm zd (fun W _=>cE W));rfl)|refine nv ?_)
   have l3:=hle.trans yc;exact ⟨_,s.ob,zP,l3,zh,zq,l3,rfl,by rw [<-Um];exact ud.YB (fun _ _=>rfl) aq⟩
  |false=>
   have aht:=wc d1;rw [zn (by rintro (e|e|e);rw [ju] at e;cases e;cases e;exact aht e)] at Um;subst oS;have h2:=h.mono hle;have cMs:=EK h2 ze lo;have Cg:=hz.2.2.2.yf
   repeat' (first|refine yh (dst:=some 9) zh fun b9=>?_|refine yh (dst:=some 10) zh fun b10=>?_|refine kV (x:= .region 6 _ _) (fun s'=> ∃M4 w,M2.le M4/\xt M4 2 zi w pr/\vo s' ⟨M4, .zC (.slice Av out.length cv) 54 2 out.length (out.flatMap zi):: .zK (ptr b8) 118 [.string lo, .string em, .bool true]::(s.ob++F),[(0, .v (ptr sb)),(2, .v (.int .i64 17039360)),(7, .v (.slice Av out.length cv)),(8, .v (ptr b8)),(12, .v w),(13, .v (.string pc)),(14, .v (.bool pd))]⟩) ?_ ?_|refine zU [] [8,15,16,17,18,19,20,21,22] [] 1 yI zd zd ?_|((apply zA);(exact zm zd (fun W _=>cE W));rfl)|refine nv ?_)
   · repeat' (first|refine X0 zd (by exact Y4 (by exact zm zd (fun W _=>cMe W))) zd ?_|refine nu ?_)
     refine xF cMs rfl ?_ zx;rintro mu M3 _ yc-⟨-,rfl,hmu⟩;refine yJ ?_;have cPa:=cP M3 z.rv mu (hzv.mono yc) hmu
     repeat' (refine nu ?_)
     refine xF cPa rfl ?_ zx;rintro _ M4 _ yQ-⟨-,rfl,w,rfl,hw⟩;refine yJ ?_
     repeat' (first|refine nu ?_|exact zx|refine nz ?_ ?_)
     all_goals
      exact ⟨rfl,M4,w,yc.trans yQ,hw,xZ Qj⟩
   · rintro s' ⟨M4,w,yQ,hw,hs⟩;refine x8 _ hs ?_;have l4:=hle.trans yQ;obtain ⟨Aw,cw,rfl,be,V9,_⟩:=id hw;have hnl:(pr.length:Int)<=17039360-(out.length:Int):=FM
     repeat' (first|refine kV (x:= .region 7 _ _) (fun s'=> ∃vv,j2 vv (out++pr).length/\vo s' ⟨M4, .zC vv 54 2 (out++pr).length ((out++pr).flatMap zi):: .zK (ptr b8) 118 [.string lo, .string em, .bool true]::(s.ob++F),[(0, .v (ptr sb)),(2, .v (.int .i64 17039360)),(7, .v vv),(8, .v (ptr b8)),(13, .v (.string pc)),(14, .v (.bool pd))]⟩) ?_ ?_|refine nv ?_)
     · by_cases hp0:pr= []
       · subst hp0;rw [xR]
         repeat' (first|((apply zA);(exact WO zd zd hvc);rfl)|refine nv ?_)
         exact ⟨rfl,_,hv,xZ JE⟩
       · obtain ⟨bw,ow,rfl,gT,cg⟩:=xt.flat (k:=2) (cells:=zi) (fun _ _=>rfl) hw hp0;have e1:(out++pr).length=out.length+pr.length:=yK;have e2:(out++pr).flatMap zi=out.flatMap zi++pr.flatMap zi:=JF
         have Jr:(pr.flatMap zi).all (·.oneCell')=true:=by
          rw [yw];intro u hu;obtain ⟨p,_,hu⟩:=KA.1 hu;rcases jm.1 hu with rfl|hu
          · rfl
          · rw [jx.1 hu];rfl
         rw [e1,e2]
         repeat' (first|refine ft zd zd (zh:uw _ (.zC (.slice Av out.length cv) 54 2 out.length (out.flatMap zi)) _) gT (.inr cg) Jr (Qk.2 hp0) (by unfold maxLen;omega) ze zd zd (fun vv oS=>?_)|refine nv ?_)
         exact ⟨rfl,vv,oS,xZ JE⟩
     · rintro s2 ⟨vv,oS,gd⟩;refine x8 _ gd ?_;have fin:pd=true\/lt lo pc=false->sO q=out++pr:=fun e=>by rw [zo e] at Um;exact Um.symm
       cases bf:pd with
       |true=>
        have e:=fin (.inl bf);refine wG (uw.one _ _) fun M5 kG hR5=>?_
        repeat' (refine nv ?_)
        have l5:=l4.trans kG;exact ⟨_,s.ob,zP,l5,zh,zq,l5,rfl,by rw [e];exact ud.YB (fun _ _=>rfl) hR5⟩
       |false=>
        cases z9:lt lo pc with
        |false=>
         have e:=fin (.inr z9);have e3:(!lt lo pc)=true:=by rw [z9];rfl
         refine wG (uw.one _ _) fun M5 kG hR5=>?_
         repeat' (refine nv ?_)
         have l5:=l4.trans kG;exact ⟨_,s.ob,zP,l5,zh,zq,l5,rfl,by rw [e];exact ud.YB (fun _ _=>rfl) hR5⟩
        |true=>
         rw [zn (by rw [bf,z9];simp),rf z9] at Um;have e3:(!lt lo pc)=false:=by rw [z9];rfl
         have ahb:=hpc bf
         have cFr: ∀W,Calls zf 95 #[.agg #[.string lo, .string em, .bool true], .string pc] W fun e w'=>e= .returned (.agg #[.string pc, .string em, .bool true])/\Below W.heap.size W w':=fun W=>by
          have:=pE ⟨lo,em,true⟩ pc W;rw [rf z9] at this;exact this
         repeat' (first|refine yh (dst:=some 8) zh fun b8'=>?_|((apply zA);(exact zm zd (fun W _=>cFr W));rfl)|refine nv ?_)
         exact yG (Q:=fun _ _=>True) ⟨f,pc,M4,vv,out++pr,b8'⟩ (xZ jY) ⟨l4,by have:=R5 ahb z9;dsimp only;omega,abc h.inv pc ahb,oS,by dsimp only;rw [yK];omega,Um⟩ (by dsimp only;omega)
theorem Lx {sb:Nat} {b:Int} {q:kY} {M:Mem} {s:qC} (h:qe sb b q M s) (hb:b<=90000):
 zu zf 48 [ptr sb] M s.ob (fun r M' o=>M.le M'/\o=s.ob/\xt M' 2 zi r (sO q)):=by
 have cA: ∀W,Calls zf 73 #[] W fun e w'=>e= .returned (.agg #[.string em, .string em, .bool true])/\Below W.heap.size W w':=fun W=>bD W
 have cS:=Et h hb;refine xy Tryz.func48 rfl Tryz.ntmps48 zd (fun F w M0 hF=>zz ?_)
 repeat' (first|((apply zA);(exact zm zd (fun W _=>cA W));rfl)|refine nv ?_)
 refine xQ cS ?_;rintro r M2 _ zD-⟨-,rfl,hr⟩;refine zJ ?_
 repeat' (refine nv ?_)
 exact ⟨_,s.ob,zP,zD,zh,zq,zD,rfl,hr⟩
end
section
open Go Go.RowKit
def Wj:Operand->List Nat
 | .tmp t=> [t]
 |_=> []
def dX (o:Oper):List Nat:=match o.op with
 | .move x=>Wj x
 | .assign x=>Wj x
 | .extract x _=>Wj x
 | .field _ x _=>Wj x
 | .unOp _ _ x=>Wj x
 | .binOp _ _ x y _=>Wj x++Wj y
 | .pick a b c=>Wj a++(Wj b++Wj c)
 |_=> []
def Env.fY (e:Env) (ts:List Nat):Env:=ts.filterMap fun t=>(e.get t).map fun v=>(t,v)
theorem Env.UW {e e':Env} {ts:List Nat} (h: ∀t∈ts,e.get t=e'.get t):e.fY ts=e'.fY ts:=by
 unfold Env.fY
 induction ts with
 |nil=>rfl
 |cons t ts ih=>
  rw [R8,R8,h t Yq,ih fun u hu=>h u (XJ _ hu)]
theorem Env.LN {e:Env} {ts:List Nat} {t:Nat} {sv:SV} (h:(e.fY ts).get t=some sv):e.get t=some sv:=by
 unfold Env.fY at h
 induction ts with
 |nil=>cases h
 |cons u ts ih=>
  rw [R8] at h;cases hu:e.get u with
  |none=>rw [hu] at h;exact ih h
  |some v=>
   rw [hu] at h;simp only [ur,Env.get] at h;split at h
   · rename_i hb
     obtain rfl:=qA hb;rw [hu];exact h
   · exact ih h
theorem Env.J8 (e:Env) (d:Option Tmp) (sv:SV) (t:Nat):(e.put d sv).get t=if d=some t then some sv else e.get t:=by
 cases d with
 |none=>rw [zn yx];rfl
 |some u=>
  show (match Nat.beq u t with|true=>some sv|false=>Env.get e t)=_;by_cases h:u=t
  · subst h;rw [ni,zo rfl]
  · rw [zn (by simpa using h)];cases hb:Nat.beq u t with
    |true=>exact absurd (qA hb) h
    |false=>rfl
def IB (d:Option Tmp) (ts:List Nat):Bool:=match d with|none=>false|some t=>ts.contains t
def acC:Option Tmp->Option Tmp->Bool
 |some a,some b=>Nat.beq a b
 |_,_=>false
theorem Dq {d:Option Tmp} {ts:List Nat} (h:IB d ts=false) {t:Nat} (ht:t∈ts):d≠some t:=fun e=>by
 subst e;have h2:ts.contains t=false:=h;rw [IY.2 ht] at h2;cases h2
theorem RI {a b:Option Tmp} (h:acC a b=false) {t:Nat} (ha:a=some t):b≠some t:=fun e=>by
 subst ha e;have h2:Nat.beq t t=false:=h;rw [ni] at h2;cases h2
def tL (l:List Oper):List Nat->Bool
 | []=>true
 |i::is=>(match l[i]? with
  |none=>false
  |some o=>is.all fun j=>match l[j]? with
   |none=>false
   |some q=>!acC o.dst q.dst&&!IB q.dst (dX o)&&(!IB o.dst (dX q)||Be l 4 j i))&&tL l is
section
variable {P:Program} {w:World} {M0:Mem} {N:Nat} {l:List Oper} {M:Mem} {own:List Ob}
theorem abJ {o:Oper} {e1 e2:Env} {v:Value} (h:QS P w M0 N o ⟨M,own,e1⟩ (.v v)) (hs: ∀t sv,e1.get t=some sv->e2.get t=some sv):QS P w M0 N o ⟨M,own,e2⟩ (.v v):= .mk fun hd a W hR=>h.go hd a W ⟨hR.1,⟨fun t sv hg=>hR.2.env t sv (hs t sv hg),hR.2.size,hR.2.defers⟩⟩
def Ts (P:Program) (w:World) (M0:Mem) (N:Nat) (l:List Oper) (M:Mem) (own:List Ob):List Nat->Env->(Env->Prop)->Prop
 | [],env,K=>K env
 |i::is,env,K=> ∃o v,l[i]?=some o/\o.guard=none/\yi N o.dst=true/\QS P w M0 N o ⟨M,own,env.fY (dX o)⟩ (.v v)/\Ts P w M0 N l M own is (env.put o.dst (.v v)) K
theorem I4 {K:Env->Prop} (hK: ∀e e',(∀t,e.get t=e'.get t)->K e->K e'): ∀(L:List Nat) (e e':Env),(∀t,e.get t=e'.get t)->Ts P w M0 N l M own L e K->Ts P w M0 N l M own L e' K
 | [],e,e',h,hv=>hK e e' h hv
 |i::is,e,e',h,⟨o,v,h1,h2,h3,h4,h5⟩=>⟨o,v,h1,h2,h3,by rw [<-Env.UW (fun t _=>h t)];exact h4,I4 hK is _ _ (fun t=>by rw [Env.J8,Env.J8,h t]) h5⟩
theorem rR {K:Env->Prop} (hK: ∀e e',(∀t,e.get t=e'.get t)->K e->K e'): ∀(L:List Nat) (env:Env) (k:Nat),tL l L=true->k∈L->(∀j∈L,Be l 4 k j=false)->Ts P w M0 N l M own L env K->
 ∃o v,l[k]?=some o/\o.guard=none/\yi N o.dst=true/\QS P w M0 N o ⟨M,own,env.fY (dX o)⟩ (.v v)/\Ts P w M0 N l M own (L.erase k) (env.put o.dst (.v v)) K
 | [],_,_,_,h,_,_=>nomatch h
 |i::is,env,k,hc,hk,ha,⟨o,v,h1,h2,h3,h4,h5⟩=>by
  by_cases e:i=k
  · subst e;rw [List.erase_cons_head];exact ⟨o,v,h1,h2,h3,h4,h5⟩
  · have Ul:k∈is:=(jm.1 hk).resolve_left (fun e2=>e e2.symm);unfold tL at hc;rw [h1] at hc;simp only [yF,yw] at hc;obtain ⟨vK,qD⟩:=hc;obtain ⟨o',v',g1,g2,g3,g4,g5⟩:=rR hK is (env.put o.dst (.v v)) k qD Ul (fun j hj=>ha j (XJ _ hj)) h5;have hck:=vK k Ul;rw [g1] at hck;simp only [yF,YY,KB] at hck;obtain ⟨⟨q1,q2⟩,q3⟩:=hck;have q3:IB o.dst (dX o')=false:=q3.resolve_right (by rw [ha i Yq];simp);rw [List.erase_cons_tail (by simpa using e)];refine ⟨o',v',g1,g2,g3,?_,o,v,h1,h2,h3,?_,?_⟩
    · rw [<-Env.UW (e:=env.put o.dst (.v v)) fun t ht=>by rw [Env.J8,zn (Dq q3 ht)]];exact g4
    · rw [Env.UW (e':=env) fun t ht=>by rw [Env.J8,zn (Dq q2 ht)]];exact h4
    · refine I4 hK _ _ _ (fun t=>?_) g5;rw [Env.J8,Env.J8,Env.J8,Env.J8];by_cases e1:o.dst=some t
      · rw [zo e1,zo e1,zn (RI q1 e1)]
      · rw [zn e1,zn e1]
theorem mP: ∀ {L L':List Nat},L'.Sublist L->tL l L=true->tL l L'=true
 |_,_, .slnil,h=>h
 |_,_, .cons a hs,h=>by
  unfold tL at h;rw [yF] at h;exact mP hs h.2
 |_,_, .cons_cons a hs,h=>by
  unfold tL at h⊢;rw [yF] at h⊢;refine ⟨?_,mP hs h.2⟩;have h1:=h.1;split at h1
  · cases h1
  · rename_i o ho
    rw [yw] at h1⊢;exact fun j hj=>h1 j (hs.subset hj)
def aa4 (Q:zX):zX:=fun e s=> ∃e0:Env,(∀t,e0.get t=s.env.get t)/\Q e ⟨s.M,s.own,e0⟩
theorem SG {c:Code} {s:St} {Q:zX} (h:VC P w M0 N c s (aa4 Q)):VC P w M0 N c s Q:= .mk fun hd a W hR=>
 vZ (h.go hd a W hR) fun e a' W' ⟨yE,s',uE,e0,h1,h2⟩=>⟨yE,⟨s'.M,s'.own,e0⟩,⟨uE.1,⟨fun t sv hg=>uE.2.env t sv (by rw [<-h1];exact hg),uE.2.size,uE.2.defers⟩⟩,h2⟩
theorem Iz {Q:zX} {e:Exit} {s:St} (h:Q e s):aa4 Q e s:=⟨s.env,fun _=>rfl,h⟩
theorem DJ {xJ U:List Ob} {e2:List Nat} {Q:St->Prop} {K:Env->Prop} (hK: ∀e e',(∀t,e.get t=e'.get t)->K e->K e') (hQ: ∀env,K env->Q ⟨M,own,env⟩): ∀(n:Nat) (xz:List Nat) (env:Env),xz.length<=n->tL l xz=true->(∀r,List.Sublist r xz->ji own (Kp e2 xJ U r))->Ts P w M0 N l M own xz env K->gA P w M0 N xJ U e2 l n xz ⟨M,own,env⟩ Q
 |0,xz,env,hn,hc,hs,hv=>fun e=>by
  subst e;exact hQ _ hv
 |n+1,xz,env,hn,hc,hs,hv=>⟨fun e=>by
  subst e;exact hQ _ hv,fun i hi o ho=>by
  obtain ⟨h1,h2⟩:=ZE.1 hi;unfold TQ at h2;rw [yw] at h2;obtain ⟨o',v,g1,g2,g3,g4,g5⟩:=rR hK xz env i hc h1 (fun j hj=>by simpa using h2 j hj) hv;rw [ho] at g1;obtain rfl:=qt g1;refine ⟨Unit,fun _=>M,fun _=>own,fun _=>v,XU.q (acY g2 (abJ g4 fun t sv hg=>Env.LN hg)),g3,fun _=>⟨zE,hs _ G7,?_⟩⟩;refine DJ hK hQ n _ _ ?_ (mP G7 hc) (fun r hr=>hs r (hr.trans G7)) g5;rw [List.length_erase_of_mem h1];omega⟩
theorem I1 {xJ U:List Ob} {e2:List Nat} {Q:zX} {n:Nat} {xz:List Nat} {env:Env} (h:Ts P w M0 N l M own xz env (fun QZ=>aa4 Q .normal ⟨M,own,QZ⟩)) (hn:Nat.ble xz.length n=true:=by rfl) (hc:tL l xz=true:=by decide+kernel) (hs: ∀r,List.Sublist r xz->ji own (Kp e2 xJ U r)):gA P w M0 N xJ U e2 l n xz ⟨M,own,env⟩ (fun s=>aa4 Q .normal s):=
 DJ (fun e e' he ⟨e0,h1,h2⟩=>⟨e0,fun t=>by rw [h1,<-he],h2⟩) (fun _ h=>h) n xz env (Xk hn) hc hs h
theorem CF {xJ U:List Ob} {xz:List Nat} (hs:gZ own xJ): ∀r,List.Sublist r xz->ji own (Kp [] xJ U r):=fun r hr=>by
 have:Kp [] xJ U r=xJ:=rfl;rw [this];exact hs.h
theorem acV {i:Nat} {is:List Nat} {env:Env} {K:Env->Prop} {o:Oper} {v:Value} (ho:l[i]?=some o) (hq:QS P w M0 N o ⟨M,own,env.fY (dX o)⟩ (.v v)) (h:Ts P w M0 N l M own is (env.put o.dst (.v v)) K) (hg:o.guard=none:=by rfl) (hk:yi N o.dst=true:=by rfl):Ts P w M0 N l M own (i::is) env K:=⟨o,v,ho,hg,hk,hq,h⟩
theorem I3 {env:Env} {K:Env->Prop} (h:K env):Ts P w M0 N l M own [] env K:=h
end
end
section
open Go Go.RowKit
attribute [local irreducible] Calls
structure kN (n:Nat) (s:qM):Prop where
 ms: ∀m∈s.ms,YA m
 len:s.ms.length<=1024*n
 x:jB 90 s.x
 rest:jB 90 s.rest
 sub:jB 90 s.sub
 lN:0<=s.yt/\s.yt<=100000
 out:(s.out.length:Int)<=s.yt
variable {cb sb:Nat} {b:Int} {p:jf} {H:List (Int×Nat)} {M:Mem} {c:Co}
theorem su (h:yO cb sb b p H M c) {s:qM} {x:Kn} (hr:uX cb H M s x) (hd:s.done=false) {n:Nat} (hi:kN n s) (hn:n<=90000) (z:Nd) (hz:z.Ok M) (iz:yB p.q.c b z):zu zf 196 [ptr x.kb,z.av] M (kR cb x s::xO x s::c.ob) (fun u M' o=>M.le M'/\u= .bool true/\ ∃(x':Kn) (c':Co),x'.kb=x.kb/\o=wq cb x' (Zw p s z).2++c'.ob/\yO cb sb b (Zw p s z).1 H M' c'/\uX cb H M' (Zw p s z).2 x'):=by
 have om:=hr.ms.yf;have oo:=hr.one;have oz:=zI hz;have ho:=hr.out hd;have hc:=h.st.inv.c;have Ri:=hc.l64;have hrn:=iz.rn;have y7:=hi.len;have aht:=hi.lN;have ML:=hi.out;have cP:=iQ z.rv x.mv z.rs s.sub s.ms s.rest.lo (s.yt-s.out.length) M hz.2.2.2 hr.ms iz.rows hi.ms (hi.sub.mono Kq) ze ze ze;have FM:=lh z.rs s.sub s.ms s.rest.lo (s.yt-s.out.length) ze;unfold Zw;generalize ww z.rs s.sub s.ms s.rest.lo (s.yt-s.out.length)=pq at*;obtain ⟨pr,pc,pd⟩:=pq;dsimp only at*;refine xy Tryz.func196 rfl Tryz.ntmps196 zd (fun F w M0 hF=>zz ?_)
 repeat' (first|refine yZ zd zh fun b3=>?_|refine kV (x:= .region 1 _ _) (fun s'=> ∃(M2:Mem) (w:Value),M.le M2/\xt M2 2 zi w pr/\vo s' ⟨M2,kR cb x s::xO x s::(c.ob++F),[(0, .v (ptr x.kb)),(5, .v w),(6, .v (.string pc)),(7, .v (.bool pd))]⟩) ?_ ?_|refine nv ?_)
 · obtain ⟨Ao,co,hov,_⟩:=ho.sl2;dsimp only [kR,xO];rw [hov];refine SG ?_;refine zU [] [25,26,27,28,29,30,31,32] [] 1 yI zd zd ?_
   repeat' (refine nu ?_)
   refine xF cP rfl ?_ zx;rintro _ M2 _ zD-⟨-,rfl,w,rfl,hw⟩;refine yJ ?_;refine I1 ?_ (hs:=CF zh)
   repeat' (first|refine I3 ?_|refine acV zd (by exact OY) ?_)
   refine Iz ?_;exact ⟨rfl,M2,w,zD,hw,xZ jY⟩
 · rintro s' ⟨M2,w,zD,hw,hs⟩;refine x8 _ hs ?_;clear hs s';have h2:=h.mono zD;have KL:=hr.mono (fun _ _ e=>e) zD;clear h hr;obtain ⟨Aw,cw,rfl,be,V9,_⟩:=id hw;obtain ⟨Ao,co,hov,hoc⟩:=ho.sl2
   repeat' (first|refine kV (x:= .region 2 _ _) (fun s'=> ∃vv,j2 vv (s.out++pr).length/\vo s' ⟨M2,gL cb x s (Fx s.nx) x.mv vv:: .zC vv 54 2 (s.out++pr).length ((s.out++pr).flatMap zi)::(c.ob++F),[(0, .v (ptr x.kb)),(6, .v (.string pc)),(7, .v (.bool pd))]⟩) ?_ ?_|refine nv ?_)
   · by_cases hp0:pr= []
     · subst hp0;rw [xR];dsimp only [kR,xO];rw [hov] at ho oo⊢
       repeat' (first|((apply zA);(exact WO zd zd hoc);rfl)|refine nv ?_)
       exact ⟨rfl,_,ho,xZ ka⟩
     · obtain ⟨bw,ow,rfl,gT,cg⟩:=xt.flat (k:=2) (cells:=zi) (fun _ _=>rfl) hw hp0;have e1:(s.out++pr).length=s.out.length+pr.length:=yK;have e2:(s.out++pr).flatMap zi=s.out.flatMap zi++pr.flatMap zi:=JF
       have Jr:(pr.flatMap zi).all (·.oneCell')=true:=by
        rw [yw];intro u hu;obtain ⟨p,_,hu⟩:=KA.1 hu;rcases jm.1 hu with rfl|hu
        · rfl
        · rw [jx.1 hu];rfl
       rw [e1,e2];dsimp only [kR,xO];rw [hov] at ho oo⊢
       repeat' (first|(refine ft zd zd (zh:uw _ (.zC (.slice Ao s.out.length co) 54 2 s.out.length (s.out.flatMap zi)) _) gT (.inr cg) Jr (Qk.2 hp0) (by unfold maxLen;omega) ze zd zd (fun vv oS=>?_);have ovv:=oS.yf)|refine nv ?_)
       exact ⟨rfl,vv,oS,xZ ka⟩
   · rintro s' ⟨vv,oS,hs⟩;refine x8 _ hs ?_;clear hs s';have ovv:=oS.yf;have cF:=fun W=>pE s.rest pc W
     have cE:=fun W=>YN (Qb s.rest pc) W
     have F0:=fun (fn:KnN)=>fT (s:= {s with out:=s.out++pr,rest:=Qb s.rest pc,nx:=fn}) (x:=⟨x.kb,x.hb,x.mv,vv⟩) h2 ⟨KL.hand,KL.th,KL.ms,fun _=>oS,fun e=>(by rw [show ({s with out:=s.out++pr,rest:=Qb s.rest pc,nx:=fn}:qM).done=s.done from rfl,hd] at e;cases e),ovv⟩ hd
     have F0:=F0 s.nx;generalize Qb s.rest pc=Wv at*;obtain ⟨ov,aaD⟩: ∃ov,(pd||empty Wv)=ov:=⟨_,rfl⟩;rw [aaD]
     repeat' (first|refine kV (x:= .region 4 _ _) (fun s'=>vo s' ⟨M2,gL cb x {s with rest:=Wv} (Fx s.nx) x.mv vv:: .zC vv 54 2 (s.out++pr).length ((s.out++pr).flatMap zi)::(c.ob++F),[(0, .v (ptr x.kb)),(7, .v (.bool ov))]⟩) ?_ ?_|((apply zA);(exact zm zd (fun W _=>cF W));rfl)|refine nv ?_)
     · cases pd with
       |true=>
        subst aaD
        repeat' (refine nv ?_)
        exact ⟨rfl,xZ j4⟩
       |false=>
        rw [nC] at aaD;rw [aaD] at cE
        repeat' (first|((apply zA);(exact zm zd (fun W _=>cE W));rfl)|refine nv ?_)
        exact ⟨rfl,xZ j4⟩
     · rintro s' hs;refine x8 _ hs ?_;clear hs s' cF cE;have k1:uX cb H M2 {s with out:=s.out++pr,rest:=Wv} ⟨x.kb,x.hb,x.mv,vv⟩:=⟨KL.hand,KL.th,KL.ms,fun _=>oS,fun e=>(by rw [show ({s with out:=s.out++pr,rest:=Wv}:qM).done=s.done from rfl,hd] at e;cases e),ovv⟩;have k2: ∀nx,uX cb H M2 {s with out:=s.out++pr,rest:=Wv,nx:=nx} ⟨x.kb,x.hb,x.mv,vv⟩:=fun nx=>⟨k1.hand,k1.th,k1.ms,k1.out,k1.fin,k1.one⟩
       cases hf:s.fixed with
       |true=>
        rw [zo rfl];rw [hf] at F0 k1 k2;cases ov with
        |true=>
         rw [zo rfl];generalize km:U2 p {s with out:=s.out++pr,rest:=Wv,fixed:=true}=ZV at*;have Wc:ZV.2.done=true:=by rw [<-km];rfl
         repeat' (refine nv ?_)
         refine xQ F0 ?_;rintro _ M3 _ yc-⟨-,c',rfl,vk,U5⟩;refine zJ ?_
         repeat' (refine nv ?_)
         have l3:=zD.trans yc;exact ⟨_,kR cb ⟨x.kb,x.hb,x.mv,vv⟩ ZV.2::c'.ob,zP,l3,zh,zq,l3,rfl,⟨x.kb,x.hb,x.mv,vv⟩,c',rfl,by rw [K1 Wc];rfl,vk,U5⟩
        |false=>
         rw [zn yx];cases ht:(s.to !=0) with
         |true=>
          have ht':¬ s.to=0:=by simpa using ht
          rw [zn ht'];have cL:=eA h2 KL.hand s.to
          repeat' (first|refine zU [.l c.ob] [8] [8] 1 yI zd zd ?_|refine nv ?_)
          repeat' (refine nu ?_)
          refine xF cL rfl ?_ zx;rintro _ M3 _- -⟨tr,-,c3,rfl,Rw⟩;subst tr;refine yJ ?_
          repeat' (refine nu ?_)
          repeat' (refine nv ?_)
          exact ⟨_,gL cb x {s with rest:=Wv,fixed:=true} (.func (.func 141) #[] #[]) x.mv vv:: .zC vv 54 2 (s.out++pr).length ((s.out++pr).flatMap zi)::c3.ob,zP,zD,zh,zq,zD,rfl,⟨x.kb,x.hb,x.mv,vv⟩,c3,rfl,by rw [ug (by exact hd)];rfl,Rw,k2 .top⟩
         |false=>
          have ht':s.to=0:=by simpa using ht
          rw [zo ht']
          repeat' (refine nv ?_)
          exact ⟨_,gL cb x {s with rest:=Wv,fixed:=true} (.func (.func 141) #[] #[]) x.mv vv:: .zC vv 54 2 (s.out++pr).length ((s.out++pr).flatMap zi)::c.ob,zP,zD,zh,zq,zD,rfl,⟨x.kb,x.hb,x.mv,vv⟩,c,rfl,by rw [ug (by exact hd)];rfl,h2,k2 .top⟩
       |false=>
        rw [zn yx];rw [hf] at F0 k1 k2;have cL:=V0 h2 KL.hand;cases ov with
        |true=>
         rw [zo rfl]
         repeat' (refine nv ?_)
         refine xQ cL ?_;rintro _ M3 _- -⟨tr,-,c3,rfl,Rw⟩;subst tr;refine zJ ?_
         repeat' (refine nv ?_)
         exact ⟨_,gL cb x {s with rest:=Wv,fixed:=false} (.func (.func 224) #[] #[]) x.mv vv:: .zC vv 54 2 (s.out++pr).length ((s.out++pr).flatMap zi)::c3.ob,zP,zD,zh,zq,zD,rfl,⟨x.kb,x.hb,x.mv,vv⟩,c3,rfl,by rw [ug (by exact hd)];rfl,Rw,k2 .last⟩
        |false=>
         rw [zn yx]
         repeat' (refine nv ?_)
         refine xQ cL ?_;rintro _ M3 _- -⟨tr,-,c3,rfl,Rw⟩;subst tr;refine zJ ?_
         repeat' (refine nv ?_)
         exact ⟨_,gL cb x {s with rest:=Wv,fixed:=false} (.func (.func 141) #[] #[]) x.mv vv:: .zC vv 54 2 (s.out++pr).length ((s.out++pr).flatMap zi)::c3.ob,zP,zD,zh,zq,zD,rfl,⟨x.kb,x.hb,x.mv,vv⟩,c3,rfl,by rw [ug (by exact hd)];rfl,Rw,k2 .top⟩
end
end Go.Proofs.YtaibdpjjojihmaaGreat
