/- A part of the proof of TopPrefix; no conditions. -/
import Derived.Test.YtaibdpjjojihmaaGreatPSc13
import Derived.Test.YtaibdpjjojihmaaGreatPWo17
set_option linter.unusedVariables false
set_option linter.unusedSimpArgs false
set_option maxRecDepth 20000
set_option maxHeartbeats 4000000
namespace Go.Proofs.YtaibdpjjojihmaaGreat
section
open Go Go.RowKit
attribute [local irreducible] Calls zv wI yY ko qU mT jc
theorem B4 (v:Value) (l:List wT) (w:World) (M:Mem) (hM:M.le (Mem.of w)) (hl:xt M 9 Zm v l) (ju: ∀e∈l,e.Ok M) (hz: ∀e∈l,e.o.key.size<=1000000/\e.o.hi.size<=1000000/\e.o.val.size<=1000000/\e.ps.length<=1000000) (hb: ∀e∈l,(qU e).size<=255) (hn:l.length<=1000):
 Calls zf 14 #[v] w fun r w'=>r= .returned (.string (ko l))/\Below w.heap.size w w':=by
 obtain ⟨A,c,rfl,vK,qD,_⟩:=id hl;unfold maxLen at qD;refine zQ Tryz.func14 rfl Tryz.ntmps14 zd (hM) ?_
 repeat' (refine vw ?_)
 refine kU (fun k:Nat=>⟨M,[],[(0, .v (.slice A l.length c)),(3, .v (.string (ko (l.take k)))),(4, .v (.int .i64 k))]⟩) (fun k=>k<=l.length) (fun k=>l.length-k) [] 0 ⟨rfl,rfl,trivial,⟨rfl,by rw [eZ];unfold ko;rfl,rfl,trivial⟩⟩ ze ?_;intro k hk;have YC:=KS (l.take k) 255 (fun e he=>hb e (wB he));rw [yC] at YC;rcases yq k l.length with z9|ql
 · have hd:=Xp z9;obtain ⟨b,off,rfl,jk⟩:=hl.get z9;have hx:=ju _ (yD z9);have C6:=hb _ (yD z9);obtain ⟨y1,y2,y3,y4⟩:=hz _ (yD z9);have cB:=fun W hW=>OW l[k] W M hW hx y4 y1 y2 y3
   have cT:=fun W=>bM (qU l[k]) W ze
   have kt:=rp z9;have UF:(ko (l.take k)++yY (qU l[k])).size<=maxLen:=by rw [jy,jp];unfold maxLen;omega
   repeat' (first|((apply zA);(first|exact zj (k) zd zd ze ze|exact zZ _ zd jk _ zd|exact zm zd cB|exact zm zd (fun W _=>cT W));rfl)|refine vw ?_)
   exact yL (Q:=fun _ _=>True) [] (k+1) ⟨rfl,rfl,trivial,⟨rfl,by rw [<-kt];rfl,rfl,trivial⟩⟩ ze ze
 · have hd:=Xq ql;obtain rfl:k=l.length:=ze
   repeat' (refine vw ?_)
   show yH _ _ _ _;refine yH.one zd (zy zd ?_);rw [xk]
theorem fX {e:wT} (h:jc e=true):e.o.key.size<=1000000:=by
 unfold jc at h;have hz:Ki.key.size<=1000000:=zW _;split at h
 · simp only [yF,YY] at h;rcases h.2 with h|h
   · rw [qc h];exact hz
   · have:=(Z5 h).1;omega
 · simp only [yF] at h;rw [qc h.1.1.2];exact hz
def Dm (l:List wT):ByteArray×Bool:=if l.all jc=true then (ko l,true) else (em,false)
theorem oC (v:Value) (l:List wT) (w:World) (M:Mem) (hM:M.le (Mem.of w)) (hl:xt M 9 Zm v l) (ju: ∀e∈l,e.Ok M) (hz: ∀e∈l,e.o.key.size<=1000000/\e.ps.length<=1000000) (hn:l.length<=3500):
 Calls zf 8 #[v] w fun r w'=>r= .returned (.tuple #[.string (Dm l).1, .bool (Dm l).2])/\Below w.heap.size w w':=by
 obtain ⟨A,c,rfl,vK,qD,_⟩:=id hl;unfold maxLen at qD;refine zQ Tryz.func8 rfl Tryz.ntmps8 zd (hM) ?_
 repeat' (refine vw ?_)
 refine SE 0 zd (fun sb=>?_);refine AJ 5 1 zd ?_
 refine kU (fun x:Nat×Value×Value=>⟨M,[.zK (wg sb) 61 [x.2.1,x.2.2], .zC x.2.2 5 1 (ko (l.take x.1)).size (js (ko (l.take x.1)))],[(4, .v (wg sb)),(9, .v (.slice A l.length c)),(10, .v (.int .i64 l.length)),(11, .v (.int .i64 x.1))]⟩)
  (fun x=>x.1<=l.length/\(l.take x.1).all jc=true/\((x.1=0/\x.2.1= .pointer none/\x.2.2= .slice none 0 0)\/(0<x.1/\x.2.1=wg sb/\ ∃gb cap,0<cap/\x.2.2= .slice (some ⟨gb,0,none⟩) (ko (l.take x.1)).size cap))) (fun x=>l.length-x.1) [0,1] (0, .pointer none, .slice none 0 0)
  ⟨rfl,rfl,⟨rfl,by show _=some (Ob.zC _ _ 1 (ko (l.take 0)).size (js (ko (l.take 0))));rw [eZ];unfold ko;rfl,trivial⟩,jY⟩ ⟨zW _,by show (l.take 0).all jc=true;rw [eZ];rfl, .inl ⟨rfl,rfl,rfl⟩⟩ ?_
 rintro ⟨k,p,u⟩ ⟨hk,hr,hpu⟩;dsimp only at hk hr hpu⊢;have hbs: ∀e∈l.take k,(qU e).size<=255:=fun e he=>ZC (yw.1 hr e he)
 have YC:=KS (l.take k) 255 hbs;rw [yC] at YC
 have hp:p= .pointer none\/p=wg sb:=by
  rcases hpu with ⟨_,h,_⟩|⟨_,h,_⟩
  · exact .inl h
  · exact .inr h
 rcases yq k l.length with z9|ql
 · have hd:=Xp z9;obtain ⟨b,off,rfl,jk⟩:=hl.get z9;have hx:=ju _ (yD z9);obtain ⟨y1,y2⟩:=hz _ (yD z9);have agW:=rp z9;have uD:=NM z9 jc;have wK:=fun h=>NL z9 jc h
   generalize l[k]=e at*;have cR:=fun W hW=>sq e W M hW hx y2 y1
   have cB:=fun W hW=>BP e W M hW hx y2 y1
   obtain ⟨kind,xg,o,pv,ps⟩:=e;obtain ⟨A3,c3,UG,_⟩:=id hx;dsimp only at UG;subst UG;cases hq:jc ⟨kind,xg,o, .slice A3 ps.length c3,ps⟩ with
   |false=>
    rw [hq] at cR;have he:Dm l=(em,false):=by unfold Dm;rw [zn (by rw [wK hq];simp)]
    repeat' (first|((apply zA);(first|exact zj (k) zd zd ze ze|exact zZ _ zd jk _ zd|exact TT zd|exact zm zd cR);rfl)|refine vw ?_)
    rw [he];exact kH
   |true=>
    rw [hq] at cR;have dE:=Dy hq;have jL:=ZC hq;rw [dE] at cB;generalize qU ⟨kind,xg,o, .slice A3 ps.length c3,ps⟩=bd at*;have cT:=fun W=>lk bd W jL
    have htz:=jp bd
    repeat' (first|((apply zA);(first|exact zj (k) zd zd ze ze|exact zZ _ zd jk _ zd|exact TT zd|exact zm zd cR|exact zm zd cB|exact zm zd (fun W _=>cT W));rfl)|refine vw ?_)
    refine yS (zO:= [.zK (wg sb) 61 [p,u], .zC u 5 1 (ko (l.take k)).size (js (ko (l.take k)))]) [0,1] zd zd j4 (fun M' _=>i6 sb p u (yY bd) _ _ M' hp ze ze) zd zd ?_;rintro _ _ ⟨rfl,gb,cap,eg,rfl⟩
    repeat' (refine vw ?_)
    have e1:(ko (l.take (k+1))).size=(ko (l.take k)).size+(yY bd).size:=by rw [<-agW,jy]
    have e2:js (ko (l.take (k+1)))=js (ko (l.take k))++js (yY bd):=by rw [<-agW,mW]
    refine yL (Q:=fun _ _=>True) [3,4] (k+1,wg sb, .slice (some ⟨gb,0,none⟩) (ko (l.take (k+1))).size cap) ⟨rfl,rfl,⟨?_,?_,trivial⟩,jY⟩ ⟨Nat.succ_le_of_lt z9,by show (l.take (k+1)).all jc=true;rw [uD,hr,hq];rfl, .inr ⟨Nat.succ_pos k,rfl,gb,cap,eg,rfl⟩⟩ (by show l.length-(k+1)<l.length-k;omega)
    · show _=some (Ob.zK _ _ [_, .slice (some ⟨gb,0,none⟩) (ko (l.take (k+1))).size cap]);rw [e1];rfl
    · show _=some (Ob.zC (.slice (some ⟨gb,0,none⟩) (ko (l.take (k+1))).size cap) _ 1 (ko (l.take (k+1))).size (js (ko (l.take (k+1)))));rw [e1,e2];rfl
 · have hd:=Xq ql;obtain rfl:k=l.length:=ze;rw [xk] at*;have he:Dm l=(ko l,true):=by unfold Dm;rw [zo hr]
   rw [he];rcases hpu with ⟨h0,rfl,rfl⟩|⟨h0,rfl,gb,cap,eg,rfl⟩
   · have hle:l= []:=gy.1 h0;have hem:ko l=em:=by rw [hle];unfold ko;rfl
     rw [hem]
     repeat' (refine vw ?_)
     refine yS (zO:= [.zK (wg sb) 61 [.pointer none, .slice none 0 0]]) [0] zd zd xc (fun M' _=>EE sb _ M') zd zd ?_;rintro _ _ ⟨rfl,rfl⟩
     repeat' (refine vw ?_)
     exact kH
   · have U4:0<(ko l).size:=by
      cases l with
      |nil=>exact absurd h0 yx
      |cons e l=>
       unfold ko;rw [jy,jp];omega
     repeat' (refine vw ?_)
     refine yS (zO:= [.zK (wg sb) 61 [wg sb, .slice (some ⟨gb,0,none⟩) (ko l).size cap], .zC (.slice (some ⟨gb,0,none⟩) (ko l).size cap) 5 1 (ko l).size (js (ko l))]) [0,1] zd zd j4 (fun M' _=>LI sb _ gb _ cap (ko l) M' U4 eg) zd zd ?_;rintro _ _ ⟨rfl,rfl⟩
     repeat' (refine vw ?_)
     exact kH
end
section
open Go Go.RowKit
attribute [local irreducible] Calls
abbrev Og:=Int×Int×Op×List Int
def onS (n m:Int) (q:YI) (x:Og):YI:=if x.1=1 then vA q (x.2.1 % n) x.2.2.1 else if x.1=2 then x.2.2.2.foldl (fun q p=>qN q (p % m)) q else q
def oK (n m:Int) (q:YI) (l:List Og):YI:=l.foldl (onS n m) q
def AU:List Og->Nat
 | []=>0
 |x::l=>x.2.2.2.length+AU l
theorem Pj {n m:Int} {q:YI} {l:List Og} {k:Nat} (h:k<l.length):oK n m q (l.take (k+1))=onS n m (oK n m q (l.take k)) l[k]:=by
 unfold oK;rw [vF h,nJ];rfl
theorem O4 {l:List Og} {k:Nat} (h:k<l.length):AU (l.drop k)=l[k].2.2.2.length+AU (l.drop (k+1)):=by
 rw [Zc h];rfl
theorem S8 {P:Program} {x y:Operand} {t:TypeId} {a b:Int} (ha:0<=a) (hb:0<b) (hm:a<=9223372036854775807):Wh P .rem t x y (.int .i64 a) (.int .i64 b) (.int .i64 (a % b)):= .mk fun W=>by
 have h1:0<=a % b:=GJ a ze
 have h2:a % b<=a:=by
  rcases Q4 a b with h|h
  · rw [Int.emod_eq_of_lt ha h];omega
  · have:=G3 a hb;omega
 have h3:a.tmod b=a % b:=Int.tmod_eq_emod_of_nonneg ha;have h4:b≠0:=ze;simp [go_sem,h3,h4,Qy (show -9223372036854775808<=a % b by omega) (show a % b<=9223372036854775807 by omega)]
theorem i9 {e:wT} (h:jc e=true):(0<=e.xg/\e.xg<=255)/\(e.kind=1\/e.kind=2)/\(∀p∈e.ps,0<=p/\p<=255)/\e.ps.length<=254:=by
 unfold jc at h;split at h
 · rename_i h1
   simp only [yF,j5] at h;obtain ⟨⟨⟨a,b⟩,c⟩,_⟩:=h;refine ⟨⟨a,b⟩, .inl h1,fun p hp=>?_,ze⟩;rw [dm c] at hp;cases hp
 · simp only [yF,j5] at h;obtain ⟨⟨⟨⟨a,b⟩,c⟩,d⟩,e1⟩:=h;refine ⟨ze, .inr a,fun p hp=>?_,d⟩;have:=yw.1 e1 p hp;unfold Ka at this;simpa using this
structure aiI where
 k:Nat
 q:YI
 M:Mem
 w:Wo
 j:Nat
structure Hk (q0:YI) (w0:Wo) (M:Mem) (q:YI) (M':Mem) (w:Wo) (j:Nat):Prop where
 hle:M.le M'
 wb:w.wb=w0.wb
 at_:ut (2*j:Nat) q M' w
 inv:Zd j q
 ev:Ow q
 nV:q.cls.length=q0.cls.length
 AW:q.qg.length=q0.qg.length
structure aiJ (q0:YI) (w0:Wo) (M:Mem) (n m:Nat) (l:List Og) (T:Nat) (y:aiI):Prop where
 hk:y.k<=l.length
 ok:Hk q0 w0 M y.q y.M y.w y.j
 eq:y.q=oK n m q0 (l.take y.k)
 left:y.j+AU (l.drop y.k)<=T
structure aiR where
 i:Nat
 q:YI
 M:Mem
 w:Wo
structure aiS (q0:YI) (w0:Wo) (M:Mem) (m j:Nat) (q:YI) (ps:List Int) (y:aiR):Prop where
 hi:y.i<=ps.length
 ok:Hk q0 w0 M y.q y.M y.w (j+y.i)
 eq:y.q=(ps.take y.i).foldl (fun q p=>qN q (p % (m:Nat))) q
theorem ut.up {b b':Int} {q:YI} {M:Mem} {w:Wo} (h:ut b q M w) (hb:b<=b'):ut b' q M w:=⟨h.co.up hb,h.cls,h.qg,h.xq,h.jX,h.jK,h.jh,h.Dk,h.qu,h.mc,h.wk⟩
variable {q0:YI} {M:Mem} {w0:Wo}
theorem adc (h:Hk q0 w0 M q0 M w0 0) {v:Value} {l:List wT} (hl:xt M 9 Zm v l) (ju: ∀e∈l,e.Ok M) (hr: ∀e∈l,jc e=true) (hn:1<=q0.cls.length) {T:Nat} (hT:AU (l.map wT.st)<=T) (hT2:T<=40000):
 zu zf 23 [ptr w0.wb,v, .int .i64 (q0.cls.length:Nat)] M (w0.ob q0.p.q.c q0.clock) (fun u M' o=> ∃(w':Wo) (j:Nat),j<=T/\o=w'.ob (oK (q0.cls.length:Nat) (q0.cls.length+q0.qg.length:Nat) q0 (l.map wT.st)).p.q.c (oK (q0.cls.length:Nat) (q0.cls.length+q0.qg.length:Nat) q0 (l.map wT.st)).clock/\Hk q0 w0 M (oK (q0.cls.length:Nat) (q0.cls.length+q0.qg.length:Nat) q0 (l.map wT.st)) M' w' j):=by
 obtain ⟨A,c,rfl,vK,qD,_⟩:=id hl;unfold maxLen at qD;have cT:=DL h.at_ h.inv q0.p.q.c q0.clock;haveI hnG:=h.at_.Jk q0.p.q.c q0.clock;have m1:=h.inv.nV;have m2:=h.inv.AW;obtain ⟨m,hm⟩: ∃m:Nat,m=q0.cls.length+q0.qg.length:=⟨_,rfl⟩;have e0:(q0.cls.length:Int)+(q0.qg.length:Int)=(m:Nat):=ze;rw [e0] at cT;rw [<-hm];have g1:decide (((m:Nat):Int)<1)=false:=z6 ze;have g2:decide (((q0.cls.length:Nat):Int)<1)=false:=z6 ze;obtain ⟨G,hG⟩: ∃G,G=w0.ob q0.p.q.c q0.clock:=⟨_,rfl⟩;obtain ⟨wb0,hwb⟩: ∃wb0,wb0=w0.wb:=⟨_,rfl⟩;obtain ⟨n,hnn⟩: ∃n:Nat,n=q0.cls.length:=⟨_,rfl⟩;rw [<-hG] at cT hnG⊢;rw [<-hwb] at cT⊢;rw [<-hnn] at g2⊢;refine xy Tryz.func23 rfl Tryz.ntmps23 zd (fun F w M0 hF=>zz ?_)
 repeat' (first|refine uK cT ?_|refine nv ?_)
 subst hG;have FR:(l.map wT.st).length=l.length:=yo _
 refine jv (fun y:aiI=>⟨y.M,y.w.ob y.q.p.q.c y.q.clock++F,[(0, .v (ptr wb0)),(2, .v (.int .i64 n)),(6, .v (.int .i64 m)),(19, .v (.slice A l.length c)),(20, .v (.int .i64 l.length)),(21, .v (.int .i64 y.k))]⟩)
  (aiJ q0 w0 M n m (l.map wT.st) T) (fun y=>l.length-y.k) ⟨0,q0,M,w0,0⟩ ⟨rfl,ji.refl _,JE,rfl⟩ ⟨zW _,h,rfl,by dsimp only;rw [JJ,xu];exact hT⟩ ?_
 rintro ⟨k,q,M1,w1,j⟩ ⟨hk,dY,Um,Rg⟩;dsimp only at hk dY Um Rg⊢;rw [FR] at hk;rcases yq k l.length with z9|ql
 · have hd:=Xp z9;obtain ⟨ba,off,rfl,jk⟩:=(hl.mono dY.hle).get z9
   have Ii:oK (n:Nat) (m:Nat) q0 ((l.map wT.st).take (k+1))=onS (n:Nat) (m:Nat) q l[k].st:=by
    rw [Pj (by rw [FR];exact z9),XD,Um]
   have Uk:AU ((l.map wT.st).drop k)=l[k].ps.length+AU ((l.map wT.st).drop (k+1)):=by
    rw [O4 (by rw [FR];exact z9),XD]
   have hr1:=hr _ (yD z9);have P5:=fX hr1;obtain ⟨⟨n1,n2⟩,nk,np,nl⟩:=i9 hr1;have hx:=ju _ (yD z9);generalize l[k]=e at*;obtain ⟨kind,xg,o,pv,ps⟩:=e;dsimp only [wT.st] at*;obtain ⟨A3,c3,UG,_⟩:=id hx;dsimp only at UG;subst UG;haveI:=dY.at_.Jk q.p.q.c q.clock;rcases nk with gR|gR
   · subst gR;have cG:=S3 dY.at_ dY.inv (t:=xg % n) (GJ _ ze) (by rw [dY.nV,<-hnn];exact G3 _ ze) o P5;rw [dY.wb,<-hwb] at cG
     repeat' (first|refine yh (dst:=some 8) zh fun b8=>?_|((apply zA);(first|exact zj (k) zd zd ze ze|exact zZ _ zd jk _ zd);rfl)|refine nv ?_)
     dsimp only;refine zU [.l (w1.ob q.p.q.c q.clock)] [7] [7] 2 yI zd zd ?_
     repeat' (first|refine X0 zd (by exact Y4 (by exact yN zd zd (S8 ze ze ze))) zd ?_|refine nu ?_)
     refine xF cG rfl ?_ zx;rintro _ M1 _- -⟨rfl,w2,akB,rfl,ahT,hi2,qD,V9⟩;have AV:Hk q0 w0 M (vA q (xg % n) o) M1 w2 j:=⟨dY.hle,akB.trans hwb,ahT,hi2,dY.ev.aet _ _,qD.trans dY.nV,V9.trans dY.AW⟩;haveI:=ahT.Jk (vA q (xg % n) o).p.q.c (vA q (xg % n) o).clock;refine yJ ?_
     repeat' (refine nu ?_)
     repeat' (refine nv ?_)
     exact yG (Q:=fun _ _=>True) ⟨k+1,vA q (xg % n) o,M1,w2,j⟩ (xZ JE) ⟨by rw [FR];exact z9,AV,Ii.symm,by dsimp only;rw [Uk] at Rg;omega⟩ (by dsimp only;omega)
   · subst gR
     repeat' (first|refine yh (dst:=some 8) zh fun b8=>?_|((apply zA);(first|exact zj (k) zd zd ze ze|exact zZ _ zd jk _ zd);rfl)|refine nv ?_)
     have FM:(ps.length:Int)<=254:=ze
     refine jv (fun y:aiR=>⟨y.M,y.w.ob y.q.p.q.c y.q.clock++F,[(0, .v (ptr wb0)),(2, .v (.int .i64 n)),(6, .v (.int .i64 m)),(19, .v (.slice (some ⟨ba,off,none⟩) l.length c)),(20, .v (.int .i64 l.length)),(21, .v (.int .i64 k)),(40, .v (.slice A3 ps.length c3)),(41, .v (.int .i64 ps.length)),(42, .v (.int .i64 y.i))]⟩)
      (aiS q0 w0 M m j q ps) (fun y=>ps.length-y.i) ⟨0,q,M1,w1⟩ (xZ ⟨rfl,rfl,rfl,rfl,rfl,rfl,rfl,rfl,rfl,trivial⟩) ⟨zW _,dY,rfl⟩ ?_
     rintro ⟨i,q2,M2,w2⟩ ⟨hi,AV,pZ⟩;dsimp only at hi AV pZ⊢;haveI:=AV.at_.Jk q2.p.q.c q2.clock;rcases yq i ps.length with Wa|Ro
     · have uN:=Xp Wa;obtain ⟨bp,aoC,rfl,hpA⟩:=(xt.mono hx AV.hle).get Wa;have MJ:=np _ (yD Wa)
       have FJ:(ps.take (i+1)).foldl (fun q p=>qN q (p % (m:Nat))) q=qN q2 (ps[i] % (m:Nat)):=by
        rw [vF Wa,nJ,<-pZ];rfl
       generalize ps[i]=pk at*;have cP:=SY AV.at_ AV.inv (t:=pk % (m:Nat)) ze ze (GJ _ ze) (by rw [AV.nV,AV.AW,<-hm];exact G3 _ ze);rw [AV.wb,<-hwb] at cP
       repeat' (first|((apply zA);(first|exact zj (i) zd zd ze ze|exact zY zd (hpA 0 _ zd)|exact yN zd zd (S8 ze ze ze));rfl)|refine nv ?_)
       refine xQ cP ?_;rintro _ M3 _ yc-⟨-,w3,akA,rfl,ahS,hi3,hc3,hw3⟩;have ok3:Hk q0 w0 M (qN q2 (pk % (m:Nat))) M3 w3 (j+(i+1)):=⟨AV.hle.trans yc,akA.trans hwb,ahS.up ze,hi3,AV.ev.pick AV.at_.co.st.inv AV.inv _,hc3.trans AV.nV,hw3.trans AV.AW⟩;haveI:=ahS.Jk (qN q2 (pk % (m:Nat))).p.q.c (qN q2 (pk % (m:Nat))).clock;refine zJ ?_
       repeat' (refine nv ?_)
       exact yG (Q:=fun _ _=>True) ⟨i+1,qN q2 (pk % (m:Nat)),M3,w3⟩ (xZ ⟨rfl,rfl,rfl,rfl,rfl,rfl,rfl,rfl,rfl,trivial⟩) ⟨Wa,ok3,FJ.symm⟩ (by dsimp only;omega)
     · have uN:=Xq Ro;obtain rfl:i=ps.length:=ze;rw [wD (zN _)] at pZ
       repeat' (refine nv ?_)
       exact yG (Q:=fun _ _=>True) ⟨k+1,q2,M2,w2,j+ps.length⟩ (xZ JE) ⟨by rw [FR];exact z9,AV,pZ.trans Ii.symm,by dsimp only;rw [Uk] at Rg;omega⟩ (by dsimp only;omega)
 · have hd:=Xq ql;obtain rfl:k=l.length:=ze;rw [wD (by rw [FR];exact zN _)] at Um
   repeat' (refine nv ?_)
   haveI:=dY.at_.Jk q.p.q.c q.clock;rw [<-Um];exact ⟨_,w1.ob q.p.q.c q.clock,yH.nil rfl,dY.hle,zh,zq,w1,j,ze,rfl,dY⟩
end
section
open Go Go.RowKit
attribute [local irreducible] Calls
def q9 (s:ByteArray):List Og:=(vM s).map aA
theorem Gq (b:ByteArray):(aA b).2.2.2.length<=b.size:=by
 rw [tD];split
 · exact zW _
 · split
   · have:=pM b;show (Ji b).length<=b.size;omega
   · exact zW _
theorem Lr {s:ByteArray} (h:Wx s=true):(zv s).1.size+(zv s).2.1.size+1=s.size:=by
 have h1:=z5 List.length (OG (by rw [br];exact h));rw [yK,qI,qI,qI,jp] at h1;omega
theorem tC: ∀(n:Nat) (s:ByteArray),s.size<=n->AU (q9 s)<=n/\(q9 s).length<=n
 |0,s,h=>by
  have ho:Wx s=false:=by unfold Wx;simp;omega
  unfold q9;rw [JB ho,zo ze];exact ⟨zN _,zN _⟩
 |n+1,s,h=>by
  cases ho:Wx s with
  |false=>
   unfold q9;rw [JB ho];split
   · exact ⟨zW _,zW _⟩
   · rw [xw,uo,aa6];exact ⟨zW _,by simp⟩
  |true=>
   have hs:=Lr ho;obtain ⟨i1,i2⟩:=tC (n-(zv s).1.size) (zv s).2.1 ze;unfold q9 at*;rw [aI ho,xw];have h1:=Gq (zv s).1;refine ⟨?_,by rw [xd];omega⟩;show (aA (zv s).1).2.2.2.length+AU _<=_;omega
theorem Vb {l:List wT} {s:ByteArray} (h:l.map wT.st=q9 s): ∀e∈l,jc e=true:=by
 intro e he;have h1:e.st∈q9 s:=by rw [<-h];exact m5 he
 obtain ⟨b,hb,Ir⟩:=uT.1 h1;refine Gp Ir.symm ?_;unfold vM at hb;rcases jH.1 hb with h2|h2
 · exact (bC s.size s (zN _)).1 b h2
 · split at h2
   · rw [jx.1 h2];exact zW _
   · cases h2
section
variable {P:Program} {w:World} {M0:Mem} {N:Nat} {M:Mem} {own:List Ob} {env:Env}
theorem Fr.aig {hd:Nat->Value} {a:Act} (h:Fr N hd env a) {t:Nat} {b i:Nat} (ht:env.get t=some (.v (.pointer (some ⟨b,0,none⟩)))) (hv:hd i= .pointer (some ⟨b,0,none⟩)):Fr N hd ((t, .p i 0)::env) a:=⟨fun q sv hq=>by
 simp only [Env.get] at hq;split at hq
 · rename_i hb
   obtain rfl:=qA hb;cases hq;have:=h.env _ _ ht;rw [this];simp only [SV.den,hv,yX,Kz]
 · exact h.env q sv hq,h.size,h.defers⟩
theorem abD {Q:zX} {b:Nat} {t:TypeId} {cs:List Value} (i p:Nat) (hi:own[i]?=some (.zK (.pointer (some ⟨b,0,none⟩)) t cs)) (ht:env.get p=some (.v (.pointer (some ⟨b,0,none⟩)))) (h:Q .ret ⟨M,own.set i (.qZ t cs),(p, .p i 0)::env⟩):VC P w M0 N .ret ⟨M,own,env⟩ Q:=by
 refine VC.mk fun hd a W hR=>?_
 have hO:=hR.1.own i _ hi;exact (AI (P:=P) (w:=w) (M0:=M0) (N:=N) h).go hd a W ⟨hR.1.vD hi yx hO.2,hR.2.aig ht hO.1⟩
theorem DK {Q:zX} {b:Nat} {t:TypeId} {G:List Ob} {ds:List Value} (p:Nat) (ht:env.get p=some (.v (.pointer (some ⟨b,0,none⟩)))) (h:Q .ret ⟨M, .qZ t ds::G,(p, .p 0 0)::env⟩):VC P w M0 N .ret ⟨M, .zK (.pointer (some ⟨b,0,none⟩)) t ds::G,env⟩ Q:=abD (cs:=ds) 0 p rfl ht h
theorem SD {Q:zX} {b:Nat} {t:TypeId} {G:List Ob} {ds:List Value} (p:Nat) (ht:env.get p=some (.v (.pointer (some ⟨b,0,none⟩)))) (hr:uw own (.zK (.pointer (some ⟨b,0,none⟩)) t ds) G) (h:Q .ret ⟨M, .qZ t ds::G,(p, .p 0 0)::env⟩) (zV:yR env 0=true:=by rfl):VC P w M0 N .ret ⟨M,own,env⟩ Q:=
 KE (.zK (.pointer (some ⟨b,0,none⟩)) t ds::G) (DK p ht h) (ji.perm hr.h) zV
end
structure abL where
 err:Int
 xq:List iK
 map:List y6
 clock:Int
 idle:Bool
def S1 (M:Mem) (r:abL) (u:Value):Prop:= ∃(ev nd mp:Value) (l:List ZY),u= .agg #[.int .i64 r.err,ev,nd,mp, .int .i64 r.clock, .bool r.idle]/\xK nd/\xt M 15 xT ev l/\Qq M l/\l.map ZY.e=r.xq/\xt M 2 zi mp r.map
def gH (c:qn) (n m:Nat) (l:List Og):YI:=oK n (n+m:Nat) (vP c n m) l
def E2 (q:YI):abL:=⟨0,q.xq,sO q.p.q,q.clock,dK q⟩
def doP (c:qn) (n m:Int) (s:ByteArray):abL:=if ly c n m=true then E2 (gH c n.toNat m.toNat (q9 s)) else ⟨2,[],[],0,false⟩
theorem TL (c:qn) (n m:Int) (s:ByteArray) (h:ly c n m=false) (M:Mem):zu zf 9 [c.av, .int .i64 n, .int .i64 m, .string s, .int .i64 0] M [] (fun u M' o=>M.le M'/\o= []/\S1 M' ⟨2,[],[],0,false⟩ u):=by
 have cN:=Ei c n m h M;refine xy Tryz.func9 rfl Tryz.ntmps9 zd (fun F w M0 hF=>zz ?_)
 repeat' (first|refine yZ zd zh fun b3=>?_|refine yh (dst:=some 10) zh fun b10=>?_|refine nv ?_)
 refine xQ cN ?_;rintro _ M _- -⟨rfl,rfl,rfl⟩;refine zJ ?_
 repeat' (first|refine DK 10 zd ?_|refine nv ?_)
 exact ⟨_,[],yH.one zd (xr zd zd 6 zd rfl),zE,zh,zq,zE,rfl, .slice none 0 0, .slice none 0 0, .slice none 0 0,[],rfl,zh,xt.nil _ _ _,fun x hx=>(nomatch hx),rfl,xt.nil _ _ _⟩
theorem TK (c:qn) (n m:Nat) (s:ByteArray) (hc:Oj c=true) (hn:1<=n) (AZ:n<=255) (hm:m<=255) (hs:s.size<=1000000) (Uk:AU (q9 s)<=40000) (M:Mem):zu zf 9 [c.av, .int .i64 n, .int .i64 m, .string s, .int .i64 0] M [] (fun u M' o=>M.le M'/\o= []/\S1 M' (E2 (gH c n m (q9 s))) u):=by
 have cN:=Eh c hc n m hn AZ hm M;refine xy Tryz.func9 rfl Tryz.ntmps9 zd (fun F w M0 hF=>zz ?_)
 repeat' (first|refine yZ zd zh fun b3=>?_|refine yh (dst:=some 10) zh fun b10=>?_|refine nv ?_)
 refine xQ cN ?_;rintro _ M2 _ zD-⟨-,w0,rfl,rfl,hat⟩;have ok0:Hk (vP c n m) w0 M2 (vP c n m) M2 w0 0:=⟨zE,rfl,hat,Zd.new c n m AZ hm,Ow.new c n m,rfl,rfl⟩;haveI:=hat.Jk c 0;refine zJ ?_;have cD:=zu.ofM (M:=M2) fun W hW=>Wp s W M2 hW ze
 repeat' (refine nv ?_)
 refine xQ cD ?_;rintro v M3 _ yc-⟨rfl,l,hl,Qw,Ux⟩;refine zJ ?_;have UH:(vP c n m).cls.length=n:=by unfold vP;exact m6 ..
 have hlw:(vP c n m).qg.length=m:=by unfold vP;rw [yo,fm]
 have cO:=adc (T:=40000) (M:=M3) (w0:=w0) ⟨zE,rfl,hat.mono yc,Zd.new c n m AZ hm,Ow.new c n m,rfl,rfl⟩ hl Qw (Vb Ux) (by rw [UH];exact hn) (by rw [show l.map wT.st=q9 s from Ux];exact Uk) ze;rw [show l.map wT.st=q9 s from Ux,UH,hlw,show (vP c n m).p.q.c=c from rfl,show (vP c n m).clock=0 from rfl] at cO;rw [show oK (n:Nat) (n+m:Nat) (vP c n m) (q9 s)=gH c n m (q9 s) from rfl] at cO;generalize gH c n m (q9 s)=q at*
 repeat' (refine nv ?_)
 refine xQ cO ?_;rintro _ M4 _ yQ-⟨w1,j,hj,rfl,dY⟩;have h1:=dY.at_;haveI:=h1.Jk q.p.q.c q.clock;refine zJ ?_;have cR:=SP h1 dY.inv q.p.q.c q.clock;have cH:=DY h1 dY.inv ze dY.ev q.p.q.c q.clock;rw [dY.wb] at cR cH
 repeat' (first|refine uK cR ?_|refine nv ?_)
 refine xQ cH ?_;rintro ev M5 _ kG-⟨-,rfl,el,Iq,p7,he3⟩;haveI:=Iq.yf;refine zJ ?_;have h2:=h1.mono kG;have cN2:=N9 h2 q.p.q.c q.clock;rw [dY.wb] at cN2
 repeat' (refine nv ?_)
 refine xQ cN2 ?_;rintro nd M6 _ Uy-⟨-,bg,rfl⟩;refine zJ ?_;have h3:=h2.mono Uy;have cM:=abO h3 ze q.p.q.c q.clock;rw [dY.wb] at cM
 repeat' (refine nv ?_)
 refine xQ cM ?_;rintro mp M7 _ cj-⟨-,hmp,rfl⟩;haveI:=hmp.yf;refine zJ ?_;have h4:=h3.mono cj;have cC:=Oh h4 q.p.q.c q.clock;have cI:=DW h4 dY.inv q.p.q.c q.clock;rw [dY.wb] at cC cI
 repeat' (first|refine SD 10 zd (uw.app _ _ _ _ (i:=uw.one _ _)) ?_|refine uK cC ?_|refine uK cI ?_|refine nv ?_)
 have hle:=zD.trans (yc.trans (yQ.trans (kG.trans (Uy.trans cj))));exact ⟨_,[],yH.one zd (xr zd zd 6 zd rfl),hle,zh,zq,hle,rfl,ev,nd,mp,el,rfl,bg,Iq.mono (Uy.trans cj),p7.mono (Uy.trans cj),he3,hmp⟩
theorem EI (c:qn) (n m:Int) (s:ByteArray) (hs:s.size<=1000000) (Uk:AU (q9 s)<=40000) (M:Mem):zu zf 9 [c.av, .int .i64 n, .int .i64 m, .string s, .int .i64 0] M [] (fun u M' o=>M.le M'/\o= []/\S1 M' (doP c n m s) u):=by
 unfold doP;cases h:ly c n m with
 |false=>rw [zn yx];exact TL c n m s h M
 |true=>
  rw [zo rfl];unfold ly at h;simp only [yF,j5] at h;obtain ⟨⟨⟨⟨h1,h2⟩,h3⟩,h4⟩,h5⟩:=h;obtain ⟨a,rfl⟩: ∃a:Nat,n=a:=⟨n.toNat,ze⟩;obtain ⟨d,rfl⟩: ∃d:Nat,m=d:=⟨m.toNat,ze⟩;exact TK c a d s h5 ze ze ze hs Uk M
end
end Go.Proofs.YtaibdpjjojihmaaGreat
