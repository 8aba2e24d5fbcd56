/- A part of the proof of TopPrefix; no conditions. -/
import Derived.Test.YtaibdpjjojihmaaGreatPMd1
set_option linter.unusedVariables false
set_option linter.unusedSimpArgs false
set_option maxRecDepth 20000
set_option maxHeartbeats 4000000
namespace Go.Proofs.YtaibdpjjojihmaaGreat
section
open Go Go.RowKit
attribute [local irreducible] Calls
def a7 (l:List y6):Prop:=l.length<=100000000/\Xv (ja l)=true/\ ∀p∈l,p.val.size<=3000
def DT (m:xi):Prop:=m.val.size<=3000/\m.key.size<=1000000
def YD (l:List y6) (ms:List xi):List y6:=ms.foldl XF l
theorem ax (l:List y6) (ms:List xi) (k:Nat) (h:k<ms.length):YD l (ms.take (k+1))=XF (YD l (ms.take k)) ms[k]:=by
 unfold YD;rw [vF h,nJ];rfl
theorem E9 (v u:Value) (l:List y6) (ms:List xi) (M:Mem) (hl:xt M 2 zi v l) (hm:xt M 6 zR u ms) (hn:l.length<=100000000) (WC: ∀m∈ms,DT m) (hf: ∀i,i<=ms.length->a7 (YD l (ms.take i))):
 zu zf 125 [v,u] M [] (fun r M' o=>M.le M'/\xt M' 2 zi r (YD l ms)/\o= []):=by
 have c2:=zu.iq fun W hW=>jU _ l W (hl.xS hW) ze
 obtain ⟨A,c,rfl,vK,qD,_⟩:=id hl;obtain ⟨B,d,rfl,Zy,uN,_⟩:=id hm;unfold maxLen at uN;refine xy Tryz.func125 rfl Tryz.ntmps125 zd (fun F w M0 hF=>zz ?_)
 repeat' (first|(refine pW c2 fun r hr=>?_;refine Yu (uw.one _ _) fun M1 qR Nb=>?_)|refine nw ?_)
 have MI:=Nb.YB (cells:=zi) (fun _ _=>rfl);refine jv (fun x:Nat×Mem×Value=>⟨x.2.1,F,[(5, .v x.2.2),(10, .v (.slice B ms.length d)),(11, .v (.int .i64 ms.length)),(12, .v (.int .i64 x.1))]⟩) (fun x=>x.1<=ms.length/\M.le x.2.1/\xt x.2.1 2 zi x.2.2 (YD l (ms.take x.1))) (fun x=>ms.length-x.1) (0,M1,r) (xZ jY) ⟨zW _,qR,MI⟩ ?_;rintro ⟨k,M2,v⟩ ⟨hk,zD,hs⟩;dsimp only at hk zD hs⊢;rcases yq k ms.length with z9|ql
 · have hd:=Xp z9;obtain ⟨b,off,rfl,jk⟩:=(hm.mono zD).get z9;obtain ⟨o1,o2,o3⟩:=hf k hk;obtain ⟨m1,m2⟩:=WC _ (yD z9);have cT:=lC v _ ms[k] M2 hs o1 o2 m1 o3 m2
   repeat' (first|refine yh zh fun b=>?_|((apply zA);(first|exact zj (k) zd zd ze ze|exact zZ _ zd jk _ zd);rfl)|refine nw ?_)
   refine xQ cT ?_;rintro v2 M3 o yc-⟨-,KL,rfl⟩;refine zJ ?_;refine Yu (uw.one _ _) fun M4 yQ iC=>?_
   have hs4:=iC.YB (cells:=zi) (fun _ _=>rfl)
   repeat' (refine nw ?_)
   exact yG (Q:=fun _ _=>True) (k+1,M4,v2) (xZ jY) ⟨by dsimp only;omega,zD.trans (yc.trans yQ),by dsimp only;rw [ax l ms k z9];exact hs4⟩ (by dsimp only;omega)
 · have hd:=Xq ql;obtain rfl:k=ms.length:=ze;rw [xk] at hs
   repeat' (refine nw ?_)
   exact ⟨_,[],zP,zD,zh,zq,zD,hs,rfl⟩
theorem Me (v:Value) (l:List y6) (k:ByteArray) (w:World) (hl:Sl w 2 zi v l) (hn:l.length<=100000000) (uL:Xv (ja l)=true):
 Calls zf 219 #[v, .string k] w fun e w'=>e= .returned (.tuple #[.string (QF l k), .bool (vl l k)])/\Below w.heap.size w w':=by
 have hM:=hl.KI;have c1:=fun W hW=>lB v l k W (hM.xS hW) ze uL
 cases hh:vl l k with
 |false=>
  have ho:QF l k=em:=by unfold QF;rw [hh];rfl
  rw [hh] at c1;rw [ho];refine zQ Tryz.func219 rfl Tryz.ntmps219 zd (zE) ?_
  repeat' (first|((apply zA);(exact zm zd c1);rfl)|refine vw ?_)
  show yH _ _ _ _;refine yH.two zd (zy zd ?_) (zy zd ?_)
  · rfl
  · rfl
 |true=>
  have z9:=U7 hh;obtain ⟨A,c,rfl,vK,qD,_⟩:=id hl;obtain ⟨B,off,rfl,jk⟩:=hM.get z9;have ho:QF l k=l[Ya l k].val:=by unfold QF;rw [hh,jA z9];rfl
  rw [hh] at c1;rw [ho];refine zQ Tryz.func219 rfl Tryz.ntmps219 zd (zE) ?_
  repeat' (first|((apply zA);(first|exact zm zd c1|exact zj ((Ya l k)) zd zd ze ze|exact zY zd (jk _ _ zd));rfl)|refine vw ?_)
  show yH _ _ _ _;refine yH.two zd (zy zd ?_) (zy zd ?_)
  · rfl
  · rfl
def Iw (l:List y6) (k:ByteArray) (e:nY) (xU:Int):Bool:=vl l k||!Wu e||decide ((l.length:Int)<xU)
end
section
open Go Go.RowKit
attribute [local irreducible] Calls
theorem LJ (v:Value) (l:List y6) (k:ByteArray) (e:nY) (xU:Int) (w:World) (hl:Sl w 2 zi v l) (hn:l.length<=100000000) (uL:Xv (ja l)=true):
 Calls zf 252 #[v, .string k,e.av, .int .i64 xU] w fun x w'=>x= .returned (.bool (Iw l k e xU))/\Below w.heap.size w w':=by
 have hM:=hl.KI;have c1:=fun W hW=>LK v l k W (hM.xS hW) ze uL
 obtain ⟨A,c,rfl,vK,qD,_⟩:=id hl;unfold Iw;cases hh:vl l k<;>rw [hh] at c1
 case true=>
  refine zQ Tryz.func252 rfl Tryz.ntmps252 zd (zE) ?_
  repeat' (first|((apply zA);(exact zm zd c1);rfl)|refine vw ?_)
  exact zP
 case false=>
  have c2:=fun W=>Do e W
  cases hr:Wu e<;>rw [hr] at c2
  all_goals
   refine zQ Tryz.func252 rfl Tryz.ntmps252 zd (zE) ?_
   repeat' (first|((apply zA);(first|exact zm zd c1|exact zm zd (fun W _=>c2 W));rfl)|refine vw ?_)
   exact zP
def w6 (l:List y6) (m:xi) (xU:Int):Bool:=decide (m.kind=4)||Iw l m.key (lq m m.key) xU
theorem pV (v:Value) (l:List y6) (m:xi) (xU:Int) (w:World) (hl:Sl w 2 zi v l) (hn:l.length<=100000000) (uL:Xv (ja l)=true) (h3:m.key.size<=1000000):
 Calls zf 244 #[v,m.av, .int .i64 xU] w fun x w'=>x= .returned (.bool (w6 l m xU))/\Below w.heap.size w w':=by
 have hM:=hl.KI;have cO:=fun W=>af m m.key W h3
 have cF:=fun W hW=>LJ v l m.key (lq m m.key) xU W (hM.xS hW) hn uL
 unfold w6;by_cases hk:m.kind=4
 · have U5:(m.kind==4)=true:=by rw [hk];rfl
   rw [yk hk];refine zQ Tryz.func244 rfl Tryz.ntmps244 zd (zE) ?_
   repeat' (refine vw ?_)
   exact zP
 · have U5:(m.kind==4)=false:=beq_eq_false_iff_ne.2 hk;rw [z6 hk];refine zQ Tryz.func244 rfl Tryz.ntmps244 zd (zE) ?_
   repeat' (first|((first|apply zA|apply Ze);(first|exact zm zd (fun W _=>cO W)|exact zm zd cF);rfl)|refine vw ?_)
   exact zP
theorem lO (v:Value) (l:List y6) (m:xi) (xU:Int) (M:Mem) (hl:xt M 2 zi v l) (ho:a7 l) (hm:DT m) (hf:w6 l m xU=true):
 zu zf 226 [v,m.av, .int .i64 xU] M [] (fun r M' o=>M.le M'/\o= []/\ ∃u,r= .tuple #[u, .bool true]/\xt M' 2 zi u (XF l m)):=by
 have cF:=fun W hW=>pV v l m xU W (hl.xS hW) ho.1 ho.2.1 hm.2
 rw [hf] at cF;have cT:=lC v l m M hl ho.1 ho.2.1 hm.1 ho.2.2 hm.2;refine xy Tryz.func226 rfl Tryz.ntmps226 zd (fun F w M0 hF=>zz ?_)
 repeat' (first|refine yZ zd zh fun b=>?_|((apply zA);(exact zm zd cF);rfl)|refine nw ?_)
 refine xQ cT ?_;rintro v2 M3 o yc-⟨-,KL,rfl⟩;refine zJ ?_;refine Yu (uw.one _ _) fun M4 yQ iC=>?_
 have hs4:=iC.YB (cells:=zi) (fun _ _=>rfl)
 repeat' (refine nw ?_)
 exact ⟨_,[],kH,yc.trans yQ,zh,zq,yc.trans yQ,rfl,v2,rfl,hs4⟩
theorem lP (v:Value) (l:List y6) (m:xi) (xU:Int) (M:Mem) (hl:xt M 2 zi v l) (ho:a7 l) (hm:DT m) (hf:w6 l m xU=false):
 zu zf 226 [v,m.av, .int .i64 xU] M [] (fun r M' o=>r= .tuple #[.slice none 0 0, .bool false]/\M'=M/\o= []):=by
 have cF:=fun W hW=>pV v l m xU W (hl.xS hW) ho.1 ho.2.1 hm.2
 rw [hf] at cF;refine xy Tryz.func226 rfl Tryz.ntmps226 zd (fun F w M0 hF=>zz ?_)
 repeat' (first|refine yZ zd zh fun b=>?_|((apply zA);(exact zm zd cF);rfl)|refine nw ?_)
 exact ⟨_,[],kH,zE,zh,zq,rfl,rfl,rfl⟩
end
section
open Go Go.RowKit
attribute [local irreducible] Calls
def ZB (l:List y6):List xi->Int->Nat->List y6×Nat
 | [],_,n=>(l,n)
 |m::ms,xU,n=>if w6 l m xU=true then ZB (XF l m) ms xU (n+1) else (l,n)
theorem Fp (v u:Value) (l:List y6) (ms:List xi) (xU:Int) (M:Mem) (hl:xt M 2 zi v l) (hm:xt M 6 zR u ms) (WC: ∀m∈ms,DT m) (hf: ∀i,i<=ms.length->a7 (YD l (ms.take i))):
 zu zf 240 [v,u, .int .i64 xU] M [] (fun r M' o=>M.le M'/\o= []/\ ∃q,r= .tuple #[q, .int .i64 ((ZB l ms xU 0).2:Nat)]/\xt M' 2 zi q (ZB l ms xU 0).1):=by
 have hn:=(hf 0 (zW _)).1;rw [eZ] at hn;have c2:=zu.iq fun W hW=>jU _ l W (hl.xS hW) (by have:YD l []=l:=rfl;rw [this] at hn;omega)
 obtain ⟨A,c,rfl,vK,qD,_⟩:=id hl;obtain ⟨B,d,rfl,Zy,uN,_⟩:=id hm;unfold maxLen at uN;generalize hD:ZB l ms xU 0=D;refine xy Tryz.func240 rfl Tryz.ntmps240 zd (fun F w M0 hF=>zz ?_)
 repeat' (first|(refine pW c2 fun r hr=>?_;refine Yu (uw.one _ _) fun M1 qR Nb=>?_)|refine nw ?_)
 have MI:=Nb.YB (cells:=zi) (fun _ _=>rfl);refine jv (fun x:Nat×Mem×Value=>⟨x.2.1,F,[(1, .v (.slice B ms.length d)),(2, .v (.int .i64 xU)),(8, .v x.2.2),(15, .v (.slice B ms.length d)),(16, .v (.int .i64 ms.length)),(17, .v (.int .i64 x.1))]⟩) (fun x=>x.1<=ms.length/\M.le x.2.1/\xt x.2.1 2 zi x.2.2 (YD l (ms.take x.1))/\ZB (YD l (ms.take x.1)) (ms.drop x.1) xU x.1=D) (fun x=>ms.length-x.1) (0,M1,r) (xZ JE) ⟨zW _,qR,MI,hD⟩ ?_;clear hD;rintro ⟨k,M2,v⟩ ⟨hk,zD,hs,oX⟩;dsimp only at hk zD hs oX⊢;rcases yq k ms.length with z9|ql
 · have hd:=Xp z9;obtain ⟨b,off,rfl,jk⟩:=(hm.mono zD).get z9;have ho:=hf k hk;have hmo:=WC _ (yD z9);rw [Zc z9] at oX;unfold ZB at oX;cases Ba:w6 (YD l (ms.take k)) ms[k] xU with
   |true=>
    rw [Ba,zo rfl,<-ax l ms k z9] at oX;have cT:=lO v _ ms[k] xU M2 hs ho hmo Ba
    repeat' (first|refine yh zh fun b=>?_|((apply zA);(first|exact zj (k) zd zd ze ze|exact zZ _ zd jk _ zd);rfl)|refine nw ?_)
    refine xQ cT ?_;rintro _ M3 o yc-⟨-,rfl,u,rfl,MH⟩;refine zJ ?_;rw [<-ax l ms k z9] at MH
    repeat' (refine nw ?_)
    exact yG (Q:=fun _ _=>True) (k+1,M3,u) (xZ JE) ⟨by dsimp only;omega,zD.trans yc,MH,oX⟩ (by dsimp only;omega)
   |false=>
    rw [Ba,zn yx] at oX;have cT:=lP v _ ms[k] xU M2 hs ho hmo Ba
    repeat' (first|refine yh zh fun b=>?_|refine uK cT ?_|((apply zA);(first|exact zj (k) zd zd ze ze|exact zZ _ zd jk _ zd);rfl)|refine nw ?_)
    subst oX;exact ⟨_,[],kH,zD,zh,zq,zD,rfl,_,rfl,hs⟩
 · have hd:=Xq ql;obtain rfl:k=ms.length:=ze;rw [nG] at oX;rw [xk] at hs oX;unfold ZB at oX;subst oX
   repeat' (refine nw ?_)
   exact ⟨_,[],kH,zD,zh,zq,zD,rfl,_,rfl,hs⟩
def Zg (l:List y6) (s:yW):List y6:=l.filter fun p=>has s p.key
theorem sa (l:List y6) (s:yW) (k:Nat) (h:k<l.length):Zg (l.take (k+1)) s=if has s l[k].key=true then Zg (l.take k) s++ [l[k]] else Zg (l.take k) s:=by
 unfold Zg;rw [vF h,aX];by_cases hh:has s l[k].key=true
 · simp [hh]
 · simp [hh]
theorem BU (v:Value) (l:List y6) (s:yW) (M:Mem) (hl:xt M 2 zi v l) (hn:l.length<=100000000):
 zu zf 126 [v,s.av] M [] (fun u M' o=>M'=M/\j2 u (Zg l s).length/\o= [.zC u 54 2 (Zg l s).length ((Zg l s).flatMap zi)]):=by
 obtain ⟨A,c,rfl,vK,qD,_⟩:=id hl;unfold maxLen at qD;refine xy Tryz.func126 rfl Tryz.ntmps126 zd (fun F w M0 hF=>zz ?_);refine uU 54 2 ?_
 repeat' (first|refine yZ zd zh fun b=>?_|refine nw ?_)
 refine gC (.zC (.slice none 0 0) 54 2 0 []:: .zK (ptr b) 118 [.string s.lo, .string s.hi, .bool s.vx]::F) ?_;refine jv (fun x:Nat×Value×List y6=>⟨M, .zC x.2.1 54 2 x.2.2.length (x.2.2.flatMap zi):: .zK (ptr b) 118 [.string s.lo, .string s.hi, .bool s.vx]::F,[(3, .v (ptr b)),(5, .v x.2.1),(8, .v (.slice A l.length c)),(9, .v (.int .i64 l.length)),(10, .v (.int .i64 x.1))]⟩) (fun x=>x.1<=l.length/\j2 x.2.1 x.2.2.length/\x.2.2=Zg (l.take x.1) s) (fun x=>l.length-x.1) (0, .slice none 0 0,[]) ⟨rfl,ji.refl _,kX,rfl⟩ ⟨zW _, .inl ⟨rfl,rfl⟩,rfl⟩ ?_;rintro ⟨k,u,K⟩ ⟨hk,hu,hK⟩;dsimp only at hk hu hK⊢;have kt:=sa l s k
 have y7:K.length<=100000000:=by
  have:=Ql (fun p=>has s p.key) (l.take k);rw [yC] at this;rw [hK];unfold Zg;omega
 rcases yq k l.length with z9|ql
 · have hd:=Xp z9;obtain ⟨bA,off,rfl,jk⟩:=hl.get z9;have cH:=fun W=>KP s l[k].key W
   have kt:=kt z9;rw [<-hK] at kt;cases hh:has s l[k].key with
   |true=>
    rw [hh,zo rfl] at kt;rw [hh] at cH;have e1:(K++ [l[k]]).length=K.length+1:=by simp
    have e2:(K++ [l[k]]).flatMap zi=K.flatMap zi++zi l[k]:=by simp
    repeat' (first|refine yh zh fun b2=>?_|refine gM zd (fun _=>rfl) (fun b3 c3 u3 hu3=>?_)|((apply zA);(first|exact zj (k) zd zd ze ze|exact zZ _ zd jk _ zd|exact zm zd (fun W _=>cH W));rfl)|refine nw ?_)
    exact yG (Q:=fun _ _=>True) (k+1,u3,K++ [l[k]]) ⟨rfl,by dsimp only;rw [e1,e2];exact zq (zw:= [_,_]) (F:=F),kX,rfl⟩ ⟨by dsimp only;omega,by dsimp only;rw [e1];exact hu3,kt.symm⟩ (by dsimp only;omega)
   |false=>
    rw [hh,zn yx] at kt;rw [hh] at cH
    repeat' (first|refine yh zh fun b2=>?_|((apply zA);(first|exact zj (k) zd zd ze ze|exact zZ _ zd jk _ zd|exact zm zd (fun W _=>cH W));rfl)|refine nw ?_)
    exact yG (Q:=fun _ _=>True) (k+1,u,K) (xZ kX) ⟨by dsimp only;omega,hu,kt.symm⟩ (by dsimp only;omega)
 · have hd:=Xq ql;obtain rfl:k=l.length:=ze;rw [xk] at hK
   repeat' (refine nw ?_)
   rw [<-hK];exact ⟨_,[.zC u 54 2 K.length (K.flatMap zi)],zP,zE,zh,zq,rfl,hu,rfl⟩
end
section
open Go Go.RowKit
attribute [local irreducible] Calls
theorem RQ: ∀x y:List UInt8,Op.bytesLess x y=true->aF x y<y.length
 |x,[],h=>by rw [iG] at h;cases h
 | [],b::y,h=>by simp [aF]
 |a::x,b::y,h=>by
  rw [dk] at h;show (if a=b then aF x y+1 else 0)<y.length+1;by_cases he:a=b
  · subst he;rw [zo rfl];have h2:Op.bytesLess x y=true:=by simpa using h
    have:=RQ x y h2;omega
  · rw [zn he];omega
theorem aeF {a b:ByteArray} (h:lt a b=true):aF (bl a) (bl b)<b.size:=by
 have:=RQ _ _ (by rw [<-PC];exact h)
 rwa [mU] at this
def XH (l:List y6):Nat:=(l.length+1)/2
def mh (l:List y6):ByteArray:=NG (wi (ja l) (XH l-1)) (wi (ja l) (XH l))
theorem EJ (v:Value) (l:List y6) (M:Mem) (hl:xt M 2 zi v l) (ho:a7 l) (hk: ∀p∈l,p.key.size<=1000000) (h2:2<=l.length):
 zu zf 236 [v] M [] (fun r M' o=>M.le M'/\o= []/\ ∃a b,r= .tuple #[a,b, .string (mh l), .bool true]/\xt M' 2 zi a (l.take (XH l))/\xt M' 2 zi b (l.drop (XH l))):=by
 obtain ⟨A,c,rfl,vK,qD,_⟩:=id hl;unfold maxLen at qD;obtain ⟨hn,uL,_⟩:=ho;have hq:XH l=(l.length+1)/2:=rfl;have hK:mh l=NG (wi (ja l) (XH l-1)) (wi (ja l) (XH l)):=rfl;generalize mh l=kk at*;generalize XH l=q at*;have hq1:1<=q:=ze;have pZ:q<l.length:=ze;have MJ:=hl.part (p:=0) (q:=q) (m:=c) ze ze ze ze;have hp2:=hl.part (p:=q) (q:=l.length) (m:=c) ze ze ze ze;rw [JJ] at MJ;rw [xk] at hp2;have lt1:(l.take q).length=q:=by rw [yC];omega
 have ld1:(l.drop q).length=l.length-q:=by rw [kI]
 have k1:=zu.iq fun W hW=>jU _ (l.take q) W (MJ.xS hW) ze
 have k2:=zu.iq fun W hW=>jU _ (l.drop q) W (hp2.xS hW) ze
 obtain ⟨bA,off,rfl,alG⟩:=hl.get (show q-1<l.length by omega);obtain ⟨bA',aaf,he,alF⟩:=hl.get pZ;cases he;have g1:wi (ja l) (q-1)=l[q-1].key:=bV _;have g2:wi (ja l) q=l[q].key:=bV _;have z9:=KV uL (i:=q-1) (j:=q) ze (by rw [yo];exact pZ);rw [g1,g2] at z9 hK;have cB:=fun W=>CK l[q-1].key l[q].key W (hk _ (yD _)) (hk _ (yD _)) z9 (aeF z9)
 rw [<-hK] at cB;refine KC (args:= [.slice (some ⟨bA,off,none⟩) l.length c]) (zO:= []) Tryz.func236 rfl Tryz.ntmps236 zd (fun F w M0 hF=>zz ?_);have g3:decide ((l.length:Int)<2)=false:=z6 ze
 repeat' (first|refine qW [] [3,7,9,10] yI zd zd ?_|((first|apply zA|apply Ze);(first|exact xG (z5 (Value.int .i64) (show ((l.length:Int)+1)/2=(q:Int) by omega)) (yN zd zd (D4 ze ze ze))|exact xG (z5 (Value.int .i64) (show (q:Int)-1=((q-1:Nat):Int) by omega)) (yN zd zd (Qs ze ze))|exact zj ((q-1)) zd zd ze ze|exact zj (q) zd zd ze ze|exact zY zd (alG 0 _ zd)|exact zY zd (alF 0 _ zd)|exact zm zd (fun W _=>cB W));rfl)|refine nw ?_)
 repeat' (first|refine nM zd (xcr k1) zd (fun r hr=>?_) ?_|refine nM zd (xcr k2) zd (fun r2 KL=>?_) ?_|refine YH zd _ (by exact Y4 (by first|exact yg 0 q c zd zd zd zd ze ze ze ze|exact yg q l.length c zd zd zd zd ze ze ze ze)) zd zd ?_|refine nf ?_|exact kz|refine ng ?_ ?_)
 refine wG (v:=r) (e:=54) (k:=2) (n:=(l.take q).length) (cs:=(l.take q).flatMap zi) zh fun M2 zD hR=>?_
 refine wG (v:=r2) (e:=54) (k:=2) (n:=(l.drop q).length) (cs:=(l.drop q).flatMap zi) zh fun M3 yc aq=>?_
 have s1:=(hR.YB (cells:=zi) (fun _ _=>rfl)).mono yc;have s2:=aq.YB (cells:=zi) (fun _ _=>rfl)
 repeat' (refine nw ?_)
 exact ⟨_,[],kB.four zd (RV.tmp zd) (RV.tmp zd) (RV.tmp zd) (RV.tmp zd),zD.trans yc,zh,zq,zD.trans yc,rfl,r,r2,rfl,s1,s2⟩
end
end Go.Proofs.YtaibdpjjojihmaaGreat
