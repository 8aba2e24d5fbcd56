/- A part of the proof of TopPrefix; no conditions. -/
import Derived.Test.YtaibdpjjojihmaaGreatPMd6
set_option linter.unusedVariables false
set_option linter.unusedSimpArgs false
set_option maxRecDepth 20000
set_option maxHeartbeats 4000000
namespace Go.Proofs.YtaibdpjjojihmaaGreat
open Go Go.RowKit
attribute [local irreducible] Calls
abbrev Fu (n:Int):List Value:= [.int .i64 n]
def ic (l:List Int):List Value:=l.map (Value.int .i64)
theorem aas (l:List Int):ic l=l.flatMap Fu:=by
 induction l with
 |nil=>rfl
 |cons a l ih=>rw [j6,<-ih];rfl
theorem adM (l:List Int):(ic l).length=l.length:=by simp [ic]
theorem adN {l:List Int} {j:Nat} (h:j<l.length):(ic l)[j]?=some (.int .i64 l[j]):=by simp [ic,h]
theorem P0 (l:List Int): ∀v∈ic l,v.oneCell'=true:=fun v hv=>by
 obtain ⟨n,_,rfl⟩:=uT.1 hv;rfl
theorem CN {base:Nat} {W:World} {v:Value} {e:TypeId} {l:List Int} (h:W.ownsRow base e 1 v l.length (ic l)):Sl W 1 Fu v l:=
 wR.sl (base:=base) (e:=e) (n:=l.length) (cs:=ic l) l h rfl (fun _ _=>rfl) (aas l)
section
variable {P:Program} {w:World} {M0:Mem} {N:Nat}
theorem ae3 {c:Code} {s:St} {R:St->Prop} (h:VC P w M0 N c s (ay fun s=>R s\/ ∃i e k n cs,s.own[i]?=some (.row e k n cs)/\ ∀v,j2 v n->R ⟨s.M,s.own.set i (.zC v e k n cs),JV i v s.env⟩)):VC P w M0 N c s (ay R):= .mk fun hd a W hR=>by
 refine vZ (h.go hd a W hR) ?_;rintro e a' W' ⟨yE,s',uE,hq⟩
 have key:(R s'\/ ∃i e k n cs,s'.own[i]?=some (.row e k n cs)/\ ∀v,j2 v n->R ⟨s'.M,s'.own.set i (.zC v e k n cs),JV i v s'.env⟩)-> ∃Rs TJ,Rel w M0 N Rs TJ a' W'/\R TJ:=by
  rintro (hr|⟨i,e,k,n,cs,hi,hr⟩)
  · exact ⟨yE,s',uE,hr⟩
  · have hO:=uE.1.own i _ hi;exact ⟨yE,_,⟨uE.1.vD (o':= .zC (yE i) e k n cs) hi yx ⟨rfl,hO⟩,QX uE.2⟩,hr _ (uJ hO)⟩
 cases e with
 |ret=>exact key hq
 |normal=>exact key hq
 |exit id=>exact hq.elim
 |goto l=>exact hq.elim
 |panic c=>exact hq.elim
 |outgrown=>exact hq.elim
end
def Ht (l:List Int):Prop:= ∀i j (hi:i<l.length) (hj:j<l.length),i<j->l[i]<l[j]
def lL (l:List Int) (k:Int):Nat:=l.countP fun x=>decide (x<k)
theorem PI (l:List Int) (k:Int):lL l k<=l.length:=Sd
theorem aam {l:List Int} {k:Int} {i:Nat} (hi:i<=l.length) (h1: ∀q (h:q<l.length),q<i->l[q]<k) (h2: ∀q (h:q<l.length),i<=q->k<=l[q]):lL l k=i:=by
 unfold lL;have e:l=l.take i++l.drop i:=(Us i l).symm;rw [e,List.countP_append]
 have a:(l.take i).countP (fun p=>decide (p<k))=(l.take i).length:=by
  rw [List.countP_eq_length];intro x hx;obtain ⟨q,hq,rfl⟩:=gz.1 hx;exact yk (h1 q ze ze)
 have b:(l.drop i).countP (fun p=>decide (p<k))=0:=by
  rw [rK];intro x hx;obtain ⟨q,hq,rfl⟩:=I0.1 hx;have:=h2 (i+q) ze ze;simp;exact this
 rw [a,b,yC];omega
theorem ael {i j:Nat} (h:i<j): ∃m:Nat,(((i:Int)+(j:Int)).fdiv 2)=(m:Int)/\i<=m/\m<j:=by
 refine ⟨(i+j)/2,?_,ze,ze⟩;rw [acO _ ze];omega
theorem Ny (a b:Int) (w:World):Calls zf 175 #[.int .i64 a, .int .i64 b] w fun e w'=>e= .returned (.bool (decide (a<b)))/\Below w.heap.size w w':=by
 have c1: ∀(x:Int) (W:World),Calls zf 207 #[.int .i64 x] W fun e w'=>e= .returned (.bool false)/\Below W.heap.size W w':=fun x W=>by
  refine zQ Tryz.func207 rfl Tryz.ntmps207 zd (Mem.xE _) ?_
  repeat' (refine vw ?_)
  show yH _ _ _ _;refine yH.one zd (zy zd ?_);simp
 refine zQ Tryz.func175 rfl Tryz.ntmps175 zd (Mem.xE _) ?_
 repeat' (first|((apply zA);(exact zm zd (fun W _=>c1 a W));rfl)|refine vw ?_)
 show yH _ _ _ _;refine yH.one zd (zy zd ?_);rfl
theorem Wm (x:Int) (W:World):Calls zf 176 #[.int .i64 x] W fun e w'=>e= .returned (.bool false)/\Below W.heap.size W w':=by
 refine zQ Tryz.func176 rfl Tryz.ntmps176 zd (Mem.xE _) ?_
 repeat' (refine vw ?_)
 show yH _ _ _ _;refine yH.one zd (zy zd ?_);simp
theorem Xd (v:Value) (l:List Int) (k:Int) (w:World) (hl:Sl w 1 Fu v l) (hn:l.length<=1000000000) (uL:Ht l):
 Calls zf 149 #[v, .int .i64 k] w fun e w'=>e= .returned (.tuple #[.int .i64 (lL l k:Nat), .bool (decide (k∈l))])/\Below w.heap.size w w':=by
 obtain ⟨A,c,rfl,vK,qD,_⟩:=id hl;have hM:=hl.KI;unfold maxLen at qD;refine zQ Tryz.func149 rfl Tryz.ntmps149 zd (zE) ?_
 repeat' (refine vw ?_)
 refine kU (fun x:Nat×Nat=>⟨Mem.of w,[],[(0, .v (.slice A l.length c)),(1, .v (.int .i64 k)),(6, .v (.int .i64 l.length)),(7, .v (.int .i64 x.1)),(8, .v (.int .i64 x.2))]⟩) (fun x=>x.1<=x.2/\x.2<=l.length/\(∀q (h:q<l.length),q<x.1->l[q]<k)/\(∀q (h:q<l.length),x.2<=q->k<=l[q])) (fun x=>x.2-x.1) [] (0,l.length) ⟨rfl,rfl,trivial,kX⟩ ⟨zW _,zN _,fun q h h2=>absurd h2 ze,fun q h h2=>absurd h ze⟩ ?_;rintro ⟨i,j⟩ ⟨gf,hj,Qw,cq⟩;simp only at gf hj Qw cq;rcases yq i j with z9|ql
 · have hd:=Xp z9;obtain ⟨m,hm,him,hmj⟩:=ael z9;have WD:m<l.length:=ze;obtain ⟨b,off,rfl,jk⟩:=hM.get WD;have c1:=fun W=>Ny l[m] k W
   have w1:IntKind.u64.wrap ((i:Int)+(j:Int))=(i:Int)+(j:Int):=r8 ze ze;have w2:IntKind.i64.wrap (((i:Int)+(j:Int)).fdiv 2)=(m:Int):=by rw [hm];exact Qy ze ze
   by_cases hc:l[m]<k
   · rw [yk hc] at c1
     repeat' (first|((apply zA);(first|exact jS zd w1|exact jS zd w2|exact yN zd zd fH|exact zj m zd zd rfl WD|exact zY zd (jk 0 _ zd)|exact zm zd (fun W _=>c1 W));rfl)|refine vw ?_)
     exact yL (Q:=fun _ _=>True) [] (m+1,j) ⟨rfl,rfl,trivial,kX⟩ ⟨by simp only;omega,hj,fun q h h2=>by
      rcases yq q m with h3|h3
      · have:=uL q m h WD h3;omega
      · obtain rfl:q=m:=by simp only at h2;omega
        exact hc,cq⟩ (by simp only;omega)
   · rw [z6 hc] at c1
     repeat' (first|((apply zA);(first|exact jS zd w1|exact jS zd w2|exact yN zd zd fH|exact zj m zd zd rfl WD|exact zY zd (jk 0 _ zd)|exact zm zd (fun W _=>c1 W));rfl)|refine vw ?_)
     exact yL (Q:=fun _ _=>True) [] (i,m) ⟨rfl,rfl,trivial,kX⟩ ⟨by simp only;omega,by simp only;omega,Qw,fun q h h2=>by
      simp only at h2;rcases yq m q with h3|h3
      · have:=uL m q WD h h3;omega
      · obtain rfl:q=m:=ze;omega⟩ (by simp only;omega)
 · have hd:=Xq ql;obtain rfl:i=j:=ze;have Rf:=aam hj Qw cq
   have K6: ∀(h:i<l.length),(k∈l↔l[i]=k):=fun h=>⟨fun hk=>by
    obtain ⟨q,hq,rfl⟩:=R7 hk;rcases Nat.lt_trichotomy q i with h3|h3|h3
    · have:=Qw q hq h3;omega
    · subst h3;rfl
    · have:=uL i q h hq h3;have:=cq i h (zN _);omega,fun e=>by rw [<-e];exact yD h⟩
   have hnm:¬ i<l.length->¬ k∈l:=fun h hk=>by
    obtain ⟨q,hq,rfl⟩:=R7 hk;have:=Qw q hq ze;omega
   rw [Rf];rcases yq i l.length with kg|kg
   · have uN:=Xp kg;obtain ⟨b,off,rfl,jk⟩:=hM.get kg;have c1:=fun W=>Wm l[i] W
     have c2:=fun W=>Wm k W
     by_cases hq:l[i]=k
     · have ee:(l[i]==k)=true:=beq_iff_eq.2 hq;have J6:=yk ((K6 kg).2 hq)
       repeat' (first|((apply zA);(first|exact zj (i) zd zd ze ze|exact zY zd (jk 0 _ zd));rfl)|refine vw ?_)
       show yH _ _ _ _;refine yH.two zd (zy zd ?_) (zy zd ?_)
       · rfl
       · rw [J6]
     · have ee:(l[i]==k)=false:=beq_eq_false_iff_ne.2 hq;have J6:=z6 (fun h=>hq ((K6 kg).1 h))
       repeat' (first|((apply zA);(first|exact zj (i) zd zd ze ze|exact zY zd (jk 0 _ zd)|exact zm zd (fun W _=>c1 W));rfl)|refine vw ?_)
       show yH _ _ _ _;refine yH.two zd (zy zd ?_) (zy zd ?_)
       · rfl
       · rw [J6]
   · have uN:=Xq kg;have J6:=z6 (hnm ze)
     repeat' (refine vw ?_)
     show yH _ _ _ _;refine yH.two zd (zy zd ?_) (zy zd ?_)
     · rfl
     · rw [J6]
theorem bG (f:FuncId) [hf:zG zf f] (k8:Array Value) (p:Int->Bool) (v:Value) (l:List Int) (w:World) (hl:Sl w 1 Fu v l) (hn:l.length<=1000000000)
 (hp: ∀m∈l,∀W,(Mem.of w).le (Mem.of W)->Calls zf f (#[.int .i64 m]++k8) W fun e w'=>e= .returned (.bool (p m))/\Below W.heap.size W w'):
 Calls zf 60 #[v, .func (.func f) #[] k8] w fun e w'=>e= .returned (.int .i64 (lU p l))/\Below w.heap.size w w':=by
 obtain ⟨A,c,rfl,vK,qD,_⟩:=id hl;have hM:=hl.KI;unfold maxLen at qD;refine zQ Tryz.func60 rfl Tryz.ntmps60 zd (zE) ?_
 repeat' (refine vw ?_)
 refine kU (fun k:Nat=>⟨Mem.of w,[],[(0, .v (.slice A l.length c)),(1, .v (.func (.func f) #[] k8)),(7, .v (.int .i64 l.length)),(8, .v (.int .i64 k))]⟩) (fun k=>k<=l.length/\(l.take k).all (fun m=>!p m)=true) (fun k=>l.length-k) [] 0 ⟨rfl,rfl,trivial,jY⟩ ⟨ze,rfl⟩ ?_;rintro k ⟨hk,hr⟩;rcases yq k l.length with z9|ql
 · have hd:=Xp z9;obtain ⟨b,off,rfl,jk⟩:=hM.get z9;have Uk:=hp l[k] (yD z9);cases hq:p l[k] with
   |true=>
    rw [hq] at Uk
    repeat' (first|((apply zA);(first|exact zj (k) zd zd ze ze|exact zY zd (jk 0 _ zd)|exact kA zd zd (fun W hW=>Uk W hW));rfl)|refine vw ?_)
    show yH _ _ _ _;refine yH.one zd (zy zd ?_);refine z5 (Value.int .i64) ?_;exact (bY z9 hr hq).symm
   |false=>
    rw [hq] at Uk
    repeat' (first|((apply zA);(first|exact zj (k) zd zd ze ze|exact zY zd (jk 0 _ zd)|exact kA zd zd (fun W hW=>Uk W hW));rfl)|refine vw ?_)
    refine yL (Q:=fun _ _=>True) [] (k+1) ⟨rfl,rfl,trivial,jY⟩ ⟨ze,?_⟩ ze;rw [eG z9 (fun m=>!p m),hr,hq];rfl
 · have hd:=Xq ql;obtain rfl:k=l.length:=ze;rw [xk] at hr
   repeat' (refine vw ?_)
   show yH _ _ _ _;refine yH.one zd (zy zd ?_);rw [VP hr]
def K0 (p:Int->Bool) (l:List Int):List Int:=l.filter fun m=>!p m
theorem CG {l:List Int} {k:Nat} (h:k<l.length) (p:Int->Bool):K0 p (l.take (k+1))=K0 p (l.take k)++(if p l[k]=true then [] else [l[k]]):=by
 unfold K0;rw [vF h,aX];congr 1;cases hc:p l[k]<;>simp [hc]
theorem aan (p:Int->Bool) (l:List Int) (k:Nat):(K0 p (l.take k)).length<=k:=by
 have:(K0 p (l.take k)).length<=(l.take k).length:=Ql _ _;rw [yC] at this;omega
theorem Ia {p:Int->Bool} {l:List Int} (h:l.all (fun m=>!p m)=true):K0 p l=l:=by
 unfold K0;rw [List.filter_eq_self];exact fun a ha=>yw.1 h a ha
theorem WY (u:Value) (M:Mem) (f:FuncId) [hf:zG zf f] (k8:Array Value) (p:Int->Bool) (l:List Int) (hn:l.length<=1000000)
 (hp: ∀m∈l,∀W,M.le (Mem.of W)->Calls zf f (#[.int .i64 m]++k8) W fun e w'=>e= .returned (.bool (p m))/\Below W.heap.size W w'):
 uC zf 188 [u, .func (.func f) #[] k8] M [.zC u 3 1 l.length (ic l)] (fun v zw=>j2 v (K0 p l).length/\zw= [.zC v 3 1 (K0 p l).length (ic (K0 p l))]):=by
 refine AD Tryz.func188 rfl Tryz.ntmps188 zd (fun w M0=>?_);refine ae3 ?_;refine NU 0 0 zd zd ?_;have cn:=fun (W:World) (v:Value) (hs:Sl W 1 Fu v l) (hM:M.le (Mem.of W))=>bG f k8 p v l W hs ze (fun m hm W' C9=>hp m hm W' (hM.trans C9))
 cases uD:l.all (fun m=>!p m) with
 |true=>
  have hi:lU p l= -1:=VP uD;rw [hi] at cn
  repeat' (first|((apply zA);((refine uj (r:= .int .i64 (-1)) zd ?_;exact fun hd W hO hW=>cn W _ (CN (hO 0 _ rfl)) hW));rfl)|refine vw ?_)
  rw [Ia uD];exact .inr ⟨0,_,_,_,_,rfl,fun v hv=>⟨v,[0],[.zC v 3 1 l.length (ic l)],zP,zE,rfl,xc,hv,rfl⟩⟩
 |false=>
  have VR: ∃i,∃h:i<l.length,(l.take i).all (fun m=>!p m)=true/\p l[i]=true:=by
   cases Ba:l.findIdx? p with
   |none=>
    rw [rQ] at Ba;have:l.all (fun m=>!p m)=true:=yw.2 fun x hx=>by rw [Ba x hx];rfl
    rw [this] at uD;cases uD
   |some i=>
    obtain ⟨h,h1,h2⟩:=Sn.1 Ba;refine ⟨i,h,yw.2 fun x hx=>?_,h1⟩;obtain ⟨j,hj,rfl⟩:=gz.1 hx;have:=h2 j ze;simpa using this
  obtain ⟨i,kg,h1,h2⟩:=VR;rw [bY kg h1 h2] at cn
  have g1:((i:Int)== -1)=false:=by
   have:(i:Int)≠ -1:=ze;exact beq_eq_false_iff_ne.2 this
  have CX:K0 p (l.take (i+1))=l.take i:=by
   rw [CG kg,h2,Ia h1];simp
  have CW:(K0 p (l.take (i+1))).length=i:=by rw [CX,yC];omega
  repeat' (first|((apply zA);((refine uj (r:= .int .i64 i) zd ?_;exact fun hd W hO hW=>cn W _ (CN (hO 0 _ rfl)) hW));rfl)|refine vw ?_)
  refine kU (fun x:Nat×List Int=>⟨M,[.row 3 1 l.length (ic x.2)],[(0, .r 0),(1, .v (.func (.func f) #[] k8)),(5, .v (.int .i64 (K0 p (l.take x.1)).length)),(6, .v (.int .i64 x.1))]⟩) (fun x=>x.1<=l.length/\x.2.length=l.length/\x.2.take (K0 p (l.take x.1)).length=K0 p (l.take x.1)/\x.2.drop x.1=l.drop x.1) (fun x=>l.length-x.1) [0] (i+1,l) ⟨rfl,rfl,xc,⟨rfl,rfl,by simp only;rw [CW];rfl,rfl,trivial⟩⟩ ⟨by simp only;omega,rfl,by simp only;rw [CW,CX],rfl⟩ ?_;rintro ⟨j,L⟩ ⟨hj,Ee,Da,Rx⟩;simp only at hj Ee Da Rx;have Eb:=aan p l j;rcases yq j l.length with z9|ql
  · have hd:=Xp z9;have To:j<L.length:=ze
    have Gg:L[j]=l[j]:=by
     have e1:=Zc To;have e2:=Zc z9;rw [Rx,e2] at e1;injection e1 with e1 _;exact e1.symm
    have p4:=hp l[j] (yD z9);have uA:(ic L)[j*1]?=some (.int .i64 l[j]):=by rw [v7,adN To,Gg]
    have yE:L.drop (j+1)=l.drop (j+1):=by rw [<-Q8 (i:=1) (j:=j),Rx,Q8]
    have kt:=CG z9 p;cases iw:p l[j] with
    |true=>
     rw [iw] at p4;rw [iw,zo rfl,xR] at kt
     repeat' (first|((apply zA);(first|exact u5 j zd zd zd ze ze|exact Y2 zd zd uA|exact kA zd zd (fun W hW=>p4 W hW));rfl)|refine vw ?_)
     refine yL (Q:=fun _ _=>True) [0] (j+1,L) ⟨rfl,rfl,xc,⟨rfl,rfl,?_,rfl,trivial⟩⟩ ⟨by simp only;omega,Ee,?_,yE⟩ (by simp only;omega)
     · simp only;rw [kt];rfl
     · simp only;rw [kt];exact Da
    |false=>
     rw [iw] at p4;rw [iw,zn yx] at kt;have ge:(K0 p (l.take (j+1))).length=(K0 p (l.take j)).length+1:=by rw [kt];simp
     have hqL:(K0 p (l.take j)).length<L.length:=ze;generalize hq:(K0 p (l.take j)).length=q at*
     repeat' (first|((apply zA);(first|exact u5 j zd zd zd ze ze|exact u5 q zd zd zd ze ze|exact Y2 zd zd uA|exact kA zd zd (fun W hW=>p4 W hW));rfl)|refine vw ?_)
     refine I6 zd zd zd (by show q*1<(ic L).length;rw [adM];omega) rfl zd zd ?_
     repeat' (refine vw ?_)
     refine yL (Q:=fun _ _=>True) [0] (j+1,L.set q l[j]) ⟨rfl,rfl,⟨?_,trivial⟩,⟨rfl,rfl,?_,rfl,trivial⟩⟩ ⟨by simp only;omega,by simp only [xj];exact Ee,?_,?_⟩ (by simp only;omega)
     · simp only;show some (Ob.row _ 1 l.length ((ic L).set (q*1) (.int .i64 l[j])))=_;rw [v7];unfold ic;rw [aR]
     · simp only;rw [ge];rfl
     · simp only;rw [ge,kt,Q7,vF hqL,Da,YF _ _ (by rw [hq];exact zN _),hq];simp
     · simp only;rw [rJ ze];exact yE
  · have hd:=Xq ql;have Wb:j=l.length:=ze;subst Wb;rw [xk] at Da Eb
    repeat' (refine vw ?_)
    refine AG (K0 p l).length zd (by simp only [xk];rfl) zd ze zd zd zd zd (fun Zn vK qD=>?_)
    repeat' (refine vw ?_)
    refine Xl _ _ (afh (K0 p l).length zd (by simp only [xk];rfl) zd ze) zd zd ?_
    repeat' (refine vw ?_)
    have hk:Zn.take ((K0 p l).length*1)=ic (K0 p l):=by
     simp only [xk] at qD;rw [qD,v7];unfold ic;rw [<-eX];exact z5 _ Da
    exact .inr ⟨1,_,_,_,_,rfl,fun v hv=>⟨v,[1],[.zC v 3 1 (K0 p l).length (Zn.take ((K0 p l).length*1))],zP,zE,rfl,xc,hv,by rw [hk]⟩⟩
end Go.Proofs.YtaibdpjjojihmaaGreat
