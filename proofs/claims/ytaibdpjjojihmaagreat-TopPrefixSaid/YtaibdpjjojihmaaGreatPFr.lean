/- A part of the proof of TopPrefix; no conditions. -/
import Derived.Test.YtaibdpjjojihmaaGreatPBf
set_option linter.unusedVariables false
set_option linter.unusedSimpArgs false
set_option maxRecDepth 20000
set_option maxHeartbeats 8000000
namespace Go.Proofs.YtaibdpjjojihmaaGreat
section
open Go Go.RowKit
attribute [local irreducible] Calls
def WK (p:Nat->Bool) (k:Nat):Bool:=(List.range k).all p
theorem GB (p:Nat->Bool) (k:Nat):WK p (k+1)=(WK p k&&p k):=by
 unfold WK;rw [nF,Al];simp
theorem eF {p:Nat->Bool} {n:Nat}:WK p n=true↔ ∀i,i<n->p i=true:=by
 unfold WK;rw [yw];simp
theorem GC {p:Nat->Bool} {k n:Nat} (hp:p k=false) (hn:k<n):WK p n=false:=by
 cases h:WK p n with
 |false=>rfl
 |true=>rw [eF.1 h k hn] at hp;cases hp
def wi (l:List ByteArray) (i:Nat):ByteArray:=(l[i]?).getD em
theorem qO {l:List ByteArray} {i:Nat} (h:i<l.length):wi l i=l[i]:=by simp [wi,h]
def EM (l:List ByteArray) (i:Nat):Bool:=decide (i=0)||lt (wi l (i-1)) (wi l i)
def Xv (l:List ByteArray):Bool:=WK (EM l) l.length
theorem pI {l:List ByteArray} (h:Xv l=true) {i:Nat} (hi:i+1<l.length):lt (wi l i) (wi l (i+1))=true:=by
 have:=eF.1 h (i+1) hi;simpa [EM] using this
theorem HI {l:List ByteArray} (h:Xv l=true): ∀(d i:Nat),i+d+1<l.length->lt (wi l i) (wi l (i+d+1))=true
 |0,i,hi=>pI h hi
 |d+1,i,hi=>KX (HI h d i ze) (pI h ze)
theorem KV {l:List ByteArray} (h:Xv l=true) {i j:Nat} (gf:i<j) (hj:j<l.length):lt (wi l i) (wi l j)=true:=by
 have:=HI h (j-i-1) i ze
 rwa [show i+(j-i-1)+1=j by omega] at this
def jq (l:List ByteArray) (k:ByteArray):Nat:=l.countP fun p=>!lt k p
def f8 (l:List ByteArray) (k:ByteArray):Nat:=l.countP fun p=>lt p k
theorem Nx (a b:ByteArray) (w:World):Calls zf 167 #[.string a, .string b] w fun e w'=>e= .returned (.bool (lt a b))/\Below w.heap.size w w':=by
 have c1: ∀(x:ByteArray) (W:World),Calls zf 199 #[.string x] W fun e w'=>e= .returned (.bool false)/\Below W.heap.size W w':=fun x W=>by
  refine zQ Tryz.func199 rfl Tryz.ntmps199 zd (Mem.xE _) ?_
  repeat' (refine vw ?_)
  show yH _ _ _ _;refine yH.one zd (zy zd ?_);simp
 refine zQ Tryz.func167 rfl Tryz.ntmps167 zd (Mem.xE _) ?_
 repeat' (first|((apply zA);(exact zm zd (fun W _=>c1 a W));rfl)|refine vw ?_)
 show yH _ _ _ _;refine yH.one zd (zy zd ?_);rfl
theorem Wl (x:ByteArray) (W:World):Calls zf 168 #[.string x] W fun e w'=>e= .returned (.bool false)/\Below W.heap.size W w':=by
 refine zQ Tryz.func168 rfl Tryz.ntmps168 zd (Mem.xE _) ?_
 repeat' (refine vw ?_)
 show yH _ _ _ _;refine yH.one zd (zy zd ?_);simp
theorem PH {l:List ByteArray} {k:ByteArray} {i:Nat} (hi:i<=l.length) (h1: ∀q,q<i->lt (wi l q) k=true) (h2: ∀q,i<=q->q<l.length->lt (wi l q) k=false):f8 l k=i:=by
 unfold f8;have e:l=l.take i++l.drop i:=(Us i l).symm;rw [e,List.countP_append]
 have a:(l.take i).countP (fun p=>lt p k)=(l.take i).length:=by
  rw [List.countP_eq_length];intro x hx;obtain ⟨q,hq,rfl⟩:=gz.1 hx;have:=h1 q ze
  rwa [qO ze] at this
 have b:(l.drop i).countP (fun p=>lt p k)=0:=by
  rw [rK];intro x hx;obtain ⟨q,hq,rfl⟩:=I0.1 hx;have:=h2 (i+q) ze ze;rw [qO ze] at this;rw [this];simp
 rw [a,b,yC];omega
theorem gj {i j:Nat} (h:i<j): ∃m:Nat,(((i:Int)+(j:Int)).fdiv 2)=(m:Int)/\i<=m/\m<j:=by
 refine ⟨(i+j)/2,?_,ze,ze⟩;rw [acO _ ze];omega
theorem UQ (v:Value) (l:List ByteArray) (k:ByteArray) (w:World) (hl:SlS w v l) (hn:l.length<=1000000000) (uL:Xv l=true):
 Calls zf 143 #[v, .string k] w fun e w'=>e= .returned (.tuple #[.int .i64 (f8 l k), .bool (decide (f8 l k<l.length/\wi l (f8 l k)=k))])/\Below w.heap.size w w':=by
 obtain ⟨A,c,rfl,vK,qD,_⟩:=id hl;have hM:=hl.KI;unfold maxLen at qD;refine zQ Tryz.func143 rfl Tryz.ntmps143 zd (zE) ?_
 repeat' (refine vw ?_)
 refine kU (fun x:Nat×Nat=>⟨Mem.of w,[],[(0, .v (.slice A l.length c)),(1, .v (.string k)),(6, .v (.int .i64 l.length)),(7, .v (.int .i64 x.1)),(8, .v (.int .i64 x.2))]⟩) (fun x=>x.1<=x.2/\x.2<=l.length/\(∀q,q<x.1->lt (wi l q) k=true)/\(∀q,x.2<=q->q<l.length->lt (wi l q) k=false)) (fun x=>x.2-x.1) [] (0,l.length) ⟨rfl,rfl,trivial,kX⟩ ⟨by simp only;omega,zN _,fun q hq=>by simp only at hq;omega,fun q h1 h2=>by simp only at h1;omega⟩ ?_;rintro ⟨i,j⟩ ⟨gf,hj,Qw,cq⟩;simp only at gf hj Qw cq;rcases yq i j with z9|ql
 · have hd:=Xp z9;obtain ⟨m,hm,him,hmj⟩:=gj z9;have WD:m<l.length:=ze;obtain ⟨b,off,rfl,jk⟩:=hM.get WD;have c1:=fun W=>Nx l[m] k W
   have w1:IntKind.u64.wrap ((i:Int)+(j:Int))=(i:Int)+(j:Int):=r8 ze ze;have w2:IntKind.i64.wrap (((i:Int)+(j:Int)).fdiv 2)=(m:Int):=by rw [hm];exact Qy ze ze
   have P5:=qO WD;cases hc:lt l[m] k with
   |true=>
    rw [hc] at c1
    repeat' (first|((apply zA);(first|exact jS zd w1|exact jS zd w2|exact yN zd zd fH|exact zj m zd zd rfl WD|exact zY zd (jk 0 _ zd)|exact zm zd (fun W _=>c1 W));rfl)|refine vw ?_)
    have hx: ∀q,q<m+1->lt (wi l q) k=true:=fun q hq=>by
     rcases yq q m with h|h
     · have h1:=KV uL h WD;rw [P5] at h1;exact KX h1 hc
     · obtain rfl:q=m:=ze;rw [P5];exact hc
    exact yL (Q:=fun _ _=>True) [] (m+1,j) ⟨rfl,rfl,trivial,kX⟩ ⟨by simp only;omega,hj,hx,cq⟩ (by simp only;omega)
   |false=>
    rw [hc] at c1
    repeat' (first|((apply zA);(first|exact jS zd w1|exact jS zd w2|exact yN zd zd fH|exact zj m zd zd rfl WD|exact zY zd (jk 0 _ zd)|exact zm zd (fun W _=>c1 W));rfl)|refine vw ?_)
    have hx: ∀q,m<=q->q<l.length->lt (wi l q) k=false:=fun q h1 h2=>by
     rcases yq m q with h|h
     · have h3:=KV uL h h2;rw [P5] at h3;cases h4:lt (wi l q) k with
       |false=>rfl
       |true=>rw [KX h3 h4] at hc;cases hc
     · obtain rfl:q=m:=ze;rw [P5];exact hc
    exact yL (Q:=fun _ _=>True) [] (i,m) ⟨rfl,rfl,trivial,kX⟩ ⟨by simp only;omega,by simp only;omega,Qw,hx⟩ (by simp only;omega)
 · have hd:=Xq ql;obtain rfl:i=j:=ze;have Rf:=PH hj Qw cq;rw [Rf];rcases yq i l.length with kg|kg
   · have uN:=Xp kg;obtain ⟨b,off,rfl,jk⟩:=hM.get kg;have c1:=fun W=>Wl l[i] W
     have c2:=fun W=>Wl k W
     cases hq:decide (l[i]=k) with
     |true=>
      repeat' (first|((apply zA);(first|exact zj (i) zd zd ze ze|exact zY zd (jk 0 _ zd));rfl)|refine vw ?_)
      show yH _ _ _ _;refine yH.two zd (zy zd ?_) (zy zd ?_)
      · rfl
      · refine z5 Value.bool ?_;rw [qO kg];simp only [j5] at hq;simp [kg,hq]
     |false=>
      repeat' (first|((apply zA);(first|exact zj (i) zd zd ze ze|exact zY zd (jk 0 _ zd)|exact zm zd (fun W _=>c1 W));rfl)|refine vw ?_)
      show yH _ _ _ _;refine yH.two zd (zy zd ?_) (zy zd ?_)
      · rfl
      · refine z5 Value.bool ?_;rw [qO kg];simp only [gx] at hq;simp [kg,hq]
   · have uN:=Xq kg
     repeat' (refine vw ?_)
     show yH _ _ _ _;refine yH.two zd (zy zd ?_) (zy zd ?_)
     · rfl
     · refine z5 Value.bool ?_;have:¬ i<l.length:=ze;simp [this]
end
section
open Go Go.RowKit
attribute [local irreducible] Calls
theorem oF (a:ByteArray) (l:List ByteArray):wi (a::l) 0=a:=rfl
theorem oG (a:ByteArray) (l:List ByteArray) (i:Nat):wi (a::l) (i+1)=wi l i:=by simp [wi]
theorem BX: ∀(l:List ByteArray) (k:ByteArray),l.Pairwise (fun a b=>lt a b=true)->jq l k=f8 l k+(if f8 l k<l.length/\wi l (f8 l k)=k then 1 else 0)
 | [],k,_=>rfl
 |a::l,k,h=>by
  obtain ⟨h1,h2⟩:=aY.1 h;have ih:=BX l k h2;unfold jq f8 at*;rw [GU,GU];cases hc:lt a k with
  |true=>
   have h3:=Ff hc;simp only [h3,Bool.not_false,uR,xd,oG];rw [ih];by_cases hq:l.countP (fun p=>lt p k)<l.length/\wi l (l.countP fun p=>lt p k)=k
   · have ee:l.countP (fun p=>lt p k)+1<l.length+1/\wi l (l.countP fun p=>lt p k)=k:=⟨ze,hq.2⟩;rw [zo hq,zo ee]
   · have ee:¬ (l.countP (fun p=>lt p k)+1<l.length+1/\wi l (l.countP fun p=>lt p k)=k):=fun hx=>hq ⟨ze,hx.2⟩
     rw [zn hq,zn ee]
  |false=>
   have h0:l.countP (fun p=>lt p k)=0:=by
    rw [rK];intro b hb C6;rw [KX (h1 b hb) C6] at hc;cases hc
   have hr:l.countP (fun p=>!lt k p)=0:=by
    rw [rK];intro b hb;rw [ab8 hc (h1 b hb)];simp
   rw [h0,hr];simp only [Vq,kT,xu,xd,oF];by_cases hak:a=k
   · subst hak;rw [d7];simp
   · cases hka:lt k a with
     |true=>simp [hak]
     |false=>exact absurd (ah hc hka) hak
theorem TN {l:List ByteArray} (h:Xv l=true):l.Pairwise (fun a b=>lt a b=true):=by
 rw [DF];intro i j hi hj gf;have:=KV h gf hj
 rwa [qO hi,qO hj] at this
theorem OT {l:List ByteArray} {k:ByteArray} (h:Xv l=true):jq l k=f8 l k+(if f8 l k<l.length/\wi l (f8 l k)=k then 1 else 0):=BX l k (TN h)
theorem X3 (l:List ByteArray) (k:ByteArray):jq l k<=l.length:=Sd
theorem ZR (v:Value) (l:List ByteArray) (k:ByteArray) (w:World) (hl:SlS w v l) (hn:l.length<=1000000000) (uL:Xv l=true):
 Calls zf 123 #[v, .string k] w fun e w'=>e= .returned (.int .i64 (jq l k))/\Below w.heap.size w w':=by
 have hM:=hl.KI;have c1:=fun W hW=>UQ v l k W (hM.xS hW) hn uL
 have hr:=OT (k:=k) uL;have hle:=X3 l k;cases hb:decide (f8 l k<l.length/\wi l (f8 l k)=k) with
 |true=>
  rw [hb] at c1;rw [zo (qc hb)] at hr;have zD:f8 l k+1<=l.length:=ze;refine zQ Tryz.func123 rfl Tryz.ntmps123 zd (zE) ?_
  repeat' (first|((apply zA);(exact zm zd c1);rfl)|refine vw ?_)
  show yH _ _ _ _;refine yH.one zd (zy zd ?_);refine z5 (Value.int .i64) ?_;omega
 |false=>
  rw [hb] at c1;rw [zn (wc hb)] at hr;refine zQ Tryz.func123 rfl Tryz.ntmps123 zd (zE) ?_
  repeat' (first|((apply zA);(exact zm zd c1);rfl)|refine vw ?_)
  show yH _ _ _ _;refine yH.one zd (zy zd ?_);refine z5 (Value.int .i64) ?_;omega
def Xw (l:List ByteArray) (n:Nat):yW:=Kj ⟨if 0<n then wi l (n-1) else em,if n<l.length then wi l n else em,!decide (n<l.length)⟩
def xL (l:List ByteArray) (i:Int):yW:=if i<0\/(l.length:Int)<i then EA else Xw l i.toNat
theorem Ca {l:List ByteArray} {n:Nat} (h:n<=l.length):xL l (n:Int)=Xw l n:=by
 unfold xL;rw [zn ze,Yp]
theorem ET {l:List ByteArray} {i:Int} (h:i<0\/(l.length:Int)<i):xL l i=EA:=zo h
theorem ZS (v:Value) (l:List ByteArray) (i:Int) (w:World) (hl:SlS w v l) (hn:l.length<=1000000000):
 Calls zf 124 #[v, .int .i64 i] w fun e w'=>e= .returned ((xL l i).av)/\Below w.heap.size w w':=by
 obtain ⟨A,c,rfl,vK,qD,_⟩:=id hl;have hM:=hl.KI;unfold maxLen at qD;have cA:=fun W=>bD W
 by_cases h0:i<0\/(l.length:Int)<i
 · rw [ET h0];cases h1:decide (i<0) with
   |true=>
    refine zQ eR rfl eW zd (zE) ?_
    repeat' (refine vw ?_)
    show yH _ _ _ _;refine yH.one zd (xr zd zd _ zd ?_);rfl
   |false=>
    have h2:decide ((l.length:Int)<i)=true:=by
     simp only [gx] at h1;exact yk ze
    refine zQ eR rfl eW zd (zE) ?_
    repeat' (refine vw ?_)
    show yH _ _ _ _;refine yH.one zd (xr zd zd _ zd ?_);rfl
 · obtain ⟨n,rfl⟩: ∃n:Nat,i=n:=⟨i.toNat,ze⟩;have hnl:n<=l.length:=ze;rw [Ca hnl];have g1:decide ((n:Int)<0)=false:=z6 ze;have g2:decide ((l.length:Int)<(n:Int))=false:=z6 ze;have cN:=fun (s:yW) (W:World)=>ZK s W
   rcases Vr n with hz|hz
   · subst hz;have g3:decide ((0:Int)<((0:Nat):Int))=false:=by decide
     rcases yq 0 l.length with z9|ql
     · have g4:=Xp z9;obtain ⟨b,off,rfl,jk⟩:=hM.get z9;have hR:Xw l 0=Kj ⟨em,l[0],false⟩:=by unfold Xw;rw [zn ze,zo z9,yk z9,qO z9];rfl
       rw [hR];refine zQ eR rfl eW zd (zE) ?_
       repeat' (first|((apply zA);(first|exact zm zd (fun W _=>cA W)|exact zj (0) zd zd ze ze|exact zY zd (jk 0 _ zd)|exact zm zd (fun W _=>cN ⟨em,l[0],false⟩ W));rfl)|refine vw ?_)
       show yH _ _ _ _;refine yH.one zd (xr zd zd _ zd ?_);rfl
     · have g4:=Xq ql;have hR:Xw l 0=Kj ⟨em,em,true⟩:=by unfold Xw;rw [zn ze,zn ze,z6 ze];rfl
       rw [hR];refine zQ eR rfl eW zd (zE) ?_
       repeat' (first|((apply zA);(first|exact zm zd (fun W _=>cA W)|exact zm zd (fun W _=>cN ⟨em,em,true⟩ W));rfl)|refine vw ?_)
       show yH _ _ _ _;refine yH.one zd (xr zd zd _ zd ?_);rfl
   · have g3:decide ((0:Int)<(n:Int))=true:=yk ze;have MQ:n-1<l.length:=ze;obtain ⟨b,off,rfl,iA⟩:=hM.get MQ;rcases yq n l.length with z9|ql
     · have g4:=Xp z9;obtain ⟨b',aaf,he,jk⟩:=hM.get z9;injection he with he;injection he with Iq p7;subst Iq p7;have hR:Xw l n=Kj ⟨l[n-1],l[n],false⟩:=by unfold Xw;rw [zo hz,zo z9,yk z9,qO z9,qO MQ];rfl
       rw [hR];refine zQ eR rfl eW zd (zE) ?_
       repeat' (first|((apply zA);(first|exact zm zd (fun W _=>cA W)|exact zj (n) zd zd ze ze|exact zj (n-1) zd zd ze ze|exact zY zd (jk 0 _ zd)|exact zY zd (iA 0 _ zd)|exact zm zd (fun W _=>cN ⟨l[n-1],l[n],false⟩ W));rfl)|refine vw ?_)
       show yH _ _ _ _;refine yH.one zd (xr zd zd _ zd ?_);rfl
     · have g4:=Xq ql;have hR:Xw l n=Kj ⟨l[n-1],em,true⟩:=by unfold Xw;rw [zo hz,zn ze,z6 ze,qO MQ];rfl
       rw [hR];refine zQ eR rfl eW zd (zE) ?_
       repeat' (first|((apply zA);(first|exact zm zd (fun W _=>cA W)|exact zj (n-1) zd zd ze ze|exact zY zd (iA 0 _ zd)|exact zm zd (fun W _=>cN ⟨l[n-1],em,true⟩ W));rfl)|refine vw ?_)
       show yH _ _ _ _;refine yH.one zd (xr zd zd _ zd ?_);rfl
def KO (m:xi):Bool:=m.kind==4
def kh (l:List xi):List xi:=if sU KO l= -1 then l else if sU KO l=0 then l.take 1 else l.take (sU KO l).toNat
theorem Ng {l:List xi} (h:l.all (fun m=>!KO m)=true):kh l=l:=by unfold kh;rw [zo (iu h)]
theorem Dd {l:List xi} (h:0<l.length) (hw:KO l[0]=true):kh l=l.take 1:=by
 have:=bX (p:=KO) h rfl hw;unfold kh;rw [this];rfl
theorem Nh {l:List xi} {k:Nat} (hk:0<k) (h:k<l.length) (h1:(l.take k).all (fun m=>!KO m)=true) (hw:KO l[k]=true):kh l=l.take k:=by
 have:=bX (p:=KO) h h1 hw;unfold kh;rw [this,zn ze,zn ze,Yp]
theorem Nk {l:List xi} {p:xi->Bool} (uD:l.all (fun m=>!p m)=false): ∃i,∃h:i<l.length,(l.take i).all (fun m=>!p m)=true/\p l[i]=true:=by
 cases Ba:l.findIdx? p with
 |none=>
  rw [rQ] at Ba;have:l.all (fun m=>!p m)=true:=yw.2 fun x hx=>by rw [Ba x hx];rfl
  rw [this] at uD;cases uD
 |some i=>
  obtain ⟨h,h1,h2⟩:=Sn.1 Ba;refine ⟨i,h,yw.2 fun x hx=>?_,h1⟩;obtain ⟨j,hj,rfl⟩:=gz.1 hx;have:=h2 j ze;simpa using this
theorem Gh (m:xi) (w:World):Calls zf 211 #[m.av] w fun e w'=>e= .returned (.bool (KO m))/\Below w.heap.size w w':=by
 refine zQ Tryz.func211 rfl Tryz.ntmps211 zd (Mem.xE _) ?_
 repeat' (refine vw ?_)
 show yH _ _ _ _;refine yH.one zd (zy zd ?_);rfl
theorem gl (v:Value) (l:List xi) (w:World) (hl:WM w v l) (hn:l.length<=1000000):
 Calls zf 180 #[v] w (uV 200 6 (kh l).length ((kh l).flatMap zR) w):=by
 obtain ⟨A,c,rfl,vK,qD,_⟩:=id hl;have hM:=hl.KI;unfold maxLen at qD
 have c1: ∀W,(Mem.of w).le (Mem.of W)->Calls zf 210 #[.slice A l.length c, .func (.func 211) #[] #[]] W fun e w'=>e= .returned (.int .i64 (sU KO l))/\Below W.heap.size W w':=
  fun W hW=>JY 211 #[] KO _ l W (hM.xS hW) ze (fun m hm W' C9=>Gh m W')
 refine acT (args:= [.slice A l.length c]) (M:=Mem.of w) Tryz.func180 rfl Tryz.ntmps180 zd (zE) rfl ?_;cases uD:l.all (fun m=>!KO m) with
 |true=>
  rw [iu uD] at c1
  repeat' (first|((apply zA);(exact zm zd c1);rfl)|refine vw ?_)
  refine Qn zd (fun W hW=>vp _ l W (hM.xS hW) ze) zd zd ?_
  repeat' (refine vw ?_)
  rw [Ng uD];exact ⟨0,rfl,rfl⟩
 |false=>
  obtain ⟨i,kg,h1,h2⟩:=Nk uD;rw [bX kg h1 h2] at c1;have g1:((i:Int)== -1)=false:=beq_eq_false_iff_ne.2 ze;rcases Vr i with hz|hz
  · subst hz;have g2:(((0:Nat):Int)==0)=true:=rfl;have hp:=xt.part hM (p:=0) (q:=1) (m:=c) ze ze ze ze;rw [JJ] at hp
    repeat' (first|((apply zA);(first|exact zm zd c1|exact yg 0 1 c zd rfl zd rfl ze ze ze ze);rfl)|refine vw ?_)
    refine Qn zd (fun W hW=>vp _ (l.take 1) W (hp.xS hW) (by rw [yC];omega)) zd zd ?_
    repeat' (refine vw ?_)
    rw [Dd kg h2];exact ⟨0,rfl,rfl⟩
  · have g2:((i:Int)==0)=false:=beq_eq_false_iff_ne.2 ze;have hp:=xt.part hM (p:=0) (q:=i) (m:=c) ze ze ze ze;rw [JJ] at hp
    repeat' (first|((apply zA);(first|exact zm zd c1|exact yg 0 i c zd rfl zd rfl ze ze ze ze);rfl)|refine vw ?_)
    refine Qn zd (fun W hW=>vp _ (l.take i) W (hp.xS hW) (by rw [yC];omega)) zd zd ?_
    repeat' (refine vw ?_)
    rw [Nh hz kg h1 h2];exact ⟨0,rfl,rfl⟩
end
section
open Go Go.RowKit
attribute [local irreducible] Calls
theorem au {l:List xi} {m:xi} (h:m∈kh l):m∈l:=by
 unfold kh at h;split at h
 · exact h
 · split at h<;>exact wB h
theorem Ju (l:List xi):(kh l).length<=l.length:=by
 unfold kh;split
 · exact zN _
 · split<;>(rw [yC];omega)
def Jb (ps:List ByteArray) (L:List xi) (j:Nat):Int:=ZJ qJ (L.filter fun m=>decide (jq ps m.key=j))
theorem Lv (ps:List ByteArray) {L:List xi} {k:Nat} (h:k<L.length) (j:Nat):Jb ps (L.take (k+1)) j=Jb ps (L.take k) j+(if jq ps L[k].key=j then qJ L[k] else 0):=by
 unfold Jb;rw [vF h,aX,dR];congr 1;by_cases hc:jq ps L[k].key=j<;>simp [hc,ZJ]
theorem BE (ps:List ByteArray) (L:List xi) (j:Nat):0<=Jb ps L j:=XN _ (fun a _=>KT a)
theorem TC (ps:List ByteArray) {L:List xi} (hz: ∀m∈L,m.key.size<=1000000/\m.hi.size<=1000000/\m.val.size<=1000000) (hn:L.length<=1000000) (k j:Nat):Jb ps (L.take k) j<=3000000000000:=by
 have hs:=bu (f:=qJ) 3000000 ((L.take k).filter fun m=>decide (jq ps m.key=j)) (fun a ha=>by
  have:=hz a (wB (ZE.1 ha).1);have:=UT (m:=a) (n:=1000000) ze ze ze;omega)
 have h1:((L.take k).filter fun m=>decide (jq ps m.key=j)).length<=(L.take k).length:=Ql _ _;rw [yC] at h1;unfold Jb;omega
def gX (f:Nat->Int):Nat->Nat
 |0=>0
 |n+1=>if f (gX f n)<f n then n else gX f n
theorem tU (f:Nat->Int): ∀(n m:Nat),n<=m+1->gX f n<=m
 |0,m,_=>zW _
 |n+1,m,h=>by
  unfold gX;split
  · omega
  · exact tU f n m ze
def UM (ps:List ByteArray) (L:List xi):List Value:=(List.range (ps.length+1)).map fun j=>Value.int .i64 (Jb ps L j)
theorem Lu (ps:List ByteArray) (L:List xi):(UM ps L).length=ps.length+1:=by simp [UM]
theorem dO {ps:List ByteArray} (L:List xi) {j:Nat} (h:j<=ps.length):(UM ps L)[j*1]?=some (.int .i64 (Jb ps L j)):=by
 unfold UM;rw [v7,qd,List.getElem?_range ze];rfl
theorem Er (ps:List ByteArray):UM ps []=List.replicate (ps.length+1) (.int .i64 0):=by
 unfold UM;apply fj
 · simp
 · intro i h1 h2;simp [Jb,ZJ]
theorem Es (ps:List ByteArray) {L:List xi} {k:Nat} (h:k<L.length):(UM ps (L.take k)).set (jq ps L[k].key*1) (.int .i64 (Jb ps (L.take k) (jq ps L[k].key)+qJ L[k]))=UM ps (L.take (k+1)):=by
 unfold UM;apply fj
 · simp
 · intro i h1 h2;simp only [v7,nH,XD,List.getElem_range];rw [Lv ps h];by_cases hc:jq ps L[k].key=i
   · subst hc;simp
   · simp [hc]
theorem tv (pv v:Value) (ps:List ByteArray) (l:List xi) (w:World) (oT:SlS w pv ps) (CS:ps.length<=1000000) (uL:Xv ps=true) (hl:WM w v l) (hz: ∀m∈l,m.key.size<=1000000/\m.hi.size<=1000000/\m.val.size<=1000000) (hn:l.length<=1000000) (jt:0<l.length):
 Calls zf 153 #[pv,v] w fun e w'=>e= .returned (.tuple #[.int .i64 (gX (Jb ps (kh l)) (ps.length+1)), .bool true])/\Below w.heap.size w w':=by
 obtain ⟨B,d,rfl,Zy,uN,_⟩:=id oT;obtain ⟨A,c,rfl,vK,qD,_⟩:=id hl;have hM:=hl.KI;have hP:=oT.KI;unfold maxLen at qD uN;have g0:((l.length:Int)==0)=false:=beq_eq_false_iff_ne.2 ze;refine zQ Tryz.func153 rfl Tryz.ntmps153 zd (zE) ?_
 repeat' (refine vw ?_)
 refine Xl _ _ (AR (ps.length+1) _ zd zd ze ze (oN _ _ zd) (by unfold maxLen;omega) ze) zd zd ?_
 repeat' (refine vw ?_)
 refine Qn zd (fun W hW=>gl _ l W (hM.xS hW) hn) zd zd ?_;refine Hb 1 zd (fun u M2 zD hu=>?_);have hF:xt M2 6 zR u (kh l):=hu.YB (fun _ _=>rfl);obtain ⟨A2,c2,rfl,hf1,CZ,_⟩:=id hF;unfold maxLen at CZ;have hP2:=hP.mono zD;have hFn:=Ju l;generalize hL:kh l=L at*;have hzL: ∀m∈L,m.key.size<=1000000/\m.hi.size<=1000000/\m.val.size<=1000000:=fun m hm=>hz m (au (by rw [hL];exact hm))
 repeat' (refine vw ?_)
 refine kU (fun k:Nat=>⟨M2,[.row 3 1 (ps.length+1) (UM ps (L.take k))],[(0, .v (.slice B ps.length d)),(6, .r 0),(20, .v (.slice A2 L.length c2)),(21, .v (.int .i64 L.length)),(22, .v (.int .i64 k))]⟩) (fun k=>k<=L.length) (fun k=>L.length-k) [0] 0 ⟨rfl,rfl,⟨by rw [eZ,Er];rfl,trivial⟩,kX⟩ ze ?_
 · intro k hk;rcases yq k L.length with z9|ql
   · have hd:=Xp z9;obtain ⟨b,off,rfl,jk⟩:=hF.get z9;obtain ⟨z1,z2,z3⟩:=hzL L[k] (yD z9);have hq:=UT (m:=L[k]) (n:=1000000) ze ze ze;have hq0:=KT L[k];have c1:=fun W=>QJ L[k] W z1 z3
     have c2:=fun W hW=>ZR _ ps L[k].key W (hP2.xS hW) ze uL
     have hr:=X3 ps L[k].key;have JS:=dO (ps:=ps) (L.take k) hr;have MI:=BE ps (L.take k) (jq ps L[k].key);have hs1:=TC ps hzL ze k (jq ps L[k].key);have kt:=Es ps z9;have Tj:=Lu ps (L.take k);generalize hro:jq ps L[k].key=r at*
     repeat' (first|((first|apply zA|apply Ze);(first|exact zj (k) zd zd ze ze|exact zZ _ zd jk _ zd|exact zm zd (fun W _=>c1 W)|exact zm zd c2|exact u5 r zd zd zd ze ze|exact Y2 zd zd JS);rfl)|refine vw ?_)
     refine I6 zd zd zd ze zd zd zd ?_
     repeat' (refine vw ?_)
     refine yL (Q:=fun _ _=>True) [0] (k+1) ⟨rfl,rfl,⟨?_,trivial⟩,kX⟩ ze ze;rw [<-kt];rfl
   · have hd:=Xq ql;obtain rfl:k=L.length:=ze
     repeat' (refine vw ?_)
     rw [xk];refine kU (fun i:Nat=>⟨M2,[.row 3 1 (ps.length+1) (UM ps L)],[(6, .r 0),(9, .v (.int .i64 (gX (Jb ps L) i))),(38, .r 0),(39, .v (.int .i64 ((ps.length+1:Nat):Int))),(40, .v (.int .i64 i))]⟩) (fun i=>i<=ps.length+1) (fun i=>ps.length+1-i) [0] 0 ⟨rfl,rfl,xc,kX⟩ ze ?_;intro i hi;rcases yq i (ps.length+1) with z9|ql
     · have hd:=Xp z9;have hb:=tU (Jb ps L) i ps.length hi;have hg1:=dO (ps:=ps) L (j:=i) ze;have hg2:=dO (ps:=ps) L hb;have kt:gX (Jb ps L) (i+1)=if Jb ps L (gX (Jb ps L) i)<Jb ps L i then i else gX (Jb ps L) i:=rfl
       generalize Ir:gX (Jb ps L) i=bi at*;cases hc:decide (Jb ps L bi<Jb ps L i) with
       |true=>
        rw [zo (qc hc)] at kt
        repeat' (first|((apply zA);(first|exact u5 i zd zd zd ze ze|exact u5 bi zd zd zd ze ze|exact Y2 zd zd hg1|exact Y2 zd zd hg2);rfl)|refine vw ?_)
        refine yL (Q:=fun _ _=>True) [0] (i+1) ⟨rfl,rfl,xc,⟨rfl,?_,rfl,rfl,rfl,trivial⟩⟩ ze ze;rw [kt];rfl
       |false=>
        rw [zn (wc hc)] at kt
        repeat' (first|((apply zA);(first|exact u5 i zd zd zd ze ze|exact u5 bi zd zd zd ze ze|exact Y2 zd zd hg1|exact Y2 zd zd hg2);rfl)|refine vw ?_)
        refine yL (Q:=fun _ _=>True) [0] (i+1) ⟨rfl,rfl,xc,⟨rfl,?_,rfl,rfl,rfl,trivial⟩⟩ ze ze;rw [kt];rfl
     · have hd:=Xq ql;obtain rfl:i=ps.length+1:=ze
       repeat' (refine vw ?_)
       show yH _ _ _ _;refine yH.two zd (zy zd ?_) (zy zd ?_)
       · rfl
       · rfl
theorem oZ (pv v:Value) (w:World) (hl:WM w v []):
 Calls zf 153 #[pv,v] w fun e w'=>e= .returned (.tuple #[.int .i64 0, .bool false])/\Below w.heap.size w w':=by
 obtain ⟨A,c,rfl,vK,qD,_⟩:=id hl;have g0:((([]:List xi).length:Int)==0)=true:=rfl;refine zQ Tryz.func153 rfl Tryz.ntmps153 zd (zE) ?_
 repeat' (refine vw ?_)
 show yH _ _ _ _;refine yH.two zd (zy zd ?_) (zy zd ?_)
 · rfl
 · rfl
end
section
open Go Go.RowKit
attribute [local irreducible] Calls
def Df (ps:List ByteArray) (i:Int) (m:xi):List xi:=if ((jq ps m.key:Int)==i&&(jD m (xL ps i)).2)=true then [(jD m (xL ps i)).1] else []
def Xx (ps:List ByteArray) (L:List xi) (i:Int):List xi:=L.flatMap (Df ps i)
theorem Nj (ps:List ByteArray) {L:List xi} {k:Nat} (h:k<L.length) (i:Int):Xx ps (L.take (k+1)) i=Xx ps (L.take k) i++Df ps i L[k]:=by
 unfold Xx;rw [vF h,JF];simp
theorem cU (ps:List ByteArray) (L:List xi) (i:Int):(Xx ps L i).length<=L.length:=by
 unfold Xx
 induction L with
 |nil=>simp
 |cons a l ih=>
  rw [j6,yK,xd];have:(Df ps i a).length<=1:=by unfold Df;split<;>simp
  omega
theorem ej (pv v:Value) (ps:List ByteArray) (l:List xi) (i:Int) (w:World) (oT:SlS w pv ps) (CS:ps.length<=1000000) (uL:Xv ps=true) (hl:WM w v l) (hz: ∀m∈l,m.key.size<=1000000) (hn:l.length<=1000000):
 Calls zf 238 #[pv,v, .int .i64 i] w (uV 200 6 (Xx ps (kh l) i).length ((Xx ps (kh l) i).flatMap zR) w):=by
 obtain ⟨B,d,rfl,Zy,uN,_⟩:=id oT;obtain ⟨A,c,rfl,vK,qD,_⟩:=id hl;have hM:=hl.KI;have hP:=oT.KI;unfold maxLen at qD uN;have cR:=fun W hW=>ZS _ ps i W (hP.xS hW) ze
 refine acT (args:= [.slice B ps.length d, .slice A l.length c, .int .i64 i]) (M:=Mem.of w) Tryz.func238 rfl Tryz.ntmps238 zd (zE) rfl ?_
 repeat' (first|((apply zA);(exact zm zd cR);rfl)|refine vw ?_)
 refine Qn zd (fun W hW=>gl _ l W (hM.xS hW) hn) zd zd ?_;refine Hb 1 zd (fun u M2 zD hu=>?_);have hF:xt M2 6 zR u (kh l):=hu.YB (fun _ _=>rfl);obtain ⟨A2,c2,rfl,hf1,CZ,_⟩:=id hF;unfold maxLen at CZ;have hP2:=hP.mono zD;have hFn:=Ju l;have hzL: ∀m∈kh l,m.key.size<=1000000:=fun m hm=>hz m (au hm)
 generalize hL:kh l=L at*;generalize hs:xL ps i=s at*
 repeat' (refine vw ?_)
 refine iI 7 200 6 zd zd ?_;refine kU (fun k:Nat=>⟨M2,[.qZ 118 (s.av:Value).cells.toList, .row 200 6 (Xx ps (L.take k) i).length ((Xx ps (L.take k) i).flatMap zR)],[(0, .v (.slice B ps.length d)),(2, .v (.int .i64 i)),(7, .r 1),(8, .p 0 0),(17, .v (.slice A2 L.length c2)),(18, .v (.int .i64 L.length)),(19, .v (.int .i64 k))]⟩) (fun k=>k<=L.length) (fun k=>L.length-k) [0,2] 0 ⟨rfl,rfl,j4,Qj⟩ ze ?_;intro k hk;have y7:=cU ps (L.take k) i;rw [yC] at y7;rcases yq k L.length with z9|ql
 · have hd:=Xp z9;obtain ⟨b,off,rfl,jk⟩:=hF.get z9;have c1:=fun W=>QK L[k] s W (hzL L[k] (yD z9))
   have c2:=fun W hW=>ZR _ ps L[k].key W (hP2.xS hW) ze uL
   have kt:=Nj ps z9 i;have hf1:Df ps i L[k]=if ((jq ps L[k].key:Int)==i&&(jD L[k] s).2)=true then [(jD L[k] s).1] else []:=by unfold Df;rw [hs]
   cases hr:((jq ps L[k].key:Int)==i) with
   |false=>
    have D9:((jq ps L[k].key:Int) !=i)=true:=by simp [bne,hr]
    have e:Xx ps (L.take (k+1)) i=Xx ps (L.take k) i:=by rw [kt,hf1,hr];simp
    repeat' (first|((apply zA);(first|exact zj (k) zd zd ze ze|exact zZ _ zd jk _ zd|exact zm zd c2);rfl)|refine vw ?_)
    exact yL (Q:=fun _ _=>True) [0,1] (k+1) ⟨rfl,rfl,⟨rfl,by rw [e];rfl,trivial⟩,Qj⟩ ze ze
   |true=>
    have D9:((jq ps L[k].key:Int) !=i)=false:=by simp [bne,hr]
    cases ju:(jD L[k] s).2 with
    |false=>
     rw [ju] at c1;have e:Xx ps (L.take (k+1)) i=Xx ps (L.take k) i:=by rw [kt,hf1,hr,ju];simp
     repeat' (first|((apply zA);(first|exact zj (k) zd zd ze ze|exact zZ _ zd jk _ zd|exact zm zd c2|exact zm zd (fun W _=>c1 W));rfl)|refine vw ?_)
     exact yL (Q:=fun _ _=>True) [0,1] (k+1) ⟨rfl,rfl,⟨rfl,by rw [e];rfl,trivial⟩,Qj⟩ ze ze
    |true=>
     rw [ju] at c1;have e:Xx ps (L.take (k+1)) i=Xx ps (L.take k) i++ [(jD L[k] s).1]:=by rw [kt,hf1,hr,ju];rfl
     have e2:(Xx ps (L.take (k+1)) i).flatMap zR=(Xx ps (L.take k) i).flatMap zR++zR (jD L[k] s).1:=by rw [e];simp
     have e3:(Xx ps (L.take (k+1)) i).length=(Xx ps (L.take k) i).length+1:=by rw [e];simp
     repeat' (first|((apply zA);(first|exact zj (k) zd zd ze ze|exact zZ _ zd jk _ zd|exact zm zd c2|exact zm zd (fun W _=>c1 W));rfl)|refine vw ?_)
     exact yL (Q:=fun _ _=>True) [0,5] (k+1) ⟨rfl,rfl,⟨rfl,by rw [e2,e3];rfl,trivial⟩,Qj⟩ ze ze
 · have hd:=Xq ql;obtain rfl:k=L.length:=ze
   repeat' (refine vw ?_)
   rw [xk];exact ⟨1,rfl,rfl⟩
end
section
open Go Go.RowKit
attribute [local irreducible] Calls
end
end Go.Proofs.YtaibdpjjojihmaaGreat
