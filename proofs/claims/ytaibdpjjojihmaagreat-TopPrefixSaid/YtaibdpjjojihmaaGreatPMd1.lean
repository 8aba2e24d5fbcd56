/- A part of the proof of TopPrefix; no conditions. -/
import Derived.Test.YtaibdpjjojihmaaGreatPIn3
set_option linter.unusedVariables false
set_option linter.unusedSimpArgs false
set_option maxRecDepth 20000
set_option maxHeartbeats 4000000
namespace Go.Proofs.YtaibdpjjojihmaaGreat
section
open Go Go.RowKit
attribute [local irreducible] Calls
end
section
open Go Go.RowKit
attribute [local irreducible] Calls
def XA (n a b:Int):Bool:=decide (a<=n)&&decide (n<=b)
theorem BH (n a b:Int) (w:World):Calls zf 97 #[.int .i64 n, .int .i64 a, .int .i64 b] w fun e w'=>e= .returned (.bool (XA n a b))/\Below w.heap.size w w':=by
 unfold XA;refine zQ Tryz.func97 rfl Tryz.ntmps97 zd (Mem.xE _) ?_
 repeat' (first|refine vw ?_|(refine vd ?_ ?_<;>intro hq))
 all_goals
  show yH _ _ _ _;refine yH.one zd (zy zd ?_);simp_all
  try (intros;omega)
def Oj (c:qn):Bool:=XA c.jz 4 64&&(XA c.leaf 2 64&&(XA c.yV 36 4096&&(XA c.kD 1 4096&&XA c.yu 0 100)))
theorem bz (c:qn) (w:World):Calls zf 78 #[c.av] w fun e w'=>e= .returned (.bool (Oj c))/\Below w.heap.size w w':=by
 unfold Oj;have cA:=fun n a b W=>BH n a b W
 cases h1:XA c.jz 4 64
 all_goals cases h2:XA c.leaf 2 64
 all_goals cases h3:XA c.yV 36 4096
 all_goals cases h4:XA c.kD 1 4096
 all_goals
  have c1:=fun W=>cA c.jz 4 64 W
  have c2:=fun W=>cA c.leaf 2 64 W
  have c3:=fun W=>cA c.yV 36 4096 W
  have c4:=fun W=>cA c.kD 1 4096 W
  have c5:=fun W=>cA c.yu 0 100 W
  rw [h1] at c1;rw [h2] at c2;rw [h3] at c3;rw [h4] at c4;refine zQ Tryz.func78 rfl Tryz.ntmps78 zd (Mem.xE _) ?_
  repeat' (first|((apply zA);(first|exact zm zd (fun W _=>c1 W)|exact zm zd (fun W _=>c2 W)|exact zm zd (fun W _=>c3 W)|exact zm zd (fun W _=>c4 W)|exact zm zd (fun W _=>c5 W));rfl)|refine vw ?_)
  show yH _ _ _ _;refine yH.one zd (zy zd ?_)
  first|rfl|simp
end
section
open Go Go.RowKit
attribute [local irreducible] Calls
def aF:List UInt8->List UInt8->Nat
 |x::a,y::b=>if x=y then aF a b+1 else 0
 |_,_=>0
theorem Nw {a b:List UInt8} {k:Nat} (h1:k<a.length) (h2:k<b.length) (h:a[k]=b[k]):aF (a.drop k) (b.drop k)=aF (a.drop (k+1)) (b.drop (k+1))+1:=by
 rw [Zc h1,Zc h2];show (if a[k]=b[k] then _ else 0)=_;rw [zo h]
theorem Nv {a b:List UInt8} {k:Nat} (h1:k<a.length) (h2:k<b.length) (h:a[k]≠b[k]):aF (a.drop k) (b.drop k)=0:=by
 rw [Zc h1,Zc h2];show (if a[k]=b[k] then _ else 0)=_;rw [zn h]
theorem RM {a b:List UInt8} {k:Nat} (h:a.length<=k\/b.length<=k):aF (a.drop k) (b.drop k)=0:=by
 rcases h with h|h
 · rw [Ut h];rfl
 · rw [Ut h];cases a.drop k<;>rfl
theorem RT {s:ByteArray} {k:Nat} (h:k<(bl s).length):KM s k=(((bl s)[k]).toNat:Int):=by
 unfold KM;show ((((bl s).getD k 0).toNat:Nat):Int)=_;rw [dv,jA h];rfl
theorem mU (s:ByteArray):(bl s).length=s.size:=by simp [bl]
theorem Fz (a b:ByteArray) (w:World) (ha:a.size<=1000000) (hb:b.size<=1000000):Calls zf 255 #[.string a, .string b] w fun e w'=>e= .returned (.int .i64 ((aF (bl a) (bl b):Nat):Int))/\Below w.heap.size w w':=by
 have iy:=mU a;have am:=mU b;have Ra:(if (b.size:Int)<(a.size:Int) then (b.size:Int) else (a.size:Int))=((min a.size b.size:Nat):Int):=by split<;>omega
 refine zQ Tryz.func255 rfl Tryz.ntmps255 zd (Mem.xE _) ?_
 repeat' (refine vw ?_)
 refine kU (fun k:Nat=>⟨Mem.no,[],[(0, .v (.string a)),(1, .v (.string b)),(5, .v (.int .i64 k))]⟩) (fun k=>k<=a.size/\aF (bl a) (bl b)=k+aF ((bl a).drop k) ((bl b).drop k)) (fun k=>a.size-k) [] 0 ⟨rfl,rfl,trivial,ka⟩ ⟨ze,by simp⟩ ?_;rintro k ⟨hk,hr⟩;by_cases z9:k<a.size/\k<b.size
 · have d1:decide ((k:Int)<(if (b.size:Int)<(a.size:Int) then (b.size:Int) else (a.size:Int)))=true:=by rw [Ra];exact yk ze
   have h1:k<(bl a).length:=ze;have h2:k<(bl b).length:=ze;have e1:=RT h1;have e2:=RT h2;by_cases hq:(bl a)[k]=(bl b)[k]
   · have d2:(KM a k==KM b k)=true:=by rw [e1,e2,hq];simp
     repeat' (first|((first|apply zA|apply Ze);(first|exact fC zd zd (fun W=>eL W _ _ _ _ _ _)|exact Qo k zd zd rfl z9.1|exact Qo k zd zd rfl z9.2);rfl)|refine vw ?_)
     exact yL (Q:=fun _ _=>True) [] (k+1) ⟨rfl,rfl,trivial,ka⟩ ⟨ze,by rw [hr,Nw h1 h2 hq];omega⟩ ze
   · have d2:(KM a k==KM b k)=false:=by
      rw [e1,e2,rH];intro h;exact hq (GP.1 ze)
     repeat' (first|((first|apply zA|apply Ze);(first|exact fC zd zd (fun W=>eL W _ _ _ _ _ _)|exact Qo k zd zd rfl z9.1|exact Qo k zd zd rfl z9.2);rfl)|refine vw ?_)
     show yH _ _ _ _;refine yH.one zd (zy zd ?_);rw [hr,Nv h1 h2 hq,Kt]
 · have d1:decide ((k:Int)<(if (b.size:Int)<(a.size:Int) then (b.size:Int) else (a.size:Int)))=false:=by rw [Ra];exact z6 ze
   repeat' (first|((first|apply zA|apply Ze);(exact fC zd zd (fun W=>eL W _ _ _ _ _ _));rfl)|refine vw ?_)
   show yH _ _ _ _;refine yH.one zd (zy zd ?_);rw [hr,RM ze,Kt]
def NG (a b:ByteArray):ByteArray:=b.extract 0 (aF (bl a) (bl b)+1)
theorem CK (a b:ByteArray) (w:World) (ha:a.size<=1000000) (hb:b.size<=1000000) (z9:lt a b=true) (hc:aF (bl a) (bl b)<b.size):Calls zf 250 #[.string a, .string b] w fun e w'=>e= .returned (.tuple #[.string (NG a b), .bool true])/\Below w.heap.size w w':=by
 have cC:=fun W=>Fz a b W ha hb
 have d1:(!lt a b)=false:=by rw [z9];rfl
 unfold NG;generalize aF (bl a) (bl b)=n at*;refine zQ Tryz.func250 rfl Tryz.ntmps250 zd (Mem.xE _) ?_
 repeat' (first|((apply zA);(first|exact zm zd (fun W _=>cC W)|exact V3 0 (n+1) zd rfl zd ze ze);rfl)|refine vw ?_)
 exact kH
end
section
open Go Go.RowKit
attribute [local irreducible] Calls
def o7 (a b:ByteArray):Int:=if lt a b=true then -1 else if lt b a=true then 1 else 0
theorem tK (a b:ByteArray) (w:World):Calls zf 246 #[.string a, .string b] w fun e w'=>e= .returned (.int .i64 (o7 a b))/\Below w.heap.size w w':=by
 have c1: ∀(x:ByteArray) (W:World),Calls zf 199 #[.string x] W fun e w'=>e= .returned (.bool false)/\Below W.heap.size W w':=fun x W=>by
  refine zQ Tryz.func199 rfl Tryz.ntmps199 zd (Mem.xE _) ?_
  repeat' (refine vw ?_)
  show yH _ _ _ _;refine yH.one zd (zy zd ?_);simp
 unfold o7;cases h1:lt a b with
 |true=>
  refine zQ Tryz.func246 rfl Tryz.ntmps246 zd (Mem.xE _) ?_
  repeat' (first|((apply zA);(first|exact zm zd (fun W _=>c1 a W)|exact zm zd (fun W _=>c1 b W));rfl)|refine vw ?_)
  show yH _ _ _ _;refine yH.one zd (zy zd ?_);rfl
 |false=>
  cases h2:lt b a with
  |true=>
   refine zQ Tryz.func246 rfl Tryz.ntmps246 zd (Mem.xE _) ?_
   repeat' (first|((apply zA);(first|exact zm zd (fun W _=>c1 a W)|exact zm zd (fun W _=>c1 b W));rfl)|refine vw ?_)
   show yH _ _ _ _;refine yH.one zd (zy zd ?_);rfl
  |false=>
   refine zQ Tryz.func246 rfl Tryz.ntmps246 zd (Mem.xE _) ?_
   repeat' (first|((apply zA);(first|exact zm zd (fun W _=>c1 a W)|exact zm zd (fun W _=>c1 b W));rfl)|refine vw ?_)
   show yH _ _ _ _;refine yH.one zd (zy zd ?_);rfl
theorem ga (a b:ByteArray) (w:World):Calls zf 231 #[.string a, .string b] w fun e w'=>e= .returned (.int .i64 (o7 a b))/\Below w.heap.size w w':=by
 have c1:=fun W=>tK a b W
 refine zQ Tryz.func231 rfl Tryz.ntmps231 zd (Mem.xE _) ?_
 repeat' (first|((apply zA);(exact zm zd (fun W _=>c1 W));rfl)|refine vw ?_)
 show yH _ _ _ _;refine yH.one zd (zy zd ?_);rfl
theorem sJ (p:y6) (k:ByteArray) (w:World):Calls zf 230 #[p.av, .string k] w fun e w'=>e= .returned (.int .i64 (o7 p.key k))/\Below w.heap.size w w':=by
 have c1:=fun W=>ga p.key k W
 refine zQ Tryz.func230 rfl Tryz.ntmps230 zd (Mem.xE _) ?_
 repeat' (first|((apply zA);(exact zm zd (fun W _=>c1 W));rfl)|refine vw ?_)
 show yH _ _ _ _;refine yH.one zd (zy zd ?_);rfl
theorem BW (p:y6) (k:ByteArray) (w:World):Calls zf 261 #[p.av, .string k] w fun e w'=>e= .returned (.int .i64 (o7 p.key k))/\Below w.heap.size w w':=by
 have c1:=fun W=>ga p.key k W
 refine zQ Tryz.func261 rfl Tryz.ntmps261 zd (Mem.xE _) ?_
 repeat' (first|((apply zA);(exact zm zd (fun W _=>c1 W));rfl)|refine vw ?_)
 show yH _ _ _ _;refine yH.one zd (zy zd ?_);rfl
theorem abe {a b:ByteArray}:decide (o7 a b<0)=lt a b:=by
 unfold o7;cases lt a b with
 |true=>rfl
 |false=>cases lt b a<;>rfl
theorem abf {a b:ByteArray}:(o7 a b==0)=decide (a=b):=by
 unfold o7;by_cases h:a=b
 · subst h;rw [d7,yk rfl];rfl
 · rw [z6 h];cases h1:lt a b with
   |true=>rfl
   |false=>
    cases h2:lt b a with
    |true=>rfl
    |false=>exact absurd (ah h1 h2) h
abbrev ja (l:List y6):List ByteArray:=l.map y6.key
theorem bV {l:List y6} {i:Nat} (h:i<l.length):wi (ja l) i=l[i].key:=by
 rw [qO (by simpa using h)];simp
theorem Ug (f:FuncId) [hf:zG zf f] (hc: ∀(p:y6) (k:ByteArray) W,Calls zf f #[p.av, .string k] W fun e w'=>e= .returned (.int .i64 (o7 p.key k))/\Below W.heap.size W w') (v:Value) (l:List y6) (k:ByteArray) (w:World) (hl:Sl w 2 zi v l) (hn:l.length<=1000000000) (uL:Xv (ja l)=true):
 Calls zf 229 #[v, .string k, .func (.func f) #[] #[]] w fun e w'=>e= .returned (.tuple #[.int .i64 (f8 (ja l) k), .bool (decide (f8 (ja l) k<l.length/\wi (ja l) (f8 (ja l) k)=k))])/\Below w.heap.size w w':=by
 obtain ⟨A,c,rfl,vK,qD,_⟩:=id hl;have hM:=hl.KI;have Rj:(ja l).length=l.length:=yo _;unfold maxLen at qD;refine zQ Tryz.func229 rfl Tryz.ntmps229 zd (zE) ?_
 repeat' (refine vw ?_)
 refine kU (fun x:Nat×Nat=>⟨Mem.of w,[],[(0, .v (.slice A l.length c)),(1, .v (.string k)),(2, .v (.func (.func f) #[] #[])),(8, .v (.int .i64 l.length)),(9, .v (.int .i64 x.1)),(10, .v (.int .i64 x.2))]⟩) (fun x=>x.1<=x.2/\x.2<=l.length/\(∀q,q<x.1->lt (wi (ja l) q) k=true)/\(∀q,x.2<=q->q<l.length->lt (wi (ja l) q) k=false)) (fun x=>x.2-x.1) [] (0,l.length) ⟨rfl,rfl,trivial,JE⟩ ⟨by simp only;omega,zN _,fun q hq=>by simp only at hq;omega,fun q h1 h2=>by simp only at h1;omega⟩ ?_;rintro ⟨i,j⟩ ⟨gf,hj,Qw,cq⟩;simp only at gf hj Qw cq;rcases yq i j with z9|ql
 · have hd:=Xp z9;obtain ⟨m,hm,him,hmj⟩:=gj z9;have WD:m<l.length:=ze;obtain ⟨b,off,rfl,jk⟩:=hM.get WD;have c1:=fun W=>hc l[m] k W
   have w1:IntKind.u64.wrap ((i:Int)+(j:Int))=(i:Int)+(j:Int):=r8 ze ze;have w2:IntKind.i64.wrap (((i:Int)+(j:Int)).fdiv 2)=(m:Int):=by rw [hm];exact Qy ze ze
   have P5:=bV WD;have aho:=abe (a:=l[m].key) (b:=k);cases hcq:lt l[m].key k with
   |true=>
    rw [hcq] at aho
    repeat' (first|((apply zA);(first|exact jS zd w1|exact jS zd w2|exact yN zd zd fH|exact zj m zd zd rfl WD|exact zZ _ zd jk _ zd|exact kA zd zd (fun W _=>c1 W));rfl)|refine vw ?_)
    have hx: ∀q,q<m+1->lt (wi (ja l) q) k=true:=fun q hq=>by
     rcases yq q m with h|h
     · have h1:=KV uL h ze;rw [P5] at h1;exact KX h1 hcq
     · obtain rfl:q=m:=ze;rw [P5];exact hcq
    exact yL (Q:=fun _ _=>True) [] (m+1,j) ⟨rfl,rfl,trivial,JE⟩ ⟨by simp only;omega,hj,hx,cq⟩ (by simp only;omega)
   |false=>
    rw [hcq] at aho
    repeat' (first|((apply zA);(first|exact jS zd w1|exact jS zd w2|exact yN zd zd fH|exact zj m zd zd rfl WD|exact zZ _ zd jk _ zd|exact kA zd zd (fun W _=>c1 W));rfl)|refine vw ?_)
    have hx: ∀q,m<=q->q<l.length->lt (wi (ja l) q) k=false:=fun q h1 h2=>by
     rcases yq m q with h|h
     · have h3:=KV uL h ze;rw [P5] at h3;cases h4:lt (wi (ja l) q) k with
       |false=>rfl
       |true=>rw [KX h3 h4] at hcq;cases hcq
     · obtain rfl:q=m:=ze;rw [P5];exact hcq
    exact yL (Q:=fun _ _=>True) [] (i,m) ⟨rfl,rfl,trivial,JE⟩ ⟨by simp only;omega,by simp only;omega,Qw,hx⟩ (by simp only;omega)
 · have hd:=Xq ql;obtain rfl:i=j:=ze;have Rf:=PH (l:=ja l) ze Qw (fun q h1 h2=>cq q h1 ze);rw [Rf];rcases yq i l.length with kg|kg
   · have uN:=Xp kg;obtain ⟨b,off,rfl,jk⟩:=hM.get kg;have c1:=fun W=>hc l[i] k W
     have hz:=abf (a:=l[i].key) (b:=k)
     repeat' (first|((apply zA);(first|exact zj (i) zd zd ze ze|exact zZ _ zd jk _ zd|exact kA zd zd (fun W _=>c1 W));rfl)|refine vw ?_)
     show yH _ _ _ _;refine yH.two zd (zy zd ?_) (zy zd ?_)
     · rfl
     · refine z5 Value.bool ?_;rw [hz,bV kg];simp [kg]
   · have uN:=Xq kg
     repeat' (refine vw ?_)
     show yH _ _ _ _;refine yH.two zd (zy zd ?_) (zy zd ?_)
     · rfl
     · refine z5 Value.bool ?_;exact (z6 (fun h=>ze)).symm
def Ya (l:List y6) (k:ByteArray):Nat:=f8 (ja l) k
def vl (l:List y6) (k:ByteArray):Bool:=decide (Ya l k<l.length/\wi (ja l) (Ya l k)=k)
theorem lB (v:Value) (l:List y6) (k:ByteArray) (w:World) (hl:Sl w 2 zi v l) (hn:l.length<=1000000000) (uL:Xv (ja l)=true):
 Calls zf 202 #[v, .string k] w fun e w'=>e= .returned (.tuple #[.int .i64 (Ya l k), .bool (vl l k)])/\Below w.heap.size w w':=by
 have hM:=hl.KI;have c1:=fun W hW=>Ug 230 sJ v l k W (hM.xS hW) hn uL
 refine zQ Tryz.func202 rfl Tryz.ntmps202 zd (zE) ?_
 repeat' (first|((apply zA);(exact zm zd c1);rfl)|refine vw ?_)
 show yH _ _ _ _;refine yH.two zd (zy zd ?_) (zy zd ?_)
 · rfl
 · rfl
theorem LK (v:Value) (l:List y6) (k:ByteArray) (w:World) (hl:Sl w 2 zi v l) (hn:l.length<=1000000000) (uL:Xv (ja l)=true):
 Calls zf 258 #[v, .string k] w fun e w'=>e= .returned (.tuple #[.int .i64 (Ya l k), .bool (vl l k)])/\Below w.heap.size w w':=by
 have hM:=hl.KI;have c1:=fun W hW=>Ug 261 BW v l k W (hM.xS hW) hn uL
 refine zQ Tryz.func258 rfl Tryz.ntmps258 zd (zE) ?_
 repeat' (first|((apply zA);(exact zm zd c1);rfl)|refine vw ?_)
 show yH _ _ _ _;refine yH.two zd (zy zd ?_) (zy zd ?_)
 · rfl
 · rfl
end
section
open Go Go.RowKit
attribute [local irreducible] Calls
structure Nd.Tt (n:Nd):Prop where
 high:n.high.size<=1000000
 ps: ∀s∈n.ps,s.size<=1000000
 psn:n.ps.length<=1000000
 ksn:n.ks.length<=1000000
 ms: ∀m∈n.ms,m.key.size<=1000000/\m.hi.size<=1000000/\m.val.size<=1000000
 msn:n.ms.length<=1000000
 rs: ∀p∈n.rs,p.key.size<=1000000/\p.val.size<=1000000
 rsn:n.rs.length<=1000000
 min: ∀m∈n.ms,m.In
end
section
open Go Go.RowKit
attribute [local irreducible] Calls
end
section
open Go Go.RowKit
attribute [local irreducible] Calls
end
section
open Go Go.RowKit
attribute [local irreducible] Calls
abbrev yr (n:Nd):List Value:= [.int .i64 n.slot, .int .i64 n.level,n.pv,n.kv, .string n.high, .bool n.top, .int .i64 n.right, .int .i64 n.seen,n.mv,n.rv]
end
section
open Go.ChangeShapes Go.WideShapes Go.ChangeAt Go.RowKit Go.Deep
end
section
open Go Go.RowKit
attribute [local irreducible] Calls
theorem Y5 (v:Value) (l:List ByteArray) (w:World) (hl:Sl w 1 zM v l) (hn:l.length<=1000000000):
 Calls zf 108 #[v] w (uV 9 1 l.length (l.flatMap zM) w):=by
 obtain ⟨A,c,rfl,vK,qD,hv⟩:=id hl;have hM:=hl.KI;refine aZ (args:= [.slice A l.length c]) (M:=Mem.of w) Tryz.func108 rfl Tryz.ntmps108 zd (zE) rfl ?_;cases A with
 |none=>
  have h0:l= []:=by
   rcases hv with h|⟨b,off,h,_⟩
   · exact h
   · cases h
  subst h0;have hn:(none:Option Addr).isNone=true:=rfl
  repeat' (refine vw ?_)
  exact .inr ⟨rfl,rfl,rfl⟩
 |some a=>
  have hn':(some a:Option Addr).isNone=false:=rfl;by_cases h0:l= []
  · subst h0
    repeat' (first|((apply zA);(exact Yv zd zd zd);rfl)|refine vw ?_)
    exact .inl ⟨_,rfl,rfl⟩
  · obtain ⟨b,off,he,kW,QU⟩:=xt.flat (k:=1) (cells:=zM) (fun a _=>rfl) hM h0;injection he with he;subst he;have U4:0<l.length:=Qk.2 h0;have h1:((l.flatMap zM).all (·.oneCell'))=true:=by simp [aV,zM,Value.oneCell']
    repeat' (refine vw ?_)
    refine Xl _ _ (Ue (l.flatMap zM) zd zd zd kW QU U4 h1 (by unfold maxLen;omega) ze) zd zd ?_
    repeat' (refine vw ?_)
    refine .inl ⟨_,rfl,?_⟩;simp
theorem Y6 (v:Value) (l:List Int) (w:World) (hl:Sl w 1 zF v l) (hn:l.length<=1000000000):
 Calls zf 109 #[v] w (uV 3 1 l.length (l.flatMap zF) w):=by
 obtain ⟨A,c,rfl,vK,qD,hv⟩:=id hl;have hM:=hl.KI;refine aZ (args:= [.slice A l.length c]) (M:=Mem.of w) Tryz.func109 rfl Tryz.ntmps109 zd (zE) rfl ?_;cases A with
 |none=>
  have h0:l= []:=by
   rcases hv with h|⟨b,off,h,_⟩
   · exact h
   · cases h
  subst h0;have hn:(none:Option Addr).isNone=true:=rfl
  repeat' (refine vw ?_)
  exact .inr ⟨rfl,rfl,rfl⟩
 |some a=>
  have hn':(some a:Option Addr).isNone=false:=rfl;by_cases h0:l= []
  · subst h0
    repeat' (first|((apply zA);(exact Yv zd zd zd);rfl)|refine vw ?_)
    exact .inl ⟨_,rfl,rfl⟩
  · obtain ⟨b,off,he,kW,QU⟩:=xt.flat (k:=1) (cells:=zF) (fun a _=>rfl) hM h0;injection he with he;subst he;have U4:0<l.length:=Qk.2 h0;have h1:((l.flatMap zF).all (·.oneCell'))=true:=by simp [aV,zF,Value.oneCell']
    repeat' (refine vw ?_)
    refine Xl _ _ (Ue (l.flatMap zF) zd zd zd kW QU U4 h1 (by unfold maxLen;omega) ze) zd zd ?_
    repeat' (refine vw ?_)
    refine .inl ⟨_,rfl,?_⟩;simp
theorem jU (v:Value) (l:List y6) (w:World) (hl:Sl w 2 zi v l) (hn:l.length<=1000000000):
 Calls zf 45 #[v] w (uV 54 2 l.length (l.flatMap zi) w):=by
 obtain ⟨A,c,rfl,vK,qD,hv⟩:=id hl;have hM:=hl.KI;refine aZ (args:= [.slice A l.length c]) (M:=Mem.of w) Tryz.func45 rfl Tryz.ntmps45 zd (zE) rfl ?_;cases A with
 |none=>
  have h0:l= []:=by
   rcases hv with h|⟨b,off,h,_⟩
   · exact h
   · cases h
  subst h0;have hn:(none:Option Addr).isNone=true:=rfl
  repeat' (refine vw ?_)
  exact .inr ⟨rfl,rfl,rfl⟩
 |some a=>
  have hn':(some a:Option Addr).isNone=false:=rfl;by_cases h0:l= []
  · subst h0
    repeat' (first|((apply zA);(exact Yv zd zd zd);rfl)|refine vw ?_)
    exact .inl ⟨_,rfl,rfl⟩
  · obtain ⟨b,off,he,kW,QU⟩:=xt.flat (k:=2) (cells:=zi) (fun a _=>rfl) hM h0;injection he with he;subst he;have U4:0<l.length:=Qk.2 h0;have h1:((l.flatMap zi).all (·.oneCell'))=true:=by simp [aV,zi,Value.oneCell']
    repeat' (refine vw ?_)
    refine Xl _ _ (Ue (l.flatMap zi) zd zd zd kW QU U4 h1 (by unfold maxLen;omega) ze) zd zd ?_
    repeat' (refine vw ?_)
    refine .inl ⟨_,rfl,?_⟩;simp
def D3 (n:Nd) (r:Value) (obs:List Ob):Prop:= ∃pv kv mv rv,j2 pv n.ps.length/\j2 kv n.ks.length/\j2 mv n.ms.length/\j2 rv n.rs.length/\
 r= .agg #[.int .i64 n.slot, .int .i64 n.level,pv,kv, .string n.high, .bool n.top, .int .i64 n.right, .int .i64 n.seen,mv,rv]/\
 obs= [.zC pv 9 1 n.ps.length (n.ps.flatMap zM), .zC kv 3 1 n.ks.length (n.ks.flatMap zF), .zC mv 200 6 n.ms.length (n.ms.flatMap zR), .zC rv 54 2 n.rs.length (n.rs.flatMap zi)]
def iL:List Value:= [.int .i64 0, .int .i64 0, .slice none 0 0, .slice none 0 0, .string em, .bool false, .int .i64 0, .int .i64 0, .slice none 0 0, .slice none 0 0]
theorem Pl (k:IntKind) (n:Int):(Value.int k n).oneCell'=true:=rfl
theorem Pk (b:ByteArray):(Value.string b).oneCell'=true:=rfl
theorem H0 (b:Bool):(Value.bool b).oneCell'=true:=rfl
theorem VJ {v:Value} {n:Nat} (h:j2 v n):v.oneCell'=true:=by
 rcases h with ⟨rfl,_⟩|⟨b,c,rfl,_⟩<;>rfl
theorem Md (n:Nd) (M:Mem) (hn:n.Ok M) (hz:n.Tt):uC zf 89 [n.av] M [] (D3 n):=by
 have c1:=fun W hW=>Y5 n.pv n.ps W (hn.1.xS hW) (by have:=hz.psn;omega)
 have c2:=fun W hW=>Y6 n.kv n.ks W (hn.2.1.xS hW) (by have:=hz.ksn;omega)
 have c3:=fun W hW=>vp n.mv n.ms W (hn.2.2.1.xS hW) (by have:=hz.msn;omega)
 have c4:=fun W hW=>jU n.rv n.rs W (hn.2.2.2.xS hW) (by have:=hz.rsn;omega)
 have o1:n.pv.oneCell'=true:=by obtain ⟨A,c,h,_⟩:=hn.1;rw [h];rfl
 have o2:n.kv.oneCell'=true:=by obtain ⟨A,c,h,_⟩:=hn.2.1;rw [h];rfl
 have o3:n.mv.oneCell'=true:=by obtain ⟨A,c,h,_⟩:=hn.2.2.1;rw [h];rfl
 have o4:n.rv.oneCell'=true:=by obtain ⟨A,c,h,_⟩:=hn.2.2.2;rw [h];rfl
 refine AD Tryz.func89 rfl Tryz.ntmps89 zd (fun w M0=>?_);refine KD ?_;refine Y0 ?_;refine adE ?_;refine adG ?_;refine a6 ?_;refine kV (fun s'=> ∃pv kv,j2 pv n.ps.length/\j2 kv n.ks.length/\ ∃ρ,Sub ρ s' ⟨M,[.qZ 143 [.int .i64 n.slot, .int .i64 n.level,pv,kv, .string n.high, .bool n.top, .int .i64 n.right, .int .i64 n.seen,n.mv,n.rv], .qZ 143 (iL), .zC pv 9 1 n.ps.length (n.ps.flatMap zM), .zC kv 3 1 n.ks.length (n.ks.flatMap zF)],[(1, .p 0 0),(2, .p 1 0)]⟩) ?_ ?_
 · refine Xm [0] [1,2,4,5,7,9] yI zd zd ?_
   repeat' (first|refine gB _ _ _ _ zd (dz zd c1) zd (fun ⟨pv,UG⟩=>⟨zE,by rfl,?_⟩) ?_|refine gB _ _ _ _ zd (dz zd c2) zd (fun ⟨kv,X4⟩=>⟨zE,by rfl,?_⟩) ?_|refine wF zd _ _ (by exact gm (by exact Xn (V4 zd zd zd zd (VJ (by assumption))) zd)) zd zd ?_ ?_|refine fw ?_|exact kz|refine fz ?_ ?_)
   all_goals
    exact ⟨rfl,pv,kv,UG,X4,[0,1,2,3],⟨rfl,rfl,jY,j4⟩⟩
 rintro s1 ⟨pv,kv,UG,X4,ρ1,hs1⟩;refine Hd ρ1 _ hs1 ?_;refine kV (fun s'=> ∃mv rv,j2 mv n.ms.length/\j2 rv n.rs.length/\ ∃ρ,Sub ρ s' ⟨M,[.qZ 143 [.int .i64 n.slot, .int .i64 n.level,pv,kv, .string n.high, .bool n.top, .int .i64 n.right, .int .i64 n.seen,mv,rv], .qZ 143 (iL), .zC pv 9 1 n.ps.length (n.ps.flatMap zM), .zC kv 3 1 n.ks.length (n.ks.flatMap zF), .zC mv 200 6 n.ms.length (n.ms.flatMap zR), .zC rv 54 2 n.rs.length (n.rs.flatMap zi)],[(1, .p 0 0),(2, .p 1 0)]⟩) ?_ ?_
 · refine Xm [0] [1,2,4,5,7,9] yI zd zd ?_
   repeat' (first|refine gB _ _ _ _ zd (dz zd c3) zd (fun ⟨mv,A0⟩=>⟨zE,by rfl,?_⟩) ?_|refine gB _ _ _ _ zd (dz zd c4) zd (fun ⟨rv,hrv⟩=>⟨zE,by rfl,?_⟩) ?_|refine wF zd _ _ (by exact gm (by exact Xn (V4 zd zd zd zd (VJ (by assumption))) zd)) zd zd ?_ ?_|refine fw ?_|exact kz|refine fz ?_ ?_)
   all_goals
    exact ⟨rfl,mv,rv,A0,hrv,[0,1,2,3,4,5],⟨rfl,rfl,JE,j4⟩⟩
 rintro s2 ⟨mv,rv,A0,hrv,ρ2,gd⟩;refine Hd ρ2 _ gd ?_;have e1:=VJ UG;have e2:=VJ X4;have e3:=VJ A0;have e4:=VJ hrv
 repeat' (refine vw ?_)
 refine rT zd zd zd zd (by show List.all [.int .i64 n.slot, .int .i64 n.level,pv,kv, .string n.high, .bool n.top, .int .i64 n.right, .int .i64 n.seen,mv,rv] (·.oneCell')=true;simp [e1,e2,e3,e4,Pl,Pk,H0]) _ zd zd ?_
 repeat' (refine vw ?_)
 refine ⟨_,[2,3,4,5],[.zC pv 9 1 n.ps.length (n.ps.flatMap zM), .zC kv 3 1 n.ks.length (n.ks.flatMap zF), .zC mv 200 6 n.ms.length (n.ms.flatMap zR), .zC rv 54 2 n.rs.length (n.rs.flatMap zi)],yH.one zd (xr zd zd _ zd rfl),zE,rfl,jY,pv,kv,mv,rv,UG,X4,A0,hrv,rfl,rfl⟩
end
section
open Go Go.RowKit
attribute [local irreducible] Calls
section
variable {P:Program} {w:World} {M0:Mem} {N:Nat} {M:Mem} {own zw:List Ob} {env:Env} {dst:Option Tmp} {ty:TypeId} {pos:String} {z7:Array Edge} {g:Option (Nat×Bool)}
theorem zu.iq {f:FuncId} {args:List Value} {e:TypeId} {k n:Nat} {cs:List Value} (hc: ∀W,M.le (Mem.of W)->Calls P f args.toArray W (uV e k n cs W)):zu P f args M [] (fun v M' o=>M'=M/\j2 v n/\o= [.zC v e k n cs]):=fun F hF w M0 hd W hW=>by
 refine (hc W hW.mem).mono fun x W' lW=>?_
 obtain ⟨v,he,hb,w8⟩:=lW;have YC:=hW.below.size
 have ju:W'.ownsRow w.heap.size e k v n cs:=by
  refine ⟨w8.1,?_⟩;rcases w8.2 with h1|⟨g,cap,cur,h1,h2,h3⟩
  · exact .inl h1
  · exact .inr ⟨g,cap,cur,h1,ze,h3⟩
 have uM:=Wd.new (o':= .zC v e k n cs) (v':=v) hW (uO hb) ⟨rfl,ju⟩ (fun b Za=>by
  rcases w8.2 with ⟨h1,_⟩|⟨g,cap,cur,h1,h2,h3⟩
  · rw [h1] at Za;cases Za
  · rw [h1] at Za;obtain rfl:g=b:=by simpa [yX] using Za
    exact h2)
 obtain ⟨yE,h⟩:=uM.KJ (zw:= .zC v e k n cs::F) (ji.perm uQ);exact ⟨v,yE,[.zC v e k n cs],M,he,zE,zh,h,rfl,uJ ju,rfl⟩
theorem pW {f:FuncId} {vs:List Value} {zO F:List Ob} {e:TypeId} {k n:Nat} {cs:List Value} {ops:Array Oper} {l:List Oper} {Q:zX} {xs:Array Operand} {qz:Array TypeId} [hf:zG P f] (hc:zu P f vs M zO (fun u M' o=>M'=M/\j2 u n/\o= [.zC u e k n cs]))
 (hk: ∀u,j2 u n->VL P w M0 N ops l ⟨M, .zC u e k n cs::F,env.put dst (.v u)⟩ Q) (hv:env.kP xs.toList=some vs:=by rfl) (ht:uu own zO F:=by infer_instance) (hn:jI own:=by infer_instance) (hd:yi N dst=true:=by rfl) (zV:yR env 0=true:=by rfl):
 VL P w M0 N ops (⟨dst, .call ⟨.value (.func f),xs,qz⟩,ty,pos,z7,none⟩::l) ⟨M,own,env⟩ Q:=by
 refine nL (Va hv) hc ht hn hd zV ?_;rintro u _ _- -⟨rfl,h,rfl⟩;exact hk u h
theorem xcr {f:FuncId} {vs:List Value} {zO gJ:List Ob} {c:Value->List Ob} {e:TypeId} {k n:Nat} {cs:List Value} {ρ:List Nat} {ops:Array Oper} {xs:Array Operand} {qz:Array TypeId} [hf:zG P f] (hc:zu P f vs M zO (fun u M' o=>M'=M/\j2 u n/\o= [.zC u e k n cs]))
 (hv:env.kP xs.toList=some vs:=by rfl) (hp:DR own zO ρ:=by infer_instance) (bg:u9 ρ=true:=by rfl) (hg:dy ρ own gJ:=by infer_instance) (ha: ∀u,JO gJ [.zC u e k n cs] (c u):=by intro;infer_instance) (hn:jI own:=by infer_instance):
 EX P w M0 N ops ⟨dst, .call ⟨.value (.func f),xs,qz⟩,ty,pos,z7,none⟩ ⟨M,own,env⟩ {u:Value//j2 u n} (fun _=>M) (fun u=>c u.1) (fun u=> .v u.1):=by
 have hx:=ac0 (P:=P) (ops:= #[]) (dst:=dst) (ty:=ty) (pos:=pos) (z7:=z7) ρ (Va (w:=w) (M0:=M0) (N:=N) (qz:=qz) hv) hc bg hp.h hn;have hl:gJ.length=own.length:=by rw [<-hg.h,qp]
 refine ⟨fun hd a W hR=>?_,fun u=>by rw [<-(ha u.1).h,yK,hl];exact Nat.le_add_right _ _,fun _=>rfl⟩;have h1:=hx.go hd a W hR;rw [zo (by simp [Region.wanted])] at h1;rw [zo (by simp [Region.wanted])]
 have e': ∀u W',(∃(x: {x:Value×Mem×List Ob//M.le x.2.1/\jI x.2.2/\(x.2.1=M/\j2 x.1 n/\x.2.2= [.zC x.1 e k n cs])}) (yE:Nat->Value),(∀i,i<own.length->yE i=hd i)/\Wd w M0 yE x.1.2.1 (y8 ρ own++x.1.2.2) W'/\u=(SV.v x.1.1).den yE)-> ∃(y: {u:Value//j2 u n}) (yE:Nat->Value),(∀i,i<own.length->yE i=hd i)/\Wd w M0 yE M (c y.1) W'/\u=(SV.v y.1).den yE:=by
  rintro u W' ⟨⟨⟨v,M2,o⟩,q⟩,yE,h2,h3,h4⟩;dsimp only at*;have q1:M2=M:=q.2.2.1;have hs:j2 v n:=q.2.2.2.1;have q2:o= [.zC v e k n cs]:=q.2.2.2.2;clear q;subst q2;subst q1;refine ⟨⟨v,hs⟩,yE,h2,?_,h4⟩;rw [<-(ha v).h,<-hg.h];exact h3
 exact kj.mono e' h1
theorem nM {gs:List Nat} {n0:Nat} {l:List Oper} {Q:St->Prop} {n i m:Nat} {xz ks:List Nat} {o:Oper} {c:Value->List Ob} (ho:l[i]?=some o) (he:EX P w M0 N l.toArray o ⟨M,own,env⟩ {u:Value//j2 u m} (fun _=>M) (fun u=>c u.1) (fun u=> .v u.1)) (hk:yi N o.dst=true)
 (h: ∀u,j2 u m->VF P w M0 N gs n0 l n (xz.erase i) ⟨M,c u,env.put o.dst (.v u)⟩ Q) (h2:NT P w M0 N gs n0 l n xz ks ⟨M,own,env⟩ Q)
 (hg: ∀u,(y8 gs (c u)).take n0=(y8 gs own).take n0:=by intro u;first|rfl|simp only [y8,aW,Ub,xd,YE,ua,xk]):NT P w M0 N gs n0 l n xz (i::ks) ⟨M,own,env⟩ Q:=
 gB _ _ _ _ ho he hk (fun u=>⟨zE,hg u.1,h u.1 u.2⟩) h2
theorem Ha {b:Nat} {t:TypeId} {cs:List Value} {ops:Array Oper} {l:List Oper} {Q:zX} (hr:uw own (.zK (.pointer (some ⟨b,0,none⟩)) t cs) zw) (h: ∀M',M.le M'->M' b=some (.cells cs.toArray t (0,0))->VL P w M0 N ops l ⟨M',zw,env⟩ Q) (zV:yR env 0=true:=by rfl):VL P w M0 N ops l ⟨M,own,env⟩ Q:=by
 refine wd _ (.mk fun hd a W hR=>?_) (ji.perm hr.h) zV;have hO:=hR.1.own 0 _ rfl;obtain ⟨M',b',h1,h2,h3,h4⟩:=mj (hR.1.vD (i:=0) (o':= .qZ t cs) rfl yx hO.2) (i:=0) rfl;have hb:b'=b:=by rw [hO.1] at h2;injection h2 with h2;injection h2 with h2;injection h2 with h2;exact h2.symm
 subst hb;exact (wd _ (h M' h1 h3) ⟨[Ob.gone],uQ (l₁:= [Ob.gone])⟩ zV).go _ a W ⟨h4,hR.2.any zV _⟩
end
theorem U7 {l:List y6} {k:ByteArray} (h:vl l k=true):Ya l k<l.length:=(qc h).1
def QF (l:List y6) (k:ByteArray):ByteArray:=if vl l k=true then (l[Ya l k]?.getD ⟨em,em⟩).val else em
def JX (l:List y6) (k:ByteArray) (e:nY):List y6:=
 if uP e (vl l k)=true then
  if vl l k=true then l.set (Ya l k) ⟨(l[Ya l k]?.getD ⟨em,em⟩).key,ky e (vl l k) (QF l k)⟩
  else l.take (Ya l k)++⟨k,ky e (vl l k) (QF l k)⟩::l.drop (Ya l k)
 else if vl l k=true then l.take (Ya l k)++l.drop (Ya l k+1) else l
theorem pO (l:List y6):(l.flatMap zi).all (·.oneCell')=true:=by simp [aV,zi,Value.oneCell']
theorem Fg (l:List y6) (k:ByteArray):Ya l k<=l.length:=by
 have:=Sd (p:=fun p=>lt p k) (l:=ja l);unfold ja at this;rw [yo] at this;exact this
theorem Iu: ∀(l:List y6) (i:Nat) (h:i<l.length) (x:ByteArray),(l.flatMap zi).set (i*2+1) (.string x)=(l.set i ⟨l[i].key,x⟩).flatMap zi
 |a::l,0,h,x=>rfl
 |a::l,i+1,h,x=>by
  have h':i<l.length:=by simpa using h
  have:=Iu l i h' x;rw [j6,show (i+1)*2+1=(i*2+1)+(zi a).length by show _=_+2;omega,YF _ _ ze,Nat.add_sub_cancel,this];rfl
theorem E8 (v:Value) (l:List y6) (k:ByteArray) (e:nY) (M:Mem) (hl:xt M 2 zi v l) (hn:l.length<=100000000) (uL:Xv (ja l)=true) (h1:e.val.size<=3000) (h2: ∀p∈l,p.val.size<=3000):
 zu zf 171 [v, .string k,e.av] M [] (fun r M' o=>M'=M/\j2 r (JX l k e).length/\o= [.zC r 54 2 (JX l k e).length ((JX l k e).flatMap zi)]):=by
 have c1:=fun W hW=>lB v l k W (hl.xS hW) ze uL
 have c2:=zu.iq fun W hW=>jU v l W (hl.xS hW) ze
 have Qw:=Fg l k;unfold JX
 have mg: ∀W,M.le (Mem.of W)->Calls zf 203 #[e.av, .bool (vl l k), .string (QF l k)] W fun x w'=>x= .returned (.tuple #[.bool (uP e (vl l k)), .string (ky e (vl l k) (QF l k))])/\Below W.heap.size W w':=fun W _=>Ye e _ _ W h1 (by
  unfold QF;split
  · rename_i h
    rw [jA (U7 h)];exact h2 _ (yD _)
  · show em.size<=_;decide)
 obtain ⟨A,c,rfl,vK,qD,_⟩:=id hl;refine xy Tryz.func171 rfl Tryz.ntmps171 zd (fun F w M0 hF=>zz ?_);cases hh:vl l k with
 |false=>
  have ho:QF l k=em:=by unfold QF;rw [hh];rfl
  rw [hh,ho] at mg;rw [hh] at c1;rw [ho];cases ha:uP e false with
  |false=>
   rw [ha] at mg
   repeat' (first|refine yZ zd zh fun b=>?_|refine pW c2 fun r hr=>?_|((apply zA);(first|exact zm zd c1|exact zm zd mg);rfl)|refine nw ?_)
   exact ⟨_,[.zC r 54 2 l.length (l.flatMap zi)],zP,zE,zh,zq,rfl,hr,rfl⟩
  |true=>
   rw [ha] at mg;have c3:=fun r vv=>iV r vv l ⟨k,ky e false em⟩ (Ya l k) M Qw ze rfl (pO l)
   repeat' (first|refine yZ zd zh fun b=>?_|refine pW c2 fun r hr=>?_|refine pW (c3 _ _) fun r2 KL=>?_|refine PV (us:=zi ⟨k,ky e false em⟩) zd ⟨by rfl⟩ zd zd fun b2 cp=>?_|((apply zA);(first|exact zm zd c1|exact zm zd mg);rfl)|refine nw ?_)
   have y7:(l.take (Ya l k)++(⟨k,ky e false em⟩:y6)::l.drop (Ya l k)).length=l.length+1:=by simp;omega
   have hx:=y7▸KL;exact ⟨_,[.zC r2 54 2 (l.length+1) ((l.take (Ya l k)++(⟨k,ky e false em⟩:y6)::l.drop (Ya l k)).flatMap zi)],zP,zE,zh,zq,rfl,hx,by show _= [Ob.zC r2 54 2 (l.take (Ya l k)++(⟨k,ky e false em⟩:y6)::l.drop (Ya l k)).length ((l.take (Ya l k)++(⟨k,ky e false em⟩:y6)::l.drop (Ya l k)).flatMap zi)];rw [y7]⟩
 |true=>
  have z9:=U7 hh;obtain ⟨B,off,rfl,jk⟩:=hl.get z9;have ho:QF l k=l[Ya l k].val:=by unfold QF;rw [hh,jA z9];rfl
  rw [hh,ho] at mg;rw [hh] at c1;rw [ho,jA z9];cases ha:uP e true with
  |false=>
   rw [ha] at mg;have c3:=fun r=>iX r l (Ya l k) M z9 ze (pO l)
   repeat' (first|refine yZ zd zh fun b=>?_|refine pW c2 fun r hr=>?_|refine pW (c3 _) fun r2 KL=>?_|((apply zA);(first|exact zm zd c1|exact zm zd mg|exact zj ((Ya l k)) zd zd ze ze|exact zY zd (jk _ _ zd));rfl)|refine nw ?_)
   have hx:j2 r2 (l.take (Ya l k)++l.drop (Ya l k+1)).length:=by
    have:(l.take (Ya l k)++l.drop (Ya l k+1)).length=l.length-1:=by simp;omega
    rw [this];exact KL
   have y7:l.length-1=(l.take (Ya l k)++l.drop (Ya l k+1)).length:=by simp;omega
   exact ⟨_,[.zC r2 54 2 (l.length-1) ((l.take (Ya l k)++l.drop (Ya l k+1)).flatMap zi)],zP,zE,zh,zq,rfl,hx,by show _= [Ob.zC r2 54 2 (l.take (Ya l k)++l.drop (Ya l k+1)).length ((l.take (Ya l k)++l.drop (Ya l k+1)).flatMap zi)];rw [y7]⟩
  |true=>
   rw [ha] at mg;have hfs:=Iu l (Ya l k) z9 (ky e true l[Ya l k].val);rw [<-xu (Ya l k*2)] at hfs
   repeat' (first|refine yZ zd zh fun b=>?_|(refine pW c2 fun r hr=>?_;obtain ⟨B3,C3,rfl,hB3,hC3⟩:=xB hr ze)|refine kr1 zd (by rw [ki (show ∀a:y6,(zi a).length=2 from fun _=>rfl)];omega) hfs ?_|((apply zA);(first|exact zm zd c1|exact zm zd mg|exact zj ((Ya l k)) zd zd ze ze|exact zY zd (jk _ _ zd));rfl)|refine nw ?_)
   exact ⟨_,[.zC (.slice (some ⟨B3,0,none⟩) l.length C3) 54 2 l.length ((l.set (Ya l k) ⟨l[Ya l k].key,ky e true l[Ya l k].val⟩).flatMap zi)],zP,zE,zh,zq,rfl,by show j2 _ (l.set _ _).length;rw [xj];exact hr,by show _= [Ob.zC _ 54 2 (l.set _ _).length ((l.set _ _).flatMap zi)];rw [xj];rfl⟩
theorem gK (p:y6) (s:yW) (b:Nat) (M:Mem) (hb:M b=some (.cells (s.av:Value).cells 118 (0,0))) (w:World) (hM:M.le (Mem.of w)):
 Calls zf 201 #[p.av,ptr b] w fun e w'=>e= .returned (.bool (has s p.key))/\Below w.heap.size w w':=by
 have cH: ∀W,Calls zf 145 #[s.av, .string p.key] W fun e w'=>e= .returned (.bool (has s p.key))/\Below W.heap.size W w':=fun W=>KP s p.key W
 have hc: ∀(j:Nat) u,(s.av:Value).cells.toList[j]?=some u->M.cell b (0+j)=some u:=fun j u hu=>Mem.cell_of hb (by rw [xu];exact hu)
 refine zQ Tryz.func201 rfl Tryz.ntmps201 zd (hM) ?_
 repeat' (first|((apply zA);(first|exact zZ _ zd hc _ zd|exact zm zd (fun W _=>cH W));rfl)|refine vw ?_)
 exact zP
abbrev ZZ (l:List y6) (s:yW):List y6:=kx (fun p=>has s p.key) l
theorem oL (v:Value) (l:List y6) (s:yW) (M:Mem) (hl:xt M 2 zi v l) (hn:l.length<=100000000):
 zu zf 169 [v,s.av] M [] (fun r M' o=>M.le M'/\j2 r (ZZ l s).length/\o= [.zC r 54 2 (ZZ l s).length ((ZZ l s).flatMap zi)]):=by
 obtain ⟨A,c,rfl,vK,qD,_⟩:=id hl;refine xy Tryz.func169 rfl Tryz.ntmps169 zd (fun F w M0 hF=>zz ?_)
 repeat' (first|(refine yZ zd zh fun b=>?_;refine Ha (uw.one _ _) fun M' hle hb=>?_)|refine nw ?_)
 have c2:=zu.iq fun W hW=>jU _ l W ((hl.mono hle).xS hW) ze
 have c3:=fun r=>WX r M' 201 #[ptr b] (fun p=>has s p.key) l ze (fun p _ W hW=>gK p s b M' hb W hW)
 repeat' (first|refine pW c2 fun r hr=>?_|refine pW (c3 _) fun r2 KL=>?_|((apply zA);(exact KF zd);rfl)|refine nw ?_)
 exact ⟨_,[.zC r2 54 2 (ZZ l s).length ((ZZ l s).flatMap zi)],zP,hle,zh,zq,hle,KL,rfl⟩
def XF (l:List y6) (m:xi):List y6:=if m.kind=4 then ZZ l (ZM m) else JX l m.key (lq m m.key)
theorem aad (m:xi) (k:ByteArray) (h:m.val.size<=3000):(lq m k).val.size<=3000:=by
 unfold lq;split
 · split
   · exact h
   · split
     · exact zW _
     · exact zW _
 · exact zW _
theorem lC (v:Value) (l:List y6) (m:xi) (M:Mem) (hl:xt M 2 zi v l) (hn:l.length<=100000000) (uL:Xv (ja l)=true) (h1:m.val.size<=3000) (h2: ∀p∈l,p.val.size<=3000) (h3:m.key.size<=1000000):
 zu zf 144 [v,m.av] M [] (fun r M' o=>M.le M'/\j2 r (XF l m).length/\o= [.zC r 54 2 (XF l m).length ((XF l m).flatMap zi)]):=by
 have cS:=fun W=>XR m W h3
 have cO:=fun W=>af m m.key W h3
 have cW:=E8 v l m.key (lq m m.key) M hl hn uL (aad m m.key h1) h2;have cD:=oL v l (ZM m) M hl hn;unfold XF;refine xy Tryz.func144 rfl Tryz.ntmps144 zd (fun F w M0 hF=>zz ?_);by_cases hk:m.kind=4
 · rw [zo hk];have U5:(m.kind==4)=true:=by rw [hk];rfl
   repeat' (first|refine yZ zd zh fun b=>?_|((apply zA);(exact zm zd (fun W _=>cS W));rfl)|refine nw ?_)
   refine xQ cD ?_;rintro v M2 o hle-⟨-,hr,rfl⟩;refine zJ ?_
   repeat' (refine nw ?_)
   exact ⟨_,[.zC v 54 2 (ZZ l (ZM m)).length ((ZZ l (ZM m)).flatMap zi)],zP,hle,zh,zq,hle,hr,rfl⟩
 · rw [zn hk];have U5:(m.kind==4)=false:=beq_eq_false_iff_ne.2 hk
   repeat' (first|refine yZ zd zh fun b=>?_|refine qW [] [7,8] yI zd zd ?_|refine nw ?_)
   repeat' (first|refine nM zd (xcr cW) zd (fun r hr=>?_) ?_|refine YH zd _ (by exact Y4 (by exact zm zd (fun W _=>cO W))) zd zd ?_|refine nf ?_|exact kz|refine ng ?_ ?_)
   repeat' (refine nw ?_)
   exact ⟨_,[.zC r 54 2 (JX l m.key (lq m m.key)).length ((JX l m.key (lq m m.key)).flatMap zi)],zP,zE,zh,zq,zE,hr,rfl⟩
end
end Go.Proofs.YtaibdpjjojihmaaGreat
