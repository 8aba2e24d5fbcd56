/- A part of the proof of TopPrefix; no conditions. -/
import Derived.Test.YtaibdpjjojihmaaGreatPSc11
set_option linter.unusedVariables false
set_option linter.unusedSimpArgs false
set_option maxRecDepth 20000
set_option maxHeartbeats 4000000
namespace Go.Proofs.YtaibdpjjojihmaaGreat
section
open Go Go.RowKit
attribute [local irreducible] Calls zv wI yY
section
variable {P:Program} {w:World} {M0:Mem} {N:Nat} {dst:Option Tmp} {ty:TypeId} {pos:String} {z7:Array Edge} {g:Option (Nat×Bool)} {s:St}
theorem RS (b:ByteArray):(⟨b.data.toList.toArray⟩:ByteArray)=b:=by cases b;simp
theorem qbc {src t e e2:TypeId} {x:Operand} {i n:Nat} {b:ByteArray} [hB:dB P src e] [ht:fy P t] (hx:s.env.op x=some (.r i)) (ho:s.own[i]?=some (.row e2 1 n (js b)):=by rfl):QS P w M0 N ⟨dst, .convert src t x,ty,pos,z7,g⟩ s (.v (.string b)):=by
 have h:=fF (P:=P) (w:=w) (M0:=M0) (N:=N) (dst:=dst) (ty:=ty) (pos:=pos) (z7:=z7) (g:=g) (t:=t) (src:=src) (hx:=hx) (ho:=ho) (hB:=hB) (ht:=ht) (fun v hv=>by
  unfold js at hv;obtain ⟨u,_,rfl⟩:=uT.1 hv;exact ⟨u,rfl⟩)
 rw [En,RS] at h;exact h
end
theorem mW (a b:ByteArray):js (a++b)=js a++js b:=by
 unfold js;rw [ByteArray.data_append,IN,jo]
def mT (e:wT):ByteArray:=if e.kind=1 then (⟨#[1,b8 e.xg]⟩:ByteArray)++Xy e.o else EZ e.ps
theorem Dy {e:wT} (h:jc e=true):mT e=qU e:=by
 unfold mT qU;by_cases hk:e.kind=1
 · rw [zo hk,zo hk];unfold jc at h;rw [zo hk] at h;simp only [yF,YY] at h;by_cases he:eqv e.o Ki=true
   · rw [zo he];have:e.o=Ki:=qc he;have hx:Xy e.o=em:=by unfold Xy;rw [this,aac];rfl
     rw [hx];exact JC (by rw [jr,II,xR])
   · rw [zn he];have hr:=h.2.resolve_left he;unfold Xy;rw [zo hr]
 · rw [zn hk,zn hk]
theorem BO (o:Op):(Xy o).size<=5+16+16+16:=by
 unfold Xy;cases h:jb o with
 |false=>exact zW _
 |true=>
  rw [zo rfl];have:=US o;have:=Z5 h;omega
theorem BP (e:wT) (w:World) (M:Mem) (hM:M.le (Mem.of w)) (he:e.Ok M) (hn:e.ps.length<=1000000) (h1:e.o.key.size<=1000000):Calls zf 19 #[.agg #[.int .i64 e.kind, .int .i64 e.xg, .int .i64 e.o.kind, .string e.o.key, .string e.o.hi, .bool e.o.vx, .string e.o.val, .int .i64 e.o.yt,e.pv]] w fun r w'=>r= .returned (.string (mT e))/\Below w.heap.size w w':=by
 obtain ⟨kind,xg,o,pv,ps⟩:=e;unfold wT.Ok at he;dsimp only at*;obtain ⟨A,c,rfl,vK,qD,_⟩:=id he;have cB:=fun W=>Pg o W h1
 have jL:=BO o;by_cases hk:kind=1
 · subst hk;unfold mT;rw [zo rfl];generalize Xy o=bx at*;refine zQ Tryz.func19 rfl Tryz.ntmps19 zd (hM) ?_
   repeat' (first|((apply zA);(first|exact Cc zd|exact TT zd|exact qb2 zd|exact LU zd|exact zm zd (fun W _=>cB W));rfl)|refine vw ?_)
   show yH _ _ _ _;refine yH.one zd (zy zd ?_);rfl
 · have gR:(kind==1)=false:=by simp [hk]
   have Ir:mT ⟨kind,xg,o, .slice A ps.length c,ps⟩=EZ ps:=by unfold mT;rw [zn hk]
   rw [Ir];refine zQ Tryz.func19 rfl Tryz.ntmps19 zd (hM) ?_
   repeat' (refine vw ?_)
   refine kU (fun k:Nat=>⟨M,[.qZ 34 [.int .i64 kind, .int .i64 xg, .int .i64 o.kind, .string o.key, .string o.hi, .bool o.vx, .string o.val, .int .i64 o.yt, .slice A ps.length c], .row 5 1 (1+k) (js (EZ (ps.take k)))],[(1, .p 0 0),(5, .r 1),(26, .v (.slice A ps.length c)),(27, .v (.int .i64 ps.length)),(28, .v (.int .i64 k))]⟩) (fun k=>k<=ps.length) (fun k=>ps.length-k) [0,1] 0 ⟨rfl,rfl,j4,kX⟩ ze ?_;intro k hk;rcases yq k ps.length with z9|ql
   · have hd:=Xp z9;obtain ⟨b,off,rfl,jk⟩:=he.get z9
     repeat' (first|((apply zA);(first|exact zj (k) zd zd ze ze|exact zY zd (jk 0 _ zd)|exact Cc zd);rfl)|refine vw ?_)
     refine yL (Q:=fun _ _=>True) [0,3] (k+1) ⟨rfl,rfl,⟨rfl,?_,trivial⟩,kX⟩ ze ze;rw [<-Cf z9,mW];rfl
   · have hd:=Xq ql;obtain rfl:k=ps.length:=ze
     repeat' (first|((apply zA);(exact qbc zd);rfl)|refine vw ?_)
     show yH _ _ _ _;refine yH.one zd (zy zd ?_);rw [xk]
theorem bF (f:FuncId) [hf:zG zf f] (k8:Array Value) (p:Int->Bool) (v:Value) (l:List Int) (w:World) (hl:Sl w 1 oO v l) (hn:l.length<=1000000000)
 (hp: ∀m∈l,∀W,(Mem.of w).le (Mem.of W)->Calls zf f (#[.int .i64 m]++k8) W fun e w'=>e= .returned (.bool (p m))/\Below W.heap.size W w'):
 Calls zf 60 #[v, .func (.func f) #[] k8] w fun e w'=>e= .returned (.int .i64 (lU p l))/\Below w.heap.size w w':=by
 obtain ⟨A,c,rfl,vK,qD,_⟩:=id hl;have hM:=hl.KI;unfold maxLen at qD;refine zQ Tryz.func60 rfl Tryz.ntmps60 zd (zE) ?_
 repeat' (refine vw ?_)
 refine kU (fun k:Nat=>⟨Mem.of w,[],[(0, .v (.slice A l.length c)),(1, .v (.func (.func f) #[] k8)),(7, .v (.int .i64 l.length)),(8, .v (.int .i64 k))]⟩) (fun k=>k<=l.length/\(l.take k).all (fun m=>!p m)=true) (fun k=>l.length-k) [] 0 ⟨rfl,rfl,trivial,jY⟩ ⟨ze,rfl⟩ ?_;rintro k ⟨hk,hr⟩;rcases yq k l.length with z9|ql
 · have hd:=Xp z9;obtain ⟨b,off,rfl,jk⟩:=hM.get z9;have Uk:=hp l[k] (yD z9);cases hq:p l[k] with
   |true=>
    rw [hq] at Uk
    repeat' (first|((apply zA);(first|exact zj (k) zd zd ze ze|exact zY zd (jk 0 _ zd)|exact kA zd zd (fun W hW=>Uk W hW));rfl)|refine vw ?_)
    show yH _ _ _ _;refine yH.one zd (zy zd ?_);refine z5 (Value.int .i64) ?_;exact (bY z9 hr hq).symm
   |false=>
    rw [hq] at Uk
    repeat' (first|((apply zA);(first|exact zj (k) zd zd ze ze|exact zY zd (jk 0 _ zd)|exact kA zd zd (fun W hW=>Uk W hW));rfl)|refine vw ?_)
    refine yL (Q:=fun _ _=>True) [] (k+1) ⟨rfl,rfl,trivial,jY⟩ ⟨ze,?_⟩ ze;rw [eG z9 (fun m=>!p m),hr,hq];rfl
 · have hd:=Xq ql;obtain rfl:k=l.length:=ze;rw [xk] at hr
   repeat' (refine vw ?_)
   show yH _ _ _ _;refine yH.one zd (zy zd ?_);rw [VP hr]
theorem UP (f:FuncId) [hf:zG zf f] (k8:Array Value) (p:Int->Bool) (v:Value) (l:List Int) (w:World) (hl:Sl w 1 oO v l) (hn:l.length<=1000000000)
 (hp: ∀m∈l,∀W,(Mem.of w).le (Mem.of W)->Calls zf f (#[.int .i64 m]++k8) W fun e w'=>e= .returned (.bool (p m))/\Below W.heap.size W w'):
 Calls zf 37 #[v, .func (.func f) #[] k8] w fun e w'=>e= .returned (.bool (l.any p))/\Below w.heap.size w w':=by
 have hM:=hl.KI
 have c1: ∀W,(Mem.of w).le (Mem.of W)->Calls zf 60 #[v, .func (.func f) #[] k8] W fun e w'=>e= .returned (.int .i64 (lU p l))/\Below W.heap.size W w':=
  fun W hW=>bF f k8 p v l W (hM.xS hW) hn (fun m hm W' C9=>hp m hm W' (hW.trans C9))
 refine zQ Tryz.func37 rfl Tryz.ntmps37 zd (zE) ?_
 repeat' (first|((apply zA);(exact zm zd c1);rfl)|refine vw ?_)
 show yH _ _ _ _;refine yH.one zd (zy zd ?_);rw [PY]
theorem LM (n:Int) (w:World):Calls zf 36 #[.int .i64 n] w fun r w'=>r= .returned (.bool (!Ka n))/\Below w.heap.size w w':=by
 refine zQ Tryz.func36 rfl Tryz.ntmps36 zd (Mem.xE _) ?_
 repeat' (first|refine vw ?_|(refine vd ?_ ?_<;>intro hq))
 all_goals
  show yH _ _ _ _;refine yH.one zd (zy zd ?_);refine z5 Value.bool ?_;unfold Ka;simp_all
  try first|omega|(rw [fa];simp only [j5,KB,gx];omega)
theorem R2 (l:List Int):(!l.any fun n=>!Ka n)=l.all Ka:=by
 induction l with
 |nil=>rfl
 |cons x l ih=>
  rw [List.any_cons,aS,<-ih];cases Ka x<;>simp
theorem sq (e:wT) (w:World) (M:Mem) (hM:M.le (Mem.of w)) (he:e.Ok M) (hn:e.ps.length<=1000000) (h1:e.o.key.size<=1000000):Calls zf 17 #[.agg #[.int .i64 e.kind, .int .i64 e.xg, .int .i64 e.o.kind, .string e.o.key, .string e.o.hi, .bool e.o.vx, .string e.o.val, .int .i64 e.o.yt,e.pv]] w fun r w'=>r= .returned (.bool (jc e))/\Below w.heap.size w w':=by
 obtain ⟨kind,xg,o,pv,ps⟩:=e;unfold wT.Ok at he;dsimp only at*
 have cC: ∀W,M.le (Mem.of W)->Calls zf 37 #[pv, .func (.func 36) #[] #[]] W fun r w'=>r= .returned (.bool (ps.any fun n=>!Ka n))/\Below W.heap.size W w':=
  fun W hW=>UP 36 #[] (fun n=>!Ka n) pv ps W (he.xS hW) ze (fun m _ W' _=>LM m W')
 have hab:=R2 ps;obtain ⟨A,c,rfl,vK,qD,_⟩:=id he;unfold maxLen at qD;by_cases hk:kind=1
 · subst hk;cases hr:jb o
   all_goals
    have cR:=fun W=>vy o W h1 _ hr
    refine zQ Tryz.func17 rfl Tryz.ntmps17 zd (hM) ?_
    repeat' (first|((apply zA);(first|exact TT zd|exact zm zd (fun W _=>cR W));rfl)|refine vw ?_|(refine vd ?_ ?_<;>intro hq))
    all_goals
     show yH _ _ _ _;refine yH.one zd (zy zd ?_);refine z5 Value.bool ?_;simp_all [jc,Ob.cells,Jd,Ki,o5]
     try omega
 · have gR:(kind==1)=false:=by simp [hk]
   have hre:jc ⟨kind,xg,o, .slice A ps.length c,ps⟩=(decide (kind=2)&&decide (xg=0)&&eqv o Ki&&decide (ps.length<=254)&&ps.all Ka):=by unfold jc;rw [zn hk]
   rw [hre,<-hab];refine zQ Tryz.func17 rfl Tryz.ntmps17 zd (hM) ?_
   repeat' (first|((apply zA);(first|exact TT zd|exact zm zd cC);rfl)|refine vw ?_|(refine vd ?_ ?_<;>intro hq))
   all_goals
    show yH _ _ _ _;refine yH.one zd (zy zd ?_);refine z5 Value.bool ?_;simp_all [Ob.cells,Jd,Ki,o5]
    try omega
end
section
open Go Go.RowKit
theorem ado:(wI em).1=Ki:=HZ zd
attribute [local irreducible] zv wI yY b1 r1
def ko:List wT->ByteArray
 | []=>em
 |e::l=>yY (qU e)++ko l
theorem tT: ∀l:List wT,bl (ko l)=l.flatMap fun e=>bl (yY (qU e))
 | []=>rfl
 |e::l=>by unfold ko;rw [jr,j6,tT l]
theorem rp {l:List wT} {k:Nat} (h:k<l.length):ko (l.take k)++yY (qU l[k])=ko (l.take (k+1)):=JC (by
 rw [jr,tT,tT,vF h,JF];simp only [j6,List.flatMap_nil,xR])
theorem KS: ∀(l:List wT) (n:Nat),(∀e∈l,(qU e).size<=n)->(ko l).size<=l.length*(n+1)
 | [],n,_=>by simp [ko];rfl
 |e::l,n,h=>by
  have h1:=h e yx;have h2:=KS l n (fun x hx=>h x (by simp [hx]));unfold ko;rw [jy,jp,xd,um];omega
theorem tO {s r:ByteArray} (h:s.size<=255):vM (yY s++r)=s::vM r:=by
 have ht:zv (yY s++r)=(s,r,true):=ul (jr _ _) h;have ho:Wx (yY s++r)=true:=by rw [<-br,ht]
 rw [aI ho,ht]
theorem gt: ∀l:List wT,(∀e∈l,(qU e).size<=255)->vM (ko l)=l.map qU
 | [],_=>by
  have ho:Wx em=false:=rfl;unfold ko;rw [JB ho];rfl
 |e::l,h=>by
  unfold ko;rw [tO (h e yx),gt l (fun x hx=>h x (by simp [hx])),xw]
theorem BZ {o:Op} (h:jb o=true):(qh o=true\/o.val=em)/\(o.vx=true->o.hi=em)/\(j3 o=false->o.hi=em/\o.vx=false)/\(o.kind=6->1<=o.yt/\o.yt<=64)/\(o.kind≠6->o.yt=0):=by
 unfold jb at h;simp only [yF,YY,j5,KB] at h;obtain ⟨⟨⟨⟨_,hv⟩,ho⟩,hr⟩,hl⟩:=h;refine ⟨hv,fun e=>?_,fun e=>?_,fun e=>?_,fun e=>?_⟩
 · rcases ho with h|h
   · rw [e] at h;cases h
   · exact h
 · rw [zn (by rw [e];simp)] at hr;simpa using hr
 · rw [zo e] at hl;simpa using hl
 · rw [zn e] at hl;simpa using hl
theorem tN {n:Int} (h0:0<=n) (h1:n<=255):((b8 n).toNat:Int)=n:=by
 unfold b8;have:(n % 256).toNat=n.toNat:=ze;rw [this];simp;omega
theorem Zo {s:ByteArray} {n:Int} {l:List UInt8} (h:bl s=b8 n::l) (h0:0<=n) (h1:n<=255):b1 s=n:=by rw [aip h,tN h0 h1]
theorem Ui {s r:ByteArray} {x:UInt8} (h:bl s=x::bl r):r1 s=r:=JC (agf h)
theorem VV {o:Op} (h:jb o=true):fin o em true=(o,true):=by
 unfold fin;rw [h];rfl
theorem Zh {s:ByteArray} {x:UInt8} {l:List UInt8} (h:bl s=x::l):decide (s.size=0)=false:=z6 (by rw [<-qI,h];simp)
theorem Ma {o:Op} (h:jb o=true):wI (jN o)=(o,true):=by
 obtain ⟨z1,z2,z3,k1,k6⟩:=Z5 h;obtain ⟨pv,po,pr,pl,pn⟩:=BZ h;obtain ⟨kind,key,hi,vx,val,yt⟩:=o;dsimp only at*;cases hv:qh ⟨kind,key,hi,vx,val,yt⟩ with
 |true=>
  have bh:kind=1\/kind=2:=by
   unfold qh at hv;simpa using hv
  have hg:j3 ⟨kind,key,hi,vx,val,yt⟩=false:=by
   unfold j3;rcases bh with h|h<;>rw [h]<;>rfl
  obtain ⟨rfl,rfl⟩:=pr hg;obtain rfl:=pn ze
  have hs:bl (jN ⟨kind,key,em,false,val,0⟩)=b8 kind::bl (yY key++yY val):=by
   unfold jN;rw [hg];dsimp only;rw [zn (show ¬ kind=6 by omega),zn (show ¬ (false=true) by simp),zo (show kind<=2 by omega),jr,jr,Xz,jr];simp
  generalize jN ⟨kind,key,em,false,val,0⟩=s at*;have e1:=Zo hs ze ze;have e2:=Ui hs;have e3:zv (yY key++yY val)=(key,yY val,true):=ul (jr _ _) ze;have e4:zv (yY val)=(val,em,true):=ul (by rw [II,xR]) ze;unfold wI;rw [e1,e2,e3];dsimp only;rw [e4,Zh hs,zo (by rcases bh with h|h<;>rw [h]<;>rfl)];exact VV h
 |false=>
  have bh:¬ (kind=1\/kind=2):=fun e=>by
   unfold qh at hv;rcases e with e|e<;>rw [e] at hv<;>cases hv
  have Ul:¬ kind<=2:=ze;have alc:¬ ((kind==1||kind==2)=true):=by simp;omega
  have cd:val=em:=by
   rcases pv with e|e
   · rw [hv] at e;cases e
   · exact e
  subst cd;cases hg:j3 ⟨kind,key,hi,vx,em,yt⟩ with
  |false=>
   obtain ⟨rfl,rfl⟩:=pr hg;have h6:¬ kind=6:=fun e=>by rw [e] at hg;cases hg
   have h4:¬ kind=4:=fun e=>by rw [e] at hg;cases hg
   obtain rfl:=pn h6
   have hs:bl (jN ⟨kind,key,em,false,em,0⟩)=b8 kind::bl (yY key):=by
    unfold jN;rw [hg];dsimp only;rw [zn h6,zn (show ¬ (false=true) by simp),zn Ul,jr,Xz];simp
   generalize jN ⟨kind,key,em,false,em,0⟩=s at*;have e1:=Zo hs ze ze;have e2:=Ui hs;have e3:zv (yY key)=(key,em,true):=ul (by rw [II,xR]) ze;unfold wI;rw [e1,e2,e3,Zh hs,zn alc,zn h4,zn h6];exact VV h
  |true=>
   have hk:kind=4\/kind=6:=by
    unfold j3 at hg;simpa using hg
   cases vx with
   |true=>
    obtain rfl:=po rfl;rcases hk with rfl|rfl
    · obtain rfl:=pn ze
      have hs:bl (jN ⟨4,key,em,true,em,0⟩)=b8 4::bl (yY key++⟨#[1]⟩):=by
       unfold jN;rw [hg];dsimp only;rw [zn (show ¬ (4:Int)=6 by omega),zo (show true=true from rfl),zo (show true=true from rfl),zn (show ¬ (4:Int)<=2 by omega),jr,jr,jr,Xz,Xz];simp
      generalize jN ⟨4,key,em,true,em,0⟩=s at*;have e1:=Zo hs ze ze;have e2:=Ui hs;have e3:zv (yY key++⟨#[1]⟩)=(key,⟨#[1]⟩,true):=ul (jr _ _) ze;have hb:bl (⟨#[1]⟩:ByteArray)=b8 1::bl em:=rfl;have e4:=Zo hb ze ze;have e5:=Ui hb;unfold wI;rw [e1,e2,e3,Zh hs];dsimp only;rw [e4,e5,Zh hb,zn Kq,zo rfl,zn Kq,zo rfl];exact VV h
    · obtain ⟨l1,l2⟩:=pl rfl
      have hs:bl (jN ⟨6,key,em,true,em,yt⟩)=b8 6::bl (yY key++⟨#[1,b8 yt]⟩):=by
       unfold jN;rw [hg];dsimp only;rw [zo rfl,zo (show true=true from rfl),zo (show true=true from rfl),zn (show ¬ (6:Int)<=2 by omega),jr,jr,jr,jr,Xz,Xz,Xz];simp [bl]
      generalize jN ⟨6,key,em,true,em,yt⟩=s at*;have e1:=Zo hs ze ze;have e2:=Ui hs;have e3:zv (yY key++⟨#[1,b8 yt]⟩)=(key,⟨#[1,b8 yt]⟩,true):=ul (jr _ _) ze;have hb:bl (⟨#[1,b8 yt]⟩:ByteArray)=b8 1::bl ⟨#[b8 yt]⟩:=rfl;have e4:=Zo hb ze ze;have e5:=Ui hb;have hc:bl (⟨#[b8 yt]⟩:ByteArray)=b8 yt::bl em:=rfl;have e6:=Zo hc ze ze;have e7:=Ui hc;unfold wI;rw [e1,e2,e3,Zh hs];dsimp only;rw [e4,e5,Zh hb,e6,e7,Zh hc,zn Kq,zn Kq,zo rfl,zn Kq,zo rfl];exact VV h
   |false=>
    rcases hk with rfl|rfl
    · obtain rfl:=pn ze
      have hs:bl (jN ⟨4,key,hi,false,em,0⟩)=b8 4::bl (yY key++(⟨#[0]⟩++yY hi)):=by
       unfold jN;rw [hg];dsimp only;rw [zn (show ¬ (4:Int)=6 by omega),zo (show true=true from rfl),zn (show ¬ (false=true) by simp),zn (show ¬ (4:Int)<=2 by omega),jr,jr,jr,jr,Xz,Xz];simp
      generalize jN ⟨4,key,hi,false,em,0⟩=s at*;have e1:=Zo hs ze ze;have e2:=Ui hs;have e3:zv (yY key++(⟨#[0]⟩++yY hi))=(key,⟨#[0]⟩++yY hi,true):=ul (jr _ _) ze;have hb:bl ((⟨#[0]⟩:ByteArray)++yY hi)=b8 0::bl (yY hi):=by rw [jr];rfl
      have e4:=Zo hb ze ze;have e5:=Ui hb;have e6:zv (yY hi)=(hi,em,true):=ul (by rw [II,xR]) ze;unfold wI;rw [e1,e2,e3,Zh hs];dsimp only;rw [e4,e5,Zh hb,e6,zn Kq,zo rfl,zo rfl];exact VV h
    · obtain ⟨l1,l2⟩:=pl rfl
      have hs:bl (jN ⟨6,key,hi,false,em,yt⟩)=b8 6::bl (yY key++(⟨#[0]⟩++(yY hi++⟨#[b8 yt]⟩))):=by
       unfold jN;rw [hg];dsimp only;rw [zo rfl,zo (show true=true from rfl),zn (show ¬ (false=true) by simp),zn (show ¬ (6:Int)<=2 by omega),jr,jr,jr,jr,jr,jr,jr,Xz,Xz,Xz];simp
      generalize jN ⟨6,key,hi,false,em,yt⟩=s at*;have e1:=Zo hs ze ze;have e2:=Ui hs;have e3:zv (yY key++(⟨#[0]⟩++(yY hi++⟨#[b8 yt]⟩)))=(key,⟨#[0]⟩++(yY hi++⟨#[b8 yt]⟩),true):=ul (jr _ _) ze;have hb:bl ((⟨#[0]⟩:ByteArray)++(yY hi++⟨#[b8 yt]⟩))=b8 0::bl (yY hi++⟨#[b8 yt]⟩):=by rw [jr];rfl
      have e4:=Zo hb ze ze;have e5:=Ui hb;have e6:zv (yY hi++⟨#[b8 yt]⟩)=(hi,⟨#[b8 yt]⟩,true):=ul (jr _ _) ze;have hc:bl (⟨#[b8 yt]⟩:ByteArray)=b8 yt::bl em:=rfl;have e7:=Zo hc ze ze;have e8:=Ui hc;unfold wI;rw [e1,e2,e3,Zh hs];dsimp only;rw [e4,e5,Zh hb,e6];dsimp only;rw [e7,e8,Zh hc,zn Kq,zn Kq,zo rfl,zo rfl];exact VV h
theorem ZC {e:wT} (h:jc e=true):(qU e).size<=255:=by
 unfold qU;unfold jc at h;by_cases hk:e.kind=1
 · rw [zo hk] at h⊢;by_cases he:eqv e.o Ki=true
   · rw [zo he];show 2<=255;omega
   · rw [zn he];simp only [yF,YY] at h;have:=Z5 (h.2.resolve_left he);have:=US e.o;rw [jy,sz2];omega
 · rw [zn hk] at h⊢;simp only [yF,j5] at h;rw [iY];have:=h.1.2;omega
theorem No {e:wT} (h:jc e=true):aA (qU e)=e.st:=by
 have YC:=ZC h;unfold jc at h;rw [tD];by_cases hk:e.kind=1
 · rw [zo hk] at h;simp only [yF,YY,j5] at h;obtain ⟨⟨⟨c0,c1⟩,hp⟩,ho⟩:=h;have oT:e.ps= []:=gy.1 hp
   have hb: ∃r:ByteArray,bl (qU e)=1::b8 e.xg::bl r/\(wI r).1=e.o:=by
    unfold qU;rw [zo hk];by_cases he:eqv e.o Ki=true
    · rw [zo he];exact ⟨em,rfl,by rw [ado];exact (qc he).symm⟩
    · rw [zn he];exact ⟨jN e.o,by rw [jr];rfl,by rw [Ma (ho.resolve_left he)]⟩
   obtain ⟨r,hr,hro⟩:=hb;have hz:1<(qU e).size:=by rw [<-qI,hr];simp
   have ap:KM (qU e) 0=1:=by rw [eD,hr];rfl
   have kJ:KM (qU e) 1=e.xg:=by rw [eD,hr];exact tN c0 c1
   have VR:(qU e).extract 2 (qU e).size=r:=JC (by
    rw [aJ,wD (by rw [qI];exact zN _),hr];rfl)
   rw [zo ⟨hz,ap⟩,kJ,VR,hro,<-hk,<-oT]
 · rw [zn hk] at h;simp only [yF,j5] at h;obtain ⟨⟨⟨⟨h2,hc⟩,ho⟩,hl⟩,uD⟩:=h;have Ir:qU e=EZ e.ps:=by unfold qU;rw [zn hk]
   rw [Ir];have ap:KM (EZ e.ps) 0=2:=by rw [eD,mV];rfl
   have hz:0<(EZ e.ps).size:=by rw [iY];omega
   have Uk:Ji (EZ e.ps)=e.ps:=by
    unfold Ji;rw [mV];show (e.ps.map b8).map _=e.ps;rw [XB]
    conv=>rhs;rw [<-tY e.ps]
    apply IP;intro n hn;have:=yw.1 uD n hn;unfold Ka at this;simp only [yF,j5] at this;exact tN this.1 this.2
   have hoe:e.o=Ki:=qc ho;rw [zn (fun hh=>by rw [ap] at hh;exact absurd hh.2 Kq),zo ⟨hz,ap⟩,Uk,<-h2,<-hoe];show _=(e.kind,e.xg,e.o,e.ps);rw [hc]
theorem aD {l:List wT} (h:l.all jc=true):(vM (ko l)).map aA=l.map wT.st:=by
 rw [yw] at h;rw [gt l (fun e he=>ZC (h e he)),XB];exact IP fun e he=>No (h e he)
end
end Go.Proofs.YtaibdpjjojihmaaGreat
