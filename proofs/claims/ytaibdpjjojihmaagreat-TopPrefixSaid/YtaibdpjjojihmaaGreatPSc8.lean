/- A part of the proof of TopPrefix; no conditions. -/
import Derived.Test.YtaibdpjjojihmaaGreatPPn
set_option linter.unusedVariables false
set_option linter.unusedSimpArgs false
set_option maxRecDepth 20000
set_option maxHeartbeats 4000000
namespace Go.Proofs.YtaibdpjjojihmaaGreat
section
open Go Go.RowKit
attribute [local irreducible] Calls
def Wx (s:ByteArray):Bool:=decide (0<s.size)&&decide (KM s 0+1<=(s.size:Int))
def Zy (s:ByteArray):Nat:=1+(KM s 0).toNat
def zv (s:ByteArray):ByteArray×ByteArray×Bool:=if Wx s=true then (s.extract 1 (Zy s),s.extract (Zy s) s.size,true) else (em,em,false)
theorem acK {s:ByteArray} (h:s.size=0):s=em:=by
 have:s.data.toList= []:=gy.1 (by simpa using h);cases s;rename_i d;cases d;simp_all
theorem Jy (s:ByteArray):decide (s=⟨#[]⟩)=decide (s.size=0):=by
 by_cases h:s.size=0
 · rw [acK h];rfl
 · have:s≠⟨#[]⟩:=fun e=>h (by rw [e];rfl)
   simp [h,this]
theorem Kh (s:ByteArray) (w:World) (hs:s.size<=1000000):Calls zf 15 #[.string s] w fun e w'=>e= .returned (.tuple #[.string (zv s).1, .string (zv s).2.1, .bool (zv s).2.2])/\Below w.heap.size w w':=by
 have hb:=eC s 0;have e0:=Jy s;rcases Vr s.size with h0|h0
 · have hq:decide (s=⟨#[]⟩)=true:=by rw [e0];exact yk h0
   have hk:Wx s=false:=by unfold Wx;simp [h0]
   unfold zv;rw [zn (by rw [hk];simp)];refine zQ Tryz.func15 rfl Tryz.ntmps15 zd (Mem.xE _) ?_
   repeat' (refine vw ?_)
   exact yH.three zd aN aN aN
 · have hq:decide (s=⟨#[]⟩)=false:=by rw [e0];exact z6 ze
   by_cases h1:KM s 0+1<=(s.size:Int)
   · have hk:Wx s=true:=by unfold Wx;simp [h0,h1]
     have z9:decide ((s.size:Int)-1<KM s 0)=false:=z6 ze;have hz:(1:Int)+KM s 0=((Zy s:Nat):Int):=by unfold Zy;omega
     have UF:Zy s<=s.size:=by unfold Zy;omega
     have hz1:1<=Zy s:=by unfold Zy;omega
     unfold zv;rw [zo hk];refine zQ Tryz.func15 rfl Tryz.ntmps15 zd (Mem.xE _) ?_
     repeat' (first|((first|apply zA|apply Ze);(first|exact qi0 zd|exact qwd zd|exact V3 1 (Zy s) zd zd (by show Env.op _ _=_;rw [<-hz];rfl) hz1 UF|exact V3 (Zy s) s.size zd (by show Env.op _ _=_;rw [<-hz];rfl) zd UF (zN _));rfl)|refine vw ?_)
     exact yH.three zd aN aN aN
   · have hk:Wx s=false:=by unfold Wx;simp [h1]
     have z9:decide ((s.size:Int)-1<KM s 0)=true:=yk ze;unfold zv;rw [zn (by rw [hk];simp)];refine zQ Tryz.func15 rfl Tryz.ntmps15 zd (Mem.xE _) ?_
     repeat' (first|((apply zA);(first|exact qi0 zd|exact qwd zd);rfl)|refine vw ?_)
     exact yH.three zd aN aN aN
def b1 (s:ByteArray):Int:=if s.size=0 then 0 else KM s 0
def r1 (s:ByteArray):ByteArray:=if s.size=0 then em else s.extract 1 s.size
abbrev Qt (s:ByteArray) (k:Bool):List Value:= [.string s, .bool k]
theorem KR (s:ByteArray) (a b:Nat):(s.extract a b).size<=s.size:=by rw [DE];omega
theorem vH {s:ByteArray} {n:Nat} (h:s.size<=n):(r1 s).size<=n:=by
 unfold r1;split
 · exact jZ (Nat.le_of_eq rfl) (zW _)
 · exact jZ (KR _ _ _) h
theorem Z3 {s:ByteArray} {n:Nat} (h:s.size<=n):(zv s).1.size<=n:=by
 unfold zv;split
 · exact jZ (KR _ _ _) h
 · exact zW _
theorem Z2 {s:ByteArray} {n:Nat} (h:s.size<=n):(zv s).2.1.size<=n:=by
 unfold zv;split
 · exact jZ (KR _ _ _) h
 · exact zW _
theorem k7 (b:Nat) (s:ByteArray) (k:Bool) (M:Mem) (hs:s.size<=1000000):uC zf 52 [.pointer (some ⟨b,0,none⟩)] M [.zK (.pointer (some ⟨b,0,none⟩)) 113 (Qt s k)] (fun v zw=>v= .int .i64 (b1 s)/\zw= [.zK (.pointer (some ⟨b,0,none⟩)) 113 (Qt (r1 s) (k&&!decide (s.size=0)))]):=by
 refine AD Tryz.func52 rfl Tryz.ntmps52 zd (fun w M0=>?_);have e0:=Jy s;rcases Vr s.size with h0|h0
 · have hq:decide (s=⟨#[]⟩)=true:=by rw [e0];exact yk h0
   repeat' (first|refine Ib 0 ?_|((apply zA);(first|exact Uu zd|exact yp 0 zd zd zd zd);rfl)|refine vw ?_)
   refine ⟨_,[0],[.zK (.pointer (some ⟨b,0,none⟩)) 113 (Qt s false)],zP,zE,rfl,xc,?_,?_⟩
   · unfold b1;rw [zo h0]
   · have h1:r1 s=s:=by unfold r1;rw [zo h0];exact (acK h0).symm
     have h2:decide (s.size=0)=true:=yk h0;rw [h1,h2];simp
 · have hq:decide (s=⟨#[]⟩)=false:=by rw [e0];exact z6 ze
   repeat' (first|refine Ib 0 ?_|((apply zA);(first|exact qi0 zd|exact qwd zd|exact Uu zd|exact yp 0 zd zd zd zd|exact V3 1 s.size zd zd zd ze (zN _));rfl)|refine vw ?_)
   refine ⟨_,[0],[.zK (.pointer (some ⟨b,0,none⟩)) 113 (Qt (s.extract 1 s.size) k)],zP,zE,rfl,xc,?_,?_⟩
   · unfold b1;rw [zn ze]
   · have:decide (s.size=0)=false:=z6 ze;rw [this];unfold r1;rw [zn ze];simp
theorem Z6 (b:Nat) (s:ByteArray) (k:Bool) (M:Mem) (hs:s.size<=1000000):uC zf 53 [.pointer (some ⟨b,0,none⟩)] M [.zK (.pointer (some ⟨b,0,none⟩)) 113 (Qt s k)] (fun v zw=>v= .string (zv s).1/\zw= [.zK (.pointer (some ⟨b,0,none⟩)) 113 (Qt (zv s).2.1 (k&&(zv s).2.2))]):=by
 refine AD Tryz.func53 rfl Tryz.ntmps53 zd (fun w M0=>?_);cases k with
 |true=>
  repeat' (first|refine Ib 0 ?_|((apply zA);(first|exact Uu zd|exact yp 0 zd zd zd zd|exact zm zd (fun W _=>Kh s W hs));rfl)|refine vw ?_)
  refine ⟨_,[0],[.zK (.pointer (some ⟨b,0,none⟩)) 113 (Qt (zv s).2.1 (true&&(zv s).2.2))],zP,zE,rfl,xc,rfl,rfl⟩
 |false=>
  repeat' (first|refine Ib 0 ?_|((apply zA);(first|exact Uu zd|exact yp 0 zd zd zd zd|exact zm zd (fun W _=>Kh s W hs));rfl)|refine vw ?_)
  refine ⟨_,[0],[.zK (.pointer (some ⟨b,0,none⟩)) 113 (Qt (zv s).2.1 (false&&(zv s).2.2))],zP,zE,rfl,xc,rfl,rfl⟩
end
section
open Go Go.RowKit
attribute [local irreducible] Calls
theorem Dp:(⟨#[]⟩:ByteArray)=em:=rfl
theorem o5:ByteArray.empty=em:=rfl
def Ki:Op:=⟨0,em,em,false,em,0⟩
def fin (o:Op) (r:ByteArray) (ok:Bool):Op×Bool:=if (ok&&decide (r.size=0)&&jb o)=true then (o,true) else (Ki,false)
def wI (s:ByteArray):Op×Bool:=
 if (b1 s==1||b1 s==2)=true then fin ⟨b1 s,(zv (r1 s)).1,em,false,(zv (zv (r1 s)).2.1).1,0⟩ (zv (zv (r1 s)).2.1).2.1 (true&&!decide (s.size=0)&&(zv (r1 s)).2.2&&(zv (zv (r1 s)).2.1).2.2)
 else if b1 s=4 then
  if b1 (zv (r1 s)).2.1=0 then fin ⟨b1 s,(zv (r1 s)).1,(zv (r1 (zv (r1 s)).2.1)).1,false,em,0⟩ (zv (r1 (zv (r1 s)).2.1)).2.1 (true&&!decide (s.size=0)&&(zv (r1 s)).2.2&&!decide ((zv (r1 s)).2.1.size=0)&&(zv (r1 (zv (r1 s)).2.1)).2.2)
  else if b1 (zv (r1 s)).2.1=1 then fin ⟨b1 s,(zv (r1 s)).1,em,true,em,0⟩ (r1 (zv (r1 s)).2.1) (true&&!decide (s.size=0)&&(zv (r1 s)).2.2&&!decide ((zv (r1 s)).2.1.size=0))
  else (Ki,false)
 else if b1 s=6 then
  if b1 (zv (r1 s)).2.1=0 then fin ⟨b1 s,(zv (r1 s)).1,(zv (r1 (zv (r1 s)).2.1)).1,false,em,b1 (zv (r1 (zv (r1 s)).2.1)).2.1⟩ (r1 (zv (r1 (zv (r1 s)).2.1)).2.1) (true&&!decide (s.size=0)&&(zv (r1 s)).2.2&&!decide ((zv (r1 s)).2.1.size=0)&&(zv (r1 (zv (r1 s)).2.1)).2.2&&!decide ((zv (r1 (zv (r1 s)).2.1)).2.1.size=0))
  else if b1 (zv (r1 s)).2.1=1 then fin ⟨b1 s,(zv (r1 s)).1,em,true,em,b1 (r1 (zv (r1 s)).2.1)⟩ (r1 (r1 (zv (r1 s)).2.1)) (true&&!decide (s.size=0)&&(zv (r1 s)).2.2&&!decide ((zv (r1 s)).2.1.size=0)&&!decide ((r1 (zv (r1 s)).2.1).size=0))
  else (Ki,false)
 else fin ⟨b1 s,(zv (r1 s)).1,em,false,em,0⟩ (zv (r1 s)).2.1 (true&&!decide (s.size=0)&&(zv (r1 s)).2.2)
theorem vy (o:Op) (W:World) (hk:o.key.size<=1000000) (b:Bool) (h:jb o=b):Calls zf 35 #[o.av] W fun e w'=>e= .returned (.int .i64 (if b=true then 0 else 3))/\Below W.heap.size W w':=by
 have:=lp o W hk
 rwa [h] at this
theorem aab (s:ByteArray) (w:World) (hs:s.size<=1000000) (h1:b1 s≠1) (h2:b1 s≠2) (h4:b1 s≠4) (h6:b1 s≠6):Calls zf 34 #[.string s] w fun e w'=>e= .returned (.tuple #[(wI s).1.av, .bool (wI s).2])/\Below w.heap.size w w':=by
 have Ec:wI s=fin ⟨b1 s,(zv (r1 s)).1,em,false,em,0⟩ (zv (r1 s)).2.1 (true&&!decide (s.size=0)&&(zv (r1 s)).2.2):=by unfold wI;simp [h1,h2,h4,h6]
 have z1:(r1 s).size<=1000000:=vH hs;have zk:(zv (r1 s)).1.size<=1000000:=Z3 z1;have q6:(b1 s==6)=false:=by simp [h6]
 have cV: ∀W,Calls zf 54 #[.agg #[.int .i64 (b1 s), .string (zv (r1 s)).1, .string em, .bool false, .string em, .int .i64 0]] W fun e w'=>e= .returned (.bool false)/\Below W.heap.size W w':=fun W=>by
  have:=VH ⟨b1 s,(zv (r1 s)).1,em,false,em,0⟩ W
  rwa [show qh ⟨b1 s,(zv (r1 s)).1,em,false,em,0⟩=false by simp [qh,h1,h2]] at this
 have cR: ∀W,Calls zf 55 #[.agg #[.int .i64 (b1 s), .string (zv (r1 s)).1, .string em, .bool false, .string em, .int .i64 0]] W fun e w'=>e= .returned (.bool false)/\Below W.heap.size W w':=fun W=>by
  have:=KW ⟨b1 s,(zv (r1 s)).1,em,false,em,0⟩ W
  rwa [show j3 ⟨b1 s,(zv (r1 s)).1,em,false,em,0⟩=false by simp [j3,h4,h6]] at this
 cases hr:jb ⟨b1 s,(zv (r1 s)).1,em,false,em,0⟩
 all_goals
  have cO:=fun W=>vy ⟨b1 s,(zv (r1 s)).1,em,false,em,0⟩ W zk _ hr
  refine zQ Vn rfl Vo zd (Mem.xE _) ?_
  repeat' (refine vw ?_)
  refine qB 1 zd (fun b=>?_);refine yS (zO:= [.zK (.pointer (some ⟨b,0,none⟩)) 113 (Qt (s) (true))]) [1] zd zd xc (fun M' _=>k7 b s true M' hs) zd zd ?_;rintro _ _ ⟨rfl,rfl⟩
  repeat' (refine vw ?_)
  refine yS (zO:= [.zK (.pointer (some ⟨b,0,none⟩)) 113 (Qt (r1 s) (true&&!decide (s.size=0)))]) [2] zd zd xc (fun M' _=>Z6 b (r1 s) _ M' z1) zd zd ?_;rintro _ _ ⟨rfl,rfl⟩
  repeat' (first|((apply zA);(first|exact Uu zd|exact yp 4 zd zd zd zd|exact zm zd (fun W _=>cV W)|exact zm zd (fun W _=>cR W)|exact zm zd (fun W _=>cO W));rfl)|refine vw ?_|(refine vd ?_ ?_<;>intro hq))
  all_goals
   show yH _ _ _ _;refine yH.two zd (xr zd zd _ zd ?_) (zy zd ?_)
   all_goals
    rw [Ec];unfold fin;split<;>simp_all [Jy,Ki,Ob.cells,Jd,Dp,o5]
end
section
open Go Go.RowKit
theorem jr (s t:ByteArray):bl (s++t)=bl s++bl t:=by
 unfold bl;rw [ByteArray.data_append,IN]
theorem aJ (s:ByteArray) (a b:Nat):bl (s.extract a b)=((bl s).take b).drop a:=by
 unfold bl;rw [ByteArray.data_extract,Array.toList_extract,List.extract_eq_take_drop,GH]
theorem qI (s:ByteArray):(bl s).length=s.size:=by simp [bl]
theorem eD (s:ByteArray) (j:Nat):KM s j=(((bl s).getD j 0).toNat:Int):=rfl
theorem aeJ (x:UInt8):b8 (x.toNat:Int)=x:=by
 unfold b8;have:=Af x;have h:((x.toNat:Int) % 256).toNat=x.toNat:=ze;rw [h];simp
def yY (s:ByteArray):ByteArray:=(⟨#[b8 s.size]⟩:ByteArray)++s
theorem DA (s:ByteArray):bl (yY s)=b8 s.size::bl s:=by
 unfold yY;rw [jr];rfl
theorem aip {s:ByteArray} {x:UInt8} {l:List UInt8} (h:bl s=x::l):b1 s=(x.toNat:Int):=by
 have hs:s.size≠0:=by rw [<-qI,h];simp
 unfold b1;rw [zn hs,eD,h];rfl
theorem agf {s:ByteArray} {x:UInt8} {l:List UInt8} (h:bl s=x::l):bl (r1 s)=l:=by
 have hs:s.size≠0:=by rw [<-qI,h];simp
 unfold r1;rw [zn hs,aJ,wD (by rw [qI];exact zN _),h];rfl
theorem OG {s:ByteArray} (h:(zv s).2.2=true):bl s=bl (yY (zv s).1)++bl (zv s).2.1:=by
 unfold zv at h⊢;cases ho:Wx s with
 |false=>rw [ho] at h;simp at h
 |true=>
  rw [zo rfl];unfold Wx at ho;simp only [yF,j5] at ho;obtain ⟨h0,h1⟩:=ho;cases hl:bl s with
  |nil=>rw [<-qI,hl] at h0;exact absurd h0 yx
  |cons x l=>
   have hb:KM s 0=(x.toNat:Int):=by rw [eD,hl];rfl
   have hh:Zy s=1+x.toNat:=by unfold Zy;rw [hb];simp
   have hz:s.size=l.length+1:=by rw [<-qI,hl];rfl
   have hx:x.toNat<=l.length:=ze
   have e1:bl (s.extract 1 (Zy s))=l.take x.toNat:=by
    rw [aJ,hl,hh,Q6 1,YE,gw,JJ]
   have e2:bl (s.extract (Zy s) s.size)=l.drop x.toNat:=by
    rw [aJ,hl,hh,wD (by simp;omega),Q6 1,gw]
   have e3:(s.extract 1 (Zy s)).size=x.toNat:=by rw [<-qI,e1,yC];omega
   rw [DA];dsimp only;rw [e1,e2,e3,aeJ,wQ,Us]
theorem ul {t s r:ByteArray} (h:bl t=bl (yY s)++bl r) (hs:s.size<=255):zv t=(s,r,true):=by
 rw [DA,wQ] at h
 have hb:(b8 s.size).toNat=s.size:=by
  unfold b8;have:((s.size:Int) % 256).toNat=s.size:=ze;rw [this];simp;omega
 have ap:KM t 0=(s.size:Int):=by rw [eD,h];show ((b8 s.size).toNat:Int)=_;rw [hb]
 have hz:t.size=s.size+r.size+1:=by rw [<-qI,h,<-qI s,<-qI r];simp
 have hh:Zy t=1+s.size:=by unfold Zy;rw [ap];simp
 have hk:Wx t=true:=by
  unfold Wx;rw [ap,hz];simp only [yF,j5];omega
 unfold zv;rw [zo hk]
 have e1:t.extract 1 (Zy t)=s:=JC (by
  rw [aJ,h,hh,Q6 1,YE,gw,JJ,<-qI s,ua])
 have e2:t.extract (Zy t) t.size=r:=JC (by
  rw [aJ,wD (by rw [qI];exact zN _),h,hh,Q6 1,gw,<-qI s,GG])
 rw [e1,e2]
def jN (o:Op):ByteArray:=
 let s0:=(⟨#[b8 o.kind]⟩:ByteArray)++yY o.key;let s1:=if o.kind<=2 then s0++yY o.val else s0
 let s2:=if j3 o=true then (if o.vx=true then s1++⟨#[1]⟩ else s1++((⟨#[0]⟩:ByteArray)++yY o.hi)) else s1
 if o.kind=6 then s2++⟨#[b8 o.yt]⟩ else s2
theorem aew {o:Op} {r:ByteArray} {k:Bool} (h:(fin o r k).2=true):(fin o r k).1=o/\k=true/\bl r= []/\jb o=true:=by
 unfold fin at h⊢;split at h
 · rename_i hc
   rw [zo hc];simp only [yF,j5] at hc;exact ⟨rfl,hc.1.1,gy.1 (by rw [qI];exact hc.1.2),hc.2⟩
 · cases h
theorem aa3 {o:Op} {r:ByteArray} {k:Bool} (h:(fin o r k).2=false):(fin o r k).1=Ki:=by
 unfold fin at h⊢;split at h
 · cases h
 · rename_i hc;rw [zn hc]
theorem HZ {s:ByteArray} (h:(wI s).2=false):(wI s).1=Ki:=by
 unfold wI at h⊢
 repeat' split at h
 all_goals first|(simp_all;done)|skip
 all_goals (simp_all;try exact aa3 h)
theorem L9 {s:ByteArray} (h:(wI s).2=true):jb (wI s).1=true:=by
 unfold wI at h⊢
 repeat' split at h
 all_goals first|(cases h;done)|skip
 all_goals (simp_all;try (have:=aew h;rw [this.1];exact this.2.2.2))
theorem Xz (x:UInt8):bl ⟨#[x]⟩= [x]:=rfl
end
section
open Go Go.RowKit
attribute [local irreducible] Calls
theorem NM {α:Type} {l:List α} {k:Nat} (h:k<l.length) (p:α->Bool):(l.take (k+1)).all p=((l.take k).all p&&p l[k]):=by
 rw [vF h,Al];simp
theorem NL {α:Type} {l:List α} {k:Nat} (h:k<l.length) (p:α->Bool) (hp:p l[k]=false):l.all p=false:=by
 cases ha:l.all p with
 |false=>rfl
 |true=>rw [yw] at ha;rw [ha _ (yD h)] at hp;cases hp
theorem Lw (x:UInt8):(⟨#[x]⟩:ByteArray).size=1:=rfl
theorem sz2 (x y:UInt8):(⟨#[x,y]⟩:ByteArray).size=2:=rfl
theorem jp (s:ByteArray):(yY s).size=1+s.size:=by unfold yY;rw [jy,Lw]
section
variable {P:Program} {w:World} {M0:Mem} {N:Nat} {dst:Option Tmp} {ty:TypeId} {pos:String} {z7:Array Edge} {g:Option (Nat×Bool)} {s:St}
theorem LW {src t e e2:TypeId} {x:Operand} {i n:Nat} {u:UInt8} [hB:dB P src e] [ht:fy P t] (hx:s.env.op x=some (.r i)) (ho:s.own[i]?=some (.row e2 1 n [.int .u8 (u.toNat:Int)]):=by rfl):QS P w M0 N ⟨dst, .convert src t x,ty,pos,z7,g⟩ s (.v (.string ⟨#[u]⟩)):=by
 have h:=fF (P:=P) (w:=w) (M0:=M0) (N:=N) (dst:=dst) (ty:=ty) (pos:=pos) (z7:=z7) (g:=g) (t:=t) (src:=src) (hx:=hx) (ho:=ho) (hB:=hB) (ht:=ht) (fun v hv=>⟨u,jx.1 hv⟩);have e1:Ta [Value.int .u8 (u.toNat:Int)]= [u]:=by simp [Ta]
 rw [e1] at h;exact h
theorem qb2 {src t e e2:TypeId} {x:Operand} {i n:Nat} {u:UInt8} [hB:dB P src e] [ht:fy P t] (hx:s.env.op x=some (.r i)) (ho:s.own[i]?=some (.row e2 1 n [.int .u8 1, .int .u8 (u.toNat:Int)]):=by rfl):QS P w M0 N ⟨dst, .convert src t x,ty,pos,z7,g⟩ s (.v (.string ⟨#[1,u]⟩)):=by
 have h:=fF (P:=P) (w:=w) (M0:=M0) (N:=N) (dst:=dst) (ty:=ty) (pos:=pos) (z7:=z7) (g:=g) (t:=t) (src:=src) (hx:=hx) (ho:=ho) (hB:=hB) (ht:=ht) (fun v hv=>by
  rcases jm.1 hv with h|h
  · exact ⟨1,h⟩
  · exact ⟨u,jx.1 h⟩)
 have e1:Ta [Value.int .u8 1,Value.int .u8 (u.toNat:Int)]= [1,u]:=by simp [Ta]
 rw [e1] at h;exact h
theorem LU {t t2:TypeId} {x y:Operand} {a b:ByteArray} (hx:s.env.op x=some (.v (.string a))) (hy:s.env.op y=some (.v (.string b)):=by rfl) (h:(a++b).size<=maxLen:=by first|assumption|(simp only [jy,jp,Lw,sz2];unfold maxLen;omega)):QS P w M0 N ⟨dst, .binOp .add t x y t2,ty,pos,z7,g⟩ s (.v (.string (a++b))):=yN hx hy (S7 h)
end
theorem bM (s:ByteArray) (w:World) (hs:s.size<=1000000):Calls zf 32 #[.string s] w fun e w'=>e= .returned (.string (yY s))/\Below w.heap.size w w':=by
 unfold yY;refine zQ Tryz.func32 rfl Tryz.ntmps32 zd (Mem.xE _) ?_
 repeat' (first|((apply zA);(first|exact Cc zd|exact LW zd|exact LU zd);rfl)|refine vw ?_)
 show yH _ _ _ _;refine yH.one zd (zy zd ?_);rfl
theorem US (o:Op):(jN o).size<=5+o.key.size+o.hi.size+o.val.size:=by
 unfold jN;dsimp only;have e1:=jp o.key;have e2:=jp o.hi;have e3:=jp o.val
 repeat' split
 all_goals
  simp only [jy,Lw];omega
attribute [local irreducible] yY
theorem LR (o:Op) (w:World) (h1:o.key.size<=1000000) (h2:o.hi.size<=1000000) (h3:o.val.size<=1000000):Calls zf 51 #[o.av] w fun e w'=>e= .returned (.string (jN o))/\Below w.heap.size w w':=by
 refine zQ Tryz.func51 rfl Tryz.ntmps51 zd (Mem.xE _) ?_
 repeat' (refine vw ?_)
 refine Xm [] [3,4,8,9] yI zd zd ?_
 repeat' (first|refine YH zd _ (by exact Y4 (by first|exact Cc zd|exact zm zd (fun W _=>bM _ W h1))) zd zd ?_|refine wF zd _ _ (by exact gm (fq (by first|exact LW zd|exact LU zd))) zd zd ?_ ?_|refine fw ?_|exact kz|refine fz ?_ ?_)
 repeat' (first|((apply zA);(first|exact Cc zd|exact zm zd (fun W _=>bM _ W h2)|exact zm zd (fun W _=>bM _ W h3)|exact LW zd|exact LU zd);rfl)|refine vw ?_|(refine vd ?_ ?_<;>intro hq))
 all_goals
  show yH _ _ _ _;refine yH.one zd (zy zd ?_);refine z5 Value.string ?_;unfold jN j3;simp_all
  try (intro hh;exfalso;omega)
structure wT where
 kind:Int
 xg:Int
 o:Op
 pv:Value
 ps:List Int
abbrev Zm (e:wT):List Value:= [.int .i64 e.kind, .int .i64 e.xg, .int .i64 e.o.kind, .string e.o.key, .string e.o.hi, .bool e.o.vx, .string e.o.val, .int .i64 e.o.yt,e.pv]
abbrev oO (n:Int):List Value:= [.int .i64 n]
def wT.Ok (M:Mem) (e:wT):Prop:=xt M 1 oO e.pv e.ps
theorem wT.Ok.mono {M M':Mem} {e:wT} (h:e.Ok M) (hM:M.le M'):e.Ok M':=xt.mono h hM
def Ka (n:Int):Bool:=decide (0<=n)&&decide (n<=255)
def jc (e:wT):Bool:=
 if e.kind=1 then decide (0<=e.xg)&&decide (e.xg<=255)&&decide (e.ps.length=0)&&(eqv e.o Ki||jb e.o)
 else decide (e.kind=2)&&decide (e.xg=0)&&eqv e.o Ki&&decide (e.ps.length<=254)&&e.ps.all Ka
def EZ (l:List Int):ByteArray:=⟨((2:UInt8)::l.map b8).toArray⟩
theorem mV (l:List Int):bl (EZ l)=2::l.map b8:=rfl
theorem iY (l:List Int):(EZ l).size=1+l.length:=by rw [<-qI,mV,xd,yo,Q6]
theorem Cf {l:List Int} {k:Nat} (h:k<l.length):EZ (l.take k)++(⟨#[b8 l[k]]⟩:ByteArray)=EZ (l.take (k+1)):=JC (by
 rw [jr,mV,mV,vF h,jo];rfl)
def qU (e:wT):ByteArray:=if e.kind=1 then (if eqv e.o Ki=true then ⟨#[1,b8 e.xg]⟩ else (⟨#[1,b8 e.xg]⟩:ByteArray)++jN e.o) else EZ e.ps
theorem OW (e:wT) (w:World) (M:Mem) (hM:M.le (Mem.of w)) (he:e.Ok M) (hn:e.ps.length<=1000000) (h1:e.o.key.size<=1000000) (h2:e.o.hi.size<=1000000) (h3:e.o.val.size<=1000000):Calls zf 33 #[.agg #[.int .i64 e.kind, .int .i64 e.xg, .int .i64 e.o.kind, .string e.o.key, .string e.o.hi, .bool e.o.vx, .string e.o.val, .int .i64 e.o.yt,e.pv]] w fun r w'=>r= .returned (.string (qU e))/\Below w.heap.size w w':=by
 obtain ⟨kind,xg,o,pv,ps⟩:=e;unfold wT.Ok at he;dsimp only at*;obtain ⟨A,c,rfl,vK,qD,_⟩:=id he;have cB:=fun W=>LR o W h1 h2 h3
 have jL:=US o;by_cases hk:kind=1
 · subst hk;cases ho:eqv o Ki with
   |true=>
    have q3:(!eqv o Ki)=false:=by rw [ho];rfl
    refine zQ Tryz.func33 rfl Tryz.ntmps33 zd (hM) ?_
    repeat' (first|((apply zA);(first|exact Cc zd|exact TT zd|exact qb2 zd);rfl)|refine vw ?_)
    show yH _ _ _ _;refine yH.one zd (zy zd ?_);unfold qU;rw [zo rfl,zo ho]
   |false=>
    have q3:(!eqv o Ki)=true:=by rw [ho];rfl
    refine zQ Tryz.func33 rfl Tryz.ntmps33 zd (hM) ?_
    repeat' (first|((apply zA);(first|exact Cc zd|exact TT zd|exact qb2 zd|exact LU zd|exact zm zd (fun W _=>cB W));rfl)|refine vw ?_)
    show yH _ _ _ _;refine yH.one zd (zy zd ?_);unfold qU;rw [zo rfl,zn (by rw [ho];simp)]
 · have gR:(kind==1)=false:=by simp [hk]
   have Ir:qU ⟨kind,xg,o, .slice A ps.length c,ps⟩=EZ ps:=by unfold qU;rw [zn hk]
   rw [Ir];refine zQ Tryz.func33 rfl Tryz.ntmps33 zd (hM) ?_
   repeat' (refine vw ?_)
   refine kU (fun k:Nat=>⟨M,[.qZ 34 [.int .i64 kind, .int .i64 xg, .int .i64 o.kind, .string o.key, .string o.hi, .bool o.vx, .string o.val, .int .i64 o.yt, .slice A ps.length c]],[(1, .p 0 0),(4, .v (.string (EZ (ps.take k)))),(5, .v (.int .i64 k))]⟩) (fun k=>k<=ps.length) (fun k=>ps.length-k) [0] 0 ⟨rfl,rfl,xc,ka⟩ ze ?_;intro k hk;have hz:=iY (ps.take k);rw [yC] at hz;rcases yq k ps.length with z9|ql
   · have hd:=Xp z9;obtain ⟨b,off,rfl,jk⟩:=he.get z9;have UF:(EZ (ps.take k)++(⟨#[b8 ps[k]]⟩:ByteArray)).size<=maxLen:=by rw [jy,Lw];unfold maxLen;omega
     repeat' (first|((apply zA);(first|exact zj (k) zd zd ze ze|exact zY zd (jk 0 _ zd)|exact Cc zd|exact LW zd|exact LU zd);rfl)|refine vw ?_)
     refine yL (Q:=fun _ _=>True) [0] (k+1) ⟨rfl,rfl,xc,⟨rfl,?_,rfl,trivial⟩⟩ ze ze;rw [<-Cf z9];rfl
   · have hd:=Xq ql;obtain rfl:k=ps.length:=ze
     repeat' (refine vw ?_)
     show yH _ _ _ _;refine yH.one zd (zy zd ?_);rw [xk]
end
section
open Go Go.RowKit
attribute [local irreducible] Calls zv
abbrev wT.st (e:wT):Int×Int×Op×List Int:=(e.kind,e.xg,e.o,e.ps)
theorem iN {s:ByteArray} (h:Wx s=true):(zv s).2.1.size<s.size:=by
 unfold zv;rw [zo h];unfold Wx at h;simp only [yF,j5] at h;unfold Zy;show (s.extract _ _).size<_;rw [DE];omega
def Xs (s:ByteArray):List ByteArray×Bool:=
 if h:Wx s=true then ((zv s).1::(Xs (zv s).2.1).1,(Xs (zv s).2.1).2) else ([],!decide (s.size=0))
termination_by s.size
decreasing_by all_goals exact iN h
theorem pD {s:ByteArray} (h:Wx s=true):Xs s=((zv s).1::(Xs (zv s).2.1).1,(Xs (zv s).2.1).2):=by
 rw [Xs,dif_pos h]
theorem dS {s:ByteArray} (h:Wx s=false):Xs s=([],!decide (s.size=0)):=by
 rw [Xs,dif_neg (by rw [h];simp)]
end
end Go.Proofs.YtaibdpjjojihmaaGreat
