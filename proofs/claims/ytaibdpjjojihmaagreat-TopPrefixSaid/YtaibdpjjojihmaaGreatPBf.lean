/- A part of the proof of TopPrefix; no conditions. -/
import Derived.Test.YtaibdpjjojihmaaGreatPLg4
import Derived.Test.YtaibdpjjojihmaaGreatPFc
set_option linter.unusedVariables false
set_option linter.unusedSimpArgs false
set_option maxRecDepth 20000
set_option maxHeartbeats 8000000
namespace Go.Proofs.YtaibdpjjojihmaaGreat
section
open Go.RowKit
def uP (e:nY) (h:Bool):Bool:=if e.kind=1 then true else if e.kind=2 then true else if e.kind=3 then false else h
def ky (e:nY) (h:Bool) (v:ByteArray):ByteArray:=
 if e.kind=1 then e.val else if e.kind=2 then tl ((if h=true then v else em)++e.val) else if e.kind=3 then em else if h=true then v else em
def Wu (e:nY):Bool:=decide (e.kind=1\/e.kind=2)
def X9 (a b:nY):nY:=
 if b.kind=0 then a else if b.kind≠2 then b else if a.kind=0 then b
 else if a.kind=2 then ⟨2,tl (a.val++b.val)⟩ else if a.kind=3 then ⟨1,tl (em++b.val)⟩ else ⟨1,tl (a.val++b.val)⟩
def gc:nY:=⟨0,em⟩
end
section
open Go.RowKit Go.Sort
theorem Cq {k:Int} (h0:k≠0) (h1:k≠1) (h2:k≠2) (h3:k≠3):(k==0)=false/\(k==1)=false/\(k==2)=false/\(k==3)=false:=by simp [h0,h1,h2,h3]
theorem Do (e:nY) (w:World):
 Calls zf 259 #[e.av] w fun x w'=>x= .returned (.bool (Wu e))/\Below w.heap.size w w':=by
 obtain ⟨k,v⟩:=e;by_cases h1k:k=1
 · subst h1k
   go_enter nm,nA
   go_wp2
   go_ret
   refine ⟨Xe (mS ?_),by go_grown⟩;simp [Wu]
 by_cases Ou:k=2
 · subst Ou
   go_enter nm,nA
   go_wp2
   go_ret
   refine ⟨Xe (mS ?_),by go_grown⟩;simp [Wu]
 by_cases Rz:k=3
 · subst Rz
   go_enter nm,nA
   go_wp2
   go_ret
   refine ⟨Xe (mS ?_),by go_grown⟩;simp [Wu]
 by_cases h0k:k=0
 · subst h0k
   go_enter nm,nA
   go_wp2
   go_ret
   refine ⟨Xe (mS ?_),by go_grown⟩;simp [Wu]
 obtain ⟨g0k,g1k,g2k,g3k⟩:=Cq h0k h1k Ou Rz
 go_enter nm,nA
 go_wp2
 go_ret
 refine ⟨Xe (mS ?_),by go_grown⟩;simp [Wu,h1k,Ou]
theorem Ye (e:nY) (h:Bool) (v:ByteArray) (w:World) (h1:e.val.size<=3000) (h2:v.size<=3000):
 Calls zf 203 #[e.av, .bool h, .string v] w fun x w'=>x= .returned (.tuple #[.bool (uP e h), .string (ky e h v)])/\Below w.heap.size w w':=by
 obtain ⟨k,x⟩:=e;simp only at h1;have m1:(v++x).size<=maxLen:=by rw [jy];unfold maxLen;omega
 have m2:(em++x).size<=maxLen:=by rw [jy,TI];unfold maxLen;omega
 have M1:=wN m1;have M2:=wN m2;clear m1 m2;by_cases h1k:k=1
 · subst h1k;cases h
   · go_enter Ku,Ky
     go_wp2
     go_quiet (fail)
     go_wp2
     go_ret2
     refine ⟨Xe ?_,gu (by go_grown) _⟩;simp [uP,ky]
   · go_enter Ku,Ky
     go_wp2
     go_quiet (fail)
     go_wp2
     go_ret2
     refine ⟨Xe ?_,gu (by go_grown) _⟩;simp [uP,ky]
 by_cases Ou:k=2
 · subst Ou;cases h
   · go_enter Ku,Ky
     go_wp2_with fail
     (with_reducible refine (pw em x _ M2.out).mono ?_);rintro x w' ⟨rfl,rfl⟩
     go_wp2
     go_ret2
     refine ⟨Xe ?_,by go_grown⟩;simp [uP,ky]
   · go_enter Ku,Ky
     go_wp2_with fail
     (with_reducible refine (pw v x _ M1.out).mono ?_);rintro x w' ⟨rfl,rfl⟩
     go_wp2
     go_ret2
     refine ⟨Xe ?_,by go_grown⟩;simp [uP,ky]
 by_cases Rz:k=3
 · subst Rz;cases h
   · go_enter Ku,Ky
     go_wp2
     go_ret2
     refine ⟨Xe ?_,by go_grown⟩;simp [uP,ky]
   · go_enter Ku,Ky
     go_wp2
     go_ret2
     refine ⟨Xe ?_,by go_grown⟩;simp [uP,ky]
 by_cases h0k:k=0
 · subst h0k;cases h
   · go_enter Ku,Ky
     go_wp2
     go_ret2
     refine ⟨Xe ?_,by go_grown⟩;simp [uP,ky]
   · go_enter Ku,Ky
     go_wp2
     go_ret2
     refine ⟨Xe ?_,by go_grown⟩;simp [uP,ky]
 obtain ⟨g0k,g1k,g2k,g3k⟩:=Cq h0k h1k Ou Rz;cases h
 · go_enter Ku,Ky
   go_wp2
   go_ret2
   refine ⟨Xe ?_,by go_grown⟩;simp [uP,ky,h1k,Ou,Rz]
 · go_enter Ku,Ky
   go_wp2
   go_ret2
   refine ⟨Xe ?_,by go_grown⟩;simp [uP,ky,h1k,Ou,Rz]
end
section
open Go.RowKit Go.Sort
theorem Dn (a b:nY) (w:World) (h1:a.val.size<=3000) (h2:b.val.size<=3000):
 Calls zf 241 #[a.av,b.av] w fun x w'=>x= .returned ((X9 a b).av)/\Below w.heap.size w w':=by
 obtain ⟨k,x⟩:=a;obtain ⟨m,y⟩:=b;simp only at h1 h2;have HS:=wN (show x.size<=3000/\y.size<=3000 from ⟨h1,h2⟩);have HM:=wN (show (x++y).size<=maxLen from by rw [jy];unfold maxLen;omega);by_cases h0m:m=0
 · subst h0m
   go_enter eS,eY
   go_wp2
   (try simp only [Exit.inBlock,Exit.then])
   refine Yk (by simp [results,e9,go_sem,X9];try rfl) rfl ?_;exact ⟨Xe (by simp [X9]),by go_grown⟩
 by_cases h2m:m=2
 · subst h2m;by_cases h0k:k=0
   · subst h0k
     go_enter eS,eY
     go_wp2
     (try simp only [Exit.inBlock,Exit.then])
     refine Yk (by simp [results,e9,go_sem,X9];try rfl) rfl ?_;exact ⟨Xe (by simp [X9]),by go_grown⟩
   by_cases Ou:k=2
   · subst Ou
     go_enter eS,eY
     go_wp2_with fail
     (with_reducible refine (Ye ⟨2,y⟩ true x _ HS.out.2 HS.out.1).mono ?_);rintro e w1 ⟨rfl,kJ⟩
     obtain ⟨xC,je⟩:=Vj kJ;have jd:=Z4 kJ
     repeat (first|simp only [jP] at xC|simp only [jQ] at xC|simp only [jO] at xC)
     repeat (first|simp only [jP] at je|simp only [jQ] at je|simp only [jO] at je)
     repeat (first|simp only [jP] at jd|simp only [jQ] at jd|simp only [jO] at jd)
     have HB:=wN (qV (w:=w) (by go_grown) kJ);clear kJ;have kJ:=HB.out
     go_wp2
     (try simp only [Exit.inBlock,Exit.then])
     refine Yk (by simp [results,e9,go_sem,xC];try rfl) rfl ?_;exact ⟨Xe (by simp [X9,ky]),by go_grown⟩
   by_cases Rz:k=3
   · subst Rz
     go_enter eS,eY
     go_wp2_with fail
     (with_reducible refine (Ye ⟨2,y⟩ false x _ HS.out.2 HS.out.1).mono ?_);rintro e w1 ⟨rfl,kJ⟩
     obtain ⟨xC,je⟩:=Vj kJ;have jd:=Z4 kJ
     repeat (first|simp only [jP] at xC|simp only [jQ] at xC|simp only [jO] at xC)
     repeat (first|simp only [jP] at je|simp only [jQ] at je|simp only [jO] at je)
     repeat (first|simp only [jP] at jd|simp only [jQ] at jd|simp only [jO] at jd)
     have HB:=wN (qV (w:=w) (by go_grown) kJ);clear kJ;have kJ:=HB.out
     go_wp2
     (try simp only [Exit.inBlock,Exit.then])
     refine Yk (by simp [results,e9,go_sem,xC];try rfl) rfl ?_;exact ⟨Xe (by simp [X9,ky]),by go_grown⟩
   obtain ⟨g0k,g2k,g3k,aq3⟩:(k==0)=false/\(k==2)=false/\(k==3)=false/\(k !=3)=true:=by simp [h0k,Ou,Rz]
   go_enter eS,eY
   go_wp2_with fail
   (with_reducible refine (Ye ⟨2,y⟩ true x _ HS.out.2 HS.out.1).mono ?_);rintro e w1 ⟨rfl,kJ⟩
   obtain ⟨xC,je⟩:=Vj kJ;have jd:=Z4 kJ
   repeat (first|simp only [jP] at xC|simp only [jQ] at xC|simp only [jO] at xC)
   repeat (first|simp only [jP] at je|simp only [jQ] at je|simp only [jO] at je)
   repeat (first|simp only [jP] at jd|simp only [jQ] at jd|simp only [jO] at jd)
   have HB:=wN (qV (w:=w) (by go_grown) kJ);clear kJ;have kJ:=HB.out
   go_wp2
   (try simp only [Exit.inBlock,Exit.then])
   refine Yk (by simp [results,e9,go_sem,xC];try rfl) rfl ?_;exact ⟨Xe (by simp [X9,ky,h0k,Ou,Rz]),by go_grown⟩
 obtain ⟨g0m,g2m,aq4⟩:(m==0)=false/\(m==2)=false/\(m !=2)=true:=by simp [h0m,h2m]
 go_enter eS,eY
 go_wp2
 (try simp only [Exit.inBlock,Exit.then])
 refine Yk (by simp [results,e9,go_sem,X9];try rfl) rfl ?_;exact ⟨Xe (by simp [X9,h0m,h2m]),by go_grown⟩
end
section
open Go.RowKit
def ZM (m:xi):yW:=if m.kind=4 then ⟨m.key,m.hi,m.vx⟩ else yd m.key
def lq (m:xi) (k:ByteArray):nY:=
 if has (ZM m) k=true then (if m.kind=1\/m.kind=2 then ⟨m.kind,m.val⟩ else if m.kind=3\/m.kind=4 then ⟨3,em⟩ else gc) else gc
def qJ (m:xi):Int:=if m.kind=4 then 36 else 4+(m.key.size:Int)+(m.val.size:Int)
def QI:xi:=⟨0,0,em,em,false,em⟩
def jD (m:xi) (s:yW):xi×Bool:=
 if fQ (ZM m) s=true then
  (if m.kind=4 then ⟨m.xD,m.kind,(vT (ZM m) s).lo,(vT (ZM m) s).hi,(vT (ZM m) s).vx,m.val⟩ else m,true)
 else (QI,false)
theorem Cj (m:xi) (k:ByteArray) {n:Nat} (h:m.val.size<=n):(lq m k).val.size<=n:=by
 have e:em.size=0:=rfl;unfold lq;split
 · split
   · exact h
   · split<;>simp [gc,e]
 · simp [gc,e]
end
section
open Go Go.RowKit
theorem XR (m:xi) (w:World) (hk:m.key.size<=1000000):
 Calls zf 170 #[m.av] w fun e w'=>e= .returned ((ZM m).av)/\Below w.heap.size w w':=by
 refine zQ Tryz.func170 rfl Tryz.ntmps170 zd (Mem.xE _) ?_
 repeat' (first|((apply zA);(exact zm zd (fun W _=>WV _ hk W));rfl)|refine vw ?_|(refine vd ?_ ?_<;>intro hq))
 all_goals
  show yH _ _ _ _;refine yH.one zd (xr zd zd _ zd ?_);simp_all [ZM,Ob.cells,Jd]
theorem QJ (m:xi) (w:World) (h1:m.key.size<=1000000) (h2:m.val.size<=1000000):
 Calls zf 181 #[m.av] w fun e w'=>e= .returned (.int .i64 (qJ m))/\Below w.heap.size w w':=by
 refine zQ Tryz.func181 rfl Tryz.ntmps181 zd (Mem.xE _) ?_
 repeat' (first|refine vw ?_|(refine vd ?_ ?_<;>intro hq))
 all_goals
  show yH _ _ _ _;refine yH.one zd (zy zd ?_);simp_all [qJ]
theorem Uj (m:xi) (s:yW) (w:World) (hk:m.key.size<=1000000):
 Calls zf 173 #[m.av,s.av] w fun e w'=>e= .returned (.bool (fQ (ZM m) s))/\Below w.heap.size w w':=by
 refine zQ Tryz.func173 rfl Tryz.ntmps173 zd (Mem.xE _) ?_
 repeat' (first|((first|apply zA|apply Ze);(first|exact zm zd (fun W _=>XR _ W (by assumption))|exact zm zd (fun W _=>Ez _ _ W));rfl)|refine vw ?_)
 show yH _ _ _ _;refine yH.one zd (zy zd ?_);rfl
theorem af (m:xi) (k:ByteArray) (w:World) (hk:m.key.size<=1000000):
 Calls zf 172 #[m.av, .string k] w fun e w'=>e= .returned ((lq m k).av)/\Below w.heap.size w w':=by
 refine zQ Tryz.func172 rfl Tryz.ntmps172 zd (Mem.xE _) ?_
 repeat' (first|((apply zA);(first|exact zm zd (fun W _=>XR _ W (by assumption))|exact zm zd (fun W _=>KP _ _ W));rfl)|refine vw ?_|(refine vd ?_ ?_<;>intro hq))
 all_goals
  show yH _ _ _ _;refine yH.one zd (xr zd zd _ zd ?_);simp_all [lq,Ob.cells,Jd,gc]
theorem QK (m:xi) (s:yW) (w:World) (hk:m.key.size<=1000000):
 Calls zf 146 #[m.av,s.av] w fun e w'=>e= .returned (.tuple #[(jD m s).1.av, .bool (jD m s).2])/\Below w.heap.size w w':=by
 dsimp only [xi.av,yW.av];refine zQ Tryz.func146 rfl Tryz.ntmps146 zd (Mem.xE _) ?_
 repeat' (first|((first|apply zA|apply Ze);(first|exact zm zd (fun W _=>Uj _ _ W (by assumption))|exact zm zd (fun W _=>XR _ W (by assumption))|exact zm zd (fun W _=>YM _ _ W));rfl)|refine vw ?_|(refine vd ?_ ?_<;>intro hq))
 · show yH _ _ _ _;refine yH.two zd (xr zd zd _ zd ?_) (zy zd ?_)
   all_goals simp_all [jD,Ob.cells,Jd,QI]
 · refine Xm [0] [7,9,11] yI zd zd ?_
   repeat' (first|refine fw ?_|exact kz|refine fz ?_ ?_)
   repeat' (refine vw ?_)
   show yH _ _ _ _;refine yH.two zd (xr zd zd _ zd ?_) (zy zd ?_)
   all_goals simp_all [jD,Ob.cells,Jd,QI]
   all_goals rfl
 · show yH _ _ _ _;refine yH.two zd (xr zd zd _ zd ?_) (zy zd ?_)
   all_goals simp_all [jD,Ob.cells,Jd,QI]
   all_goals rfl
end
section
open Go Go.RowKit
attribute [local irreducible] Calls
end
section
open Go Go.RowKit
attribute [local irreducible] Calls
end
section
open Go Go.RowKit
attribute [local irreducible] Calls
def ac9 (l:List xi) (i:Nat):Int:=((l[i]?).map xi.xD).getD 0
theorem TE {l:List xi} {i:Nat} (h:i<l.length):ac9 l i=l[i].xD:=by simp [ac9,h]
end
section
open Go.RowKit
end
section
open Go Go.RowKit
attribute [local irreducible] Calls
end
section
open Go Go.RowKit
attribute [local irreducible] Calls
end
section
def ZJ {α:Type} (f:α->Int):List α->Int
 | []=>0
 |a::l=>f a+ZJ f l
section
variable {α:Type} {f:α->Int}
theorem dR: ∀(l m:List α),ZJ f (l++m)=ZJ f l+ZJ f m
 | [],m=>by simp [ZJ]
 |a::l,m=>by simp only [wQ,ZJ,dR l m];omega
theorem Eu {l:List α} {k:Nat} (h:k<l.length):ZJ f (l.take (k+1))=ZJ f (l.take k)+f l[k]:=by
 rw [vF h,dR];simp [ZJ]
theorem XN: ∀(l:List α),(∀a∈l,0<=f a)->0<=ZJ f l
 | [],_=>by simp [ZJ]
 |a::l,h=>by
  have:=XN l (fun x hx=>h x (by simp [hx]));have:=h a yx;simp only [ZJ];omega
theorem bu (c:Int): ∀(l:List α),(∀a∈l,f a<=c)->ZJ f l<=l.length*c
 | [],_=>by simp [ZJ]
 |a::l,h=>by
  have h1:=bu c l (fun x hx=>h x (by simp [hx]));have h2:=h a yx;simp only [ZJ,xd];have:((l.length+1:Nat):Int)*c=(l.length:Int)*c+c:=by rw [Int.natCast_add,Int.add_mul];simp
  omega
end
def uY (l:List xi):Int:=ZJ qJ l
theorem KT (m:xi):0<=qJ m:=by unfold qJ;split<;>omega
theorem UT {m:xi} {n:Int} (h1:(m.key.size:Int)<=n) (h2:(m.val.size:Int)<=n) (h0:0<=n):qJ m<=36+2*n:=by unfold qJ;split<;>omega
end
section
open Go Go.RowKit
attribute [local irreducible] Calls
end
section
open Go Go.RowKit
attribute [local irreducible] Calls
theorem n8 {l:List xi} {k:Nat} (h:k<l.length) (p:xi->Bool):(l.take (k+1)).all p=((l.take k).all p&&p l[k]):=by
 rw [vF h,Al];simp
end
section
open Go Go.RowKit
attribute [local irreducible] Calls
theorem Dw (v:Value) (l:List xi) (w:World) (hl:WM w v l) (hz: ∀m∈l,m.key.size<=1000000/\m.hi.size<=1000000/\m.val.size<=1000000) (hn:l.length<=1000000):
 Calls zf 253 #[v] w fun e w'=>e= .returned (.int .i64 (uY l))/\Below w.heap.size w w':=by
 obtain ⟨A,c,rfl,vK,qD,_⟩:=id hl;have hM:=hl.KI;unfold maxLen at qD;refine zQ Tryz.func253 rfl Tryz.ntmps253 zd (zE) ?_
 repeat' (refine vw ?_)
 refine kU (fun k:Nat=>⟨Mem.of w,[],[(3, .v (.int .i64 (ZJ qJ (l.take k)))),(6, .v (.slice A l.length c)),(7, .v (.int .i64 l.length)),(8, .v (.int .i64 k))]⟩) (fun k=>k<=l.length) (fun k=>l.length-k) [] 0 ⟨rfl,rfl,trivial,jY⟩ ze ?_;intro k hk;have hp:=XN (f:=qJ) (l.take k) (fun a _=>KT a)
 have hs:=bu (f:=qJ) 3000000 (l.take k) (fun a ha=>by
  have:=hz a (wB ha);have:=UT (m:=a) (n:=1000000) ze ze ze;omega)
 have MF:((l.take k).length:Int)<=1000000:=by rw [yC];omega
 rcases yq k l.length with z9|ql
 · have hd:=Xp z9;obtain ⟨b,off,rfl,jk⟩:=hM.get z9;obtain ⟨z1,z2,z3⟩:=hz l[k] (yD z9);have hq:=UT (m:=l[k]) (n:=1000000) ze ze ze;have hq0:=KT l[k];have c1:=fun W=>QJ l[k] W z1 z3
   repeat' (first|((apply zA);(first|exact zj (k) zd zd ze ze|exact zZ _ zd jk _ zd|exact zm zd (fun W _=>c1 W));rfl)|refine vw ?_)
   refine yL [] (k+1) ⟨rfl,rfl,trivial,⟨?_,rfl,rfl,rfl,trivial⟩⟩ ze ze;rw [Eu z9];rfl
 · have hd:=Xq ql;obtain rfl:k=l.length:=ze
   repeat' (refine vw ?_)
   show yH _ _ _ _;refine yH.one zd (zy zd ?_);rw [xk];rfl
theorem Dx (v:Value) (l:List xi) (m:xi) (yV:Int) (w:World) (hl:WM w v l) (hz: ∀m∈l,m.key.size<=1000000/\m.hi.size<=1000000/\m.val.size<=1000000) (hn:l.length<=1000000) (h1:m.key.size<=1000000) (h3:m.val.size<=1000000) (ap:0<=yV) (hb:Od yV):
 Calls zf 245 #[v,m.av, .int .i64 yV] w fun e w'=>e= .returned (.bool (decide (qJ m<=yV-uY l)))/\Below w.heap.size w w':=by
 obtain ⟨A,c,rfl,vK,qD,_⟩:=id hl;have hM:=hl.KI;have c1:=fun W=>QJ m W h1 h3
 have hp:=XN (f:=qJ) l (fun a _=>KT a)
 have hs:=bu (f:=qJ) 3000000 l (fun a ha=>by
  have:=hz a ha;have:=UT (m:=a) (n:=1000000) ze ze ze;omega)
 change 0<=uY l at hp;change uY l<=_ at hs;have:=hb.hi;refine zQ Tryz.func245 rfl Tryz.ntmps245 zd (zE) ?_
 repeat' (first|((apply zA);(first|exact zm zd (fun W _=>c1 W)|exact zm zd (fun W hW=>Dw _ l W (hM.xS hW) hz hn));rfl)|refine vw ?_)
 show yH _ _ _ _;refine yH.one zd (zy zd ?_);rfl
theorem vp (v:Value) (l:List xi) (w:World) (hl:WM w v l) (hn:l.length<=1000000000):
 Calls zf 110 #[v] w (uV 200 6 l.length (l.flatMap zR) w):=by
 obtain ⟨A,c,rfl,vK,qD,hv⟩:=id hl;have hM:=hl.KI;refine aZ (args:= [.slice A l.length c]) (M:=Mem.of w) Tryz.func110 rfl Tryz.ntmps110 zd (zE) rfl ?_;cases A with
 |none=>
  have h0:l= []:=by
   rcases hv with h|⟨b,off,h,_⟩
   · exact h
   · cases h
  subst h0;have hn:(none:Option Addr).isNone=true:=rfl
  repeat' (refine vw ?_)
  exact .inr ⟨rfl,rfl,rfl⟩
 |some a=>
  have hn':(some a:Option Addr).isNone=false:=rfl;by_cases h0:l= []
  · subst h0
    repeat' (first|((apply zA);(exact Yv zd zd zd);rfl)|refine vw ?_)
    exact .inl ⟨_,rfl,rfl⟩
  · obtain ⟨b,off,he,kW,QU⟩:=xt.flat (k:=6) (cells:=zR) (fun a _=>rfl) hM h0;injection he with he;subst he;have U4:0<l.length:=Qk.2 h0;have h1:((l.flatMap zR).all (·.oneCell'))=true:=by simp [aV,zR,Value.oneCell']
    repeat' (refine vw ?_)
    refine Xl _ _ (Ue (l.flatMap zR) zd zd zd kW QU U4 h1 (by unfold maxLen;omega) ze) zd zd ?_
    repeat' (refine vw ?_)
    refine .inl ⟨_,rfl,?_⟩;simp
end
section
open Go Go.RowKit
attribute [local irreducible] Calls
def sU (p:xi->Bool) (l:List xi):Int:=match l.findIdx? p with|some i=>i|none=> -1
theorem bX {p:xi->Bool} {l:List xi} {k:Nat} (h:k<l.length) (h1:(l.take k).all (fun m=>!p m)=true) (h2:p l[k]=true):sU p l=k:=by
 have:l.findIdx? p=some k:=by
  rw [Sn];refine ⟨h,h2,fun j hj=>?_⟩
  have:=yw.1 h1 l[j] (by
   rw [gz];exact ⟨j,ze,rfl⟩)
  simpa using this
 unfold sU;rw [this]
theorem iu {p:xi->Bool} {l:List xi} (h1:l.all (fun m=>!p m)=true):sU p l= -1:=by
 have:l.findIdx? p=none:=by
  rw [rQ];intro x hx;have:=yw.1 h1 x hx;simpa using this
 unfold sU;rw [this]
theorem JY (f:FuncId) [hf:zG zf f] (k8:Array Value) (p:xi->Bool) (v:Value) (l:List xi) (w:World) (hl:WM w v l) (hn:l.length<=1000000000)
 (hp: ∀m∈l,∀W,(Mem.of w).le (Mem.of W)->Calls zf f (#[m.av]++k8) W fun e w'=>e= .returned (.bool (p m))/\Below W.heap.size W w'):
 Calls zf 210 #[v, .func (.func f) #[] k8] w fun e w'=>e= .returned (.int .i64 (sU p l))/\Below w.heap.size w w':=by
 obtain ⟨A,c,rfl,vK,qD,_⟩:=id hl;have hM:=hl.KI;unfold maxLen at qD;refine zQ Tryz.func210 rfl Tryz.ntmps210 zd (zE) ?_
 repeat' (refine vw ?_)
 refine kU (fun k:Nat=>⟨Mem.of w,[],[(0, .v (.slice A l.length c)),(1, .v (.func (.func f) #[] k8)),(7, .v (.int .i64 l.length)),(8, .v (.int .i64 k))]⟩) (fun k=>k<=l.length/\(l.take k).all (fun m=>!p m)=true) (fun k=>l.length-k) [] 0 ⟨rfl,rfl,trivial,jY⟩ ⟨ze,rfl⟩ ?_;rintro k ⟨hk,hr⟩;rcases yq k l.length with z9|ql
 · have hd:=Xp z9;obtain ⟨b,off,rfl,jk⟩:=hM.get z9;have Uk:=hp l[k] (yD z9);cases hq:p l[k] with
   |true=>
    rw [hq] at Uk
    repeat' (first|((apply zA);(first|exact zj (k) zd zd ze ze|exact zZ _ zd jk _ zd|exact kA zd zd (fun W hW=>Uk W hW));rfl)|refine vw ?_)
    show yH _ _ _ _;refine yH.one zd (zy zd ?_);refine z5 (Value.int .i64) ?_;exact (bX z9 hr hq).symm
   |false=>
    rw [hq] at Uk
    repeat' (first|((apply zA);(first|exact zj (k) zd zd ze ze|exact zZ _ zd jk _ zd|exact kA zd zd (fun W hW=>Uk W hW));rfl)|refine vw ?_)
    refine yL [] (k+1) ⟨rfl,rfl,trivial,jY⟩ ⟨ze,?_⟩ ze;rw [n8 z9 (fun m=>!p m),hr,hq];rfl
 · have hd:=Xq ql;obtain rfl:k=l.length:=ze;rw [xk] at hr
   repeat' (refine vw ?_)
   show yH _ _ _ _;refine yH.one zd (zy zd ?_);rw [iu hr]
end
section
open Go Go.RowKit
attribute [local irreducible] Calls
def aiG {α:Type} (k:Nat) (cells:α->List Value) (l:List α) (ok:Bool) (r:Value) (M:Mem):Prop:= ∃v,r= .tuple #[v, .bool ok]/\xt M k cells v l
def XI (l:List xi) (m:xi) (yV:Int):Bool:=decide (qJ m<=yV-uY l)&&(decide (l= [])||decide (ac9 l (l.length-1)<m.xD))
theorem mR (v:Value) (l:List xi) (m:xi) (yV:Int) (w:World) (M:Mem) (hMw:M.le (Mem.of w)) (hl:xt M 6 zR v l) (hz: ∀m∈l,m.key.size<=1000000/\m.hi.size<=1000000/\m.val.size<=1000000) (hn:l.length<=1000000) (h1:m.key.size<=1000000) (h3:m.val.size<=1000000) (ap:0<=yV) (hb:Od yV):
 Calls zf 227 #[v,m.av, .int .i64 yV] w (He M w (aiG 6 zR (if XI l m yV=true then l++ [m] else []) (XI l m yV))):=by
 obtain ⟨A,c,rfl,vK,qD,hv⟩:=id hl;have hM:=hl;have c1:=fun W hW=>Dx _ l m yV W (hM.xS hW) hz hn h1 h3 ap hb
 have c2:=fun W hW=>vp _ l W (hM.xS hW) ze
 refine So (args:= [.slice A l.length c,m.av, .int .i64 yV]) (M:=M) Tryz.func227 rfl Tryz.ntmps227 zd hMw _ ?_;cases hf:decide (qJ m<=yV-uY l) with
 |false=>
  rw [hf] at c1;have ha:XI l m yV=false:=by unfold XI;rw [hf];rfl
  repeat' (first|((first|apply zA|apply Ze);(exact zm zd c1);rfl)|refine vw ?_)
  exact ⟨_,kH,_,by rw [ha],by rw [ha];exact xt.nil _ _ _⟩
 |true=>
  rw [hf] at c1;by_cases h0:l= []
  · subst h0;have ha:XI [] m yV=true:=by unfold XI;rw [hf];rfl
    have g0:decide ((0:Int)<(([]:List xi).length:Int))=false:=by decide
    repeat' (first|((first|apply zA|apply Ze);(exact zm zd c1);rfl)|refine vw ?_)
    refine Xm [] [1,3,4,5] yI zd zd ?_
    repeat' (first|refine wF zd _ _ (by exact gm (by exact D1 zd c2)) zd zd ?_ ?_|refine fw ?_|exact kz|refine fz ?_ ?_)
    all_goals
     refine rU 6 zd zd (fun u M' hle hu=>?_)
     repeat' (refine vw ?_)
     exact ⟨_,kH,u,by rw [ha],by rw [ha,zo rfl];exact ud.YB (l:= []++ [m]) (fun _ _=>rfl) (by simpa [zR,Value.cells,Ob.cells] using hu)⟩
  · have U4:0<l.length:=Qk.2 h0;have g0:decide ((0:Int)<(l.length:Int))=true:=yk ze;have z9:l.length-1<l.length:=ze;obtain ⟨b,off,rfl,jk⟩:=hM.get z9;have kt:=TE z9;cases hs:decide (m.xD<=l[l.length-1].xD) with
    |true=>
     have ha:XI l m yV=false:=by
      unfold XI;rw [hf,z6 h0,kt];simp only [j5] at hs;simp;omega
     repeat' (first|((first|apply zA|apply Ze);(first|exact zj (l.length-1) zd zd ze ze|exact zY zd (jk 0 _ zd)|exact zm zd c1);rfl)|refine vw ?_)
     exact ⟨_,kH,_,by rw [ha],by rw [ha];exact xt.nil _ _ _⟩
    |false=>
     have ha:XI l m yV=true:=by
      unfold XI;rw [hf,kt];simp only [gx] at hs;simp;omega
     repeat' (first|((first|apply zA|apply Ze);(first|exact zj (l.length-1) zd zd ze ze|exact zY zd (jk 0 _ zd)|exact zm zd c1);rfl)|refine vw ?_)
     refine Xm [] [1,3,4,5] yI zd zd ?_
     repeat' (first|refine wF zd _ _ (by exact gm (by exact D1 zd c2)) zd zd ?_ ?_|refine fw ?_|exact kz|refine fz ?_ ?_)
     all_goals
      refine rU 6 zd zd (fun u M' hle hu=>?_)
      repeat' (refine vw ?_)
      exact ⟨_,kH,u,by rw [ha],by rw [ha,zo rfl];exact ud.YB (l:=l++ [m]) (fun _ _=>rfl) (by simpa [zR,Value.cells,Ob.cells] using hu)⟩
end
section
open Go Go.RowKit
attribute [local irreducible] Calls
def Jw (l:List xi) (k:ByteArray):nY:=l.foldl (fun e m=>X9 e (lq m k)) gc
theorem Lp {a b:nY} {n:Nat} (h16:16<=n) (ha:a.val.size<=n) (hb:b.val.size<=n):(X9 a b).val.size<=n:=by
 unfold X9;have sz: ∀x y:ByteArray,(tl (x++y)).size<=n:=fun x y=>by rw [TH];omega
 split
 · exact ha
 · split
   · exact hb
   · split
     · exact hb
     · split
       · exact sz _ _
       · split
         · exact sz _ _
         · exact sz _ _
theorem ep {n:Nat} (h16:16<=n): ∀(l:List xi) (k:ByteArray) (e:nY),(∀m∈l,m.val.size<=n)->e.val.size<=n->(l.foldl (fun e m=>X9 e (lq m k)) e).val.size<=n
 | [],_,_,_,h=>h
 |m::l,k,e,hl,h=>ep h16 l k _ (fun x hx=>hl x (by simp [hx])) (Lp h16 h (Cj m k (hl m yx)))
theorem Dg {l:List xi} {j:Nat} (h:j<l.length) (k:ByteArray):Jw (l.take (j+1)) k=X9 (Jw (l.take j) k) (lq l[j] k):=by
 unfold Jw;rw [vF h,nJ];rfl
theorem ND (v:Value) (l:List xi) (k:ByteArray) (w:World) (hl:WM w v l) (hz: ∀m∈l,m.key.size<=1000000/\m.val.size<=3000) (hn:l.length<=1000000000):
 Calls zf 220 #[v, .string k] w fun e w'=>e= .returned ((Jw l k).av)/\Below w.heap.size w w':=by
 obtain ⟨A,c,rfl,vK,qD,_⟩:=id hl;have hM:=hl.KI;unfold maxLen at qD;refine zQ Tryz.func220 rfl Tryz.ntmps220 zd (zE) ?_
 repeat' (refine vw ?_)
 refine kU (fun j:Nat=>⟨Mem.of w,[.qZ 275 ((Jw (l.take j) k).av:Value).cells.toList],[(1, .v (.string k)),(4, .p 0 0),(7, .v (.slice A l.length c)),(8, .v (.int .i64 l.length)),(9, .v (.int .i64 j))]⟩) (fun j=>j<=l.length) (fun j=>l.length-j) [0] 0 ⟨rfl,rfl,xc,kX⟩ ze ?_;intro j hj;rcases yq j l.length with z9|ql
 · have hd:=Xp z9;obtain ⟨b,off,rfl,jk⟩:=hM.get z9;obtain ⟨z1,z3⟩:=hz l[j] (yD z9);have c1:=fun W=>af l[j] k W z1
   have s1:=ep (n:=3000) ze (l.take j) k gc (fun m hm=>(hz m (wB hm)).2) Kq;have s2:=Cj l[j] k z3;have c2:=fun W=>Dn (Jw (l.take j) k) (lq l[j] k) W s1 s2
   repeat' (first|((first|apply zA|apply Ze);(first|exact zj (j) zd zd ze ze|exact zZ _ zd jk _ zd|exact zm zd (fun W _=>c1 W)|exact zm zd (fun W _=>c2 W));rfl)|refine vw ?_)
   refine yL [0] (j+1) ⟨rfl,rfl,⟨?_,trivial⟩,kX⟩ ze ze;rw [Dg z9];rfl
 · have hd:=Xq ql;obtain rfl:j=l.length:=ze
   repeat' (refine vw ?_)
   show yH _ _ _ _;refine yH.one zd (xr zd zd _ zd ?_);rw [xk];rfl
end
section
open Go Go.RowKit
attribute [local irreducible] Calls
end
section
open Go Go.RowKit
attribute [local irreducible] Calls
def J9 (m:xi) (s:yW):List xi:=if (jD m s).2=true then [(jD m s).1] else []
def jR (l:List xi) (s:yW):List xi:=l.flatMap fun m=>J9 m s
theorem mM {l:List xi} {k:Nat} (h:k<l.length) (s:yW):jR (l.take (k+1)) s=jR (l.take k) s++J9 l[k] s:=by
 unfold jR;rw [vF h,JF];simp
theorem Nz (l:List xi) (s:yW):(jR l s).length<=l.length:=by
 unfold jR
 induction l with
 |nil=>simp
 |cons a l ih=>
  rw [j6,yK,xd];have:(J9 a s).length<=1:=by unfold J9;split<;>simp
  omega
theorem Kb (v:Value) (l:List xi) (s:yW) (w:World) (hl:WM w v l) (hz: ∀m∈l,m.key.size<=1000000) (hn:l.length<=1000000000):
 Calls zf 127 #[v,s.av] w (uV 200 6 (jR l s).length ((jR l s).flatMap zR) w):=by
 obtain ⟨A,c,rfl,vK,qD,_⟩:=id hl;have hM:=hl.KI;unfold maxLen at qD;refine aZ (args:= [.slice A l.length c,s.av]) (M:=Mem.of w) Tryz.func127 rfl Tryz.ntmps127 zd (zE) rfl ?_
 repeat' (refine vw ?_)
 refine iI 5 200 6 zd zd ?_;refine kU (fun k:Nat=>⟨Mem.of w,[.qZ 118 (s.av:Value).cells.toList, .row 200 6 (jR (l.take k) s).length ((jR (l.take k) s).flatMap zR)],[(3, .p 0 0),(5, .r 1),(10, .v (.slice A l.length c)),(11, .v (.int .i64 l.length)),(12, .v (.int .i64 k))]⟩) (fun k=>k<=l.length) (fun k=>l.length-k) [0,1] 0 ⟨rfl,rfl,j4,kX⟩ ze ?_;intro k hk;have y7:=Nz (l.take k) s;rw [yC] at y7;rcases yq k l.length with z9|ql
 · have hd:=Xp z9;obtain ⟨b,off,rfl,jk⟩:=hM.get z9;have c1:=fun W=>QK l[k] s W (hz l[k] (yD z9))
   cases ju:(jD l[k] s).2 with
   |false=>
    rw [ju] at c1;have e:jR (l.take (k+1)) s=jR (l.take k) s:=by rw [mM z9];unfold J9;rw [ju];simp
    repeat' (first|((apply zA);(first|exact zj (k) zd zd ze ze|exact zZ _ zd jk _ zd|exact zm zd (fun W _=>c1 W));rfl)|refine vw ?_)
    exact yL [0,1] (k+1) ⟨rfl,rfl,⟨rfl,by rw [e];rfl,trivial⟩,kX⟩ ze ze
   |true=>
    rw [ju] at c1;have e:jR (l.take (k+1)) s=jR (l.take k) s++ [(jD l[k] s).1]:=by rw [mM z9];unfold J9;rw [ju];rfl
    have e2:(jR (l.take (k+1)) s).flatMap zR=(jR (l.take k) s).flatMap zR++zR (jD l[k] s).1:=by rw [e];simp
    have e3:(jR (l.take (k+1)) s).length=(jR (l.take k) s).length+1:=by rw [e];simp
    repeat' (first|((apply zA);(first|exact zj (k) zd zd ze ze|exact zZ _ zd jk _ zd|exact zm zd (fun W _=>c1 W));rfl)|refine vw ?_)
    exact yL [0,5] (k+1) ⟨rfl,rfl,⟨rfl,by rw [e2,e3];rfl,trivial⟩,kX⟩ ze ze
 · have hd:=Xq ql;obtain rfl:k=l.length:=ze
   repeat' (refine vw ?_)
   rw [xk];exact .inl ⟨1,rfl,rfl⟩
end
section
open Go Go.RowKit
attribute [local irreducible] Calls
end
section
open Go Go.RowKit
attribute [local irreducible] Calls
end
section
open Go Go.RowKit
attribute [local irreducible] Calls
end
end Go.Proofs.YtaibdpjjojihmaaGreat
