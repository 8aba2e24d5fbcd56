/- A part of the proof of TopPrefix; no conditions. -/
import Derived.Test.YtaibdpjjojihmaaGreatPLt2
import Derived.Test.YtaibdpjjojihmaaGreatPDu
set_option linter.unusedVariables false
set_option linter.unusedSimpArgs false
set_option maxRecDepth 20000
set_option maxHeartbeats 4000000
namespace Go.Proofs.YtaibdpjjojihmaaGreat
section
open Go Go.RowKit
attribute [local irreducible] Calls
theorem j2.one {v:Value} {n:Nat} (h:j2 v n):v.oneCell'=true:=by
 rcases h with ⟨rfl,_⟩|⟨b,cap,rfl,_⟩<;>rfl
theorem j2.sl {v:Value} {n:Nat} (h:j2 v n): ∃A c,v= .slice A n c:=by
 rcases h with ⟨rfl,rfl⟩|⟨b,cap,rfl,_⟩
 · exact ⟨_,_,rfl⟩
 · exact ⟨_,_,rfl⟩
theorem UV {l:List Value} {i:Nat} {x:Value} (h:l[i]?=some x):l.set i x=l:=by
 apply AB;intro j;by_cases hj:i=j
 · subst hj;rw [wC (xI.1 h).1,h]
 · rw [Zb hj]
def aiV (M:Mem) (b n:Nat) (slot:Int) (yM:List Int) (jg:Int):Prop:= ∃g c,M.cell b 0=some (.slice (some ⟨g,0,none⟩) n c)/\ ∀k:Nat,slot=(k:Int)->k<n-> ∃u,M.cell g (0+k*2+0)=some u/\M.cell g (0+k*2+1)=some (.int .i64 jg)/\xt M 1 Fu u yM
def bW (slot:Int) (n:Nat):Bool:=decide (0<=slot)&&decide (slot<(n:Int))
theorem ec (b n:Nat) (zL slot:Int) (yM:List Int) (jg:Int) (w:World) (M:Mem) (hM:M.le (Mem.of w)) (h:aiV M b n slot yM jg) (sZ:Ht yM) (hn:n<=1000000) (D8:yM.length<=1000000):
 Calls zf 129 #[.pointer (some ⟨b,0,none⟩), .int .i64 zL, .int .i64 slot] w fun e w'=>e= .returned (.tuple #[.bool (bW slot n&&decide (zL∈yM)), .bool (bW slot n&&(decide (zL∈yM)&&(jg==2)))])/\Below w.heap.size w w':=by
 obtain ⟨g,c,hc,hk⟩:=h;have hnp:(some (⟨b,0,none⟩:Addr)).isNone=false:=rfl;unfold bW;by_cases h0:slot<0
 · have d0:decide (slot<0)=true:=yk h0;have e0:decide (0<=slot)=false:=z6 ze;refine zQ Tryz.func129 rfl Ab zd (hM) ?_
   repeat' (first|((apply zA);(exact yN zd zd uz);rfl)|refine vw ?_)
   rw [e0];exact kH
 have d0:decide (slot<0)=false:=z6 h0;have e0:decide (0<=slot)=true:=yk ze;rw [e0];by_cases h1:slot<(n:Int)
 · have d1:decide ((n:Int)<=slot)=false:=z6 ze;have e1:decide (slot<(n:Int))=true:=yk h1;rw [e1];obtain ⟨k,rfl⟩: ∃k:Nat,slot=(k:Int):=⟨slot.toNat,ze⟩;obtain ⟨u,hu,hh,hs⟩:=hk k rfl ze;have cB:=fun W (hW:M.le (Mem.of W))=>Xd u yM zL W (hs.xS hW) ze sZ
   have kn:k<n:=ze;cases hm:decide (zL∈yM) with
   |true=>
    rw [hm] at cB;refine zQ Tryz.func129 rfl Ab zd (hM) ?_
    repeat' (first|((first|apply zA|apply Ze);(first|exact yN zd zd uz|exact Uu zd|exact zY zd hc|exact zY zd hu|exact zY zd hh|exact zj k zd zd rfl kn|exact zm zd cB);rfl)|refine vw ?_)
    exact kH
   |false=>
    rw [hm] at cB;refine zQ Tryz.func129 rfl Ab zd (hM) ?_
    repeat' (first|((first|apply zA|apply Ze);(first|exact yN zd zd uz|exact Uu zd|exact zY zd hc|exact zY zd hu|exact zj k zd zd rfl kn|exact zm zd cB);rfl)|refine vw ?_)
    exact kH
 · have d1:decide ((n:Int)<=slot)=true:=yk ze;have e1:decide (slot<(n:Int))=false:=z6 h1;rw [e1];refine zQ Tryz.func129 rfl Ab zd (hM) ?_
   repeat' (first|((apply zA);(first|exact yN zd zd uz|exact Uu zd|exact zY zd hc);rfl)|refine vw ?_)
   exact kH
def gN (l:List Int) (k:Int):List Int:=l.take (lL l k)++k::l.drop (lL l k)
def Vy (zL:Int) (yM:List Int) (jg hw:Int):Int×List Int×Int:=
 if zL<0\/zL∈yM then (2,yM,jg) else if jg=2\/(hw=2/\jg≠0) then (7,yM,jg) else (0,gN yM zL,hw)
abbrev a9 (g n c:Nat):List Value:= [.slice (some ⟨g,0,none⟩) n c]
def wH (b g c n:Nat) (cs:List Value) (u:Value) (yM:List Int):List Ob:= [.zK (.pointer (some ⟨b,0,none⟩)) 180 (a9 g n c), .zC (.slice (some ⟨g,0,none⟩) n c) 259 2 n cs, .zC u 3 1 yM.length (ic yM)]
theorem sS (l:List Int) (k:Int):(gN l k).length=l.length+1:=by
 have:=PI l k;unfold gN;simp;omega
theorem adI (l:List Int) (k:Int):(ic l).take (lL l k)++ .int .i64 k::(ic l).drop (lL l k)=ic (gN l k):=by
 unfold ic gN;simp [eX,List.map_drop]
theorem lQ (b g c n k:Nat) (cs:List Value) (u:Value) (yM:List Int) (zL jg hw:Int) (M:Mem) (hk:k<n) (hn:n<=1000000) (hu:cs[k*2]?=some u) (hh:cs[k*2+1]?=some (.int .i64 jg)) (kW:cs.length=n*2) (sZ:Ht yM) (D8:yM.length<=1000000) (AX:j2 u yM.length):
 uC zf 150 [.pointer (some ⟨b,0,none⟩), .int .i64 zL, .int .i64 k, .int .i64 hw] M (wH b g c n cs u yM)
  (fun v zw=>v= .int .i64 (Vy zL yM jg hw).1/\ ∃u',j2 u' (Vy zL yM jg hw).2.1.length/\zw=wH b g c n ((cs.set (k*2) u').set (k*2+1) (.int .i64 (Vy zL yM jg hw).2.2)) u' (Vy zL yM jg hw).2.1):=by
 refine AD Tryz.func150 rfl Tryz.ntmps150 zd (fun w M0=>?_);have hnp:(some (⟨b,0,none⟩:Addr)).isNone=false:=rfl;have d0:decide ((k:Int)<0)=false:=z6 ze;have d1:decide ((n:Int)<=(k:Int))=false:=z6 ze;have pY:(cs.set (k*2) u).set (k*2+1) (.int .i64 jg)=cs:=by rw [UV hu,UV hh]
 have cB: ∀(hd:Nat->Value) (W:World),(∀i o,(wH b g c n cs u yM)[i]?=some o->wR w.heap.size W (hd i) o)->Calls zf 149 #[u, .int .i64 zL] W fun e W'=>e= .returned (.tuple #[.int .i64 (lL yM zL:Nat), .bool (decide (zL∈yM))])/\Below W.heap.size W W':=fun hd W hO=>by
  obtain ⟨h1,h2⟩:=hO 2 _ rfl;rw [h1] at h2;exact Xd u yM zL W (CN h2) ze sZ
 have KK:cs[0+k*2+0]?=some u:=by rw [show 0+k*2+0=k*2 by omega];exact hu
 have hh':cs[0+k*2+1]?=some (.int .i64 jg):=by rw [show 0+k*2+1=k*2+1 by omega];exact hh
 by_cases ht:zL<0
 · have d2:decide (zL<0)=true:=yk ht;have hr:Vy zL yM jg hw=(2,yM,jg):=by unfold Vy;rw [zo (.inl ht)]
   rw [hr];unfold wH
   repeat' (first|((apply zA);(exact yN zd zd uz);rfl)|refine vw ?_)
   exact ⟨_,[0,1,2],wH b g c n cs u yM,zP,zE,rfl,ka,rfl,u,AX,by rw [pY];rfl⟩
 have d2:decide (zL<0)=false:=z6 ht;by_cases hm:zL∈yM
 · have hr:Vy zL yM jg hw=(2,yM,jg):=by unfold Vy;rw [zo (.inr hm)]
   rw [yk hm] at cB;rw [hr];unfold wH at cB⊢
   repeat' (first|((apply zA);(first|exact yN zd zd uz|exact Uu zd|exact yp 0 zd zd zd zd|exact yp 1 zd zd zd KK|exact zj k zd zd rfl hk|(refine uj (r:= .tuple #[.int .i64 (lL yM zL:Nat), .bool true]) zd ?_;exact fun hd W hO hW=>cB hd W hO));rfl)|refine vw ?_)
   exact ⟨_,[0,1,2],wH b g c n cs u yM,zP,zE,rfl,ka,rfl,u,AX,by rw [pY];rfl⟩
 rw [z6 hm] at cB;by_cases h2:jg=2
 · have q1:(jg==2)=true:=beq_iff_eq.2 h2;have hr:Vy zL yM jg hw=(7,yM,jg):=by unfold Vy;rw [zn (by simp [ht,hm]),zo (.inl h2)]
   rw [hr];unfold wH at cB⊢
   repeat' (first|((apply zA);(first|exact yN zd zd uz|exact Uu zd|exact yp 0 zd zd zd zd|exact yp 1 zd zd zd KK|exact yp 1 zd zd zd hh'|exact zj k zd zd rfl hk|(refine uj (r:= .tuple #[.int .i64 (lL yM zL:Nat), .bool false]) zd ?_;exact fun hd W hO hW=>cB hd W hO));rfl)|refine vw ?_)
   exact ⟨_,[0,1,2],wH b g c n cs u yM,zP,zE,rfl,ka,rfl,u,AX,by rw [pY];rfl⟩
 have q1:(jg==2)=false:=beq_eq_false_iff_ne.2 h2;by_cases h3:hw=2/\jg≠0
 · have q2:(hw==2)=true:=beq_iff_eq.2 h3.1;have q3:(jg !=0)=true:=bne_iff_ne.2 h3.2;have hr:Vy zL yM jg hw=(7,yM,jg):=by unfold Vy;rw [zn (by simp [ht,hm]),zo (.inr h3)]
   rw [hr];unfold wH at cB⊢
   repeat' (first|((apply zA);(first|exact yN zd zd uz|exact Uu zd|exact yp 0 zd zd zd zd|exact yp 1 zd zd zd KK|exact yp 1 zd zd zd hh'|exact zj k zd zd rfl hk|(refine uj (r:= .tuple #[.int .i64 (lL yM zL:Nat), .bool false]) zd ?_;exact fun hd W hO hW=>cB hd W hO));rfl)|refine vw ?_)
   exact ⟨_,[0,1,2],wH b g c n cs u yM,zP,zE,rfl,ka,rfl,u,AX,by rw [pY];rfl⟩
 have hr:Vy zL yM jg hw=(0,gN yM zL,hw):=by unfold Vy;rw [zn (by simp [ht,hm]),zn (by simp only [not_or];exact ⟨h2,h3⟩)]
 rw [hr];have kg:=sS yM zL;have hii:=adI yM zL;have FR:=PI yM zL;by_cases h4:hw=2
 · have h5:jg=0:=by
    rcases t6 (jg=0) with h|h
    · exact h
    · exact absurd ⟨h4,h⟩ h3
   have q2:(hw==2)=true:=beq_iff_eq.2 h4;have q3:(jg !=0)=false:=by rw [h5];rfl
   unfold wH at cB⊢
   repeat' (first|((apply zA);(first|exact yN zd zd uz|exact Uu zd|exact yp 0 zd zd zd zd|exact yp 1 zd zd zd KK|exact yp 1 zd zd zd hh'|exact zj k zd zd rfl hk|(refine uj (r:= .tuple #[.int .i64 (lL yM zL:Nat), .bool false]) zd ?_;exact fun hd W hO hW=>cB hd W hO));rfl)|refine vw ?_)
   refine Yt 3 zd (fun lv hlv=>?_);refine yS (zO:= [.zC u 3 1 yM.length (ic yM), .zC lv 3 1 1 [.int .i64 zL]]) [2,3] zd zd j4 (fun M' _=>aca u lv (.int .i64 zL) (lL yM zL) yM.length (ic yM) M' FR D8 rfl (P0 yM)) zd zd ?_;rintro v _ ⟨hv,rfl⟩
   repeat' (first|refine Xl _ _ (Xn (Qr 1 zd zd zd zd (by (try simp only [xj]);omega) (by first|exact hv.one|rfl)) zd) zd zd ?_|((apply zA);(exact Uu zd);rfl)|refine vw ?_)
   refine ⟨_,[0,1,4],wH b g c n ((cs.set (k*2) v).set (k*2+1) (.int .i64 hw)) v (gN yM zL),zP,zE,rfl,⟨rfl,?_,?_,trivial⟩,rfl,v,by rw [kg];exact hv,rfl⟩
   · show some (Ob.zC _ _ 2 n ((cs.set (0+k*2+0) v).set (0+k*2+1) _))=_;rw [show 0+k*2+0=k*2 by omega,show 0+k*2+1=k*2+1 by omega]
   · show some (Ob.zC v _ 1 (yM.length+1) _)=_;rw [hii,<-kg]
 · have q2:(hw==2)=false:=beq_eq_false_iff_ne.2 h4;unfold wH at cB⊢
   repeat' (first|((apply zA);(first|exact yN zd zd uz|exact Uu zd|exact yp 0 zd zd zd zd|exact yp 1 zd zd zd KK|exact yp 1 zd zd zd hh'|exact zj k zd zd rfl hk|(refine uj (r:= .tuple #[.int .i64 (lL yM zL:Nat), .bool false]) zd ?_;exact fun hd W hO hW=>cB hd W hO));rfl)|refine vw ?_)
   refine Yt 3 zd (fun lv hlv=>?_);refine yS (zO:= [.zC u 3 1 yM.length (ic yM), .zC lv 3 1 1 [.int .i64 zL]]) [2,3] zd zd j4 (fun M' _=>aca u lv (.int .i64 zL) (lL yM zL) yM.length (ic yM) M' FR D8 rfl (P0 yM)) zd zd ?_;rintro v _ ⟨hv,rfl⟩
   repeat' (first|refine Xl _ _ (Xn (Qr 1 zd zd zd zd (by (try simp only [xj]);omega) (by first|exact hv.one|rfl)) zd) zd zd ?_|((apply zA);(exact Uu zd);rfl)|refine vw ?_)
   refine ⟨_,[0,1,4],wH b g c n ((cs.set (k*2) v).set (k*2+1) (.int .i64 hw)) v (gN yM zL),zP,zE,rfl,⟨rfl,?_,?_,trivial⟩,rfl,v,by rw [kg];exact hv,rfl⟩
   · show some (Ob.zC _ _ 2 n ((cs.set (0+k*2+0) v).set (0+k*2+1) _))=_;rw [show 0+k*2+0=k*2 by omega,show 0+k*2+1=k*2+1 by omega]
   · show some (Ob.zC v _ 1 (yM.length+1) _)=_;rw [hii,<-kg]
end
section
open Go Go.RowKit
attribute [local irreducible] Calls
class abP (a b:List Value) (c:outParam (List Value)):Prop where
 h:a++b=c
instance (b:List Value):abP [] b b:=⟨rfl⟩
instance (x:Value) (a b c:List Value) [i:abP a b c]:abP (x::a) b (x::c):=⟨by rw [wQ,i.h]⟩
class FlC (vs:List Value) (us:outParam (List Value)):Prop where
 h:(vs.flatMap fun v=>v.cells.toList)=us
instance:FlC [] []:=⟨rfl⟩
instance (v:Value) (vs a b c:List Value) [i:Le v a] [j:FlC vs b] [k:abP a b c]:FlC (v::vs) c:=⟨by rw [j6,i.h,j.h,k.h]⟩
class afl (o:Ob) (us:outParam (List Value)):Prop where
 h:o.cells=us
instance (u:Value) (e:TypeId) (k n:Nat) (cs:List Value):afl (.zC u e k n cs) cs:=⟨rfl⟩
class gZ (own U:List Ob):Prop where
 h:ji own U
instance (own U G:List Ob) [t:uu own U G]:gZ own U:=⟨t.KJ⟩
section
variable {P:Program} {w:World} {M0:Mem} {N:Nat} {M:Mem} {own zw U:List Ob} {env:Env} {dst:Option Tmp} {ty:TypeId} {pos:String} {z7:Array Edge} {l:List Oper} {Q:St->Prop} {n i:Nat} {xz ks:List Nat}
theorem XU.ew {ops:Array Oper} {o:Oper} {s:St} {zw:List Ob} {v:Value} (h:EW P w M0 N ops o s zw (.v v)):XU P w M0 N ops o s Unit (fun _=>s.M) (fun _=>zw) (fun _=>v):=⟨fun hd a W hR=>Np (h.go hd a W hR) fun u W' ⟨yE,_,h2,h3⟩=>⟨(),yE,h2,h3⟩⟩
theorem XU.ex {ops:Array Oper} {o:Oper} {s:St} {ι:Type} {M':ι->Mem} {zw:ι->List Ob} {v:ι->Value} (h:EX P w M0 N ops o s ι M' zw (fun x=> .v (v x))):XU P w M0 N ops o s ι M' zw v:=⟨fun hd a W hR=>Np (h.go hd a W hR) fun u W' ⟨x,yE,_,h2,h3⟩=>⟨x,yE,h2,h3⟩⟩
theorem XU.q {ops:Array Oper} {o:Oper} {v:Value} (h:QW P w M0 N ops o ⟨M,own,env⟩ (.v v)):XU P w M0 N ops o ⟨M,own,env⟩ Unit (fun _=>M) (fun _=>own) (fun _=>v):=⟨fun hd a W hR=>by
 have h1:=h.go hd a W hR;split
 · rename_i hw
   rw [zo hw] at h1;exact (Cb h1).mono fun u W' ⟨e,hb⟩=>⟨(),hd,hR.1.idle hb,e⟩
 · rename_i hw
   rw [zn hw] at h1;exact ⟨(),hd,hR.1,h1.symm⟩⟩
theorem KU {o:Ob} (h:ji own U):ji (o::own) U:=by
 obtain ⟨G,hG⟩:=h;exact ⟨o::G,(hG.cons _).trans aU.symm⟩
theorem XU.KJ {ops:Array Oper} {o:Oper} {s:St} {ι:Type} {M':ι->Mem} {zw ll:ι->List Ob} {v:ι->Value} (h:XU P w M0 N ops o s ι M' zw v) (hs: ∀x,ji (zw x) (ll x)):XU P w M0 N ops o s ι M' ll v:=⟨fun hd a W hR=>Np (h.go hd a W hR) fun u W' ⟨x,yE,h2,h3⟩=>(h2.KJ (hs x)).elim fun uN h4=>⟨x,uN,h4,h3⟩⟩
inductive Chg where
 |v (x:Value)
 |l (X:List Ob)
class Hf (own:List Ob) (b:Value) (zw:outParam (List Ob)):Prop where
 h: ∃o,own.Perm (o::zw)
instance (priority:=high) (u:Value) (t:TypeId) (cs:List Value) (l:List Ob):Hf (.zK u t cs::l) u l:=⟨_, .refl _⟩
instance (priority:=high) (u:Value) (e:TypeId) (k m:Nat) (cs:List Value) (l:List Ob):Hf (.zC u e k m cs::l) u l:=⟨_, .refl _⟩
instance (p:Ob) (b:Value) (l l':List Ob) [i:Hf l b l']:Hf (p::l) b (p::l'):=⟨by obtain ⟨o,h⟩:=i.h;exact ⟨o,(h.cons p).trans (.swap ..)⟩⟩
instance (X:List Ob) (b:Value) (l l':List Ob) [i:Hf l b l']:Hf (X++l) b (X++l'):=⟨by obtain ⟨o,h⟩:=i.h;exact ⟨o,(h.append_left X).trans aU⟩⟩
class rX (own:List Ob) (bs:List Chg) (U:outParam (List Ob)):Prop where
 h: ∃C,own.Perm (C++U)
instance (own:List Ob):rX own [] own:=⟨[], .refl _⟩
instance (own zw U:List Ob) (b:Value) (bs:List Chg) [i:Hf own b zw] [j:rX zw bs U]:rX own (.v b::bs) U:=⟨by
 obtain ⟨o,h1⟩:=i.h;obtain ⟨C,h2⟩:=j.h;exact ⟨o::C,h1.trans (h2.cons o)⟩⟩
instance (own zw U X:List Ob) (bs:List Chg) [i:fB own X zw] [j:rX zw bs U]:rX own (.l X::bs) U:=⟨by
 obtain ⟨C,h2⟩:=j.h;exact ⟨X++C,i.h.trans (by rw [xY];exact h2.append_left X)⟩⟩
class xK (v:Value):Prop where
 h:v.oneCell'=true
instance (k:IntKind) (n:Int):xK (.int k n):=⟨rfl⟩
instance (s:ByteArray):xK (.string s):=⟨rfl⟩
instance (b:Bool):xK (.bool b):=⟨rfl⟩
instance (a:Option Addr):xK (.pointer a):=⟨rfl⟩
instance (a:Option Addr) (n c:Nat):xK (.slice a n c):=⟨rfl⟩
instance (f:Fn) (a b:Array Value):xK (.func f a b):=⟨rfl⟩
instance (a:Option Nat):xK (.map a):=⟨rfl⟩
class Hj (us:List Value):Prop where
 h:us.all (·.oneCell')=true
instance:Hj []:=⟨rfl⟩
instance (v:Value) (us:List Value) [a:xK v] [b:Hj us]:Hj (v::us):=⟨by rw [aS,a.h,b.h];rfl⟩
theorem xt.yf {α:Type} {M:Mem} {k:Nat} {cells:α->List Value} {v:Value} {l:List α} (h:xt M k cells v l):xK v:=⟨WZ h⟩
theorem j2.yf {v:Value} {n:Nat} (h:j2 v n):xK v:=⟨h.one⟩
theorem knM {t:TypeId} {x y:Operand} {b off n:Nat} {us:List Value} {ops:Array Oper} {l:List Oper} {Q:zX} [ht:jJ P t n] (h:VL P w M0 N ops l ⟨M,zw,env.put dst (.v undef)⟩ Q) (hx:env.op x=some (.v (.pointer (some ⟨b,off,none⟩))):=by rfl) (hy:env.op y=some (.v (.agg us.toArray)):=by rfl) [hu:Hj us] (hn:Kd own b off us zw:=by infer_instance) (hz:us.length=n:=by rfl) (hk:yi N dst=true:=by rfl) (zV:yR env 0=true:=by rfl):
 VL P w M0 N ops (⟨dst, .store t x y,ty,pos,z7,none⟩::l) ⟨M,own,env⟩ Q:=AE (us:=us) h hx hy rfl hn hu.h (by rw [hz];exact ht.h) hk zV
theorem knO {t:TypeId} {x y:Operand} {b off:Nat} {u:Value} {ops:Array Oper} {l:List Oper} {Q:zX} [ht:jJ P t 1] (h:VL P w M0 N ops l ⟨M,zw,env.put dst (.v undef)⟩ Q) (hx:env.op x=some (.v (.pointer (some ⟨b,off,none⟩))):=by rfl) (hy:env.op y=some (.v u):=by rfl) [hu:xK u] (hn:Kd own b off [u] zw:=by infer_instance) (hk:yi N dst=true:=by rfl) (zV:yR env 0=true:=by rfl):
 VL P w M0 N ops (⟨dst, .store t x y,ty,pos,z7,none⟩::l) ⟨M,own,env⟩ Q:=AE h hx hy (VI hu.h) hn (by simp [hu.h]) ht.h hk zV
theorem aic {g:Option (Nat×Bool)} {t:TypeId} {x y:Operand} {b off n:Nat} {us:List Value} [ht:jJ P t n] (hx:env.op x=some (.v (.pointer (some ⟨b,off,none⟩)))) (hy:env.op y=some (.v (.agg us.toArray)):=by rfl) [hu:Hj us] (hn:Kd own b off us zw:=by infer_instance) (hz:us.length=n:=by rfl):EF P w M0 N ⟨dst, .store t x y,ty,pos,z7,g⟩ ⟨M,own,env⟩ zw (.v undef):=RE hx hy hu.h hn hz
theorem aib {g:Option (Nat×Bool)} {t:TypeId} {x y:Operand} {b off:Nat} {u:Value} [ht:jJ P t 1] (hx:env.op x=some (.v (.pointer (some ⟨b,off,none⟩)))) (hy:env.op y=some (.v u):=by rfl) [hu:xK u] (hn:Kd own b off [u] zw:=by infer_instance):EF P w M0 N ⟨dst, .store t x y,ty,pos,z7,g⟩ ⟨M,own,env⟩ zw (.v undef):=aev hx hy hu.h hn
class abM (l:List Value) (i:Nat) (v:outParam Value):Prop where
 h:l[i]?=some v
instance (v:Value) (l:List Value):abM (v::l) 0 v:=⟨rfl⟩
instance (v u:Value) (l:List Value) (i:Nat) [h:abM l i v]:abM (u::l) (i+1) v:=⟨h.h⟩
theorem qxt {g:Option (Nat×Bool)} {x:Operand} {s:St} {k:Nat} {l:List Value} {v:Value} (hx:s.env.op x=some (.v (.tuple l.toArray))) [h:abM l k v]:QS P w M0 N ⟨dst, .extract x k,ty,pos,z7,g⟩ s (.v v):=xH fun hd a W hR=>by
 have h1:=hR.2.eval hx;simp only [SV.den] at h1;have h2:=h.h;simp [execOp,h1,Instr.extract,SV.den,h2]
class ZL (zs:Array Value) (l:outParam (List Value)):Prop where
 h:zs.toList=l
instance (l:List Value):ZL l.toArray l:=⟨rfl⟩
class abG (cs:List Value) (ps:List (Nat×Value)) (us:outParam (List Value)):Prop where
 h:Jd cs ps=us
instance (cs:List Value):abG cs [] cs:=⟨rfl⟩
instance (cs Zn us:List Value) (i:Nat) (v:Value) (ps:List (Nat×Value)) [a:DN cs i [v] Zn] [b:abG Zn ps us]:abG cs ((i,v)::ps) us:=⟨by
 have h:=a.h.2;rw [LX] at h;unfold Jd;rw [<-h];exact b.h⟩
class PsO (ps:List (Nat×Value)):Prop where
 h: ∀p∈ps,p.2.oneCell'=true
instance:PsO []:=⟨fun p hp=>by cases hp⟩
instance (i:Nat) (v:Value) (ps:List (Nat×Value)) [a:xK v] [b:PsO ps]:PsO ((i,v)::ps):=⟨fun p hp=>by rcases jm.1 hp with rfl|hp<;>first|exact a.h|exact b.h p hp⟩
theorem qbz {g:Option (Nat×Bool)} {s:St} {t:TypeId} {parts:Array (Nat×Operand)} {zs:Array Value} {zl us:List Value} {ps:List (Nat×Value)} (hp:s.env.parts parts.toList=some ps) [hz:kM P t (.agg zs)] [K3:ZL zs zl] {n:Nat} [hft:JN P t n] [hsp:abG zl ps us] [ho:PsO ps] (hn:zl.length=n:=by rfl) (h1:(ps.all fun p=>Nat.blt p.1 n)=true:=by rfl):QS P w M0 N ⟨dst, .build t parts,ty,pos,z7,g⟩ s (.v (.agg us.toArray)):=by
 have h:=DQ (P:=P) (w:=w) (M0:=M0) (N:=N) (dst:=dst) (ty:=ty) (pos:=pos) (z7:=z7) (g:=g) (s:=s) (t:=t) (parts:=parts) (zs:=zs) n (by rw [K3.h];exact hn) hp (yw.2 fun p MK=>by rw [yF];exact ⟨yw.1 h1 p MK,ho.h p MK⟩);rw [K3.h,hsp.h] at h;exact h
end
section
variable {w:World} {M0:Mem} {N:Nat}
theorem OY {o:Oper} {s:St} {r:SV} (h:QS zf w M0 N o s r:=by first|exact qmv zd|exact qas zd|exact Uu zd|exact qm0 zd|exact qmf zd|exact qnl zd|exact qnN zd|exact qfd zd|exact hY zd|exact qbz rfl|exact qbd zd|exact qno zd|exact qxt zd|exact qex zd|exact qln zd|exact qls zd|exact qpt zd|exact qpf zd|exact qcp zd|exact qbe zd|exact qbn zd|exact qsn zd|exact qad zd|exact qsa zd|exact qsu zd|exact qpz zd|exact qpy zd|exact qbk zd|exact qmi zd|exact qta zd|exact yN zd zd (by first|exact AS|exact Bq_eql_Span|exact Bq_neq_Span|exact Bq_eql_Eff|exact Bq_neq_Eff|exact Bq_eql_Msg|exact Bq_neq_Msg|exact Bq_eql_Pair|exact gF|exact rZ|exact rY|exact Bq_eql_Cfg|exact Bq_neq_Cfg)):QS zf w M0 N o s r:=h
end
end
section
open Go Go.RowKit
section
variable {P:Program} {w:World} {M0:Mem} {N:Nat}
def Kp (e2:List Nat) (own U:List Ob) (xz:List Nat):List Ob:=if (e2.all fun e=>xz.contains e)=true then own else U
theorem adA {e2:List Nat} {own U:List Ob} {xz:List Nat} (h:ji own U):ji own (Kp e2 own U xz):=by
 unfold Kp;split
 · exact ji.refl _
 · exact h
def Tc (d:Nat) (l:List Oper) (e2:List Nat) (own U:List Ob) (i:Nat):List Ob:=if (e2.all fun e=>Be l d e i)=true then own else U
def Ov (P:Program) (w:World) (M0:Mem) (N:Nat) (ops:Array Oper) (ow:Nat->List Ob):Nat->List g7->Mem->Env->(Env->Prop)->Prop
 |_,[],_,env,K=>K env
 |k,(true,_)::L,M,env,K=>Ov P w M0 N ops ow (k+1) L M env K
 |k,(false,o)::L,M,env,K=> ∃v,QW P w M0 N ops o ⟨M,ow k,env⟩ (.v v)/\yi N o.dst=true/\Ov P w M0 N ops ow (k+1) L M (env.put o.dst (.v v)) K
theorem se {ops:Array Oper} {ow:Nat->List Ob} {M:Mem} {K:Env->Prop}: ∀(L:List g7) (k:Nat) (env:Env),yR env 0=true->Ov P w M0 N ops ow k L M env K->
 ∃vs:List SV,vs.length=L.length/\(∀(i:Nat) (o:Oper) (sv:SV),L[i]?=some (false,o)->vs[i]?=some sv->QW P w M0 N ops o ⟨M,ow (k+i),ZW false env (L.take i) (vs.take i)⟩ sv/\yi N o.dst=true/\(∃x,sv= .v x)/\yR (ZW false env (L.take i) (vs.take i)) 0=true)/\yR (ZW false env L vs) 0=true/\K (ZW false env L vs)
 | [],k,env,he,h=>⟨[],rfl,fun i o sv hi=>by simp at hi,he,h⟩
 |(true,o)::L,k,env,he,h=>by
  obtain ⟨vs,h1,h2,h3,h4⟩:=se L (k+1) env he h;refine ⟨.v undef::vs,by simp [h1],fun i p sv hi hv=>?_,by unfold ZW;exact h3,by unfold ZW;exact h4⟩;cases i with
  |zero=>simp at hi
  |succ i=>
   have:=h2 i p sv (by simpa using hi) (by simpa using hv);rw [show k+1+i=k+(i+1) by omega] at this;simp only [YE];unfold ZW;exact this
 |(false,o)::L,k,env,he,h=>by
  obtain ⟨v,q1,q2,q3⟩:=h;have he':yR (env.put o.dst (.v v)) 0=true:=kS he;obtain ⟨vs,h1,h2,h3,h4⟩:=se L (k+1) _ he' q3;refine ⟨.v v::vs,by simp [h1],fun i p sv hi hv=>?_,by unfold ZW;exact h3,by unfold ZW;exact h4⟩;cases i with
  |zero=>
   simp at hi hv;subst hi hv;exact ⟨q1,q2,⟨v,rfl⟩,he⟩
  |succ i=>
   have:=h2 i p sv (by simpa using hi) (by simpa using hv);rw [show k+1+i=k+(i+1) by omega] at this;simp only [YE];unfold ZW;exact this
def gA (P:Program) (w:World) (M0:Mem) (N:Nat) (xJ U:List Ob) (e2:List Nat) (l:List Oper):Nat->List Nat->St->(St->Prop)->Prop
 |0,xz,s,Q=>xz= []->Q s
 |n+1,xz,s,Q=>(xz= []->Q s)/\ ∀i∈xz.filter (TQ l xz),∀o,l[i]?=some o-> ∃(ι:Type) (M':ι->Mem) (zw:ι->List Ob) (v:ι->Value),XU P w M0 N l.toArray o s ι M' zw v/\yi N o.dst=true/\ ∀x,s.M.le (M' x)/\ji (zw x) (Kp e2 xJ U (xz.erase i))/\gA P w M0 N xJ U e2 l n (xz.erase i) ⟨M' x,zw x,s.env.put o.dst (.v (v x))⟩ Q
theorem gA.fin {xJ U:List Ob} {e2:List Nat} {l:List Oper} {s:St} {Q:St->Prop}: ∀ {n:Nat},gA P w M0 N xJ U e2 l n [] s Q->Q s
 |0,h=>h rfl
 |n+1,h=>h.1 rfl
theorem SI {id:Nat} {l:List Oper} {M:Mem} {own C U:List Ob} {env:Env} {Q:zX} (d:Nat) (L:List g7) (es e2:List Nat) [hm:Oa P] (ht:uu own C U) (hn:jI own) (hLm:L.map (·.2)=l) (hB:efB l L=true) (oW:Qe 0 L=es) (p7:(e2.all fun e=>es.contains e)=true) (zV:yR env 0=true)
 (hV:Ov P w M0 N l.toArray (Tc d l e2 own U) 0 L M env (fun tB=>gA P w M0 N own U e2 l l.length es ⟨M,own,tB⟩ (fun s=>Q .normal s))):
 VC P w M0 N (.region id l.toArray true) ⟨M,own,env⟩ Q:= .mk fun hdA a0 W0 Bc=>by
 have hU:ji own U:=⟨C,ht.h.trans uQ⟩;let Xo:=hdA;have ah0:Fr N Xo env a0:=Bc.2;obtain ⟨vs,P2,hq,cd,hE⟩:=se L 0 env zV hV;simp only [xu] at hq
 have oY: ∀fo∈L,fo.1=false->yi N fo.2.dst=true:=fun fo FX hf=>by
  obtain ⟨i,hi⟩:=rM FX;obtain ⟨f,o⟩:=fo;have C0:f=false:=hf;subst C0;have kg:=(xI.1 hi).1;exact (hq i o vs[i] hi (by simp [P2,kg])).2.1
 have hFq:Fr N Xo (ZW false env L vs) (U9 false Xo a0 L vs):=ml L vs env a0 oY ah0
 refine rq (N:=N) (Xo:=Xo) (σ:=(Nat->Value)×St) (fun xz s W=>Wd w M0 s.1 s.2.M s.2.own W/\M.le s.2.M/\ji s.2.own (Kp e2 own U xz)) (fun s b=>Fr N s.1 s.2.env b/\yR s.2.env 0=true)
  (fun n xz s=>gA P w M0 N own U e2 l n xz s.2 (fun s=>Q .normal s)) hLm hB oW P2 oY Bc.2.size Bc.2.defers (fun s a b h ht hs hd=>⟨h.1.congr ht hs hd,h.2⟩) (fun xz s W W' h hb=>⟨h.1.idle hb,h.2⟩) ?_ ?_
  (fun n s W a hR hF hV=>⟨s.1,s.2,⟨hR.1,hF.1⟩,gA.fin hV⟩) (s0:=(hdA,⟨M,own,ZW false env L vs⟩)) ⟨Bc.1,zE,adA hU⟩ ⟨hFq,cd⟩ hE
 · rintro i o v xz ⟨hd,Mx,x,aa5⟩ W gV hv ⟨Zl,hMx,Bb⟩ Ih;obtain ⟨hQS,hdo,⟨y,rfl⟩,hvi⟩:=hq i o v gV hv
   have agZ:ji x (Tc d l e2 own U i):=by
    unfold Tc;split
    · rename_i hE2
      have hK:Kp e2 own U xz=own:=by
       unfold Kp;rw [zo (yw.2 fun e he=>?_)];rw [IY];have ahH:e∈es:=by rw [<-IY];exact yw.1 p7 e he
       rw [<-oW,de] at ahH;obtain ⟨oe,_,hoe⟩:=ahH;exact Ih d e oe hoe (yw.1 hE2 e he)
      exact hK▸Bb
    · refine Bb.trans ?_;unfold Kp;split
      · exact hU
      · exact ji.refl _
   obtain ⟨hdz,hWz⟩:=Zl.KJ agZ;exact hQS.go hdz _ W ⟨hWz.forget hMx Bc.1.YW Bc.1.wS,(ml (k:=false) (hd:=Xo) (L.take i) (vs.take i) env a0 (fun fo FX=>oY fo (wB FX)) ah0).any hvi hdz⟩
 · rintro i o n xz ⟨hd,Mx,x,aa5⟩ W b hrd ho ⟨Zl,hMx,Bb⟩ ⟨Is,hvE⟩ Ot;obtain ⟨ι,Mf,T9,uf,hEW,FT,Ot⟩:=Ot.2 i hrd o ho;refine ⟨FT,Np (hEW.go hd b W ⟨Zl,Is⟩) ?_⟩;rintro z W' ⟨xx,yE,aem,rfl⟩;obtain ⟨zD,hgo,aeo⟩:=Ot xx;exact ⟨(yE,⟨Mf xx,T9 xx,aa5.put o.dst (.v (uf xx))⟩),⟨aem,hMx.trans zD,hgo⟩,⟨(Is.any hvE yE).put (dst:=o.dst) FT (.v (uf xx)),kS hvE⟩,aeo⟩
end
end
end Go.Proofs.YtaibdpjjojihmaaGreat
