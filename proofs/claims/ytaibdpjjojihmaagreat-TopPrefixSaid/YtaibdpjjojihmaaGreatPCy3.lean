/- A part of the proof of TopPrefix; no conditions. -/
import Derived.Defers
import Derived.Test.YtaibdpjjojihmaaGreatPKn5
set_option linter.unusedVariables false
set_option linter.unusedSimpArgs false
set_option maxRecDepth 20000
set_option maxHeartbeats 4000000
namespace Go.Proofs.YtaibdpjjojihmaaGreat
section
open Go Go.RowKit
inductive CyN where
 |take
 |choose
 |reach
 |act
structure Yx where
 th:Int
 at_:Int
 Uw:Int
 i:Int
 cur:ByteArray
 nx:CyN
 Qx:Int
 fin:ByteArray
 e:Int
 done:Bool
def WI (th:Int) (cur:ByteArray) (nx:CyN):Yx:=⟨th,0,0,0,cur,nx,0,em,0,false⟩
def JA (p:jf):jf:= {p with wa:=(bq p.q:Nat),ch:=p.ch+1}
def Km (p:jf) (y:Yx):jf×Yx×Bool:=
 if (kC p.T y.th y.at_ true).2=true then ({p with T:=(kC p.T y.th y.at_ true).1},{y with nx:= .choose},true) else ({p with T:=(kC p.T y.th y.at_ true).1},y,false)
def Y8 (p:jf) (y:Yx):jf×Yx×Bool:=
 if (kC p.T y.th y.Uw true).2=true then ({p with T:=(kC p.T y.th y.Uw true).1},{y with nx:= .act},true) else ({p with T:=(kC p.T y.th y.Uw true).1},y,false)
def wL (p:jf) (y:Yx) (e:Int):jf×Yx:=({p with T:=Qf p.T y.th},{y with e:=e,done:=true})
def Vd (p:jf) (y:Yx):jf×Yx:=(JA p,{y with Qx:=y.Qx+1})
def Yg (p:jf) (y:Yx):jf×Yx:=
 if (Yi p.q.c (p.q.get y.at_) y.cur).1=1 then (if KZ p.q=0 then Vd {p with q:=(U1 p.q).1} y else wL {p with q:=(U1 p.q).1} y (KZ p.q))
 else if (Yi p.q.c (p.q.get y.at_) y.cur).1=2 then (p,{y with i:=((Yi p.q.c (p.q.get y.at_) y.cur).2:Nat),Uw:=(p.q.get y.at_).ks.getD (Yi p.q.c (p.q.get y.at_) y.cur).2 0,nx:= .reach})
 else wL p y 0
def ru (p:jf) (y:Yx):jf×Yx:=({JA p with T:=V7 p.T y.th y.Uw},{y with Qx:=y.Qx+1})
def Uq (p:jf) (y:Yx):jf×Yx:=
 if VY p.q.c (p.q.get y.at_) (p.q.get y.Uw) y.i=3 then
  (if bN p.q y.at_ y.i=0 then ru {p with q:=(lj p.q y.at_ y.i).1} {y with fin:=(p.q.get y.Uw).high,nx:= .choose} else wL {p with q:=(lj p.q y.at_ y.i).1} {y with fin:=(p.q.get y.Uw).high,nx:= .choose} (bN p.q y.at_ y.i))
 else if VY p.q.c (p.q.get y.at_) (p.q.get y.Uw) y.i=4 then
  ru {p with q:=(p.q.set (Ww p.q.c (p.q.get y.at_) (p.q.get y.Uw) y.i).1).set (Ww p.q.c (p.q.get y.at_) (p.q.get y.Uw) y.i).2.1} {y with fin:=(p.q.get y.Uw).high,nx:= .choose}
 else if VY p.q.c (p.q.get y.at_) (p.q.get y.Uw) y.i=5 then ({p with T:=V7 p.T y.th y.at_},{y with fin:=(p.q.get y.Uw).high,nx:= .choose,at_:=y.Uw})
 else wL p {y with fin:=(p.q.get y.Uw).high,nx:= .choose} 0
def RJ (p:jf) (y:Yx):jf×Yx×Bool:=match y.nx with
 | .take=>Km p y
 | .choose=>((Yg p y).1,(Yg p y).2,true)
 | .reach=>Y8 p y
 | .act=>((Uq p y).1,(Uq p y).2,true)
def jM (p:jf) (y:Yx):jf×Yx×Bool:=if y.done=true then (p,y,false) else RJ p y
def eu (y:Yx):ByteArray:=if y.done=true then y.fin else em
end
section
open Go Go.RowKit
attribute [local irreducible] Calls
def Act.gY (a:Act) (D:List Deferred):Act:=⟨a.tmps,a.defers++D⟩
theorem Act.Qi (a:Act) (D:List Deferred) (d:Option Tmp) (v:Value):(Act.gY a D).put d v=Act.gY (a.put d v) D:=by cases d<;>rfl
theorem Act.NK (a:Act) (D:List Deferred):(Act.gY a D).eval=a.eval:=by funext x;cases x<;>rfl
def R3 (D:List Deferred) (Q:Exit->Act->World->Prop):Exit->Act->World->Prop:=fun e a' W=> ∃a,a'=Act.gY a D/\Q e a W
theorem fJ {P:Program} {ops:Array Oper} {Q:Exit->Act->World->Prop} (D:List Deferred) (wK:¬ LetsOut Q): ∀(l:List Oper) (a:Act) (W:World),wpList P ops Q l a W->wpList P ops (R3 D Q) l (Act.gY a D) W
 | [],a,W,h=>⟨a,rfl,h⟩
 |o::l,a,W,h=>by
  unfold wpList at h⊢;rw [show (Act.gY a D).tmps=a.tmps from rfl];have ih:=fun a W=>fJ (P:=P) (ops:=ops) D wK l a W
  split at h
  · rename_i hw
    rw [zo hw];refine .inl ?_;rcases h with h|⟨_,h⟩
    · unfold Oper.wp at h⊢;rw [Act.NK];generalize (execOp a.eval o).run P W=r at*;cases r with
      |ok n W'=>
       cases n<;>simp only [Oper.upon] at h⊢
       case value v=>rw [Act.Qi];exact ih _ _ h
       case skip=>rw [Act.Qi];exact ih _ _ h
       case defer d=>
        have:({Act.gY a D with defers:=d::(Act.gY a D).defers}:Act)=Act.gY {a with defers:=d::a.defers} D:=rfl;rw [this,Act.Qi];exact ih _ _ h
       case enter f args=>
        refine h.mono fun e NO he=>?_
        cases e with
        |returned v=>dsimp only at he⊢;rw [Act.Qi];exact ih _ _ he
        |panicked chain=>exact ⟨a,rfl,he⟩
        |outgrown=>exact absurd he wK
       case row row args=>exact h.mono fun v NO he=>by rw [Act.Qi];exact ih _ _ he
      |halt x W'=>
       cases x<;>simp only [Oper.upon] at h⊢
       exact ⟨a,rfl,h⟩
    · exact absurd h wK
  · rename_i hw
    rw [zn hw];rw [Act.Qi];exact ih _ _ h
theorem Xb {P:Program} {ops:Array Oper} {Q Q':Exit->Act->World->Prop} {l2:List Oper} (wK:¬ LetsOut Q) (hq: ∀e a W,Q e a W->e= .normal/\wpList P ops Q' l2 a W): ∀(l:List Oper) (a:Act) (W:World),wpList P ops Q l a W->wpList P ops Q' (l++l2) a W
 | [],a,W,h=>(hq _ _ _ h).2
 |o::l,a,W,h=>by
  rw [wQ];unfold wpList at h⊢;have ih:=fun a W=>Xb (P:=P) (ops:=ops) wK hq l a W
  split at h
  · rename_i hw
    rw [zo hw];refine .inl ?_;rcases h with h|⟨_,h⟩
    · unfold Oper.wp at h⊢;generalize (execOp a.eval o).run P W=r at*;cases r with
      |ok n W'=>
       cases n<;>simp only [Oper.upon] at h⊢
       case value v=>exact ih _ _ h
       case skip=>exact ih _ _ h
       case defer d=>exact ih _ _ h
       case enter f args=>
        refine h.mono fun e NO he=>?_
        cases e with
        |returned v=>exact ih _ _ he
        |panicked chain=>exact absurd (hq _ _ _ he).1 yx
        |outgrown=>exact absurd he wK
       case row row args=>exact h.mono fun v NO he=>ih _ _ he
      |halt x W'=>
       cases x<;>simp only [Oper.upon] at h⊢
       exact absurd (hq _ _ _ h).1 yx
    · exact absurd h wK
  · rename_i hw
    rw [zn hw];exact ih _ _ h
section
variable {P:Program} {w:World} {M0 M:Mem} {N:Nat} {own zO F:List Ob} {env:Env}
def nU (P:Program) (f:FuncId) (args:List Value) (M:Mem) (zO:List Ob) (zX:Value->Mem->List Ob->Prop):Prop:=
 ∀(F:List Ob),jI F-> ∀(w:World) (M0:Mem) (hd:Nat->Value) (W:World),Wd w M0 hd M (zO++F) W->CallsD P f args.toArray .returning W fun e u' W'=>u'= .returning/\ ∃v yE zw M',e= .returned v/\M.le M'/\jI zw/\Wd w M0 yE M' (zw++F) W'/\zX v M' zw
theorem amv {f:FuncId} {fn:Func} {c:Code} {args:List Value} {zO:List Ob} {zX:Value->Mem->List Ob->Prop} (hf:P.funcs[f]?=some fn) (hb:fn.body=some c) (hn:fn.ntmps=N) (hk:Nat.ble args.length N=true)
 (h: ∀(F:List Ob) (w:World) (M0:Mem),jI F->VC P w M0 N c ⟨M,zO++F,vL 0 args⟩ (ay fun s=> ∃v zw,yH P fn s v/\M.le s.M/\jI zw/\ji s.own (zw++F)/\zX v s.M zw)):nU P f args M zO zX:=fun F hF w M0 hd W hW=>by
 have U5:args.length<=N:=Xk hk;refine CallsD.mono (callsD_of_wp (R:=fun e W'=> ∃v yE zw M',e= .returned v/\M.le M'/\jI zw/\Wd w M0 yE M' (zw++F) W'/\zX v M' zw) hf hb (vZ ((h F w M0 hF).go hd _ W ⟨hW,fun t sv ht=>?_,?_,rfl⟩) ?_)) fun e u' W' h=>h
 · obtain ⟨v,_,h1,rfl⟩:=ui args 0 t sv ht;have Uz:args[t]?=some v:=by simpa using h1
   have z9:=(xI.1 Uz).1;show (args.toArray++_)[t]?=some v;rw [du (by simpa using z9)];simpa using Uz
 · simp [hn];omega
 · rintro e a' W' ⟨yE,s',uE,hq⟩
   have key:(∃v zw,yH P fn s' v/\M.le s'.M/\jI zw/\ji s'.own (zw++F)/\zX v s'.M zw)->a'.defers= []/\ ∃v,(results fn a'.tmps).run P W'= .ok v W'/\ ∃u yE zw M',Ending.returned v= .returned u/\M.le M'/\jI zw/\Wd w M0 yE M' (zw++F) W'/\zX u M' zw:=by
    rintro ⟨v,zw,h1,hle,h2,h3,h4⟩;obtain ⟨uN,hW2⟩:=uE.1.KJ h3;exact ⟨uE.2.defers,v,h1.run uE,v,uN,zw,s'.M,rfl,hle,h2,hW2,h4⟩
   cases e with
   |ret=>exact key hq
   |normal=>exact key hq
   |exit id=>exact hq.elim
   |goto l=>exact hq.elim
   |panic c=>exact hq.elim
   |outgrown=>exact hq.elim
theorem nU.wide {own G:List Ob} {f:FuncId} {vs:List Value} {R R':Value->Mem->List Ob->Prop} (h:nU P f vs M zO R) (ht:uu own zO G) (hn:jI own) (hp: ∀u M' o,M.le M'->R u M' o-> ∃o2,ji (o++G) o2/\jI o2/\R' u M' o2):nU P f vs M own R':=fun F hF w M0 hd W hW=>by
 obtain ⟨Zy,h1⟩:=hW.KJ (zw:=zO++(G++F)) ⟨[],by
  rw [xR,<-xY];exact ht.h.append_right F⟩
 haveI hG:jI G:=(hn.J1 ht.h).right;refine (h (G++F) zh w M0 Zy W h1).mono fun e u' W' ⟨hu,v,yE,o,M',he,hle,wK,Zl,hr⟩=>?_
 obtain ⟨o2,hs,AZ,KL⟩:=hp v M' o hle hr;obtain ⟨D,hD⟩:=hs
 obtain ⟨uN,h2⟩:=Zl.KJ (zw:=o2++F) ⟨D,by
  have:=hD.append_right F;rw [<-xY];refine this.trans ?_;rw [xY,xY];exact (uQ (l₁:=D)).append_left o2⟩
 exact ⟨hu,v,uN,o2,M',he,hle,AZ,h2,KL⟩
theorem Gl {dst:Option Tmp} {ty:TypeId} {pos:String} {z7:Array Edge} {g:Option (Nat×Bool)} {s:St} {hd:Nat->Value} {a:Act} {W:World} {f:FuncId} {xs:Array Operand} {qz:Array TypeId} {vs:List Value} (hF:Fr N hd s.env a) (hv:s.env.kP xs.toList=some vs):
 (execOp a.eval ⟨dst, .defer ⟨.value (.func f),xs,qz⟩,ty,pos,z7,g⟩).run P W= .ok (.defer ⟨.fn (.func f) #[],vs.toArray⟩) W:=by
 have h1:=Env.ZG hF _ _ hv;have e:(xs.map a.eval:Array Value)=vs.toArray:=by rw [<-h1];cases xs;simp
 have h2:a.eval (.func f)= .func (.func f) #[] #[]:=rfl;simp [execOp,resolve,h2,Deferred.ofValue,yz,xM,xh,e]
theorem V_d {f g:FuncId} {fn:Func} {i0 i1 i2 i3:Nat} {l0 l1 l2 l3:List Oper} (n1:Nat) {x:Operand} {qz:Array TypeId} {ty:TypeId} {pos:String} {z7:Array Edge} {args:List Value} {zO:List Ob} {zX:Value->Mem->List Ob->Prop} [hg:zG P g] (hf:P.funcs[f]?=some fn)
 (hb:fn.body=some (.seq (.region i0 l0.toArray false) (.seq (.region i1 l1.toArray false) (.seq (.region i2 l2.toArray false) (.seq (.region i3 l3.toArray false) .ret))))) (hl:l1.drop n1= [⟨none, .defer ⟨.value (.func g), #[x],qz⟩,ty,pos,z7,none⟩]) (hn:fn.ntmps=N) (hk:Nat.ble args.length N=true)
 (h: ∀(F:List Ob) (w:World) (M0:Mem),jI F->VL P w M0 N l0.toArray l0 ⟨M,zO++F,vL 0 args⟩ (fun e s0=>e= .normal/\VL P w M0 N l1.toArray (l1.take n1) s0 (fun e s1=>e= .normal/\ ∃u,s1.env.op x=some (.v u)/\
  VL P w M0 N l2.toArray l2 s1 (fun e s2=>e= .normal/\VL P w M0 N l3.toArray l3 s2 (fun e s3=>e= .normal/\ ∃aaa F3 R,nU P g [u] s3.M aaa R/\uu s3.own aaa F3/\jI s3.own/\yR s3.env 0=true/\
   ∀v3 M' o,s3.M.le M'->jI o->R v3 M' o-> ∃v zw,yH P fn ⟨M',o++F3,s3.env⟩ v/\M.le M'/\jI zw/\ji (o++F3) (zw++F)/\zX v M' zw))))):zu P f args M zO zX:=fun F hF w M0 hd W hW=>by
 have U5:args.length<=N:=Xk hk;have wK: ∀(Q:St->Prop),¬ LetsOut (post w M0 N fun e s=>e= .normal/\Q s):=fun Q ⟨a,W,hd,s,_,h,_⟩=>nomatch h
 have sub: ∀ {l:List Oper} {s:St} {Q:St->Prop} {hd:Nat->Value} {a:Act} {W:World} {D:List Deferred},VL P w M0 N l.toArray l s (fun e s'=>e= .normal/\Q s')->Rel w M0 N hd s a W->wpList P l.toArray (R3 D (post w M0 N fun e s'=>e= .normal/\Q s')) l (Act.gY a D) W:=fun hv hR=>fJ _ (wK _) _ _ _ (hv.go _ _ _ hR)
 have h0:Rel w M0 N hd ⟨M,zO++F,vL 0 args⟩ {tmps:=args.toArray++Array.replicate (fn.ntmps-args.toArray.size) undef,defers:= []} W:=⟨hW,fun t sv ht=>by
  obtain ⟨v,_,h1,rfl⟩:=ui args 0 t sv ht;have Uz:args[t]?=some v:=by simpa using h1
  have z9:=(xI.1 Uz).1;show (args.toArray++_)[t]?=some v;rw [du (by simpa using z9)];simpa using Uz,by simp [hn];omega,rfl⟩
 revert h0;refine fun h0=>calls_of_wp_defers hf hb (wp_seq (nr ?_))
 have w0:=(h F w M0 hF).go hd _ W h0;clear h0;revert w0;generalize ({tmps:=args.toArray++Array.replicate (fn.ntmps-args.toArray.size) undef,defers:= []}:Act)=a0;intro w0;rw [<-xR l0];refine Xb (wK _) ?_ _ _ _ (by rw [xR];exact w0);rintro e a W1 ⟨Zy,s1,Nb,rfl,P3⟩;refine ⟨rfl,wp_seq (nr ?_)⟩;have w1:=P3.go Zy a W1 Nb;have e1:l1=l1.take n1++ [⟨none, .defer ⟨.value (.func g), #[x],qz⟩,ty,pos,z7,none⟩]:=by rw [<-hl];exact (Us n1 l1).symm
 generalize l1.toArray=aoK at*;rw [e1];refine Xb (wK _) ?_ _ _ _ w1;rintro e a2 W2 ⟨uN,s2,JP,rfl,u,hu,Th⟩;refine ⟨rfl,v8 rfl fun K hK=>?_⟩;unfold Oper.wp;rw [Gl (g:=none) (vs:= [u]) JP.2 (by simp [Env.kP,hu])];simp only [Oper.upon];refine hK _ _ (wpList_nil ?_);have e2:({a2 with defers:=(⟨.fn (.func g) #[],[u].toArray⟩:Deferred)::a2.defers}:Act)=Act.gY a2 [⟨.fn (.func g) #[],[u].toArray⟩]:=by rw [JP.2.defers];unfold Act.gY;rw [JP.2.defers];rfl
 show Exit.then _ _ .normal ({a2 with defers:=(⟨.fn (.func g) #[],[u].toArray⟩:Deferred)::a2.defers}:Act) W2;rw [e2];refine wp_seq (nr ?_);have w2:=sub (D:= [⟨.fn (.func g) #[],[u].toArray⟩]) Th JP;have hna: ∀(D:List Deferred) (Q:St->Prop),¬ LetsOut (R3 D (post w M0 N fun e s=>e= .normal/\Q s)):=fun D Q ⟨a,W,b,_,h⟩=>wK Q ⟨b,W,h⟩
 rw [<-xR l2];refine Xb (hna _ _) ?_ _ _ _ (by rw [xR];exact w2);rintro e a3 W3 ⟨a3',rfl,hd3,s3,aq,rfl,FI⟩;refine ⟨rfl,wp_seq (nr ?_)⟩;have w3:=sub (D:= [⟨.fn (.func g) #[],[u].toArray⟩]) FI aq;rw [<-xR l3];refine Xb (hna _ _) ?_ _ _ _ (by rw [xR];exact w3);rintro e a4 W4 ⟨a4',rfl,hd4,s4,iC,rfl,aaa,F3,R,hcd,AY,hnm,zV,w9⟩;refine ⟨rfl,wp_ret ?_⟩;show Leaves P fn a4'.tmps _ (a4'.defers++ [⟨.fn (.func g) #[],[u].toArray⟩]) .returning W4;rw [iC.2.defers,Yn];obtain ⟨hd5,h5⟩:=iC.1.KJ (zw:=aaa++F3) ⟨[],by rw [xR];exact AY.h⟩;refine leaves_cons (f:=g) (args:= [u].toArray) yx ?_ ?_
 · show (callFunc g (#[u]++ #[])).run P W4=_;rw [Je hg.h];rfl
 · refine (hcd F3 (hnm.J1 AY.h).right w M0 hd5 W4 h5).mono ?_;rintro e u' W5 ⟨rfl,v3,hd6,o,M',rfl,hle,wK,Zl,hr⟩;obtain ⟨v,zw,q1,q2,q3,q4,q5⟩:=w9 v3 M' o hle wK hr;have hR6:Rel w M0 N hd6 ⟨M',o++F3,s4.env⟩ a4' W5:=⟨Zl,iC.2.any zV hd6⟩;obtain ⟨hd7,hW7⟩:=Zl.KJ q4;exact ⟨v,q1.run hR6,v,hd7,zw,M',rfl,q2,q3,hW7,q5⟩
end
end
section
open Go Go.RowKit
attribute [local irreducible] Calls
structure Cy where
 yb:Nat
 hb:Nat
def Ve:CyN->Value
 | .take=> .func (.func 102) #[] #[]
 | .choose=> .func (.func 118) #[] #[]
 | .reach=> .func (.func 137) #[] #[]
 | .act=> .func (.func 157) #[] #[]
instance (n:CyN):xK (Ve n):=⟨by cases n<;>rfl⟩
abbrev mG (cb:Nat) (x:Cy) (y:Yx) (fn:Value):Ob:= .zK (ptr x.yb) 189 [.int .i64 y.at_, .int .i64 y.Uw, .int .i64 y.i,ptr cb,ptr x.hb, .string y.cur,fn, .int .i64 y.Qx, .string y.fin, .int .i64 y.e, .bool y.done]
abbrev qy (cb:Nat) (x:Cy) (y:Yx):Ob:=mG cb x y (Ve y.nx)
structure Vx (H:List (Int×Nat)) (y:Yx) (x:Cy):Prop where
 hand:yU H y.th=some x.hb
 th:y.th<1000
theorem Vx.mono {H H':List (Int×Nat)} {y:Yx} {x:Cy} (h:Vx H y x) (hH: ∀t z,yU H t=some z->yU H' t=some z):Vx H' y x:=⟨hH _ _ h.hand,h.th⟩
variable {cb sb:Nat} {b:Int} {p:jf} {H:List (Int×Nat)} {M:Mem} {c:Co}
theorem eB (h:yO cb sb b p H M c):zu zf 77 [ptr sb] M c.ob (fun u M' o=>u=p.q.c.av/\M'=M/\o=c.ob):=by
 refine (Zp h.st).wide (VZ c) zh ?_;rintro u M' o-⟨rfl,rfl,rfl⟩;exact ⟨c.ob,ji.perm (VZ c).h.symm,zh,rfl,rfl,rfl⟩
theorem mJ {th:Int} {hb:Nat} (h:yO cb sb b p H M c) (hl:yU H th=some hb):nU zf 140 [ptr hb] M c.ob (fun u M' o=>M'=M/\ ∃c':Co,o=c'.ob/\yO cb sb b {p with T:=Qf p.T th} H M c'):=by
 obtain ⟨l1,x,l2,hs,rfl,rfl,hx⟩:=h.hand hl;rw [<-h.tab]
 have hD:nU zf 140 [ptr x.hb] M (Zz c.cb c.s.sb c.tb c.mb c.wa c.ch c.tg c.tc x c.T) (fun u M' o=>M'=M/\ ∃T':List qf,gD T'/\j9 T'=Qf (j9 c.T) x.th/\o=Zz c.cb c.s.sb c.tb c.mb c.wa c.ch c.tg c.tc {x with want:=none} T'):=by
  have cR:=BD c.tb c.tg c.tc c.T x.th M h.tok;unfold Zz;generalize c.cb=cb0 at*;generalize c.s.sb=sb0 at*;generalize c.tb=tb at*;generalize c.mb=mb at*;generalize c.wa=wa at*;generalize c.ch=ch at*;generalize c.tg=tg at*;generalize c.tc=tc at*;generalize c.T=T at*;obtain ⟨th,hb,want,xU⟩:=x;dsimp only at*;refine amv (args:= [ptr hb]) (zO:=u4 cb0 ⟨th,hb,want,xU⟩::vh cb0 sb0 tb mb wa ch::xo tb tg tc T) Tryz.func140 rfl Tryz.ntmps140 zd (fun F w M0 hF=>zz ?_)
  repeat' (first|refine zU [.l (xo tb tg tc T)] [11] [11] 1 yI zd zd ?_|refine nv ?_)
  repeat' (refine nu ?_)
  refine xF cR rfl ?_ zx;rintro u M2 _- -⟨hM,z,T',rfl,hT,Za,rfl⟩;subst hM;refine yJ ?_
  repeat' (refine nu ?_)
  repeat' (refine nv ?_)
  exact ⟨_,u4 cb0 ⟨th,hb,none,xU⟩::vh cb0 sb0 tb mb wa ch::xo tb tg tc T',yH.nil rfl,zE,zh,zq,rfl,T',hT,Za,rfl⟩
 have h0:=iF (c:=c) hs x c.T rfl rfl;rw [show ({c with hs:=l1++x::l2,T:=c.T}:Co)=c by rw [<-hs]] at h0;refine hD.wide (G:= .vj (.map (some c.mb)) c.es::(c.s.ob++(l1.map (u4 c.cb)++l2.map (u4 c.cb)))) ⟨h0⟩ zh ?_;rintro u M' o-⟨rfl,T',hT,hbT,rfl⟩;refine ⟨({c with hs:=l1++ {x with want:=none}::l2,T:=T'}:Co).ob,ji.perm (iF hs {x with want:=none} T' rfl rfl).symm,zh,rfl,_,rfl,⟨h.cb,h.st,hT,hbT,h.wa,h.ch,?_,fun y hy=>?_⟩⟩
 · rw [<-h.hs,hs];dsimp only;rw [jo,jo,xw,xw]
 · rcases jH.1 hy with h1|h1
   · exact h.ju y (by rw [hs];exact rN _ h1)
   · rcases jm.1 h1 with rfl|h1
     · exact hx
     · exact h.ju y (by rw [hs];exact rP _ (XJ _ h1))
theorem Q0 (h:yO cb sb b p H M c) {y:Yx} {x:Cy} (hy:Vx H y x) (fn:Value) [of:xK fn] (e:Int):zu zf 135 [ptr x.yb, .int .i64 e] M (mG cb x y fn::c.ob) (fun u M' o=>M'=M/\u= .bool true/\ ∃c':Co,o=mG cb x (wL p y e).2 fn::c'.ob/\yO cb sb b (wL p y e).1 H M c'):=by
 have cD:=mJ h hy.hand;refine V_d 4 Tryz.func135 rfl rfl Tryz.ntmps135 zd fun F w M0 hF=>zJ ?_
 repeat' (refine nv ?_)
 refine ⟨rfl,?_⟩;simp only [List.take]
 repeat' (refine nv ?_)
 refine ⟨rfl,_,rfl,?_⟩
 repeat' (refine nv ?_)
 refine ⟨rfl,?_⟩
 repeat' (refine nv ?_)
 refine ⟨rfl,c.ob,mG cb x {y with e:=e,done:=true} fn::F,_,cD,zh,zh,rfl,?_⟩;rintro _ M' o-wK ⟨rfl,c',rfl,vk⟩;exact ⟨_,mG cb x {y with e:=e,done:=true} fn::c'.ob,zP,zE,zh,zq,rfl,rfl,c',rfl,vk⟩
end
section
open Go Go.RowKit
attribute [local irreducible] Calls
variable {cb sb:Nat} {b:Int} {p:jf} {H:List (Int×Nat)} {M:Mem} {c:Co}
structure dA (p:jf) (y:Yx):Prop where
 ch0:0<=p.ch
 ch1:p.ch<=1000000000
 aba:0<=y.Qx
 aa9:y.Qx<=1000000000
theorem mD (h:yO cb sb b p H M c) {y:Yx} {x:Cy} (hi:dA p y) (fn:Value) [of:xK fn]:zu zf 136 [ptr x.yb] M (mG cb x y fn::c.ob) (fun u M' o=>M.le M'/\ ∃c':Co,o=mG cb x (Vd p y).2 fn::c'.ob/\yO cb sb b (Vd p y).1 H M' c'):=by
 have cM:=tJ h hi.ch0 (by have:=hi.ch1;omega);have h0:=hi.aba;have h1:=hi.aa9;refine xy Tryz.func136 rfl Tryz.ntmps136 zd (fun F w M0 hF=>zz ?_)
 repeat' (refine nv ?_)
 refine xQ cM ?_;rintro _ M2 _ zD-⟨-,-,c1,rfl,h1⟩;refine zJ ?_
 repeat' (refine nv ?_)
 exact ⟨_,mG cb x {y with Qx:=y.Qx+1} fn::c1.ob,yH.nil rfl,zD,zh,zq,zD,c1,rfl,h1⟩
theorem Gr (h:yO cb sb b p H M c) {y:Yx} {x:Cy} (hy:Vx H y x):zu zf 102 [ptr x.yb] M (qy cb x y::c.ob) (fun u M' o=>M'=M/\u= .bool (Km p y).2.2/\ ∃c':Co,o=qy cb x (Km p y).2.1::c'.ob/\yO cb sb b (Km p y).1 H M c'):=by
 have cT:=Y9 h hy.hand hy.th y.at_ true;unfold Km;generalize kC p.T y.th y.at_ true=tq at*;obtain ⟨T1,ok⟩:=tq;dsimp only at*;cases ok with
 |false=>
  rw [zn yx];refine xy Tryz.func102 rfl Tryz.ntmps102 zd (fun F w M0 hF=>zz ?_)
  repeat' (first|refine zU [.l c.ob] [9,10] [9] 1 yI zd zd ?_|refine nv ?_)
  repeat' (refine nu ?_)
  refine xF cT rfl ?_ zx;rintro _ M2 _- -⟨hM,rfl,c1,rfl,h1⟩;subst hM;refine yJ ?_
  repeat' (first|refine nu ?_|exact zx|refine nz ?_ ?_)
  repeat' (refine nv ?_)
  exact ⟨_,qy cb x y::c1.ob,zP,zE,zh,zq,rfl,rfl,c1,rfl,h1⟩
 |true=>
  rw [zo rfl];refine xy Tryz.func102 rfl Tryz.ntmps102 zd (fun F w M0 hF=>zz ?_)
  repeat' (first|refine zU [.l c.ob] [9,10] [9] 1 yI zd zd ?_|refine nv ?_)
  repeat' (refine nu ?_)
  refine xF cT rfl ?_ zx;rintro _ M2 _- -⟨hM,rfl,c1,rfl,h1⟩;subst hM;refine yJ ?_
  repeat' (first|refine nu ?_|exact zx|refine nz ?_ ?_)
  repeat' (refine nv ?_)
  exact ⟨_,mG cb x y (.func (.func 118) #[] #[])::c1.ob,zP,zE,zh,zq,rfl,rfl,c1,rfl,h1⟩
theorem Dr (h:yO cb sb b p H M c) {y:Yx} {x:Cy} (hy:Vx H y x):zu zf 137 [ptr x.yb] M (qy cb x y::c.ob) (fun u M' o=>M'=M/\u= .bool (Y8 p y).2.2/\ ∃c':Co,o=qy cb x (Y8 p y).2.1::c'.ob/\yO cb sb b (Y8 p y).1 H M c'):=by
 have cT:=Y9 h hy.hand hy.th y.Uw true;unfold Y8;generalize kC p.T y.th y.Uw true=tq at*;obtain ⟨T1,ok⟩:=tq;dsimp only at*;cases ok with
 |false=>
  rw [zn yx];refine xy Tryz.func137 rfl Tryz.ntmps137 zd (fun F w M0 hF=>zz ?_)
  repeat' (first|refine zU [.l c.ob] [9,10] [9] 1 yI zd zd ?_|refine nv ?_)
  repeat' (refine nu ?_)
  refine xF cT rfl ?_ zx;rintro _ M2 _- -⟨hM,rfl,c1,rfl,h1⟩;subst hM;refine yJ ?_
  repeat' (first|refine nu ?_|exact zx|refine nz ?_ ?_)
  repeat' (refine nv ?_)
  exact ⟨_,qy cb x y::c1.ob,zP,zE,zh,zq,rfl,rfl,c1,rfl,h1⟩
 |true=>
  rw [zo rfl];refine xy Tryz.func137 rfl Tryz.ntmps137 zd (fun F w M0 hF=>zz ?_)
  repeat' (first|refine zU [.l c.ob] [9,10] [9] 1 yI zd zd ?_|refine nv ?_)
  repeat' (refine nu ?_)
  refine xF cT rfl ?_ zx;rintro _ M2 _- -⟨hM,rfl,c1,rfl,h1⟩;subst hM;refine yJ ?_
  repeat' (first|refine nu ?_|exact zx|refine nz ?_ ?_)
  repeat' (refine nv ?_)
  exact ⟨_,mG cb x y (.func (.func 157) #[] #[])::c1.ob,zP,zE,zh,zq,rfl,rfl,c1,rfl,h1⟩
theorem NB (c:qn) (n:Nd) (k:ByteArray):(Yi c (bare n) k).1=2->n.level≠0/\(Yi c (bare n) k).2<=n.ps.length:=by
 unfold Yi sf;rw [show (bare n).level=n.level from rfl,show (bare n).slot=n.slot from rfl,show kE c (bare n)=kE c n from rfl,show (bare n).ms=n.ms from rfl,show (bare n).ps=n.ps from rfl];split
 · intro h;cases h
 · rename_i h0
   split
   · intro h;cases h
   · refine fun _=>⟨h0,?_⟩
     dsimp only;split
     · exact X3 _ _
     · exact tU _ _ _ (zN _)
theorem tF (h:yO cb sb b p H M c) (hb:b<=999999999) {y:Yx} {x:Cy} (hy:Vx H y x) (hi:dA p y):zu zf 118 [ptr x.yb] M (qy cb x y::c.ob) (fun u M' o=>M.le M'/\u= .bool true/\ ∃c':Co,o=qy cb x (Yg p y).2::c'.ob/\yO cb sb (b+1) (Yg p y).1 H M' c'):=by
 have cS:=Xi h;have cN:=XV (c:=c) (uI h.st y.at_);have ig:=h.st.inv.get y.at_;have hc:=h.st.inv.c;unfold Yg;generalize P9:p.q.get y.at_=n0 at*;refine xy Tryz.func118 rfl Tryz.ntmps118 zd (fun F w M0 hF=>zz ?_)
 repeat' (first|refine uK cS ?_|refine nv ?_)
 refine xQ cN ?_;rintro _ M2 _ zD-⟨-,rfl,z,rfl,hz,jL⟩;refine zJ ?_;have oz:=zI hz;have h2:=h.mono zD;subst jL;have ig:=ig.xW;have cCf:=eB h2;have cCh:=tA p.q.c z y.cur M2 b hc hz ig;have cL:=ez h2 (p9 h2.st hb);have hch:=NB p.q.c z y.cur;generalize Yi p.q.c (bare z) y.cur=d at*;obtain ⟨El,i⟩:=d;dsimp only at cCh hch⊢
 repeat' (first|refine yh (dst:=some 4) zh fun b4=>?_|refine kV (x:= .region 3 _ _) (fun s'=>vo s' ⟨M2, .zK (ptr b4) 143 (yr z)::qy cb x y::(c.ob++F),[(0, .v (ptr x.yb)),(3, .v (ptr sb)),(4, .v (ptr b4)),(6, .v (.int .i64 El)),(7, .v (.int .i64 (i:Nat)))]⟩) ?_ ?_|refine nv ?_)
 · refine SG ?_;refine zU [] [1,7,8,9,10,11,12] [] 1 yI zd zd ?_
   repeat' (refine nu ?_)
   refine YG cCf rfl ?_ zx;refine Vu 1 ?_;refine YG cCh rfl ?_ zx;refine I1 ?_ (hs:=CF zh)
   repeat' (first|refine I3 ?_|refine acV zd (by exact OY) ?_)
   refine Iz ?_;exact ⟨rfl,xZ kX⟩
 rintro s' hs;refine x8 _ hs ?_;clear hs s' cCf cCh cS cN;by_cases w1:El=1
 · have g1:(El==1)=true:=beq_iff_eq.2 w1;rw [zo w1];by_cases he:KZ p.q=0
   · have g2:(KZ p.q !=0)=false:=by rw [he];rfl
     rw [zo he]
     repeat' (refine nv ?_)
     refine xQ cL ?_;rintro _ M3 _ yc-⟨-,rfl,c1,rfl,h3⟩;refine zJ ?_;have cM:=mD h3 (y:=y) (x:=x) ⟨hi.ch0,hi.ch1,hi.aba,hi.aa9⟩ (Ve y.nx)
     repeat' (refine nv ?_)
     refine xQ cM ?_;rintro _ M4 _ yQ-⟨-,c2,rfl,h4⟩;refine zJ ?_
     repeat' (refine nv ?_)
     have l4:=(zD.trans yc).trans yQ;exact ⟨_,mG cb x (Vd {p with q:=(U1 p.q).1} y).2 (Ve y.nx)::c2.ob,zP,l4,zh,zq,l4,rfl,c2,rfl,h4⟩
   · have g2:(KZ p.q !=0)=true:=bne_iff_ne.2 he;rw [zn he]
     repeat' (refine nv ?_)
     refine xQ cL ?_;rintro _ M3 _ yc-⟨-,rfl,c1,rfl,h3⟩;refine zJ ?_;have cO:=Q0 h3 hy (Ve y.nx) (KZ p.q)
     repeat' (refine nv ?_)
     refine xQ cO ?_;rintro _ M4 _- -⟨hM,rfl,c2,rfl,h4⟩;subst hM;refine zJ ?_
     repeat' (refine nv ?_)
     have l4:=zD.trans yc;exact ⟨_,mG cb x (wL {p with q:=(U1 p.q).1} y (KZ p.q)).2 (Ve y.nx)::c2.ob,zP,l4,zh,zq,l4,rfl,c2,rfl,h4⟩
 · have g1:(El==1)=false:=beq_eq_false_iff_ne.2 w1;rw [zn w1];by_cases w2:El=2
   · have g2:(El==2)=true:=beq_iff_eq.2 w2;rw [zo w2];obtain ⟨oU,kg⟩:=hch w2;have Rk:=ig.kids oU;have CR:i<z.ks.length:=ze;rw [show (bare z).ks.getD i 0=z.ks[i] by show z.ks.getD i 0=_;simp [List.getD,CR]];have UF:=hz.2.1;obtain ⟨Ak,ck,X4,_⟩:=id UF;rw [X4] at UF;obtain ⟨ba,off,rfl,jk⟩:=UF.get CR;have ZA:=jk 0 _ rfl;dsimp only [yr] at oz⊢
     (try unfold Nd.av)
     rw [X4]
     repeat' (first|((apply zA);(first|exact zj i zd zd rfl CR|exact hY zd ZA);rfl)|refine nv ?_)
     exact ⟨_,mG cb x {y with i:=(i:Nat),Uw:=z.ks[i]} (.func (.func 137) #[] #[])::c.ob,zP,zD,zh,zq,zD,rfl,c,rfl,h2.up ze⟩
   · have g2:(El==2)=false:=beq_eq_false_iff_ne.2 w2;rw [zn w2];have cO:=Q0 h2 hy (Ve y.nx) 0
     repeat' (refine nv ?_)
     refine xQ cO ?_;rintro _ M4 _- -⟨hM,rfl,c2,rfl,h4⟩;subst hM;refine zJ ?_
     repeat' (refine nv ?_)
     exact ⟨_,mG cb x (wL p y 0).2 (Ve y.nx)::c2.ob,zP,zD,zh,zq,zD,rfl,c2,rfl,h4.up ze⟩
end
end Go.Proofs.YtaibdpjjojihmaaGreat
