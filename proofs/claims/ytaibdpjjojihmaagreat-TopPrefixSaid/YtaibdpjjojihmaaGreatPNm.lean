/- A part of the proof of TopPrefix; no conditions. -/
import Derived.Test.YtaibdpjjojihmaaGreatPLg4
set_option linter.unusedVariables false
set_option linter.unusedSimpArgs false
set_option maxRecDepth 20000
namespace Go.Proofs.YtaibdpjjojihmaaGreat
open Go Go.RowKit
def ji (own zw:List Ob):Prop:= ∃G,own.Perm (zw++G)
theorem ji.refl (l:List Ob):ji l l:=⟨[],by rw [xR]⟩
theorem ji.trans {a b c:List Ob}:ji a b->ji b c->ji a c:=fun ⟨G,h1⟩ ⟨H,h2⟩=>⟨H++G,h1.trans (by have:=h2.append_right G;rwa [xY] at this)⟩
theorem ji.perm {a b:List Ob} (h:a.Perm b):ji a b:=⟨[],by rwa [xR]⟩
theorem T6 {α:Type} {a b:List α} (h:a.Perm b): ∃f:Nat->Nat,(∀i o,b[i]?=some o->a[f i]?=some o)/\ ∀i j,i<b.length->j<b.length->f i=f j->i=j:=by
 induction h with
 |nil=>exact ⟨id,fun i o h=>h,fun i j _ _ h=>h⟩
 |cons x _ ih=>
  obtain ⟨f,h1,h2⟩:=ih;refine ⟨fun i=>match i with|0=>0|i+1=>f i+1,fun i o h=>?_,fun i j hi hj h=>?_⟩
  · cases i with
    |zero=>exact h
    |succ i=>exact h1 i o h
  · cases i<;>cases j
    · rfl
    · simp at h
    · simp at h
    · rename_i i j
      have:=h2 i j (by simpa using hi) (by simpa using hj) (by simpa using h);omega
 |swap x y l=>
  refine ⟨fun i=>if i=0 then 1 else if i=1 then 0 else i,fun i o h=>?_,fun i j hi hj h=>?_⟩
  · match i,h with
    |0,h=>exact h
    |1,h=>exact h
    |i+2,h=>
     simp only [Nat.add_eq_zero_iff,zn (show ¬ i+2=0 by omega),zn (show ¬ i+2=1 by omega)];simpa using h
  · simp only at h
    repeat' split at h
    all_goals omega
 |trans _ _ ih1 ih2=>
  obtain ⟨f,h1,h2⟩:=ih1;obtain ⟨g,h3,h4⟩:=ih2;refine ⟨fun i=>f (g i),fun i o h=>h1 _ _ (h3 i o h),fun i j hi hj h=>h4 i j hi hj (h2 _ _ ?_ ?_ h)⟩
  · exact (xI.1 (h3 i _ (jA hi))).1
  · exact (xI.1 (h3 j _ (jA hj))).1
theorem ji.ix {own zw:List Ob} (h:ji own zw): ∃f:Nat->Nat,(∀i o,zw[i]?=some o->own[f i]?=some o)/\ ∀i j,i<zw.length->j<zw.length->f i=f j->i=j:=by
 obtain ⟨G,h⟩:=h;obtain ⟨f,h1,h2⟩:=T6 h;refine ⟨f,fun i o hi=>h1 i o ?_,fun i j hi hj=>h2 i j (by rw [yK];omega) (by rw [yK];omega)⟩;rw [wE (xI.1 hi).1];exact hi
class uw (own:List Ob) (o:Ob) (zw:outParam (List Ob)):Prop where
 h:own.Perm (o::zw)
instance (priority:=high) uw.one (o:Ob) (l:List Ob):uw (o::l) o l:=⟨.refl _⟩
instance uw.cons (p o:Ob) (l l':List Ob) [i:uw l o l']:uw (p::l) o (p::l'):=⟨(i.h.cons p).trans (.swap ..)⟩
instance uw.app (X:List Ob) (o:Ob) (l l':List Ob) [i:uw l o l']:uw (X++l) o (X++l'):=⟨(i.h.append_left X).trans aU⟩
class fB (own X:List Ob) (zw:outParam (List Ob)):Prop where
 h:own.Perm (X++zw)
instance (priority:=high) fB.one (X l:List Ob):fB (X++l) X l:=⟨.refl _⟩
instance fB.cons (p:Ob) (X l l':List Ob) [i:fB l X l']:fB (p::l) X (p::l'):=⟨(i.h.cons p).trans aU.symm⟩
instance fB.app (Y X l l':List Ob) [i:fB l X l']:fB (Y++l) X (Y++l'):=⟨by
 have:=i.h.append_left Y;refine this.trans ?_;rw [<-xY,<-xY];exact uQ.append_right l'⟩
instance (priority:=low) fB.end (X:List Ob):fB X X []:=⟨by rw [xR]⟩
class uu (own zO:List Ob) (F:outParam (List Ob)):Prop where
 h:own.Perm (zO++F)
instance (priority:=high) uu.nil (own:List Ob):uu own [] own:=⟨.refl _⟩
instance uu.cons (own ll:List Ob) (o:Ob) (l F:List Ob) [i:uw own o ll] [j:uu ll l F]:uu own (o::l) F:=⟨i.h.trans (j.h.cons o)⟩
instance uu.app (own ll X l F:List Ob) [i:fB own X ll] [j:uu ll l F]:uu own (X++l) F:=⟨i.h.trans (by rw [xY];exact j.h.append_left X)⟩
instance (priority:=low) uu.end (own X F:List Ob) [i:fB own X F]:uu own X F:=⟨i.h⟩
theorem uu.KJ {own zO F:List Ob} (h:uu own zO F):ji own zO:=⟨F,h.h⟩
def Ob.nmG:Ob->Bool
 | .zK .. =>true
 | .zC .. =>true
 | .vj .. =>true
 | .gone=>true
 |_=>false
class jI (own:List Ob):Prop where
 h: ∀o∈own,o.nmG=true
instance:jI []:=⟨fun _ h=>by cases h⟩
theorem jI.mk' {o:Ob} {l:List Ob} (h:o.nmG=true) (i:jI l):jI (o::l):=⟨fun p hp=>by rcases jm.1 hp with rfl|hp<;>first|exact h|exact i.h p hp⟩
instance (u:Value) (t:TypeId) (cs:List Value) (l:List Ob) [i:jI l]:jI (.zK u t cs::l):=jI.mk' rfl i
instance (u:Value) (e:TypeId) (k n:Nat) (cs:List Value) (l:List Ob) [i:jI l]:jI (.zC u e k n cs::l):=jI.mk' rfl i
instance (u:Value) (es:List (Int×Value)) (l:List Ob) [i:jI l]:jI (.vj u es::l):=jI.mk' rfl i
instance jI.app (X l:List Ob) [i:jI X] [j:jI l]:jI (X++l):=⟨fun o ho=>by rcases jH.1 ho with h|h<;>first|exact i.h o h|exact j.h o h⟩
theorem jI.J1 {a b:List Ob} (h:a.Perm b) (i:jI a):jI b:=⟨fun o ho=>i.h o (h.mem_iff.2 ho)⟩
theorem jI.right {a b:List Ob} (i:jI (a++b)):jI b:=⟨fun o ho=>i.h o (jH.2 (.inr ho))⟩
section
variable {P:Program} {w:World} {M0:Mem} {N:Nat} {dst:Option Tmp} {ty:TypeId} {pos:String} {z7:Array Edge} {g:Option (Nat×Bool)} {M:Mem} {own zw:List Ob} {env:Env} {hd yE:Nat->Value} {W W':World}
theorem Wd.rx (f:Nat->Nat) (h:Wd w M0 hd M own W) (hf: ∀i o,zw[i]?=some o->own[f i]?=some o) (oV: ∀i j,i<zw.length->j<zw.length->f i=f j->i=j):Wd w M0 (fun i=>hd (f i)) M zw W:=
 ⟨h.below,h.mem,h.wS,h.YW,fun i o hi=>h.own (f i) o (hf i o hi),fun i o b hi jt hb=>h.sep (f i) o b (hf i o hi) jt hb,fun i j oi oj b hi hj hni hnj iB Un=>oV i j (xI.1 hi).1 (xI.1 hj).1 (h.VX (f i) (f j) oi oj b (hf i oi hi) (hf j oj hj) hni hnj iB Un)⟩
theorem Wd.KJ (h:Wd w M0 hd M own W) (hs:ji own zw): ∃yE,Wd w M0 yE M zw W:=by
 obtain ⟨f,h1,h2⟩:=hs.ix;exact ⟨_,h.rx f h1 h2⟩
theorem Fr.any {a:Act} (h:Fr N hd env a) (zV:yR env 0=true) (yE:Nat->Value):Fr N yE env a:=h.KH fun t sv ht=>by
 have:=vn zV t sv ht;cases sv with
 |v x=>rfl
 |p i off=>simp [SV.okB,x9] at this
 |r i=>simp [SV.okB,x9] at this
theorem wd {ops:Array Oper} {l:List Oper} {Q:zX} (zw:List Ob) (h:VL P w M0 N ops l ⟨M,zw,env⟩ Q) (hs:ji own zw) (zV:yR env 0=true:=by rfl):VL P w M0 N ops l ⟨M,own,env⟩ Q:= .mk fun hd a W hR=>by
 obtain ⟨yE,hW⟩:=hR.1.KJ hs;exact h.go yE a W ⟨hW,hR.2.any zV yE⟩
theorem KE {c:Code} {Q:zX} (zw:List Ob) (h:VC P w M0 N c ⟨M,zw,env⟩ Q) (hs:ji own zw) (zV:yR env 0=true:=by rfl):VC P w M0 N c ⟨M,own,env⟩ Q:= .mk fun hd a W hR=>by
 obtain ⟨yE,hW⟩:=hR.1.KJ hs;exact h.go yE a W ⟨hW,hR.2.any zV yE⟩
theorem Cr {base:Nat} {v v':Value} {o:Ob} (h:o.nmG=true) (h1:wR base W v o) (h2:wR base W' v' o) (jt:o≠ .gone):v=v':=by
 cases o with
 |qZ t cs=>cases h
 |row e k n cs=>cases h
 |gone=>exact absurd rfl jt
 |zK u t cs=>exact h1.1.trans h2.1.symm
 |zC u e k n cs=>exact h1.1.trans h2.1.symm
 |omap es=>cases h
 |vj u es=>exact h1.1.trans h2.1.symm
def zu (P:Program) (f:FuncId) (args:List Value) (M:Mem) (zO:List Ob) (zX:Value->Mem->List Ob->Prop):Prop:=
 ∀(F:List Ob),jI F-> ∀(w:World) (M0:Mem) (hd:Nat->Value) (W:World),Wd w M0 hd M (zO++F) W->Calls P f args.toArray W fun e W'=> ∃v yE zw M',e= .returned v/\M.le M'/\jI zw/\Wd w M0 yE M' (zw++F) W'/\zX v M' zw
theorem zu.mono {f:FuncId} {args:List Value} {zO:List Ob} {zX acZ:Value->Mem->List Ob->Prop} (h:zu P f args M zO zX) (hp: ∀v M' o,M.le M'->zX v M' o->acZ v M' o):zu P f args M zO acZ:=fun F hF w M0 hd W hW=>
 (h F hF w M0 hd W hW).mono fun e W' ⟨v,yE,zw,M',h1,h2,h3,h4,h5⟩=>⟨v,yE,zw,M',h1,h2,h3,h4,hp v M' zw h2 h5⟩
theorem zu.ofM {f:FuncId} {args:List Value} {zX:Value->Mem->Prop} (hc: ∀W,M.le (Mem.of W)->Calls P f args.toArray W (He M W zX)):zu P f args M [] (fun v M' zw=>zw= []/\zX v M'):=fun F hF w M0 hd W hW=>by
 refine (hc W hW.mem).mono fun e W' ⟨v,M',he,hb,hle,K6,uM,hp⟩=>⟨v,hd,[],M',he,hle,zh,?_,rfl,hp⟩
 have hi:=hW.idle hb;exact ⟨hi.below,K6,fun b Za h0=>uM b (by have:=hW.below.size;omega) (hW.wS b Za h0),hi.YW.trans hle,hi.own,fun i o b sY jt C0=>uM b (XT (hW.own i o sY) jt C0).2 (hW.sep i o b sY jt C0),hi.VX⟩
theorem QG: ∀(n s:Nat),u9 (List.range' s n)=true
 |0,_=>rfl
 |n+1,s=>by
  rw [fg];unfold u9
  have:(List.range' (s+1) n).all (fun y=>!Nat.beq s y)=true:=yw.2 fun y hy=>by
   have:=AA.1 hy;rw [aK ze];rfl
  rw [this];exact QG n (s+1)
theorem sj: ∀(own F pre:List Ob),ZF own (List.range' pre.length own.length) (pre++(own++F))
 | [],_,_=>trivial
 |o::own,F,pre=>by
  rw [xd,fg];refine ⟨?_,?_⟩
  · rw [kF (zN _),qq];rfl
  · have:=sj own F (pre++ [o]);rw [yK,xY] at this;exact this
theorem QV: ∀(ρ:List Nat) (own:List Ob) (i:Nat),i∉ρ->(y8 ρ own)[i]?=own[i]?
 | [],own,i,_=>rfl
 |j::ρ,own,i,h=>by
  unfold y8;rw [QV ρ _ i (fun hi=>h (XJ _ hi)),Zb (fun e=>h (by rw [e];exact Yq))]
theorem zu.ofX {f:FuncId} {args:List Value} {zO:List Ob} {zX:Value->List Ob->Prop} (hc: ∀M',M.le M'->uC P f args M' zO zX) (hn: ∀v o,zX v o->jI o):zu P f args M zO (fun v _ zw=>zX v zw):=fun F hF w M0 hd W hW=>by
 have JR:=sj zO F [];rw [Yn,Aj] at JR;obtain ⟨M',h1,h2,h3⟩:=it hW (QG zO.length 0) JR;refine (hc M' h1 w M0 _ W h2).mono fun e W' ⟨v,yE,zw,he,Zl,hp⟩=>?_
 have hL:(y8 (List.range' 0 zO.length) (zO++F)).length=zO.length+F.length:=by rw [qp,yK]
 refine ⟨v,_,zw,M,he,zE,hn v zw hp,(h3 yE zw W' Zl).rx (fun i=>if i<zw.length then zO.length+F.length+i else zO.length+(i-zw.length)) (fun i o hi=>?_) (fun i j hi hj h=>?_),hp⟩
 · by_cases hl:i<zw.length
   · rw [wE hl] at hi;simp only [zo hl];rw [kF ze,hL,JG];exact hi
   · simp only [zn hl];have z9:=(xI.1 hi).1;rw [yK] at z9;rw [kF ze] at hi;rw [wE ze,QV _ _ _ (fun hm=>by have:=AA.1 hm;omega),kF ze,JG];exact hi
 · rw [yK] at hi hj
   try dsimp only at h
   split at h<;>split at h<;>omega
theorem xy {f:FuncId} {fn:Func} {c:Code} {args:List Value} {zO:List Ob} {zX:Value->Mem->List Ob->Prop} (hf:P.funcs[f]?=some fn) (hb:fn.body=some c) (hn:fn.ntmps=N) (hk:Nat.ble args.length N=true)
 (h: ∀(F:List Ob) (w:World) (M0:Mem),jI F->VC P w M0 N c ⟨M,zO++F,vL 0 args⟩ (ay fun s=> ∃v zw,yH P fn s v/\M.le s.M/\jI zw/\ji s.own (zw++F)/\zX v s.M zw)):zu P f args M zO zX:=fun F hF w M0 hd W hW=>by
 have U5:args.length<=N:=Xk hk;refine eJ hf hb (vZ ((h F w M0 hF).go hd _ W ⟨hW,fun t sv ht=>?_,?_,rfl⟩) ?_)
 · obtain ⟨v,_,h1,rfl⟩:=ui args 0 t sv ht;have Uz:args[t]?=some v:=by simpa using h1
   have z9:=(xI.1 Uz).1;show (args.toArray++_)[t]?=some v;rw [du (by simpa using z9)];simpa using Uz
 · simp [hn];omega
 · rintro e a' W' ⟨yE,s',uE,hq⟩
   have key:(∃v zw,yH P fn s' v/\M.le s'.M/\jI zw/\ji s'.own (zw++F)/\zX v s'.M zw)->a'.defers= []/\ ∃v,(results fn a'.tmps).run P W'= .ok v W'/\ ∃u yE zw M',Ending.returned v= .returned u/\M.le M'/\jI zw/\Wd w M0 yE M' (zw++F) W'/\zX u M' zw:=by
    rintro ⟨v,zw,h1,hle,h2,h3,h4⟩;obtain ⟨uN,hW2⟩:=uE.1.KJ h3;exact ⟨uE.2.defers,v,h1.run uE,v,uN,zw,s'.M,rfl,hle,h2,hW2,h4⟩
   cases e with
   |ret=>exact key hq
   |normal=>exact key hq
   |exit id=>exact hq.elim
   |goto l=>exact hq.elim
   |panic c=>exact hq.elim
   |outgrown=>exact hq.elim
def Ent (P:Program) (w:World) (M0:Mem) (N:Nat) (o:Oper) (s:St) (f:FuncId) (vs:List Value):Prop:= ∀hd a W,Rel w M0 N hd s a W->(execOp a.eval o).run P W= .ok (.enter f vs.toArray) W
theorem Va {s:St} {f:FuncId} {xs:Array Operand} {qz:Array TypeId} {vs:List Value} [hf:zG P f] (hv:s.env.kP xs.toList=some vs):Ent P w M0 N ⟨dst, .call ⟨.value (.func f),xs,qz⟩,ty,pos,z7,g⟩ s f vs:=fun hd a W hR=>ZP (s:=s) hR.2 hf.h hv
theorem nL {ops:Array Oper} {l:List Oper} {Q:zX} {f:FuncId} {vs:List Value} {zO F:List Ob} {c:Call} {zX:Value->Mem->List Ob->Prop} (he:Ent P w M0 N ⟨dst, .call c,ty,pos,z7,none⟩ ⟨M,own,env⟩ f vs) (hc:zu P f vs M zO zX) (ht:uu own zO F) (hn:jI own)
 (hk:yi N dst=true) (zV:yR env 0=true) (h: ∀v M' zw,M.le M'->jI zw->zX v M' zw->VL P w M0 N ops l ⟨M',zw++F,env.put dst (.v v)⟩ Q):
 VL P w M0 N ops (⟨dst, .call c,ty,pos,z7,none⟩::l) ⟨M,own,env⟩ Q:= .mk fun hd a W hR=>by
 refine v8 rfl fun K hK=>?_
 unfold Oper.wp;rw [he hd a W hR];simp only [Oper.upon];obtain ⟨Zy,h1⟩:=hR.1.KJ (zw:=zO++F) ⟨[],by rw [xR];exact ht.h⟩;refine (hc F (hn.J1 ht.h).right w M0 Zy W h1).mono fun e W' ⟨v,yE,zw,M',he,hle,wK,Zl,hp⟩=>?_
 subst he;exact hK _ _ ((h v M' zw hle wK hp).go _ _ W' ⟨Zl,(hR.2.any zV yE).put hk (.v v)⟩)
theorem ac0 {ops:Array Oper} {f:FuncId} {vs:List Value} {zO:List Ob} {c:Call} {zX:Value->Mem->List Ob->Prop} (ρ:List Nat) (he:Ent P w M0 N ⟨dst, .call c,ty,pos,z7,none⟩ ⟨M,own,env⟩ f vs) (hc:zu P f vs M zO zX) (bg:u9 ρ=true) (JR:ZF zO ρ own) (hn:jI own):
 EX P w M0 N ops ⟨dst, .call c,ty,pos,z7,none⟩ ⟨M,own,env⟩ {x:Value×Mem×List Ob//M.le x.2.1/\jI x.2.2/\zX x.1 x.2.1 x.2.2} (fun x=>x.1.2.1) (fun x=>y8 ρ own++x.1.2.2) (fun x=> .v x.1.1):=⟨fun hd a W hR=>by
 rw [zo (by simp [Region.wanted])];rw [he hd a W hR];simp only [kj];have nX:(y8 ρ own).length=own.length:=qp ρ own
 have an:zO.length=ρ.length:=by
  clear hc;revert JR;generalize own=ow;clear hn hR bg he nX
  induction zO generalizing ρ with
  |nil=>cases ρ with
   |nil=>intro;rfl
   |cons j ρ=>intro h;exact h.elim
  |cons o l ih=>cases ρ with
   |nil=>intro h;exact h.elim
   |cons j ρ=>intro h;simp [ih ρ h.2]
 have AZ:jI (y8 ρ own):=⟨fun o ho=>by
  obtain ⟨i,hi⟩:=IW.1 ho;by_cases hg:o= .gone
  · rw [hg];rfl
  · exact hn.h o (IW.2 ⟨i,(Jt ρ own i o hi hg).2⟩)⟩
 have hW1:Wd w M0 (fun i=>if i<zO.length then hd (ρ.getD i 0) else hd (i-zO.length)) M (zO++y8 ρ own) W:=by
  have JS: ∀i o,(zO++y8 ρ own)[i]?=some o->o≠ .gone->own[if i<zO.length then ρ.getD i 0 else i-zO.length]?=some o/\(¬ i<zO.length->i-zO.length∉ρ):=fun i o hi jt=>by
   by_cases hl:i<zO.length
   · rw [wE hl] at hi;rw [zo hl];exact ⟨(JR.get i o hi).2,fun h=>absurd hl h⟩
   · rw [kF ze] at hi;rw [zn hl];have:=Jt ρ own _ o hi jt;exact ⟨this.2,fun _=>this.1⟩
  have cd: ∀i,(if i<zO.length then hd (ρ.getD i 0) else hd (i-zO.length))=hd (if i<zO.length then ρ.getD i 0 else i-zO.length):=fun i=>by split<;>rfl
  refine ⟨hR.1.below,hR.1.mem,hR.1.wS,hR.1.YW,fun i o hi=>?_,fun i o b hi jt hf=>?_,fun i j oi oj b hi hj J6 uW iB Un=>?_⟩
  · by_cases hg:o= .gone
    · subst hg;trivial
    · rw [cd];exact hR.1.own _ o (JS i o hi hg).1
  · rw [cd] at hf;exact hR.1.sep _ o b (JS i o hi jt).1 jt hf
  · rw [cd] at iB Un;obtain ⟨h1,h2⟩:=JS i oi hi J6;obtain ⟨h3,h4⟩:=JS j oj hj uW;have h5:=hR.1.VX _ _ oi oj b h1 h3 J6 uW iB Un;by_cases hl:i<zO.length<;>by_cases J5:j<zO.length
    · rw [zo hl,zo J5] at h5;exact ae bg i j ze ze h5
    · rw [zo hl,zn J5] at h5;exact absurd (h5▸sC ze) (h4 J5)
    · rw [zn hl,zo J5] at h5;exact absurd (h5▸sC ze) (h2 hl)
    · rw [zn hl,zn J5] at h5;omega
 refine (hc _ AZ w M0 _ W hW1).mono fun e W' ⟨v,yE,zw,M',he',hle,wK,Zl,hp⟩=>⟨v,he',⟨⟨v,M',zw⟩,hle,wK,hp⟩,fun i=>if i<own.length then hd i else yE (i-own.length),fun i hi=>zo hi,?_,rfl⟩
 have ef: ∀i o,(y8 ρ own)[i]?=some o->o≠ .gone->yE (zw.length+i)=hd i:=fun i o hi jt=>by
  have h1:=Zl.own (zw.length+i) o (by rw [kF ze,JG];exact hi);have h2:=hR.1.own i o (Jt ρ own i o hi jt).2;exact Cr (AZ.h o (IW.2 ⟨i,hi⟩)) h1 h2 jt
 have JS: ∀i o,(y8 ρ own++zw)[i]?=some o->o≠ .gone->(zw++y8 ρ own)[if i<own.length then zw.length+i else i-own.length]?=some o/\(if i<own.length then hd i else yE (i-own.length))=yE (if i<own.length then zw.length+i else i-own.length):=fun i o hi jt=>by
  by_cases hl:i<own.length
  · rw [wE ze] at hi;rw [zo hl,zo hl,kF ze,JG];exact ⟨hi,(ef i o hi jt).symm⟩
  · rw [kF ze,nX] at hi;rw [zn hl,zn hl,wE (xI.1 hi).1];exact ⟨hi,rfl⟩
 refine ⟨Zl.below,Zl.mem,Zl.wS,Zl.YW,fun i o hi=>?_,fun i o b hi jt hf=>?_,fun i j oi oj b hi hj J6 uW iB Un=>?_⟩
 · by_cases hg:o= .gone
   · subst hg;trivial
   · obtain ⟨h1,h2⟩:=JS i o hi hg;simp only [h2];exact Zl.own _ o h1
 · obtain ⟨h1,h2⟩:=JS i o hi jt;simp only [h2] at hf;exact Zl.sep _ o b h1 jt hf
 · obtain ⟨h1,h2⟩:=JS i oi hi J6;obtain ⟨h3,h4⟩:=JS j oj hj uW;simp only [h2] at iB;simp only [h4] at Un;have h5:=Zl.VX _ _ oi oj b h1 h3 J6 uW iB Un;have hlj:=(xI.1 hj).1;have hli:=(xI.1 hi).1;rw [yK,nX] at hlj hli;dsimp only at hlj hli h5;by_cases hl:i<own.length<;>by_cases J5:j<own.length<;>simp only [hl,J5,uR,kT] at h5<;>omega,fun x=>by show own.length<=(y8 ρ own++x.1.2.2).length;rw [yK,qp];omega,fun _=>rfl⟩
end
end Go.Proofs.YtaibdpjjojihmaaGreat
