/- A part of the proof of TopPrefix; no conditions. -/
import Derived.Test.YtaibdpjjojihmaaGreatPSp
set_option linter.unusedVariables false
set_option linter.unusedSimpArgs false
set_option maxRecDepth 20000
namespace Go.Proofs.YtaibdpjjojihmaaGreat
section
open Go Go.RowKit
abbrev Mem:=Nat->Option Obj
def Mem.of (w:World):Mem:=fun b=>w.heap[b]?
def Mem.no:Mem:=fun _=>none
def Mem.le (M M':Mem):Prop:= ∀b o,M b=some o->M' b=some o
def Mem.cell (M:Mem) (b o:Nat):Option Value:=match M b with|some (.cells c _ _)=>c[o]?|_=>none
theorem Mem.le_refl (M:Mem):M.le M:=fun _ _ h=>h
theorem Mem.xE (M:Mem):Mem.no.le M:=fun _ _ h=>by cases h
theorem Mem.le.trans {a b c:Mem} (h:a.le b) (k:b.le c):a.le c:=fun x o hx=>k x o (h x o hx)
theorem Mem.le.cell {M M':Mem} (h:M.le M') {b o:Nat} {v:Value} (hv:M.cell b o=some v):M'.cell b o=some v:=by
 unfold Mem.cell at*;cases hm:M b with
 |none=>rw [hm] at hv;cases hv
 |some x=>rw [h b x hm];rw [hm] at hv;exact hv
theorem Mem.Z7 {W:World} {b o:Nat}:(Mem.of W).cell b o=W.cell? ⟨b,o,none⟩:=by
 unfold Mem.cell Mem.of World.cell?;cases W.heap[b]? with
 |none=>rfl
 |some x=>cases x<;>rfl
theorem Mem.PM {M:Mem} {W W':World} {B:Nat} (h:M.le (Mem.of W)) (hb:Below B W W') (hB:W.heap.size<=B):M.le (Mem.of W'):=fun b o hm=>by
 have h1:W.heap[b]?=some o:=h b o hm;have z9:b<W.heap.size:=(XL.1 h1).1;exact (hb.block b ze).trans h1
inductive SV where
 |v (x:Value)
 |p (i off:Nat)
 |r (i:Nat)
abbrev Env:=List (Nat×SV)
def Env.get:Env->Nat->Option SV
 | [],_=>none
 |(k,s)::l,t=>match Nat.beq k t with|true=>some s|false=>Env.get l t
def Env.put (e:Env) (d:Option Tmp) (s:SV):Env:=match d with|some t=>(t,s)::e|none=>e
def Env.op (e:Env):Operand->Option SV
 | .tmp t=>e.get t
 | .const v=>some (.v v)
 | .func f=>some (.v (.func (.func f) #[] #[]))
 | .global _=>none
inductive Ob where
 |qZ (t:TypeId) (cells:List Value)
 |row (e:TypeId) (k n:Nat) (cells:List Value)
 |gone
 |zK (u:Value) (t:TypeId) (cells:List Value)
 |zC (u:Value) (e:TypeId) (k n:Nat) (cells:List Value)
 |omap (es:List (Int×Value))
 |vj (u:Value) (es:List (Int×Value))
def yX:Value->Option Nat
 | .pointer (some a)=>some a.block
 | .slice (some a) _ _=>some a.block
 | .map (some b)=>some b
 |_=>none
def wR (base:Nat) (W:World) (v:Value):Ob->Prop
 | .qZ t cs=> ∃b,v= .pointer (some ⟨b,0,none⟩)/\base<=b/\W.heap[b]?=some (.cells cs.toArray t (0,0))
 | .row e k n cs=>W.ownsRow base e k v n cs
 | .gone=>True
 | .zK u t cs=>v=u/\ ∃b,v= .pointer (some ⟨b,0,none⟩)/\base<=b/\W.heap[b]?=some (.cells cs.toArray t (0,0))
 | .zC u e k n cs=>v=u/\W.ownsRow base e k v n cs
 | .omap es=> ∃b en clock,v= .map (some b)/\base<=b/\W.heap[b]?=some (.map en clock)/\en.toList.map (fun e=>(e.key,e.val))=es.map (fun p=>(Value.int .i64 p.1,p.2))
 | .vj u es=>v=u/\ ∃b en clock,v= .map (some b)/\base<=b/\W.heap[b]?=some (.map en clock)/\en.toList.map (fun e=>(e.key,e.val))=es.map (fun p=>(Value.int .i64 p.1,p.2))
structure St where
 M:Mem
 own:List Ob
 env:Env
def SV.den (hd:Nat->Value):SV->Value
 | .v x=>x
 | .p i off=> .pointer (some ⟨(yX (hd i)).getD 0,off,none⟩)
 | .r i=>hd i
structure Wd (w:World) (M0:Mem) (hd:Nat->Value) (M:Mem) (ow:List Ob) (W:World):Prop where
 below:Below w.heap.size w W
 mem:M.le (Mem.of W)
 wS: ∀b,b<w.heap.size->M0 b=none->M b=none
 YW:M0.le M
 own: ∀i o,ow[i]?=some o->wR w.heap.size W (hd i) o
 sep: ∀i o b,ow[i]?=some o->o≠Ob.gone->yX (hd i)=some b->M b=none
 VX: ∀i j oi oj b,ow[i]?=some oi->ow[j]?=some oj->oi≠Ob.gone->oj≠Ob.gone->yX (hd i)=some b->yX (hd j)=some b->i=j
structure Fr (N:Nat) (hd:Nat->Value) (env:Env) (a:Act):Prop where
 env: ∀t sv,env.get t=some sv->a.tmps[t]?=some (sv.den hd)
 size:a.tmps.size=N
 defers:a.defers= []
def Rel (w:World) (M0:Mem) (N:Nat) (hd:Nat->Value) (s:St) (a:Act) (W:World):Prop:=Wd w M0 hd s.M s.own W/\Fr N hd s.env a
theorem XT {base:Nat} {W:World} {v:Value} {o:Ob} (h:wR base W v o) (jt:o≠Ob.gone) {b:Nat} (hf:yX v=some b):base<=b/\b<W.heap.size:=by
 have me: ∀ {t:TypeId} {cs:List Value},(∃b,v= .pointer (some ⟨b,0,none⟩)/\base<=b/\W.heap[b]?=some (.cells cs.toArray t (0,0)))->base<=b/\b<W.heap.size:=fun h=>by
  obtain ⟨g,rfl,h1,h2⟩:=h;obtain rfl:g=b:=by simpa [yX] using hf
  exact ⟨h1,(XL.1 h2).1⟩
 have w7: ∀ {e:TypeId} {k n:Nat} {cs:List Value},W.ownsRow base e k v n cs->base<=b/\b<W.heap.size:=fun h=>by
  obtain ⟨_,⟨rfl,_⟩|⟨g,cap,cur,rfl,h1,h2,_⟩⟩:=h
  · cases hf
  · obtain rfl:g=b:=by simpa [yX] using hf
    exact ⟨h1,(XL.1 h2).1⟩
 cases o with
 |qZ t cs=>exact me h
 |row e k n cs=>exact w7 h
 |gone=>exact absurd rfl jt
 |zK u t cs=>exact me h.2
 |zC u e k n cs=>exact w7 h.2
 |omap es=>
  obtain ⟨g,en,clock,rfl,h1,h2,_⟩:=h;obtain rfl:g=b:=by simpa [yX] using hf
  exact ⟨h1,(XL.1 h2).1⟩
 |vj u es=>
  obtain ⟨_,g,en,clock,rfl,h1,h2,_⟩:=h;obtain rfl:g=b:=by simpa [yX] using hf
  exact ⟨h1,(XL.1 h2).1⟩
theorem wR.kept {base:Nat} {W W':World} {v:Value} {o:Ob} {row:Option Nat} (h:wR base W v o) (hg:W.grownBy W' row) (jt: ∀b,yX v=some b->row≠some b):wR base W' v o:=by
 have me: ∀ {t:TypeId} {cs:List Value},(∃b,v= .pointer (some ⟨b,0,none⟩)/\base<=b/\W.heap[b]?=some (.cells cs.toArray t (0,0)))-> ∃b,v= .pointer (some ⟨b,0,none⟩)/\base<=b/\W'.heap[b]?=some (.cells cs.toArray t (0,0)):=fun h=>by
  obtain ⟨b,rfl,h1,h2⟩:=h;have z9:=(XL.1 h2).1;exact ⟨b,rfl,h1,(hg.block b z9 (fun e=>jt b rfl e.symm)).trans h2⟩
 have w7: ∀ {e:TypeId} {k n:Nat} {cs:List Value},W.ownsRow base e k v n cs->W'.ownsRow base e k v n cs:=fun h=>by
  refine World.ownsRow.kept h hg ?_;by_cases hb:v.ownBlock=none
  · exact .inl hb
  · refine .inr (fun e=>?_);cases v with
    |slice a l c=>
     cases a with
     |none=>exact hb rfl
     |some a=>exact jt a.block rfl (by rw [<-e];rfl)
    |_=>exact hb rfl
 cases o with
 |qZ t cs=>exact me h
 |row e k n cs=>exact w7 h
 |gone=>exact h
 |zK u t cs=>exact ⟨h.1,me h.2⟩
 |zC u e k n cs=>exact ⟨h.1,w7 h.2⟩
 |omap es=>
  obtain ⟨b,en,clock,rfl,h1,h2,h3⟩:=h;have z9:=(XL.1 h2).1;exact ⟨b,en,clock,rfl,h1,(hg.block b z9 (fun e=>jt b rfl e.symm)).trans h2,h3⟩
 |vj u es=>
  obtain ⟨h0,b,en,clock,rfl,h1,h2,h3⟩:=h;have z9:=(XL.1 h2).1;exact ⟨h0,b,en,clock,rfl,h1,(hg.block b z9 (fun e=>jt b rfl e.symm)).trans h2,h3⟩
theorem uO {W W':World} (h:Below W.heap.size W W'):W.grownBy W' none:=⟨h.os,h.tape,h.output,h.size,fun k hk _=>h.block k hk⟩
theorem Vi {W W':World} {B:Nat} {row:Option Nat} (h:W.grownBy W' row) (hB:B<=W.heap.size) (hr: ∀b,row=some b->B<=b):Below B W W':=
 ⟨h.os,h.tape,h.output,h.size,fun k hk=>h.block k ze (fun e=>by have:=hr k e.symm;omega)⟩
section
variable {w:World} {M0 M:Mem} {hd:Nat->Value} {own:List Ob} {W W':World}
theorem Wd.idle (h:Wd w M0 hd M own W) (hb:Below W.heap.size W W'):Wd w M0 hd M own W':=
 ⟨h.below.trans (hb.mono h.below.size),Mem.PM h.mem hb (zN _),h.wS,h.YW,fun i o hi=>(h.own i o hi).kept (uO hb) (fun _ _ e=>by cases e),h.sep,h.VX⟩
def Ke (hd:Nat->Value) (i:Nat) (v:Value):Nat->Value:=fun j=>if j=i then v else hd j
theorem j7 (hd:Nat->Value) (i:Nat) (v:Value):Ke hd i v i=v:=zo rfl
theorem qj (hd:Nat->Value) {i j:Nat} (v:Value) (h:j≠i):Ke hd i v j=hd j:=zn h
theorem Wd.KH (h:Wd w M0 hd M own W) {i:Nat} {o o':Ob} (hi:own[i]?=some o) (jt:o≠Ob.gone) {row:Option Nat} (hg:W.grownBy W' row) (w7: ∀b,row=some b->yX (hd i)=some b) (ju:wR w.heap.size W' (hd i) o'):
 Wd w M0 hd M (own.set i o') W':=by
 have Uo: ∀b,row=some b->w.heap.size<=b:=fun b hb=>(XT (h.own i o hi) jt (w7 b hb)).1
 have kg:i<own.length:=(xI.1 hi).1;have ab3: ∀j oj,j≠i->(own.set i o')[j]?=some oj->own[j]?=some oj:=fun j oj hj hh=>by rwa [Zb (uS hj)] at hh
 have same: ∀oj,(own.set i o')[i]?=some oj->oj=o':=fun oj hh=>by rw [wC kg] at hh;exact (qt hh).symm
 have UB: ∀j oj,(own.set i o')[j]?=some oj->oj≠Ob.gone-> ∃ok,own[j]?=some ok/\ok≠Ob.gone:=fun j oj hj uW=>by
  by_cases vN:j=i
  · subst vN;exact ⟨o,hi,jt⟩
  · exact ⟨oj,ab3 j oj vN hj,uW⟩
 refine ⟨h.below.trans (Vi hg h.below.size Uo),fun b x hm=>?_,h.wS,h.YW,fun j oj hj=>?_,fun j oj b hj uW hb=>?_,fun j k oj ok b hj hk uW gQ Un C6=>?_⟩
 · have h1:W.heap[b]?=some x:=h.mem b x hm;refine (hg.block b (XL.1 h1).1 (fun e=>?_)).trans h1;have:=h.sep i o b hi jt (w7 b e.symm);rw [this] at hm;cases hm
 · by_cases vN:j=i
   · subst vN;rw [same oj hj];exact ju
   · have Rm:=ab3 j oj vN hj;by_cases hgn:oj= .gone
     · subst hgn;trivial
     · exact (h.own j oj Rm).kept hg (fun b hb e=>vN (h.VX j i oj o b Rm hi hgn jt hb (w7 b e)))
 · obtain ⟨ok,h1,h2⟩:=UB j oj hj uW;exact h.sep j ok b h1 h2 hb
 · obtain ⟨o1,h1,h2⟩:=UB j oj hj uW;obtain ⟨o2,h3,h4⟩:=UB k ok hk gQ;exact h.VX j k o1 o2 b h1 h3 h2 h4 Un C6
theorem Wd.drop (h:Wd w M0 hd M own W) (i:Nat):Wd w M0 hd M (own.set i .gone) W:=by
 have UB: ∀j oj,(own.set i .gone)[j]?=some oj->oj≠Ob.gone->own[j]?=some oj:=fun j oj hj uW=>by
  by_cases vN:j=i
  · subst vN;rw [GZ] at hj;simp only [uR] at hj;split at hj
    · cases hj;exact absurd rfl uW
    · cases hj
  · rwa [Zb (uS vN)] at hj
 refine ⟨h.below,h.mem,h.wS,h.YW,fun j oj hj=>?_,fun j oj b hj uW hb=>h.sep j oj b (UB j oj hj uW) uW hb,fun j k oj ok b hj hk uW gQ Un C6=>h.VX j k oj ok b (UB j oj hj uW) (UB k ok hk gQ) uW gQ Un C6⟩;by_cases hgn:oj= .gone
 · subst hgn;trivial
 · exact h.own j oj (UB j oj hj hgn)
theorem Wd.add (h:Wd w M0 hd M own W) {o':Ob} {v':Value} (ju:wR w.heap.size W v' o') (hf: ∀b,yX v'=some b->M b=none/\ ∀i o,own[i]?=some o->o≠Ob.gone->yX (hd i)≠some b):
 Wd w M0 (Ke hd own.length v') M (own++ [o']) W:=by
 have wS: ∀j oj,j<own.length->(own++ [o'])[j]?=some oj->own[j]?=some oj:=fun j oj hj hh=>by rwa [wE hj] at hh
 have lt: ∀j oj,(own++ [o'])[j]?=some oj->j≠own.length->j<own.length:=fun j oj hh jt=>by
  have:=(xI.1 hh).1;simp at this;omega
 refine ⟨h.below,h.mem,h.wS,h.YW,fun j oj hj=>?_,fun j oj b hj uW hb=>?_,fun j k oj ok b hj hk uW gQ Un C6=>?_⟩
 · by_cases Wb:j=own.length
   · subst Wb;rw [j7];rw [kF (zN _)] at hj;simp at hj;subst hj;exact ju
   · rw [qj _ _ Wb];exact h.own j oj (wS j oj (lt j oj hj Wb) hj)
 · by_cases Wb:j=own.length
   · subst Wb;rw [j7] at hb;exact (hf b hb).1
   · rw [qj _ _ Wb] at hb;exact h.sep j oj b (wS j oj (lt j oj hj Wb) hj) uW hb
 · by_cases Wb:j=own.length
   · subst Wb;rw [j7] at Un;by_cases Rj:k=own.length
     · omega
     · rw [qj _ _ Rj] at C6;exact absurd C6 ((hf b Un).2 k ok (wS k ok (lt k ok hk Rj) hk) gQ)
   · rw [qj _ _ Wb] at Un;by_cases Rj:k=own.length
     · subst Rj;rw [j7] at C6;exact absurd Un ((hf b C6).2 j oj (wS j oj (lt j oj hj Wb) hj) uW)
     · rw [qj _ _ Rj] at C6;exact h.VX j k oj ok b (wS j oj (lt j oj hj Wb) hj) (wS k ok (lt k ok hk Rj) hk) uW gQ Un C6
theorem Wd.fresh (h:Wd w M0 hd M own W) {b:Nat} (hb:W.heap.size<=b):M b=none/\ ∀i o,own[i]?=some o->o≠Ob.gone->yX (hd i)≠some b:=by
 refine ⟨?_,fun i o hi jt hf=>by have:=(XT (h.own i o hi) jt hf).2;omega⟩;cases hm:M b with
 |none=>rfl
 |some x=>
  have:=(XL.1 (show W.heap[b]?=some x from h.mem b x hm)).1;omega
theorem VA {v:Value} (b:Nat) (hb:v.ownBlock=some b):yX v=some b:=by
 unfold Value.ownBlock at hb;unfold yX;split at hb
 · simpa using hb
 · cases hb
theorem Wd.app {i:Nat} {o o':Ob} {row:Option Nat} {v':Value} (h:Wd w M0 hd M own W) (hi:own[i]?=some o) (jt:o≠Ob.gone) (hg:W.grownBy W' row) (w7: ∀b,row=some b->yX (hd i)=some b) (ju:wR w.heap.size W' v' o')
 (hf: ∀b,yX v'=some b->yX (hd i)=some b\/W.heap.size<=b):Wd w M0 (Ke hd own.length v') M (own.set i .gone++ [o']) W':=by
 have JT:=(h.KH (o':= .gone) hi jt hg w7 trivial).add (o':=o') (v':=v') ju (fun b hb=>by
  have key: ∀q oq,(own.set i Ob.gone)[q]?=some oq->oq≠Ob.gone->q≠i/\own[q]?=some oq:=fun q oq hq On=>by
   by_cases Il:q=i
   · subst Il;rw [wC (xI.1 hi).1] at hq;exact absurd (qt hq).symm On
   · rw [Zb (uS Il)] at hq;exact ⟨Il,hq⟩
  rcases hf b hb with h2|h2
  · refine ⟨h.sep i _ b hi jt h2,fun q oq hq On hqf=>?_⟩;obtain ⟨Il,hq⟩:=key q oq hq On;exact Il (h.VX q i oq _ b hq hi On jt hqf h2)
  · refine ⟨(h.fresh h2).1,fun q oq hq On hqf=>?_⟩;obtain ⟨Il,hq⟩:=key q oq hq On;exact (h.fresh h2).2 q oq hq On hqf)
 rwa [xj] at JT
theorem Wd.new (h:Wd w M0 hd M own W) {o':Ob} {v':Value} (hg:W.grownBy W' none) (ju:wR w.heap.size W' v' o') (hf: ∀b,yX v'=some b->W.heap.size<=b):
 Wd w M0 (Ke hd own.length v') M (own++ [o']) W':=by
 have hi:=h.idle (Vi (B:=W.heap.size) hg (zN _) (fun b e=>by cases e));exact hi.add ju (fun b hb=>⟨(h.fresh (hf b hb)).1,fun i o hi jt=>(h.fresh (hf b hb)).2 i o hi jt⟩)
end
theorem aK {a b:Nat} (h:a≠b):Nat.beq a b=false:=by
 cases hb:Nat.beq a b with
 |false=>rfl
 |true=>exact absurd (qA hb) h
theorem Fr.eval {N:Nat} {hd:Nat->Value} {env:Env} {a:Act} (h:Fr N hd env a) {x:Operand} {sv:SV} (hx:env.op x=some sv):a.eval x=sv.den hd:=by
 cases x with
 |tmp t=>
  have:=h.env t sv hx;simp [Act.eval,this]
 |const v=>cases hx;rfl
 |func f=>cases hx;rfl
 |global g=>cases hx
def yi (N:Nat):Option Tmp->Bool
 |some d=>Nat.blt d N
 |none=>true
theorem Fr.put {N:Nat} {hd:Nat->Value} {env:Env} {a:Act} (h:Fr N hd env a) {dst:Option Tmp} (hk:yi N dst=true) (sv:SV):Fr N hd (env.put dst sv) (a.put dst (sv.den hd)):=by
 cases dst with
 |none=>exact h
 |some d=>
  have yE:d<N:=by simpa [yi,x9] using hk
  refine ⟨fun t s hs=>?_,by simp [Act.put,h.size],h.defers⟩;simp only [Env.put,Env.get] at hs;by_cases he:d=t
  · subst he;have:Nat.beq d d=true:=ni d;rw [this] at hs;cases hs;simp [Act.put,h.size,yE]
  · have:Nat.beq d t=false:=aK he;rw [this] at hs;have h1:=h.env t s hs;simp only [Act.put,abu he];exact h1
theorem Fr.KH {N:Nat} {hd yE:Nat->Value} {env:Env} {a:Act} (h:Fr N hd env a) (he: ∀t sv,env.get t=some sv->sv.den yE=sv.den hd):Fr N yE env a:=
 ⟨fun t sv hs=>by rw [he t sv hs];exact h.env t sv hs,h.size,h.defers⟩
section
variable (P:Program) (w:World) (M0:Mem) (N:Nat)
abbrev zX:=Exit->St->Prop
def post (Q:zX):Exit->Act->World->Prop:=fun e a W=> ∃hd s,Rel w M0 N hd s a W/\Q e s
structure VC (c:Code) (s:St) (Q:zX):Prop where
 go: ∀hd a W,Rel w M0 N hd s a W->c.wp P (post w M0 N Q) a W
structure VL (ops:Array Oper) (l:List Oper) (s:St) (Q:zX):Prop where
 go: ∀hd a W,Rel w M0 N hd s a W->wpList P ops (post w M0 N Q) l a W
structure QS (o:Oper) (s:St) (sv:SV):Prop where
 go: ∀hd a W,Rel w M0 N hd s a W->o.quietAt P a (fun W'=>Below W.heap.size W W') W (sv.den hd)
end
section
variable {P:Program} {w:World} {M0:Mem} {N:Nat}
def ajX (P:Program) (w:World) (M0:Mem) (N:Nat) (c:Code) (Q:zX):zX
 | .normal,s=>VC P w M0 N c s Q
 |e,s=>Q e s
theorem KD {x y:Code} {s:St} {Q:zX} (h:VC P w M0 N x s (ajX P w M0 N y Q)):VC P w M0 N (.seq x y) s Q:= .mk fun hd a W hR=>
 wp_seq (vZ (h.go hd a W hR) fun e a' W' ⟨yE,s',uE,hq⟩=>by
  cases e with
  |normal=>exact hq.go yE a' W' uE
  |exit id=>exact ⟨yE,s',uE,hq⟩
  |goto l=>exact ⟨yE,s',uE,hq⟩
  |ret=>exact ⟨yE,s',uE,hq⟩
  |panic c=>exact ⟨yE,s',uE,hq⟩
  |outgrown=>exact ⟨yE,s',uE,hq⟩)
theorem AH {s:St} {Q:zX} (h:Q .normal s):VC P w M0 N .skip s Q:= .mk fun hd a W hR=>wp_skip ⟨hd,s,hR,h⟩
theorem AI {s:St} {Q:zX} (h:Q .ret s):VC P w M0 N .ret s Q:= .mk fun hd a W hR=>wp_ret ⟨hd,s,hR,h⟩
theorem AM {id:Nat} {s:St} {Q:zX} (h:Q (.exit id) s):VC P w M0 N (.exit id) s Q:= .mk fun hd a W hR=>wp_exit ⟨hd,s,hR,h⟩
def Gx (id:Nat) (Q:zX):zX
 | .exit id',s=>match Nat.beq id' id with|true=>Q .normal s|false=>Q (.exit id') s
 |e,s=>Q e s
theorem nO {id:Nat} {c:Code} {s:St} {Q:zX} (h:VC P w M0 N c s (Gx id Q)):VC P w M0 N (.block id c) s Q:= .mk fun hd a W hR=>
 wp_block (vZ (h.go hd a W hR) fun e a' W' ⟨yE,s',uE,hq⟩=>by
  cases e with
  |exit id'=>
   simp only [Exit.inBlock];by_cases he:id'=id
   · subst he;have:Nat.beq id' id'=true:=ni _;simp only [Gx,this] at hq;rw [zo rfl];exact ⟨yE,s',uE,hq⟩
   · have:Nat.beq id' id=false:=aK he;simp only [Gx,this] at hq;rw [zn he];exact ⟨yE,s',uE,hq⟩
  |normal=>exact ⟨yE,s',uE,hq⟩
  |goto l=>exact ⟨yE,s',uE,hq⟩
  |ret=>exact ⟨yE,s',uE,hq⟩
  |panic c=>exact ⟨yE,s',uE,hq⟩
  |outgrown=>exact ⟨yE,s',uE,hq⟩)
theorem AN {c:Operand} {x y:Code} {s:St} {Q:zX} (b:Bool) (hc:s.env.op c=some (.v (.bool b))) (ht:b=true->VC P w M0 N x s Q) (hf:b=false->VC P w M0 N y s Q):VC P w M0 N (.cond c x y) s Q:= .mk fun hd a W hR=>
 wp_cond_split (hR.2.eval hc) (fun h=>(ht h).go hd a W hR) (fun h=>(hf h).go hd a W hR)
theorem abC {c:Operand} {x y:Code} {s:St} {Q:zX} {b:Bool} (hc:s.env.op c=some (.v (.bool b))) (hb:b=true) (h:VC P w M0 N x s Q):VC P w M0 N (.cond c x y) s Q:=
 AN b hc (fun _=>h) (fun h'=>by rw [hb] at h';cases h')
theorem SF {c:Operand} {x y:Code} {s:St} {Q:zX} {b:Bool} (hc:s.env.op c=some (.v (.bool b))) (hb:b=false) (h:VC P w M0 N y s Q):VC P w M0 N (.cond c x y) s Q:=
 AN b hc (fun h'=>by rw [hb] at h';cases h') (fun _=>h)
theorem AK {c:Code} {s:St} {Q Q':zX} (h:VC P w M0 N c s Q) (hq: ∀e s,Q e s->Q' e s):VC P w M0 N c s Q':= .mk fun hd a W hR=>
 vZ (h.go hd a W hR) fun e a' W' ⟨yE,s',uE,h1⟩=>⟨yE,s',uE,hq _ _ h1⟩
def agy (I:Nat->St->Prop) (n:Nat) (Q:zX):zX
 | .normal,s=> ∃m,m<n/\I m s
 |e,s=>Q e s
open Classical in
theorem I9 {c:Code} {s:St} {Q:zX} (I:Nat->St->Prop) (n:Nat) (h0:I n s) (h: ∀n s,I n s->VC P w M0 N c s (agy I n Q)):VC P w M0 N (.loop c) s Q:= .mk fun hd a W hR=>by
 have hx: ∀a W,(∃n hd s,Rel w M0 N hd s a W/\I n s)-> ∃n,(∃hd s,Rel w M0 N hd s a W/\I n s)/\ ∀m,(∃hd s,Rel w M0 N hd s a W/\I m s)->n<=m:=by
  rintro a W ⟨n,hn⟩
  induction n using Nat.strongRecOn with
  |_ n ih=>
   by_cases hm: ∃m,m<n/\ ∃hd s,Rel w M0 N hd s a W/\I m s
   · obtain ⟨m,hmn,hm⟩:=hm;exact ih m hmn hm
   · exact ⟨n,hn,fun m A8=>Nat.le_of_not_lt fun z9=>hm ⟨m,z9,A8⟩⟩
 refine wp_loop (fun a W=> ∃n hd s,Rel w M0 N hd s a W/\I n s) (fun a W=>if hh: ∃n hd s,Rel w M0 N hd s a W/\I n s then (hx a W hh).choose else 0) ⟨n,hd,s,hR,h0⟩ ?_;intro a W hI;rw [dif_pos hI];obtain ⟨⟨yE,s',uE,hI'⟩,Ra⟩:=(hx a W hI).choose_spec;refine vZ ((h _ s' hI').go yE a W uE) fun e a' W' ⟨uN,s2,JP,hq⟩=>?_
 cases e with
 |normal=>
  obtain ⟨m,hm,hIm⟩:=hq;have VR: ∃n hd s,Rel w M0 N hd s a' W'/\I n s:=⟨m,uN,s2,JP,hIm⟩;refine ⟨VR,?_⟩;rw [dif_pos VR];exact Nat.lt_of_le_of_lt ((hx a' W' VR).choose_spec.2 m ⟨uN,s2,JP,hIm⟩) hm
 |exit id=>exact ⟨uN,s2,JP,hq⟩
 |goto l=>exact ⟨uN,s2,JP,hq⟩
 |ret=>exact ⟨uN,s2,JP,hq⟩
 |panic c=>exact ⟨uN,s2,JP,hq⟩
 |outgrown=>exact ⟨uN,s2,JP,hq⟩
theorem Y0 {id:Nat} {l:List Oper} {s:St} {Q:zX} (h:VL P w M0 N l.toArray l s Q):VC P w M0 N (.region id l.toArray false) s Q:= .mk fun hd a W hR=>nr (h.go hd a W hR)
theorem a6 {ops:Array Oper} {s:St} {Q:zX} (h:Q .normal s):VL P w M0 N ops [] s Q:= .mk fun hd a W hR=>wpList_nil ⟨hd,s,hR,h⟩
theorem Rel.idle {hd:Nat->Value} {s:St} {a:Act} {W W':World} (h:Rel w M0 N hd s a W) (hb:Below W.heap.size W W'):Rel w M0 N hd s a W':=⟨h.1.idle hb,h.2⟩
theorem Rel.put {hd:Nat->Value} {s:St} {a:Act} {W:World} (h:Rel w M0 N hd s a W) {dst:Option Tmp} (hk:yi N dst=true) (sv:SV):Rel w M0 N hd {s with env:=s.env.put dst sv} (a.put dst (sv.den hd)) W:=⟨h.1,h.2.put hk sv⟩
theorem zA {ops:Array Oper} {dst:Option Tmp} {op:Go.Op} {ty:TypeId} {pos:String} {z7:Array Edge} {l:List Oper} {M:Mem} {own:List Ob} {env:Env} {Q:zX} (sv:SV) (hq:QS P w M0 N ⟨dst,op,ty,pos,z7,none⟩ ⟨M,own,env⟩ sv) (hk:yi N dst=true)
 (h:VL P w M0 N ops l ⟨M,own,env.put dst sv⟩ Q):VL P w M0 N ops (⟨dst,op,ty,pos,z7,none⟩::l) ⟨M,own,env⟩ Q:= .mk fun hd a W hR=>by
 have h1:=hq.go hd a W hR;refine v8 rfl fun K hK=>?_
 unfold Oper.quietAt at h1;unfold Oper.wp;have key: ∀W',Below W.heap.size W W'->K (a.put dst (sv.den hd)) W':=fun W' hb=>hK _ _ (h.go hd _ W' ((hR.idle hb).put hk sv))
 generalize (execOp a.eval ⟨dst,op,ty,pos,z7,none⟩).run P W=r at*;cases r with
 |ok n W'=>
  cases n<;>simp only [Oper.quietUpon] at h1<;>simp only [Oper.upon]
  case value u=>
   obtain ⟨e1,e2⟩:=h1;rw [e1,e2];exact key _ (ZD _ _)
  case skip=>
   obtain ⟨e1,e2⟩:=h1;rw [e1,<-e2];exact key _ (ZD _ _)
  case enter f args=>
   obtain ⟨e1,hc⟩:=h1;rw [e1];exact hc.mono fun e NO ⟨he,hb⟩=>by subst he;exact key _ hb
 |halt x w'=>simp only [Oper.quietUpon] at h1
theorem YK {hd:Nat->Value} {s:St} {a:Act} {W:World} {ops:Array Oper} {o:Oper} {j:Nat} {want b:Bool} {oj:Oper} {d:Tmp} (hR:Rel w M0 N hd s a W) (hg:o.guard=some (j,want)) (hj:ops[j]?=some oj) (yE:oj.dst=some d)
 (hb:s.env.get d=some (.v (.bool b))):Region.wanted o (yielded ops a.tmps)=(b==want):=by
 have:=hR.2.env d _ hb;simp only [Region.wanted,hg,yielded,hj,GR,yE,this,SV.den];cases b<;>cases want<;>rfl
theorem aeV {ops:Array Oper} {dst:Option Tmp} {op:Go.Op} {ty:TypeId} {pos:String} {z7:Array Edge} {j:Nat} {want:Bool} {l:List Oper} {M:Mem} {own:List Ob} {env:Env} {Q:zX} (oj:Oper) (d:Tmp) (b:Bool) (hj:ops[j]?=some oj) (yE:oj.dst=some d)
 (hb:env.get d=some (.v (.bool b))) (hw:b=want) (h:VL P w M0 N ops (⟨dst,op,ty,pos,z7,none⟩::l) ⟨M,own,env⟩ Q):VL P w M0 N ops (⟨dst,op,ty,pos,z7,some (j,want)⟩::l) ⟨M,own,env⟩ Q:= .mk fun hd a W hR=>by
 have hwt:=YK (o:=⟨dst,op,ty,pos,z7,some (j,want)⟩) hR rfl hj yE hb;have h1:=h.go hd a W hR;unfold wpList at h1⊢;rw [zo (by simp [Region.wanted])] at h1;rw [zo (by rw [hwt,hw];simp)];exact h1
theorem aiB {ops:Array Oper} {dst:Option Tmp} {op:Go.Op} {ty:TypeId} {pos:String} {z7:Array Edge} {j:Nat} {want:Bool} {l:List Oper} {M:Mem} {own:List Ob} {env:Env} {Q:zX} (oj:Oper) (d:Tmp) (b:Bool) (hj:ops[j]?=some oj) (yE:oj.dst=some d)
 (hb:env.get d=some (.v (.bool b))) (hw:b=!want) (hk:yi N dst=true) (h:VL P w M0 N ops l ⟨M,own,env.put dst (.v undef)⟩ Q):VL P w M0 N ops (⟨dst,op,ty,pos,z7,some (j,want)⟩::l) ⟨M,own,env⟩ Q:= .mk fun hd a W hR=>by
 have hwt:=YK (o:=⟨dst,op,ty,pos,z7,some (j,want)⟩) hR rfl hj yE hb;unfold wpList;rw [zn (by rw [hwt,hw];cases want<;>simp)];exact h.go hd _ W (hR.put hk (.v undef))
theorem Bx {hd:Nat->Value} {s:St} {a:Act} {W:World} {ops:Array Oper} {o:Oper} {j:Nat} {want:Bool} {oj:Oper} {d:Tmp} (hR:Rel w M0 N hd s a W) (hg:o.guard=some (j,want)) (hj:ops[j]?=some oj) (yE:oj.dst=some d)
 (hb:s.env.get d=some (.v undef)):Region.wanted o (yielded ops a.tmps)=false:=by
 have:=hR.2.env d _ hb;simp only [Region.wanted,hg,yielded,hj,GR,yE,this,SV.den];rfl
theorem aeX {ops:Array Oper} {dst:Option Tmp} {op:Go.Op} {ty:TypeId} {pos:String} {z7:Array Edge} {j:Nat} {want:Bool} {l:List Oper} {M:Mem} {own:List Ob} {env:Env} {Q:zX} (oj:Oper) (d:Tmp) (hj:ops[j]?=some oj) (yE:oj.dst=some d)
 (hb:env.get d=some (.v undef)) (hk:yi N dst=true) (h:VL P w M0 N ops l ⟨M,own,env.put dst (.v undef)⟩ Q):VL P w M0 N ops (⟨dst,op,ty,pos,z7,some (j,want)⟩::l) ⟨M,own,env⟩ Q:= .mk fun hd a W hR=>by
 have hwt:=Bx (o:=⟨dst,op,ty,pos,z7,some (j,want)⟩) hR rfl hj yE hb;unfold wpList;rw [zn (by rw [hwt];simp)];exact h.go hd _ W (hR.put hk (.v undef))
theorem aeY {ops:Array Oper} {dst:Option Tmp} {op:Go.Op} {ty:TypeId} {pos:String} {z7:Array Edge} {j:Nat} {want:Bool} {l:List Oper} {M:Mem} {own:List Ob} {env:Env} {Q:zX} (oj:Oper) (d:Tmp) (b:Bool) (hj:ops[j]?=some oj) (yE:oj.dst=some d)
 (hb:env.get d=some (.v (.bool b))) (ht:b=true->VL P w M0 N ops (⟨dst,op,ty,pos,z7,some (j,want)⟩::l) ⟨M,own,env⟩ Q) (hf:b=false->VL P w M0 N ops (⟨dst,op,ty,pos,z7,some (j,want)⟩::l) ⟨M,own,env⟩ Q):
 VL P w M0 N ops (⟨dst,op,ty,pos,z7,some (j,want)⟩::l) ⟨M,own,env⟩ Q:=by
 cases b
 · exact hf rfl
 · exact ht rfl
structure VG (P:Program) (w:World) (M0:Mem) (N:Nat) (ops:Array Oper) (l:List Oper) (s:St) (Q:St->Prop):Prop where
 go: ∀hd a W0,Rel w M0 N hd s a W0->WR P ops W0 (fun a'=> ∃QZ,Fr N hd QZ a'/\Q {s with env:=QZ}) l a
theorem fx {ops:Array Oper} {s:St} {Q:St->Prop} (h:Q s):VG P w M0 N ops [] s Q:= .mk fun hd a W0 hR=>⟨s.env,hR.2,h⟩
theorem fK {ops:Array Oper} {W0:World} {Q Q':Act->Prop} (hq: ∀a,Q a->Q' a): ∀(l:List Oper) (a:Act),WR P ops W0 Q l a->WR P ops W0 Q' l a
 | [],a,h=>hq a h
 |o::l,a,⟨v,hy,h⟩=>⟨v,hy,fK hq l _ h⟩
theorem Ze {ops:Array Oper} {dst:Option Tmp} {op:Go.Op} {ty:TypeId} {pos:String} {z7:Array Edge} {l:List Oper} {M:Mem} {own:List Ob} {env:Env} {Q:St->Prop} (sv:SV) (hq:QS P w M0 N ⟨dst,op,ty,pos,z7,none⟩ ⟨M,own,env⟩ sv) (hk:yi N dst=true)
 (h:VG P w M0 N ops l ⟨M,own,env.put dst sv⟩ Q):VG P w M0 N ops (⟨dst,op,ty,pos,z7,none⟩::l) ⟨M,own,env⟩ Q:= .mk fun hd a W0 hR=>
 ⟨sv.den hd, .inl ⟨rfl,fun W hb=>hq.go hd a W (hR.idle hb)⟩,h.go hd _ W0 (hR.put hk sv)⟩
theorem ae0 {ops:Array Oper} {dst:Option Tmp} {op:Go.Op} {ty:TypeId} {pos:String} {z7:Array Edge} {j:Nat} {want:Bool} {l:List Oper} {M:Mem} {own:List Ob} {env:Env} {Q:St->Prop} (oj:Oper) (d:Tmp) (b:Bool) (hj:ops[j]?=some oj) (yE:oj.dst=some d)
 (hb:env.get d=some (.v (.bool b))) (hw:b=want) (h:VG P w M0 N ops (⟨dst,op,ty,pos,z7,none⟩::l) ⟨M,own,env⟩ Q):VG P w M0 N ops (⟨dst,op,ty,pos,z7,some (j,want)⟩::l) ⟨M,own,env⟩ Q:= .mk fun hd a W0 hR=>by
 have hwt:=YK (o:=⟨dst,op,ty,pos,z7,some (j,want)⟩) hR rfl hj yE hb;obtain ⟨v,hy,h2⟩:=h.go hd a W0 hR;refine ⟨v, .inl ⟨by rw [hwt,hw];simp,?_⟩,h2⟩;rcases hy with ⟨_,hy⟩|⟨hy,_⟩
 · exact hy
 · simp [Region.wanted] at hy
theorem aiC {ops:Array Oper} {dst:Option Tmp} {op:Go.Op} {ty:TypeId} {pos:String} {z7:Array Edge} {j:Nat} {want:Bool} {l:List Oper} {M:Mem} {own:List Ob} {env:Env} {Q:St->Prop} (oj:Oper) (d:Tmp) (b:Bool) (hj:ops[j]?=some oj) (yE:oj.dst=some d)
 (hb:env.get d=some (.v (.bool b))) (hw:b=!want) (hk:yi N dst=true) (h:VG P w M0 N ops l ⟨M,own,env.put dst (.v undef)⟩ Q):VG P w M0 N ops (⟨dst,op,ty,pos,z7,some (j,want)⟩::l) ⟨M,own,env⟩ Q:= .mk fun hd a W0 hR=>
 ⟨undef, .inr ⟨by rw [YK (o:=⟨dst,op,ty,pos,z7,some (j,want)⟩) hR rfl hj yE hb,hw];cases want<;>rfl,rfl⟩,h.go hd _ W0 (hR.put hk (.v undef))⟩
theorem ae1 {ops:Array Oper} {dst:Option Tmp} {op:Go.Op} {ty:TypeId} {pos:String} {z7:Array Edge} {j:Nat} {want:Bool} {l:List Oper} {M:Mem} {own:List Ob} {env:Env} {Q:St->Prop} (oj:Oper) (d:Tmp) (hj:ops[j]?=some oj) (yE:oj.dst=some d)
 (hb:env.get d=some (.v undef)) (hk:yi N dst=true) (h:VG P w M0 N ops l ⟨M,own,env.put dst (.v undef)⟩ Q):VG P w M0 N ops (⟨dst,op,ty,pos,z7,some (j,want)⟩::l) ⟨M,own,env⟩ Q:= .mk fun hd a W0 hR=>
 ⟨undef, .inr ⟨Bx (o:=⟨dst,op,ty,pos,z7,some (j,want)⟩) hR rfl hj yE hb,rfl⟩,h.go hd _ W0 (hR.put hk (.v undef))⟩
end
end
section
open Go Go.RowKit
section
variable {P:Program} {w:World} {M0:Mem} {N:Nat} {dst:Option Tmp} {ty:TypeId} {pos:String} {z7:Array Edge} {g:Option (Nat×Bool)} {s:St}
def wW (P:Program) (t:TypeId) (n:Nat):Bool:=(P.info? t).map (·.size)==some n
def L7 (P:Program) (t:TypeId):Bool:=match P.underlying t with|some (.struct _)|some (.array _ _)|none=>false|some _=>true
def DC (P:Program) (t:TypeId) (n:Nat):Bool:=(match P.underlying t with|some (.struct _)|some (.array _ _)=>true|_=>false)&&wW P t n
theorem y9 {t:TypeId} {n:Nat} (h:wW P t n=true) (W:World):(sizeOf t).run P W= .ok n W:=by
 unfold wW at h;cases hi:P.info? t with
 |none=>rw [hi] at h;cases h
 |some i=>rw [hi] at h;simp at h;simp [sizeOf,typeInfo,hi,h]
theorem vr {t:TypeId} (h:L7 P t=true) (W:World):(isAgg t).run P W= .ok false W:=by
 unfold L7 at h;unfold isAgg;cases hu:P.underlying t with
 |none=>rw [hu] at h;cases h
 |some d=>
  rw [yz,jG hu W];rw [hu] at h;cases d<;>simp_all
theorem oH {t:TypeId} {n:Nat} (h:DC P t n=true) (W:World):(isAgg t).run P W= .ok true W:=by
 unfold DC at h;unfold isAgg;simp only [yF] at h;cases hu:P.underlying t with
 |none=>rw [hu] at h;simp at h
 |some d=>
  rw [yz,jG hu W];rw [hu] at h;cases d<;>simp_all
theorem NN {t:TypeId} {n:Nat} (h:DC P t n=true):wW P t n=true:=by
 unfold DC at h;simp only [yF] at h;exact h.2
class ux (P:Program) (t:TypeId):Prop where
 h:L7 P t=true
class X2 (P:Program) (t:TypeId) (n:outParam Nat):Prop where
 h:DC P t n=true
class jJ (P:Program) (t:TypeId) (n:outParam Nat):Prop where
 h:wW P t n=true
class kM (P:Program) (t:TypeId) (z:outParam Value):Prop where
 h: ∀W,(zeroValue t).run P W= .ok z W
theorem xH {o:Oper} {sv:SV} (h: ∀hd a W,Rel w M0 N hd s a W->(execOp a.eval o).run P W= .ok (.value (sv.den hd)) W):QS P w M0 N o s sv:= .mk fun hd a W hR=>by
 unfold Oper.quietAt;rw [h hd a W hR];exact ⟨rfl,rfl⟩
theorem abI {x:Operand} {sv:SV} (hx:s.env.op x=some sv):QS P w M0 N ⟨dst, .move x,ty,pos,z7,g⟩ s sv:=xH fun hd a W hR=>by
 show Result.ok (Next.value (a.eval x)) W=_;rw [hR.2.eval hx]
theorem N5 {x:Operand} {sv:SV} (hx:s.env.op x=some sv):QS P w M0 N ⟨dst, .assign x,ty,pos,z7,g⟩ s sv:=xH fun hd a W hR=>by
 show Result.ok (Next.value (a.eval x)) W=_;rw [hR.2.eval hx]
theorem NZ {c x y:Operand} {sv:SV} {b:Bool} (hc:s.env.op c=some (.v (.bool b))) (hb:b=true) (hx:s.env.op x=some sv):QS P w M0 N ⟨dst, .pick c x y,ty,pos,z7,g⟩ s sv:=xH fun hd a W hR=>by
 have h1:=hR.2.eval hc;have h2:=hR.2.eval hx;subst hb;simp [execOp,h1,h2,SV.den,asBool]
theorem N0 {c x y:Operand} {sv:SV} {b:Bool} (hc:s.env.op c=some (.v (.bool b))) (hb:b=false) (hy:s.env.op y=some sv):QS P w M0 N ⟨dst, .pick c x y,ty,pos,z7,g⟩ s sv:=xH fun hd a W hR=>by
 have h1:=hR.2.eval hc;have h2:=hR.2.eval hy;subst hb;simp [execOp,h1,h2,SV.den,asBool]
structure Wh (P:Program) (op:BinOp) (t:TypeId) (x y:Operand) (u v r:Value):Prop where
 h: ∀W,(do eqGuard op t x y u v;binOp op t u v:Sem Value).run P W= .ok r W
theorem yN {op:BinOp} {t t2:TypeId} {x y:Operand} {u v r:Value} (hx:s.env.op x=some (.v u)) (hy:s.env.op y=some (.v v)) (hr:Wh P op t x y u v r):QS P w M0 N ⟨dst, .binOp op t x y t2,ty,pos,z7,g⟩ s (.v r):=xH fun hd a W hR=>by
 have h1:=hR.2.eval hx;have h2:=hR.2.eval hy;have h3:=hr.h W;simp only [SV.den] at h1 h2;simp only [execOp,h1,h2,yz] at h3⊢;rw [h3];rfl
theorem ae7 {t:TypeId} {x:Operand} {b:Bool} (hx:s.env.op x=some (.v (.bool b))):QS P w M0 N ⟨dst, .unOp .not t x,ty,pos,z7,g⟩ s (.v (.bool (!b))):=xH fun hd a W hR=>by
 have h1:=hR.2.eval hx;simp only [SV.den] at h1;simp only [execOp,h1];rfl
def Ob.cells:Ob->List Value
 | .qZ _ cs=>cs
 | .row _ _ _ cs=>cs
 | .gone=> []
 | .zK _ _ cs=>cs
 | .zC _ _ _ _ cs=>cs
 | .omap _=> []
 | .vj _ _=> []
theorem ku {base:Nat} {W:World} {v:Value} {o:Ob} (h:wR base W v o) {off:Nat} {u:Value} (hu:o.cells[off]?=some u):W.cell? ⟨(yX v).getD 0,off,none⟩=some u:=by
 have me: ∀ {t:TypeId} {cs:List Value},(∃b,v= .pointer (some ⟨b,0,none⟩)/\base<=b/\W.heap[b]?=some (.cells cs.toArray t (0,0)))->cs[off]?=some u->W.cell? ⟨(yX v).getD 0,off,none⟩=some u:=fun {t cs} h hu=>by
  obtain ⟨b,rfl,_,h2⟩:=h;show W.cell? ⟨b,off,none⟩=some u;rw [Vm W b off _ t _ h2];simpa using hu
 have w7: ∀ {e:TypeId} {k n:Nat} {cs:List Value},W.ownsRow base e k v n cs->cs[off]?=some u->W.cell? ⟨(yX v).getD 0,off,none⟩=some u:=fun {e k n cs} h hu=>by
  obtain ⟨hl,⟨rfl,h0⟩|⟨g,cap,cur,rfl,_,h2,_,_,_,h6⟩⟩:=h
  · subst h0;have:cs= []:=dm ze;subst this;simp at hu
  · show W.cell? ⟨g,off,none⟩=some u;rw [Vm W g off _ e _ h2];rw [<-h6,wA] at hu;split at hu
    · simpa using hu
    · cases hu
 cases o with
 |qZ t cs=>exact me h hu
 |row e k n cs=>exact w7 h hu
 |gone=>simp [Ob.cells] at hu
 |zK w t cs=>exact me h.2 hu
 |zC w e k n cs=>exact w7 h.2 hu
 |omap es=>simp [Ob.cells] at hu
 |vj u es=>simp [Ob.cells] at hu
theorem DP {t:TypeId} {x:Operand} {i off:Nat} {o:Ob} {u:Value} (hx:s.env.op x=some (.p i off)) (ho:s.own[i]?=some o) (hu:o.cells[off]?=some u) [ht:ux P t]:QS P w M0 N ⟨dst, .load t x,ty,pos,z7,g⟩ s (.v u):=xH fun hd a W hR=>by
 have h1:=hR.2.eval hx;have h2:=ku (hR.1.own i o ho) hu;simp only [SV.den] at h1;simp [execOp,h1,Instr.loadAt,Instr.sureAddr,loadVar,vr ht.h,h2,SV.den]
theorem wm {t:TypeId} {cs:List Value} {b off:Nat} {W:World} (hc: ∀j u,cs[j]?=some u->W.cell? ⟨b,off+j,none⟩=some u) (ht:DC P t cs.length=true):
 (loadVar t ⟨b,off,none⟩).run P W= .ok (.agg cs.toArray) W:=by
 have hl:=run_loadCells_list (P:=P) W ⟨b,off,none⟩ cs (fun j v hv=>by rw [vG];exact hc j v hv);simp [loadVar,oH ht,y9 (NN ht),hl]
theorem SS {t:TypeId} {x:Operand} {i off:Nat} {o:Ob} (n:Nat) (hx:s.env.op x=some (.p i off)) (ho:s.own[i]?=some o) (hn:Nat.ble (off+n) o.cells.length=true) (ht:DC P t n=true):
 QS P w M0 N ⟨dst, .load t x,ty,pos,z7,g⟩ s (.v (.agg ((o.cells.drop off).take n).toArray)):=xH fun hd a W hR=>by
 have h1:=hR.2.eval hx;have hn':off+n<=o.cells.length:=Xk hn;have y7:((o.cells.drop off).take n).length=n:=by rw [yC,kI];omega
 have h3:=wm (P:=P) (t:=t) (cs:=(o.cells.drop off).take n) (b:=(yX (hd i)).getD 0) (off:=off) (W:=W) (fun j u hu=>by
  rw [wA] at hu;split at hu
  · rw [Vk] at hu;exact ku (hR.1.own i o ho) hu
  · cases hu) (by rw [y7];exact ht)
 simp only [SV.den] at h1;simp only [execOp,h1,Instr.loadAt,Instr.sureAddr,yz,xM,xh,h3];rfl
theorem SU {t:TypeId} {x:Operand} {i:Nat} {o:Ob} (hx:s.env.op x=some (.p i 0)) (ho:s.own[i]?=some o) (n:Nat) [ht:X2 P t n] (hn:o.cells.length=n):QS P w M0 N ⟨dst, .load t x,ty,pos,z7,g⟩ s (.v (.agg o.cells.toArray)):=xH fun hd a W hR=>by
 have h1:=hR.2.eval hx;have h3:=wm (P:=P) (t:=t) (cs:=o.cells) (b:=(yX (hd i)).getD 0) (off:=0) (W:=W) (fun j u hu=>by rw [xu];exact ku (hR.1.own i o ho) hu) (by rw [hn];exact ht.h);simp only [SV.den] at h1;simp only [execOp,h1,Instr.loadAt,Instr.sureAddr,yz,xM,xh,h3];rfl
theorem zY {t:TypeId} {x:Operand} {b off:Nat} {u:Value} (hx:s.env.op x=some (.v (.pointer (some ⟨b,off,none⟩)))) (hu:s.M.cell b off=some u) [ht:ux P t]:QS P w M0 N ⟨dst, .load t x,ty,pos,z7,g⟩ s (.v u):=xH fun hd a W hR=>by
 have h1:=hR.2.eval hx;have h2:W.cell? ⟨b,off,none⟩=some u:=by rw [<-Mem.Z7];exact hR.1.mem.cell hu
 simp only [SV.den] at h1;simp [execOp,h1,Instr.loadAt,Instr.sureAddr,loadVar,vr ht.h,h2,SV.den]
theorem zZ {t:TypeId} {x:Operand} {b off:Nat} (cs:List Value) (hx:s.env.op x=some (.v (.pointer (some ⟨b,off,none⟩)))) (hu: ∀j u,cs[j]?=some u->s.M.cell b (off+j)=some u) (n:Nat) [ht:X2 P t n] (hn:cs.length=n):
 QS P w M0 N ⟨dst, .load t x,ty,pos,z7,g⟩ s (.v (.agg cs.toArray)):=xH fun hd a W hR=>by
 have h1:=hR.2.eval hx;have h3:=wm (P:=P) (t:=t) (cs:=cs) (b:=b) (off:=off) (W:=W) (fun j u h=>by rw [<-Mem.Z7];exact hR.1.mem.cell (hu j u h)) (by rw [hn];exact ht.h);simp only [SV.den] at h1;simp only [execOp,h1,Instr.loadAt,Instr.sureAddr,yz,xM,xh,h3];rfl
def Gk (P:Program) (t:TypeId) (f off:Nat):Bool:=
 match P.underlying t with
 |some (.struct fs)=>match fs[f]? with
  |some fd=>Nat.beq fd.offset off&&!wW P fd.type 0&&(P.info? fd.type).isSome
  |none=>false
 |_=>false
class yA (P:Program) (t:TypeId) (f:Nat) (off:outParam Nat):Prop where
 h:Gk P t f off=true
theorem fW {t:TypeId} {f off:Nat} (h:Gk P t f off=true) (b o:Nat) (W:World):(Instr.fieldAt t (.pointer (some ⟨b,o,none⟩)) f).run P W= .ok (.pointer (some ⟨b,o+off,none⟩)) W:=by
 unfold Gk at h;split at h
 · rename_i fs hu
   split at h
   · rename_i fd hf
     simp only [yF,KB] at h;obtain ⟨⟨h1,h2⟩,h3⟩:=h;have Uz:=qA h1;cases hi:P.info? fd.type with
     |none=>rw [hi] at h3;cases h3
     |some i=>
      have hs:i.size≠0:=by
       intro e;unfold wW at h2;rw [hi] at h2;simp [e] at h2
      simp [Instr.fieldAt,jG hu,hf,Instr.sureAddr,fieldPlace,sizeOf,typeInfo,hi,hs,vG,Uz]
   · cases h
 · cases h
theorem AO {t:TypeId} {x:Operand} {f i o off:Nat} (hx:s.env.op x=some (.p i o)) [hf:yA P t f off]:QS P w M0 N ⟨dst, .fieldAddr t x f,ty,pos,z7,g⟩ s (.p i (o+off)):=xH fun hd a W hR=>by
 have h1:=hR.2.eval hx;simp only [SV.den] at h1;simp only [execOp,h1,yz,fW hf.h];rfl
theorem pe {t:TypeId} {x:Operand} {f b o off:Nat} (hx:s.env.op x=some (.v (.pointer (some ⟨b,o,none⟩)))) [hf:yA P t f off]:QS P w M0 N ⟨dst, .fieldAddr t x f,ty,pos,z7,g⟩ s (.v (.pointer (some ⟨b,o+off,none⟩))):=xH fun hd a W hR=>by
 have h1:=hR.2.eval hx;simp only [SV.den] at h1;simp only [execOp,h1,yz,fW hf.h];rfl
def Iy (P:Program) (t:TypeId) (f off:Nat):Bool:=
 match P.underlying t with
 |some (.struct fs)=>match fs[f]? with
  |some fd=>Nat.beq fd.offset off&&L7 P fd.type
  |none=>false
 |_=>false
class S4 (P:Program) (t:TypeId) (f:Nat) (off:outParam Nat):Prop where
 h:Iy P t f off=true
theorem SX {t:TypeId} {x:Operand} {f off:Nat} {cs:Array Value} {u:Value} (hx:s.env.op x=some (.v (.agg cs))) [hft:S4 P t f off] (hu:cs[off]?=some u):QS P w M0 N ⟨dst, .field t x f,ty,pos,z7,g⟩ s (.v u):=xH fun hd a W hR=>by
 have h1:=hR.2.eval hx;simp only [SV.den] at h1;have hf:=hft.h;unfold Iy at hf;split at hf
 · rename_i fs AX
   split at hf
   · rename_i fd hfd
     simp only [yF] at hf;obtain ⟨h2,h3⟩:=hf;have h2':=qA h2;simp only [execOp,h1,Instr.field,yz,jG AX,xh,hfd,asAgg,xM,part,vr h3,h2',hu,SV.den];simp
   · cases hf
 · cases hf
def RG (P:Program) (t:TypeId) (n:Nat):Bool:=
 match P.underlying t with
 |some (.struct fs)=>Nat.beq fs.size n&&(List.range n).all fun j=>match fs[j]? with|some fd=>Nat.beq fd.offset j&&wW P fd.type 1|none=>false
 |_=>false
class JN (P:Program) (t:TypeId) (n:outParam Nat):Prop where
 h:RG P t n=true
def Jd:List Value->List (Nat×Value)->List Value
 |cs,[]=>cs
 |cs,(i,v)::l=>Jd (cs.set i v) l
def Env.parts (e:Env):List (Nat×Operand)->Option (List (Nat×Value))
 | []=>some []
 |(i,x)::l=>match e.op x,e.parts l with|some (.v v),some r=>some ((i,v)::r)|_,_=>none
theorem Env.Jj {hd:Nat->Value} {env:Env} {a:Act} (h:Fr N hd env a): ∀(l:List (Nat×Operand)) (ps:List (Nat×Value)),env.parts l=some ps->l.map (fun (i,x)=>(i,a.eval x))=ps
 | [],ps,hp=>by cases hp;rfl
 |(i,x)::l,ps,hp=>by
  unfold Env.parts at hp;split at hp
  · rename_i v r hx hr
    cases hp;show (i,a.eval x)::l.map (fun (i,x)=>(i,a.eval x))=_;rw [Env.Jj h l r hr,h.eval hx];rfl
  · cases hp
theorem bJ {fs:Array Field}: ∀(n k:Nat),k+n=fs.size->(∀j,k<=j->j<k+n-> ∃fd,fs[j]?=some fd/\fd.offset=j/\wW P fd.type 1=true)-> ∀W:World,
 ((fs.toList.drop k).mapM (fun f=>do pure (f.offset,<-sizeOf f.type):Field->Sem (Nat×Nat))).run P W= .ok ((List.range' k n).map fun j=>(j,1)) W
 |0,k,hk,h,W=>by
  rw [Ut (by simp;omega)];rfl
 |n+1,k,hk,h,W=>by
  obtain ⟨fd,h1,h2,h3⟩:=h k (zN _) ze;have z9:k<fs.toList.length:=by simp;omega
  have he:fs.toList[k]=fd:=by
   have:=XL.1 h1;simpa using this.2
  rw [Zc z9,List.mapM_cons,he];have ih:=bJ n (k+1) ze (fun j hj hj2=>h j ze ze) W;simp only [yz,y9 h3,xh,xM,ih,h2,fg,xw]
theorem rl (n:Nat): ∀(ps:List (Nat×Value)) (cs:List Value),cs.length=n->(ps.all fun p=>Nat.blt p.1 n&&p.2.oneCell')=true->Instr.fill (((List.range n).map fun j=>(j,1)).toArray[·]?) cs.toArray ps=some (Jd cs ps).toArray
 | [],cs,_,_=>rfl
 |(i,v)::l,cs,hl,h=>by
  simp only [aS,yF] at h;obtain ⟨⟨h1,h2⟩,h3⟩:=h;have Uz:i<n:=by simpa [x9] using h1
  have hv:v.cells= #[v]:=by cases v<;>first|rfl|cases h2
  have ih:=rl n l (cs.set i v) (by simp [hl]) h3;unfold Instr.fill;simp only [List.getElem?_toArray,qd,List.getElem?_range Uz,ur,hv];rw [zn (by simp;omega)];simp only [Jd];rw [<-ih];congr 1
  · funext x;simp
  · show ((cs.toArray).setIfInBounds (i+0) v)=_;simp
theorem DQ {t:TypeId} {parts:Array (Nat×Operand)} {zs:Array Value} {ps:List (Nat×Value)} [hz:kM P t (.agg zs)] (n:Nat) [hft:JN P t n] (hn:zs.toList.length=n) (hp:s.env.parts parts.toList=some ps)
 (h1:(ps.all fun p=>Nat.blt p.1 n&&p.2.oneCell')=true):QS P w M0 N ⟨dst, .build t parts,ty,pos,z7,g⟩ s (.v (.agg (Jd zs.toList ps).toArray)):=xH fun hd a W hR=>by
 have hpe:=Env.Jj hR.2 parts.toList ps hp;have hf:RG P t zs.size=true:=by have:=hft.h;rw [<-hn] at this;simpa using this
 unfold RG at hf;split at hf
 · rename_i fs hu
   simp only [yF] at hf;have YC:=qA hf.1
   have FM:=bJ (P:=P) (fs:=fs) zs.size 0 ze (fun j _ hj=>by
    have:=yw.1 hf.2 j (by simp;omega);split at this
    · rename_i fd hfd
      simp only [yF] at this;exact ⟨fd,hfd,qA this.1,this.2⟩
    · cases this) W
   have gT:=rl zs.size ps zs.toList yx (by rw [<-hn] at h1;simpa using h1);have QP:(parts.map fun (i,x)=>(i,a.eval x)).toList=ps:=by rw [fi];exact hpe
   have ad2:(fs.mapM (fun f=>do pure (f.offset,<-sizeOf f.type):Field->Sem (Nat×Nat))).run P W= .ok ((List.range zs.size).map fun j=>(j,1)).toArray W:=by
    obtain ⟨fl⟩:=fs;simp only [JJ] at FM;rw [List.mapM_toArray,Sem.run_map,FM];simp [List.range_eq_range']
   simp only [execOp,Instr.build,yz,hz.h,xh,jG hu,Value.cells,QP];simp only [ad2,xh];simp only [Sb] at gT;rw [gT];rfl
 · cases hf
def rD (P:Program) (f:FuncId):Bool:=match P.funcs[f]? with|some fn=>!(fn.name== "runtime.NumGoroutine")&&fn.body.isSome|none=>false
class zG (P:Program) (f:FuncId):Prop where
 h:rD P f=true
def Env.kP (e:Env):List Operand->Option (List Value)
 | []=>some []
 |x::l=>match e.op x,e.kP l with|some (.v v),some r=>some (v::r)|_,_=>none
theorem Env.ZG {hd:Nat->Value} {env:Env} {a:Act} (h:Fr N hd env a): ∀(l:List Operand) (vs:List Value),env.kP l=some vs->l.map a.eval=vs
 | [],vs,hp=>by cases hp;rfl
 |x::l,vs,hp=>by
  unfold Env.kP at hp;split at hp
  · rename_i v r hx hr
    cases hp;rw [xw,Env.ZG h l r hr,h.eval hx];rfl
  · cases hp
theorem Je {f:FuncId} (h:rD P f=true) (args:Array Value) (W:World):(callFunc f args).run P W= .ok (.enter f args) W:=by
 unfold rD at h;split at h
 · rename_i fn hf
   simp only [yF,KB] at h
   have h2:fn.body.isNone=false:=by
    cases hb:fn.body with
    |none=>rw [hb] at h;simp at h
    |some c=>rfl
   simp only [callFunc,yz,aO,xh,hf,h.1,h2,Vq,kT,xM]
 · cases h
theorem ZP {hd:Nat->Value} {a:Act} {W:World} {f:FuncId} {xs:Array Operand} {qz:Array TypeId} {vs:List Value} (hF:Fr N hd s.env a) (hf:rD P f=true) (hv:s.env.kP xs.toList=some vs):
 (execOp a.eval ⟨dst, .call ⟨.value (.func f),xs,qz⟩,ty,pos,z7,g⟩).run P W= .ok (.enter f vs.toArray) W:=by
 have h1:=Env.ZG hF _ _ hv;show (callFunc f (#[]++xs.map a.eval++ #[])).run P W=_;rw [Je hf];have:(#[]++xs.map a.eval++ #[]:Array Value)=vs.toArray:=by rw [<-h1];cases xs;simp
 rw [this]
theorem zm {f:FuncId} {xs:Array Operand} {qz:Array TypeId} {vs:List Value} {r:Value} [hf:zG P f] (hv:s.env.kP xs.toList=some vs) (hc: ∀W,s.M.le (Mem.of W)->Calls P f vs.toArray W fun e W'=>e= .returned r/\Below W.heap.size W W'):
 QS P w M0 N ⟨dst, .call ⟨.value (.func f),xs,qz⟩,ty,pos,z7,g⟩ s (.v r):= .mk fun hd a W hR=>by
 unfold Oper.quietAt;rw [ZP hR.2 hf.h hv];exact ⟨rfl,hc W hR.1.mem⟩
theorem Hh {x:Operand} {k:Nat} {vs:Array Value} {u:Value} (hx:s.env.op x=some (.v (.tuple vs))) (hu:vs[k]?=some u):QS P w M0 N ⟨dst, .extract x k,ty,pos,z7,g⟩ s (.v u):=xH fun hd a W hR=>by
 have h1:=hR.2.eval hx;simp only [SV.den] at h1;simp [execOp,h1,Instr.extract,hu,SV.den]
def SV.okB (n:Nat):SV->Bool
 | .v _=>true
 | .p i _=>Nat.blt i n
 | .r i=>Nat.blt i n
def yR:Env->Nat->Bool
 | [],_=>true
 |(_,sv)::l,n=>match sv.okB n with|true=>yR l n|false=>false
theorem vn {n:Nat}: ∀ {env:Env},yR env n=true-> ∀t sv,env.get t=some sv->sv.okB n=true
 | [],_,t,sv,h=>by cases h
 |(k,s)::l,hB,t,sv,h=>by
  unfold yR at hB;split at hB
  · rename_i hs
    unfold Env.get at h;split at h
    · cases h;exact hs
    · exact vn hB t sv h
  · cases hB
theorem Sr {ops:Array Oper} {o:Oper} {l:List Oper} {Q:zX} {ob:Ob} {M:Mem} {own:List Ob} {env:Env} (hg:o.guard=none) (hk:yi N o.dst=true) (t:TypeId) (cs:List Value) (hob:ob= .qZ t cs)
 (hr: ∀hd a W,Rel w M0 N hd ⟨M,own,env⟩ a W->(execOp a.eval o).run P W= .ok (.value (.pointer (some ⟨W.heap.size,0,none⟩))) (W.alloc (.cells cs.toArray t))) (h:VL P w M0 N ops l ⟨M,own++ [ob],env.put o.dst (.p own.length 0)⟩ Q)
 (zV:yR env own.length=true):VL P w M0 N ops (o::l) ⟨M,own,env⟩ Q:= .mk fun hd a W hR=>by
 subst hob;refine v8 hg fun K hK=>?_
 unfold Oper.wp;rw [hr hd a W hR];simp only [Oper.upon]
 have uM:=hR.1.new (W':=W.alloc (.cells cs.toArray t)) (o':= .qZ t cs) (v':= .pointer (some ⟨W.heap.size,0,none⟩)) (rI W _ none) ⟨W.heap.size,rfl,hR.1.below.size,JI W _⟩ (fun b hb=>by
  obtain rfl:W.heap.size=b:=by simpa [yX] using hb
  exact zN _)
 have ef:Fr N (Ke hd own.length (.pointer (some ⟨W.heap.size,0,none⟩))) env a:=hR.2.KH fun t sv hs=>by
  have h2:=vn zV t sv hs;cases sv with
  |v x=>rfl
  |p i off=>
   have h3:i<own.length:=by simpa [SV.okB,x9] using h2
   simp only [SV.den];rw [qj _ _ ze]
  |r i=>
   have h3:i<own.length:=by simpa [SV.okB,x9] using h2
   simp only [SV.den];rw [qj _ _ ze]
 have ci:=ef.put hk (.p own.length 0)
 have e:SV.den (Ke hd own.length (.pointer (some ⟨W.heap.size,0,none⟩))) (.p own.length 0)= .pointer (some ⟨W.heap.size,0,none⟩):=by
  simp only [SV.den,j7];rfl
 rw [e] at ci;exact hK _ _ (h.go _ _ _ ⟨uM,ci⟩)
theorem aeZ {ops:Array Oper} {t:TypeId} {x:Operand} {l:List Oper} {Q:zX} {M:Mem} {own:List Ob} {env:Env} {u:Value} (hx:env.op x=some (.v u)) (hk:yi N dst=true) (zV:yR env own.length=true)
 (h:VL P w M0 N ops l ⟨M,own++ [.qZ t u.cells.toList],env.put dst (.p own.length 0)⟩ Q):VL P w M0 N ops (⟨dst, .box t x,ty,pos,z7,none⟩::l) ⟨M,own,env⟩ Q:=
 Sr (o:=⟨dst, .box t x,ty,pos,z7,none⟩) rfl hk t u.cells.toList rfl (fun hd a W hR=>by
  have h1:=hR.2.eval hx;simp only [SV.den] at h1;simp [execOp,h1,Instr.box,newVar,newRow]) h zV
theorem DI {ops:Array Oper} {t:TypeId} {l:List Oper} {Q:zX} {M:Mem} {own:List Ob} {env:Env} {z:Value} [hz:kM P t z] (hk:yi N dst=true) (zV:yR env own.length=true)
 (h:VL P w M0 N ops l ⟨M,own++ [.qZ t z.cells.toList],env.put dst (.p own.length 0)⟩ Q):VL P w M0 N ops (⟨dst, .alloc t,ty,pos,z7,none⟩::l) ⟨M,own,env⟩ Q:=
 Sr (o:=⟨dst, .alloc t,ty,pos,z7,none⟩) rfl hk t z.cells.toList rfl (fun hd a W hR=>by
  simp [execOp,Instr.alloc,hz.h,newVar,newRow]) h zV
theorem Wd.store {hd:Nat->Value} {M:Mem} {ow:List Ob} {W W':World} {i b:Nat} {t:TypeId} {cs Zn:List Value} (h:Wd w M0 hd M ow W) (hi:ow[i]?=some (.qZ t cs)) (hb:hd i= .pointer (some ⟨b,0,none⟩)) (hg:W.grownBy W' (some b))
 (hn:W'.heap[b]?=some (.cells Zn.toArray t (0,0))):Wd w M0 hd M (ow.set i (.qZ t Zn)) W':=by
 have z9:=(XT (h.own i _ hi) yx (b:=b) (by rw [hb];rfl));exact h.KH hi yx hg (fun c hc=>by cases hc;rw [hb];rfl) (o':= .qZ t Zn) ⟨b,hb,z9.1,hn⟩
theorem NP {ops:Array Oper} {t t':TypeId} {x y:Operand} {l:List Oper} {Q:zX} {M:Mem} {own:List Ob} {env:Env} {i off:Nat} {cs:List Value} {u:Value} (hx:env.op x=some (.p i off)) (hy:env.op y=some (.v u)) (hi:own[i]?=some (.qZ t' cs))
 (vE:Nat.blt off cs.length=true) (hu:u.oneCell'=true) [ht:jJ P t 1] (hk:yi N dst=true) (h:VL P w M0 N ops l ⟨M,own.set i (.qZ t' (cs.set off u)),env.put dst (.v undef)⟩ Q):
 VL P w M0 N ops (⟨dst, .store t x y,ty,pos,z7,none⟩::l) ⟨M,own,env⟩ Q:= .mk fun hd a W hR=>by
 have h1:=hR.2.eval hx;have h2:=hR.2.eval hy;simp only [SV.den] at h1 h2;obtain ⟨b,hb,kJ,Zk⟩:=hR.1.own i _ hi;have P8:off<cs.length:=by simpa [x9] using vE
 rw [hb] at h1;have hc:W.cell? ⟨b,off,none⟩=some (cs[off]):=by rw [Vm W b off _ t' _ Zk];simp [P8]
 have hz:W.frozen? ⟨b,off,none⟩=false:=Kv W b off _ t' Zk;have hv:u.cells= #[u]:=by cases u<;>first|rfl|cases hu
 refine v8 rfl fun K hK=>?_
 unfold Oper.wp
 have gO:(execOp a.eval ⟨dst, .store t x y,ty,pos,z7,none⟩).run P W= .ok .skip (W.setCell ⟨b,off,none⟩ u):=by
  simp [execOp,h1,h2,yX,Instr.storeAt,Instr.sureAddr,storeVar,y9 ht.h,hv,storeCells,run_store P W _ u _ hu,hc,hz,Ag]
 rw [gO];simp only [Oper.upon];have hg:W.grownBy (W.setCell ⟨b,off,none⟩ u) (some b):=⟨rfl,rfl,rfl,by simp,fun k hk jt=>nK W ⟨b,off,none⟩ k u (fun e=>jt (by rw [e]))⟩
 have hn:(W.setCell ⟨b,off,none⟩ u).heap[b]?=some (.cells (cs.set off u).toArray t' (0,0)):=by
  rw [Ar W b off _ t' u Zk];simp
 exact hK _ _ (h.go hd _ _ ⟨hR.1.store hi hb hg hn,hR.2.put hk (.v undef)⟩)
theorem rT {ops:Array Oper} {t t':TypeId} {x y:Operand} {l:List Oper} {Q:zX} {M:Mem} {own:List Ob} {env:Env} {i:Nat} {cs:List Value} {us:Array Value} (hx:env.op x=some (.p i 0)) (hy:env.op y=some (.v (.agg us))) (hi:own[i]?=some (.qZ t' cs))
 (hn:cs.length=us.toList.length) (hu:us.toList.all (·.oneCell')=true) (n:Nat) [ht:jJ P t n] (YC:us.toList.length=n) (hk:yi N dst=true) (h:VL P w M0 N ops l ⟨M,own.set i (.qZ t' us.toList),env.put dst (.v undef)⟩ Q):
 VL P w M0 N ops (⟨dst, .store t x y,ty,pos,z7,none⟩::l) ⟨M,own,env⟩ Q:= .mk fun hd a W hR=>by
 have h1:=hR.2.eval hx;have h2:=hR.2.eval hy;simp only [SV.den] at h1 h2;obtain ⟨b,hb,kJ,Zk⟩:=hR.1.own i _ hi;rw [hb] at h1;refine v8 rfl fun K hK=>?_
 unfold Oper.wp;have sY:(P.info? t).map (·.size)=some us.size:=by have:=ht.h;rw [<-YC] at this;unfold wW at this;simpa using this
 have KK:us.all (·.oneCell')=true:=by simpa using hu
 have gO:(execOp a.eval ⟨dst, .store t x y,ty,pos,z7,none⟩).run P W= .ok .skip (W.setRow b us):=by
  have h3:=run_storeVar_row (P:=P) W b t' t cs.toArray us Zk sY (by simpa using hn) KK;have Uz:a.eval x= .pointer (some ⟨b,0,none⟩):=h1;simp only [execOp,Uz,h2,Instr.storeAt,Instr.sureAddr,yz,xM,xh,h3]
 rw [gO];simp only [Oper.upon];have hg:W.grownBy (W.setRow b us) (some b):=⟨rfl,rfl,rfl,by simp,fun k hk jt=>setRow_other W b k us (fun e=>jt (by rw [e]))⟩
 have hnn:(W.setRow b us).heap[b]?=some (.cells us.toList.toArray t' (0,0)):=by
  rw [setRow_heap W b _ us t' _ Zk]
 exact hK _ _ (h.go hd _ _ ⟨hR.1.store hi hb hg hnn,hR.2.put hk (.v undef)⟩)
def We (P:Program) (s:St):ResultVar->Value->Prop
 | .tmp t,v=>s.env.get t=some (.v v)
 | .cell p t,v=> ∃i o,s.env.get p=some (.p i 0)/\s.own[i]?=some o/\((L7 P t=true/\o.cells[0]?=some v)\/(DC P t o.cells.length=true/\v= .agg o.cells.toArray))
def pK (P:Program) (tmps:Array Value):ResultVar->Sem Value
 | .tmp t=>pure (tmps.getD t undef)
 | .cell a t=>do loadVar t (<-asAddr (tmps.getD a undef))
theorem YR {hd:Nat->Value} {a:Act} {W:World} (hR:Rel w M0 N hd s a W) {r:ResultVar} {v:Value} (h:We P s r v):(pK P a.tmps r).run P W= .ok v W:=by
 cases r with
 |tmp t=>
  have:=hR.2.env t _ h;simp [pK,this,SV.den]
 |cell p t=>
  obtain ⟨i,o,h1,h2,h3⟩:=h;have h4:=hR.2.env p _ h1;have h5:a.tmps.getD p undef= .pointer (some ⟨(yX (hd i)).getD 0,0,none⟩):=by simp [h4,SV.den]
  simp only [pK,h5,asAddr,yz,xM,xh];rcases h3 with ⟨h3,h6⟩|⟨h3,rfl⟩
  · simp [loadVar,vr h3,ku (hR.1.own i o h2) h6]
  · exact wm (fun j u hu=>by rw [xu];exact ku (hR.1.own i o h2) hu) h3
def yH (P:Program) (fn:Func) (s:St) (v:Value):Prop:=
 (∃r,fn.results= #[r]/\We P s r v)\/(∃r1 r2 v1 v2,fn.results= #[r1,r2]/\v= .tuple #[v1,v2]/\We P s r1 v1/\We P s r2 v2)\/
 (∃r1 r2 r3 v1 v2 v3,fn.results= #[r1,r2,r3]/\v= .tuple #[v1,v2,v3]/\We P s r1 v1/\We P s r2 v2/\We P s r3 v3)\/(fn.results= #[]/\v= .tuple #[])
theorem YQ (fn:Func) (tmps:Array Value):results fn tmps=(do let vs<-fn.results.mapM (pK P tmps);pure (if h:vs.size=1 then vs[0] else .tuple vs)):=by
 unfold results;congr 1
theorem yH.run {fn:Func} {hd:Nat->Value} {a:Act} {W:World} (hR:Rel w M0 N hd s a W) {v:Value} (h:yH P fn s v):(results fn a.tmps).run P W= .ok v W:=by
 rw [YQ (P:=P)];rcases h with ⟨r,h1,h2⟩|⟨r1,r2,v1,v2,h1,rfl,h2,h3⟩|⟨r1,r2,r3,v1,v2,v3,h1,rfl,h2,h3,h4⟩|⟨h1,rfl⟩
 · rw [h1];simp [YR hR h2]
 · rw [h1];simp [YR hR h2,YR hR h3]
 · rw [h1];simp [YR hR h2,YR hR h3,YR hR h4]
 · rw [h1];simp
theorem yH.one {fn:Func} {r:ResultVar} {v:Value} (h:fn.results= #[r]) (h1:We P s r v):yH P fn s v:= .inl ⟨r,h,h1⟩
theorem yH.two {fn:Func} {r1 r2:ResultVar} {v1 v2:Value} (h:fn.results= #[r1,r2]) (h1:We P s r1 v1) (h2:We P s r2 v2):yH P fn s (.tuple #[v1,v2]):= .inr (.inl ⟨r1,r2,v1,v2,h,rfl,h1,h2⟩)
theorem yH.three {fn:Func} {r1 r2 r3:ResultVar} {v1 v2 v3:Value} (h:fn.results= #[r1,r2,r3]) (h1:We P s r1 v1) (h2:We P s r2 v2) (h3:We P s r3 v3):yH P fn s (.tuple #[v1,v2,v3]):= .inr (.inr (.inl ⟨r1,r2,r3,v1,v2,v3,h,rfl,h1,h2,h3⟩))
theorem xr {p:Tmp} {t:TypeId} {i:Nat} {o:Ob} {v:Value} (hp:s.env.get p=some (.p i 0)) (ho:s.own[i]?=some o) (n:Nat) [ht:X2 P t n] (hn:o.cells.length=n) (hv:Value.agg o.cells.toArray=v):We P s (.cell p t) v:=⟨i,o,hp,ho, .inr ⟨by rw [hn];exact ht.h,hv.symm⟩⟩
theorem zy {t:Tmp} {u v:Value} (hp:s.env.get t=some (.v u)) (hv:u=v):We P s (.tmp t) v:=by rw [<-hv];exact hp
def ay (R:St->Prop):zX
 | .ret,s=>R s
 | .normal,s=>R s
 |_,_=>False
def vL:Nat->List Value->Env
 |_,[]=> []
 |k,v::l=>(k, .v v)::vL (k+1) l
theorem ui: ∀(l:List Value) (k t:Nat) (sv:SV),(vL k l).get t=some sv-> ∃v,k<=t/\l[t-k]?=some v/\sv= .v v
 | [],_,_,_,h=>by cases h
 |v::l,k,t,sv,h=>by
  unfold vL Env.get at h;split at h
  · rename_i hb
    obtain rfl:=qA hb;cases h;exact ⟨v,zN _,by simp,rfl⟩
  · rename_i hb
    obtain ⟨u,h1,h2,h3⟩:=ui l (k+1) t sv h;exact ⟨u,ze,by rw [show t-k=(t-(k+1))+1 by omega];simpa using h2,h3⟩
theorem acU {f:FuncId} {fn:Func} {c:Code} {args:List Value} {M:Mem} (hf:P.funcs[f]?=some fn) (hb:fn.body=some c) (hn:fn.ntmps=N) (hk:Nat.ble args.length N=true) (hM:M.le (Mem.of w)) (zX:Value->Mem->Prop)
 (h:VC P w M N c ⟨M,[],vL 0 args⟩ (ay fun s=> ∃v,yH P fn s v/\zX v s.M)):
 Calls P f args.toArray w fun e W'=> ∃v M',e= .returned v/\Below w.heap.size w W'/\M.le M'/\M'.le (Mem.of W')/\(∀b,b<w.heap.size->M b=none->M' b=none)/\zX v M':=by
 have U5:args.length<=N:=Xk hk;refine eJ hf hb (vZ (h.go (fun _=> .nilFunc) _ w ⟨⟨ZD _ _,hM,fun b _ h=>h,zE,fun i o hi=>by simp at hi,fun i o b hi=>by simp at hi,fun i j oi oj b hi=>by simp at hi⟩,fun t sv ht=>?_,?_,rfl⟩) ?_)
 · obtain ⟨v,_,h1,rfl⟩:=ui args 0 t sv ht;have Uz:args[t]?=some v:=by simpa using h1
   have z9:=(xI.1 Uz).1;show (args.toArray++_)[t]?=some v;rw [du (by simpa using z9)];simpa using Uz
 · simp [hn];omega
 · rintro e a' W' ⟨yE,s',uE,hq⟩;cases e with
   |ret=>
    obtain ⟨v,h1,h2⟩:=hq;exact ⟨uE.2.defers,v,h1.run uE,v,s'.M,rfl,uE.1.below,uE.1.YW,uE.1.mem,uE.1.wS,h2⟩
   |normal=>
    obtain ⟨v,h1,h2⟩:=hq;exact ⟨uE.2.defers,v,h1.run uE,v,s'.M,rfl,uE.1.below,uE.1.YW,uE.1.mem,uE.1.wS,h2⟩
   |exit id=>exact hq.elim
   |goto l=>exact hq.elim
   |panic c=>exact hq.elim
   |outgrown=>exact hq.elim
theorem zQ {f:FuncId} {fn:Func} {c:Code} {args:List Value} {M:Mem} {r:Value} (hf:P.funcs[f]?=some fn) (hb:fn.body=some c) (hn:fn.ntmps=N) (hk:Nat.ble args.length N=true) (hM:M.le (Mem.of w))
 (h:VC P w M N c ⟨M,[],vL 0 args⟩ (ay fun s=>yH P fn s r)):Calls P f args.toArray w fun e W'=>e= .returned r/\Below w.heap.size w W':=
 (acU hf hb hn hk hM (fun v _=>v=r) (AK h fun e s hq=>by cases e<;>first|exact hq.elim|exact ⟨r,hq,rfl⟩)).mono fun e W' ⟨v,M',he,hb,_,_,_,hv⟩=>⟨by rw [he,hv],hb⟩
theorem SH {id:Nat} {l:List Oper} {Q:zX} (hm:P.follows .mixedOrders=true) (hB:Region.lexB .any l.toArray=true) (h:VG P w M0 N l.toArray l s (fun s'=>Q .normal s')):VC P w M0 N (.region id l.toArray true) s Q:= .mk fun hd a W hR=>by
 have h1:=h.go hd a W hR
 have conv: ∀(l':List Oper) (a:Act),WR P l.toArray W (fun a'=> ∃QZ,Fr N hd QZ a'/\Q .normal {s with env:=QZ}) l' a->
  wpQuiet P l.toArray (fun W'=>Below W.heap.size W W') (fun a'=> ∀W',Below W.heap.size W W'->post w M0 N Q .normal a' W') l' a:=by
  intro l'
  induction l' with
  |nil=>
   rintro a ⟨QZ,hF,hq⟩ W' hb;exact ⟨hd,{s with env:=QZ},⟨hR.1.idle hb,hF⟩,hq⟩
  |cons o l' ih=>
   rintro a ⟨v,hy,hK⟩;unfold wpQuiet;rcases hy with ⟨hw,hq⟩|⟨hw,rfl⟩
   · rw [zo hw];refine ⟨v,fun W' hb=>?_,ih _ hK⟩;have h2:=hq W' hb;unfold Oper.quietAt at*;generalize (execOp a.eval o).run P W'=r at*;cases r with
     |ok nx w'=>
      cases nx<;>simp only [Oper.quietUpon] at h2⊢
      case value u=>exact h2
      case skip=>exact h2
      case enter fn args=>exact ⟨h2.1,h2.2.mono fun e NO ⟨he,Zk⟩=>⟨he,hb.trans (Zk.mono hb.size)⟩⟩
     |halt x w'=>simp only [Oper.quietUpon] at h2
   · rw [zn (by rw [hw];simp)];exact ih _ hK
 refine wp_region_quiet (C:=fun W'=>Below W.heap.size W W') hm hB ?_ (conv l a h1);have:=below_regrown W (W.drawn+1) #[];rw [Go.Sort.grow_empty] at this;exact this
def HK (wz:List (Tmp×TypeId×List Value)) (s:St):St:=wz.foldl (fun s x=>⟨s.M,s.own++ [.qZ x.2.1 x.2.2],s.env.put (some x.1) (.p s.own.length 0)⟩) s
end
end
section
open Go Go.RowKit
section
variable {P:Program} {w:World} {M0:Mem} {N:Nat} {s:St}
theorem f6 {W:World} {B0:Nat} (hB0:w.heap.size<=B0) (gs:Nat->Nat): ∀(wz:List (Tmp×TypeId×List Value)) (k:Nat) (s:St) (a:Act) (hd:Nat->Value),Rel w M0 N hd s a W->
 (∀b,B0<=b->s.M b=none)->(∀i o b,s.own[i]?=some o->o≠Ob.gone->yX (hd i)=some b->b<B0\/ ∃j,j<k/\b=gs j)->yR s.env s.own.length=true->(wz.all fun x=>Nat.blt x.1 N)=true->
 (∀j x,wz[j]?=some x->B0<=gs (k+j)/\W.heap[gs (k+j)]?=some (.cells x.2.2.toArray x.2.1 (0,0)))->(∀i j,i<k+wz.length->j<k+wz.length->gs i=gs j->i=j)->
 ∃yE,Rel w M0 N yE (HK wz s) (im (wz.map fun x=>(x.1,Obj.cells x.2.2.toArray x.2.1)) k (fun j=>some (gs j)) a) W
 | [],k,s,a,hd,hR,_,_,_,_,_,_=>⟨hd,hR⟩
 |x::wz,k,s,a,hd,hR,hM,ho,he,hk,hg,oV=>by
  obtain ⟨g1,g2⟩:=hg 0 x rfl;simp only [Kt] at g1 g2;simp only [aS,yF] at hk
  have JT:=hR.1.add (o':= .qZ x.2.1 x.2.2) (v':= .pointer (some ⟨gs k,0,none⟩)) ⟨gs k,rfl,ze,g2⟩ (fun b hb=>by
   obtain rfl:gs k=b:=by simpa [yX] using hb
   refine ⟨hM _ g1,fun i o hi jt hf=>?_⟩;rcases ho i o _ hi jt hf with h1|⟨j,h1,h2⟩
   · omega
   · have:=oV k j yx (by simp;omega) h2;omega)
  have ef:Fr N (Ke hd s.own.length (.pointer (some ⟨gs k,0,none⟩))) s.env a:=hR.2.KH fun t sv hs=>by
   have h2:=vn he t sv hs;cases sv with
   |v x=>rfl
   |p i off=>
    have h3:i<s.own.length:=by simpa [SV.okB,x9] using h2
    simp only [SV.den];rw [qj _ _ ze]
   |r i=>
    have h3:i<s.own.length:=by simpa [SV.okB,x9] using h2
    simp only [SV.den];rw [qj _ _ ze]
  have ci:=ef.put (dst:=some x.1) hk.1 (.p s.own.length 0)
  have e:SV.den (Ke hd s.own.length (.pointer (some ⟨gs k,0,none⟩))) (.p s.own.length 0)= .pointer (some ⟨gs k,0,none⟩):=by
   simp only [SV.den,j7];rfl
  rw [e] at ci;have y7:(s.own++ [Ob.qZ x.2.1 x.2.2]).length=s.own.length+1:=by simp
  refine f6 hB0 gs wz (k+1) ⟨s.M,s.own++ [.qZ x.2.1 x.2.2],s.env.put (some x.1) (.p s.own.length 0)⟩ _ _ ⟨JT,ci⟩ hM ?_ ?_ hk.2 (fun j y hy=>by
   have:=hg (j+1) y hy
   rwa [show k+(j+1)=k+1+j by omega] at this) (fun i j hi hj=>oV i j (by simp only [xd];omega) (by simp only [xd];omega))
  · intro i o b hi jt hf;by_cases kg:i=s.own.length
    · subst kg;rw [j7] at hf;obtain rfl:gs k=b:=by simpa [yX] using hf
      exact .inr ⟨k,ze,rfl⟩
    · rw [qj _ _ kg] at hf
      have z9:i<s.own.length:=by
       have:=(xI.1 hi).1;simp at this;omega
      have sY:(s.own++ [Ob.qZ x.2.1 x.2.2])[i]?=some o:=hi;rw [wE z9] at sY;rcases ho i o b sY jt hf with h1|⟨j,h1,h2⟩
      · exact .inl h1
      · exact .inr ⟨j,ze,h2⟩
  · show yR ((x.1,SV.p s.own.length 0)::s.env) (s.own++ [Ob.qZ x.2.1 x.2.2]).length=true;rw [y7]
    have zH: ∀(env:Env) (n:Nat),yR env n=true->yR env (n+1)=true:=by
     intro env n
     induction env with
     |nil=>intro _;rfl
     |cons y l ih=>
      obtain ⟨q,sv⟩:=y;intro h;unfold yR at h⊢;split at h
      · rename_i hs
        have:sv.okB (n+1)=true:=by
         cases sv<;>simp [SV.okB,x9] at hs⊢ <;>omega
        rw [this];exact ih h
      · cases h
    unfold yR;have:SV.okB (s.own.length+1) (SV.p s.own.length 0)=true:=by simp [SV.okB,x9]
    rw [this];exact zH _ _ he
def abY (P:Program) (o:Oper) (x:Tmp×TypeId×List Value):Prop:=o.dst=some x.1/\o.guard=none/\o.op= .alloc x.2.1/\ ∃z:Value,(∀W,(zeroValue x.2.1).run P W= .ok z W)/\z.cells.toList=x.2.2
theorem Lb {id:Nat} {l:List Oper} {Q:zX} (n1 n:Nat) (wz:List (Tmp×TypeId×List Value)) (hm:P.follows .mixedOrders=true) (hB:Region.lexTailB .any l.toArray n=true) (hn:n=n1+wz.length) (lZ:(wz.map (·.1)).Nodup)
 (mg:(l.take n1).all (fun o=>wz.all fun x=>!(o.looksAt l.toArray).contains x.1&&o.dst !=some x.1)=true) (Rv: ∀k x,wz[k]?=some x-> ∃o,l[n1+k]?=some o/\abY P o x) (hkN:(wz.all fun x=>Nat.blt x.1 N)=true)
 (h:VG P w M0 N l.toArray (l.take n1) s (fun s'=>yR s'.env s'.own.length=true/\VL P w M0 N l.toArray (l.drop n) (HK wz s') Q)):VC P w M0 N (.region id l.toArray true) s Q:= .mk fun hd a W hR=>by
 refine V5 n1 n (wz.map fun x=>(x.1,Obj.cells x.2.2.toArray x.2.1)) hm hB (by simpa using hn) (by simpa [XB,Function.comp_def] using lZ) (by simpa [t7,Function.comp_def] using mg) ?_ (fK ?_ _ _ (h.go hd a W hR))
 · intro k x hx;rw [qd] at hx;cases hk:wz[k]? with
   |none=>rw [hk] at hx;cases hx
   |some y=>
    rw [hk] at hx;cases hx;obtain ⟨o,ho,h1,h2,h3,z,h4,h5⟩:=Rv k y hk;refine ⟨o,by simpa using ho,h1,fun a=>by simp [Region.wanted,h2],fun a W=>?_⟩;obtain ⟨od,oo,oty,aki,akk,og⟩:=o;simp only at h3;subst h3;have h5':z.cells=y.2.2.toArray:=by rw [<-h5]
    simp [execOp,Instr.alloc,h4,newVar,newRow,h5']
 · rintro a' ⟨QZ,hF,he,hV⟩ gs W' hb hg oV;have uE:Rel w M0 N hd {s with env:=QZ} a' W':=⟨hR.1.idle hb,hF⟩
   obtain ⟨yE,JP⟩:=f6 (B0:=W.heap.size) hR.1.below.size gs wz 0 {s with env:=QZ} a' hd uE (fun b z9=>by
    cases hm:s.M b with
    |none=>rfl
    |some x=>
     have:=(XL.1 (show W.heap[b]?=some x from hR.1.mem b x hm)).1;omega) (fun i o b hi jt hf=> .inl (XT (hR.1.own i o hi) jt hf).2) he hkN (fun j x hx=>by
     rw [xu];have:=hg j (x.1,Obj.cells x.2.2.toArray x.2.1) (by rw [qd,hx];rfl);exact ⟨this.1,this.2.2⟩) (fun i j hi hj=>oV i j (by simpa using hi) (by simpa using hj))
   exact hV.go yE _ W' JP
class Oa (P:Program):Prop where
 h:P.follows .mixedOrders=true
def agE:Go.Op->Bool
 | .store .. | .alloc _| .box .. | .buildSlice .. | .makeSlice .. | .makeFunc .. =>true
 | .call ⟨.builtin .append,_,_⟩=>true
 |_=>false
def qQ:List Oper->Nat
 | []=>0
 |o::l=>match agE o.op with|true=>0|false=>qQ l+1
theorem SJ {id:Nat} {l:List Oper} {Q:zX} [hm:Oa P] (hB:Region.lexTailB .any l.toArray (qQ l)=true)
 (h:VG P w M0 N l.toArray (l.take (qQ l)) s (fun s'=>yR s'.env s'.own.length=true/\VL P w M0 N l.toArray (l.drop (qQ l)) s' Q)):VC P w M0 N (.region id l.toArray true) s Q:=
 Lb (qQ l) (qQ l) [] hm.h hB rfl yx yx (fun k x hx=>by simp at hx) rfl h
theorem SM {id:Nat} {l:List Oper} {Q:zX} {d:Tmp} {t:TypeId} {z:Value} {ty:TypeId} {pos:String} {z7:Array Edge} [hm:Oa P] (hop:l[qQ l]?=some ⟨some d, .alloc t,ty,pos,z7,none⟩) [hz:kM P t z] (hB:Region.lexTailB .any l.toArray (qQ l+1)=true)
 (mg:(l.take (qQ l)).all (fun o=>!(o.looksAt l.toArray).contains d&&o.dst !=some d)=true) (hd:Nat.blt d N=true)
 (h:VG P w M0 N l.toArray (l.take (qQ l)) s (fun s'=>yR s'.env s'.own.length=true/\VL P w M0 N l.toArray (l.drop (qQ l+1)) ⟨s'.M,s'.own++ [.qZ t z.cells.toList],s'.env.put (some d) (.p s'.own.length 0)⟩ Q)):VC P w M0 N (.region id l.toArray true) s Q:=
 Lb (qQ l) (qQ l+1) [(d,t,z.cells.toList)] hm.h hB rfl yx (by simpa using mg) (fun k x hx=>by
  cases k with
  |zero=>
   injection hx with hx;subst hx;exact ⟨_,hop,rfl,rfl,rfl,z,hz.h,rfl⟩
  |succ k=>simp at hx) (by simpa using hd) h
end
section
variable {P:Program} {x y:Operand} {t:TypeId}
theorem ai0 {k:IntKind} {a b:Int}:Wh P .lss t x y (.int k a) (.int k b) (.bool (decide (a<b))):= .mk fun W=>by simp [go_sem]
theorem ai1 {k:IntKind} {a b:Int}:Wh P .leq t x y (.int k a) (.int k b) (.bool (decide (a<=b))):= .mk fun W=>by simp [go_sem]
theorem ai4 {k:IntKind} {a b:Int}:Wh P .gtr t x y (.int k a) (.int k b) (.bool (decide (b<a))):= .mk fun W=>by simp [go_sem]
theorem ai5 {k:IntKind} {a b:Int}:Wh P .geq t x y (.int k a) (.int k b) (.bool (decide (b<=a))):= .mk fun W=>by simp [go_sem]
theorem ai6 {k:IntKind} {a b:Int}:Wh P .eql t x y (.int k a) (.int k b) (.bool (a==b)):= .mk fun W=>by simp [go_sem]
theorem aiZ {k:IntKind} {a b:Int}:Wh P .neq t x y (.int k a) (.int k b) (.bool (a !=b)):= .mk fun W=>by simp [go_sem]
end
end
section
open Go Go.RowKit
section
variable {P:Program} {w:World} {M0:Mem} {N:Nat} {dst:Option Tmp} {ty:TypeId} {pos:String} {z7:Array Edge} {g:Option (Nat×Bool)} {s:St}
def SV.ren (ρ:List Nat):SV->SV
 | .v x=> .v x
 | .p i off=> .p (ρ.getD i 0) off
 | .r i=> .r (ρ.getD i 0)
def Vw (ρ:List Nat):Env->Env->Prop
 | [],_=>True
 |(t,sv)::l,e=>e.get t=some (sv.ren ρ)/\Vw ρ l e
theorem Vw.get {ρ:List Nat}: ∀ {e' e:Env},Vw ρ e' e-> ∀t sv,e'.get t=some sv->e.get t=some (sv.ren ρ)
 | [],_,_,_,_,h=>by cases h
 |(k,u)::l,e,⟨h1,h2⟩,t,sv,h=>by
  unfold Env.get at h;split at h
  · rename_i hb
    obtain rfl:=qA hb;cases h;exact h1
  · exact Vw.get h2 t sv h
def ZF:List Ob->List Nat->List Ob->Prop
 | [],[],_=>True
 |o::l,j::ρ,ow=>ow[j]?=some o/\ZF l ρ ow
 |_,_,_=>False
theorem ZF.get: ∀ {l:List Ob} {ρ:List Nat} {ow:List Ob},ZF l ρ ow-> ∀i o,l[i]?=some o->i<ρ.length/\ow[ρ.getD i 0]?=some o
 | [],[],_,_,i,o,h=>by simp at h
 | [],_::_,_,h,_,_,_=>h.elim
 |_::_,[],_,h,_,_,_=>h.elim
 |o::l,j::ρ,ow,⟨h1,h2⟩,0,o',h=>by
  simp at h;subst h;exact ⟨by simp,by simpa using h1⟩
 |o::l,j::ρ,ow,⟨h1,h2⟩,i+1,o',h=>by
  have:=ZF.get h2 i o' (by simpa using h);exact ⟨by simp;omega,by simpa using this.2⟩
def u9:List Nat->Bool
 | []=>true
 |x::l=>match l.all (fun y=>!Nat.beq x y) with|true=>u9 l|false=>false
theorem ae: ∀ {l:List Nat},u9 l=true-> ∀i j,i<l.length->j<l.length->l.getD i 0=l.getD j 0->i=j
 | [],_,i,j,hi,_,_=>by simp at hi
 |x::l,h,i,j,hi,hj,he=>by
  unfold u9 at h;split at h
  · rename_i ha
    have hx: ∀k,k<l.length->x≠l.getD k 0:=fun k hk e=>by
     have h1:=yw.1 ha (l.getD k 0) (by simp [List.getD,hk]);rw [<-e] at h1;have:Nat.beq x x=true:=ni x;rw [this] at h1;cases h1
    cases i with
    |zero=>
     cases j with
     |zero=>rfl
     |succ j=>exact absurd (by simpa using he) (hx j (by simpa using hj))
    |succ i=>
     cases j with
     |zero=>exact absurd (by simpa using he.symm) (hx i (by simpa using hi))
     |succ j=>rw [ae h i j (by simpa using hi) (by simpa using hj) (by simpa using he)]
  · cases h
structure Sub (ρ:List Nat) (s s':St):Prop where
 mem:s'.M=s.M
 nd:u9 ρ=true
 own:ZF s'.own ρ s.own
 env:Vw ρ s'.env s.env
theorem abb (hd:Nat->Value) (ρ:List Nat) (sv:SV):(sv.ren ρ).den hd=sv.den (fun i=>hd (ρ.getD i 0)):=by cases sv<;>rfl
theorem Sub.rel {ρ:List Nat} {s s':St} (h:Sub ρ s s') {hd:Nat->Value} {a:Act} {W:World} (hR:Rel w M0 N hd s a W):Rel w M0 N (fun i=>hd (ρ.getD i 0)) s' a W:=by
 refine ⟨⟨hR.1.below,by rw [h.mem];exact hR.1.mem,by rw [h.mem];exact hR.1.wS,by rw [h.mem];exact hR.1.YW,fun i o hi=>hR.1.own _ o (h.own.get i o hi).2,fun i o b hi jt hb=>by rw [h.mem];exact hR.1.sep _ o b (h.own.get i o hi).2 jt hb,
  fun i j oi oj b hi hj J6 uW iB Un=>ae h.nd i j (h.own.get i oi hi).1 (h.own.get j oj hj).1 (hR.1.VX _ _ oi oj b (h.own.get i oi hi).2 (h.own.get j oj hj).2 J6 uW iB Un)⟩,fun t sv ht=>?_,hR.2.size,hR.2.defers⟩
 rw [hR.2.env t _ (h.env.get t sv ht),abb]
theorem Hd {c:Code} {s:St} {Q:zX} (ρ:List Nat) (s':St) (h:Sub ρ s s') (hv:VC P w M0 N c s' Q):VC P w M0 N c s Q:= .mk fun hd a W hR=>hv.go _ a W (h.rel hR)
def ah9 {α:Type} (S:α->St) (I:α->Prop) (μ:α->Nat) (n:Nat) (Q:zX):zX
 | .normal,s=> ∃ρ x,Sub ρ s (S x)/\I x/\μ x<n
 |e,s=>Q e s
theorem yL {α:Type} {S:α->St} {I:α->Prop} {μ:α->Nat} {n:Nat} {Q:zX} {s:St} (ρ:List Nat) (x:α) (hs:Sub ρ s (S x)) (hI:I x) (hm:μ x<n):ah9 S I μ n Q .normal s:=⟨ρ,x,hs,hI,hm⟩
theorem Xp {a b:Nat} (h:a<b):decide ((a:Int)<(b:Int))=true:=yk ze
theorem Xq {a b:Nat} (h:b<=a):decide ((a:Int)<(b:Int))=false:=z6 ze
theorem kU {α:Type} {c:Code} {s:St} {Q:zX} (S:α->St) (I:α->Prop) (μ:α->Nat) (ρ:List Nat) (x:α) (hs:Sub ρ s (S x)) (h0:I x) (h: ∀x,I x->VC P w M0 N c (S x) (ah9 S I μ (μ x) Q)):VC P w M0 N (.loop c) s Q:=
 Hd ρ (S x) hs (.mk fun hd a W hR=>(I9 (s:=S x) (fun n s=> ∃x,s=S x/\I x/\μ x=n) (μ x) ⟨x,rfl,h0,rfl⟩ (by
  rintro n _ ⟨y,rfl,hy,rfl⟩;refine .mk fun hd a W hR=>vZ ((h y hy).go hd a W hR) fun e a' W' ⟨uN,s2,JP,hq⟩=>?_
  cases e with
  |normal=>
   obtain ⟨_,z,hz1,UF,hz3⟩:=hq;exact ⟨_,S z,hz1.rel JP,μ z,hz3,z,rfl,UF,rfl⟩
  |exit id=>exact ⟨uN,s2,JP,hq⟩
  |goto l=>exact ⟨uN,s2,JP,hq⟩
  |ret=>exact ⟨uN,s2,JP,hq⟩
  |panic c=>exact ⟨uN,s2,JP,hq⟩
  |outgrown=>exact ⟨uN,s2,JP,hq⟩)).go hd a W hR)
def OO (P:Program) (t e:TypeId):Bool:=match P.underlying t with|some (.slice e')=>Nat.beq e' e|_=>false
def lT (P:Program) (t:TypeId):Bool:=match P.underlying t with|some (.slice _)=>true|_=>false
def FA (P:Program) (t:TypeId):Bool:=match P.underlying t with|some .string=>true|_=>false
class XE (P:Program) (t:TypeId):Prop where
 h:lT P t=true
class fy (P:Program) (t:TypeId):Prop where
 h:FA P t=true
theorem Jp {t:TypeId} (h:FA P t=true):P.underlying t=some .string:=by unfold FA at h;split at h<;>first|assumption|cases h
theorem Jq {t:TypeId} (h:lT P t=true):P.underlying t=some (.slice (P.elem t)):=by
 unfold lT at h;split at h
 · rename_i e he
   simp [Program.elem,he]
 · cases h
theorem db {a:Act} {W:World} {x:Operand} {t:TypeId} {u:Value} {n:Int} (hx:a.eval x=u) (hr:(Builtin.len_ #[t] ty #[u]).run P W= .ok (goInt n) W):
 (execOp a.eval ⟨dst, .call ⟨.builtin .len, #[x], #[t]⟩,ty,pos,z7,g⟩).run P W= .ok (.value (.int .i64 n)) W:=by
 simp only [execOp,resolve,invoke,builtin,wP,xw,uo,hx,yz,xM,xh,hr];rfl
theorem ae9 {x:Operand} {t:TypeId} {A:Option Addr} {n c:Nat} (hx:s.env.op x=some (.v (.slice A n c))) [ht:XE P t]:QS P w M0 N ⟨dst, .call ⟨.builtin .len, #[x], #[t]⟩,ty,pos,z7,g⟩ s (.v (.int .i64 n)):=xH fun hd a W hR=>
 db (hR.2.eval hx) (run_len_slice W t ty A n c (Jq ht.h))
theorem N2 {x:Operand} {t:TypeId} {b:ByteArray} (hx:s.env.op x=some (.v (.string b))) [ht:fy P t]:QS P w M0 N ⟨dst, .call ⟨.builtin .len, #[x], #[t]⟩,ty,pos,z7,g⟩ s (.v (.int .i64 b.size)):=xH fun hd a W hR=>
 db (hR.2.eval hx) (run_len_string W t ty b (Jp ht.h))
theorem N3 {x:Operand} {t:TypeId} {i:Nat} {e:TypeId} {k n:Nat} {cs:List Value} (hx:s.env.op x=some (.r i)) (ho:s.own[i]?=some (.row e k n cs)) [ht:XE P t]:QS P w M0 N ⟨dst, .call ⟨.builtin .len, #[x], #[t]⟩,ty,pos,z7,g⟩ s (.v (.int .i64 n)):=xH fun hd a W hR=>by
 have h1:=hR.2.eval hx;simp only [SV.den] at h1;obtain ⟨_,⟨h2,h3⟩|⟨b,cap,cur,h2,_⟩⟩:=hR.1.own i _ ho
 · rw [h2] at h1;subst h3;exact db h1 (run_len_slice W t ty none 0 0 (Jq ht.h))
 · rw [h2] at h1;exact db h1 (run_len_slice W t ty _ n cap (Jq ht.h))
def mB (P:Program) (t:TypeId) (k:Nat):Bool:=match P.underlying t with|some (.slice e)=>wW P e k|_=>false
class X1 (P:Program) (t:TypeId) (k:outParam Nat):Prop where
 h:mB P t k=true
theorem zj {x y:Operand} {t:TypeId} {b off len c:Nat} {kd:IntKind} {i:Int} {k:Nat} (n:Nat) (hx:s.env.op x=some (.v (.slice (some ⟨b,off,none⟩) len c))) (hy:s.env.op y=some (.v (.int kd i))) (hi:i=(n:Int)) (hn:n<len) [hte:X1 P t k]:
 QS P w M0 N ⟨dst, .indexAddr t x y,ty,pos,z7,g⟩ s (.v (.pointer (some ⟨b,off+n*k,none⟩))):=xH fun hd a W hR=>by
 have h1:=hR.2.eval hx;have h2:=hR.2.eval hy;simp only [SV.den] at h1 h2;have ht:=hte.h;unfold mB at ht;split at ht
 · rename_i e hu
   have KK:P.underlying t=some (.slice (P.elem t)):=by simp [Program.elem,hu]
   have he:P.elem t=e:=by simp [Program.elem,hu]
   simp only [execOp,h1,h2,yz,run_indexAt_slice W t _ len c kd i KK];rw [zo ze,he,y9 ht,hi];simp only [xh,Yp,vG,SV.den];rfl
 · cases ht
theorem u5 {x y:Operand} {t:TypeId} {i:Nat} {e:TypeId} {k len:Nat} {cs:List Value} {kd:IntKind} {j:Int} (n:Nat) (hx:s.env.op x=some (.r i)) (ho:s.own[i]?=some (.row e k len cs)) (hy:s.env.op y=some (.v (.int kd j))) (hi:j=(n:Int)) (hn:n<len) [hte:X1 P t k]:
 QS P w M0 N ⟨dst, .indexAddr t x y,ty,pos,z7,g⟩ s (.p i (n*k)):=xH fun hd a W hR=>by
 have h1:=hR.2.eval hx;have h2:=hR.2.eval hy;simp only [SV.den] at h1 h2;obtain ⟨_,⟨h3,h4⟩|⟨b,cap,cur,h3,_⟩⟩:=hR.1.own i _ ho
 · omega
 rw [h3] at h1;have ht:=hte.h;unfold mB at ht;split at ht
 · rename_i e hu
   have KK:P.underlying t=some (.slice (P.elem t)):=by simp [Program.elem,hu]
   have he:P.elem t=e:=by simp [Program.elem,hu]
   simp only [execOp,h1,h2,yz,run_indexAt_slice W t _ len cap kd j KK];rw [zo ze,he,y9 ht,hi];simp only [xh,Yp,vG,SV.den,h3,yX];simp
 · cases ht
theorem dd {hd:Nat->Value} {own:List Ob} {env:Env} {a:Act} (h:Fr N hd env a) (zV:yR env own.length=true) (v:Value):Fr N (Ke hd own.length v) env a:=h.KH fun t sv hs=>by
 have h2:=vn zV t sv hs;cases sv with
 |v x=>rfl
 |p i off=>
  have h3:i<own.length:=by simpa [SV.okB,x9] using h2
  simp only [SV.den];rw [qj _ _ ze]
 |r i=>
  have h3:i<own.length:=by simpa [SV.okB,x9] using h2
  simp only [SV.den];rw [qj _ _ ze]
theorem aeW {ops:Array Oper} {o:Oper} {l:List Oper} {Q:zX} {M:Mem} {own:List Ob} {env:Env} (ob:Ob) (sv:SV) (hg:o.guard=none) (hk:yi N o.dst=true) (zV:yR env own.length=true)
 (hr: ∀hd a W,Rel w M0 N hd ⟨M,own,env⟩ a W-> ∃v W',(execOp a.eval o).run P W= .ok (.value v) W'/\W.grownBy W' none/\wR w.heap.size W' v ob/\(∀b,yX v=some b->W.heap.size<=b))
 (h:VL P w M0 N ops l ⟨M,own++ [ob],env.put o.dst (.r own.length)⟩ Q):VL P w M0 N ops (o::l) ⟨M,own,env⟩ Q:= .mk fun hd a W hR=>by
 refine v8 hg fun K hK=>?_
 obtain ⟨v,W',h1,h2,h3,h4⟩:=hr hd a W hR;unfold Oper.wp;rw [h1];simp only [Oper.upon];have ci:=(dd (own:=own) hR.2 zV v).put hk (.r own.length);have e1:SV.den (Ke hd own.length v) (.r own.length)=v:=by simp only [SV.den,j7]
 rw [e1] at ci;exact hK _ _ (h.go _ _ _ ⟨hR.1.new h2 h3 h4,ci⟩)
structure uy (P:Program) (t e:TypeId) (k bytes:Nat):Prop where
 ht:P.underlying t=some (.slice e)
 hi: ∃i z,P.info? e=some i/\i.zero=some z/\i.size=k/\i.bytes=bytes/\z.cells.size=k
 hk:0<k
def tE (P:Program) (t e:TypeId) (k bytes:Nat):Bool:=
 OO P t e&&(match P.info? e with|some i=>Nat.beq i.size k&&Nat.beq i.bytes bytes&&(match i.zero with|some z=>Nat.beq z.cells.size k|none=>false)|none=>false)&&Nat.blt 0 k
class kr (P:Program) (t:TypeId) (e:outParam TypeId) (k bytes:outParam Nat):Prop where
 h:tE P t e k bytes=true
theorem uy.mk' {t e:TypeId} {k bytes:Nat} (h:tE P t e k bytes=true):uy P t e k bytes:=by
 unfold tE at h;simp only [yF] at h;obtain ⟨⟨h1,h2⟩,h3⟩:=h;refine ⟨?_,?_,by simpa [x9] using h3⟩
 · unfold OO at h1;split at h1
   · rename_i e' he
     rw [he,qA h1]
   · cases h1
 · split at h2
   · rename_i i hi
     simp only [yF] at h2;obtain ⟨⟨h4,h5⟩,h6⟩:=h2;split at h6
     · rename_i z hz
       exact ⟨i,z,hi,hz,qA h4,qA h5,qA h6⟩
     · cases h6
   · cases h2
theorem YP {t ty e:TypeId} {k bytes base:Nat} (hE:uy P t e k bytes) {W:World} {v:Value} {n:Nat} {xs:List Value} (w8:W.ownsRow base e k v n xs) {a:Addr} {m c:Nat} {YT:List Value} (hl:YT.length=m*k)
 (Io: ∀j u,YT[j]?=some u->W.cell? (a.add j)=some u) (h1: ∀u∈YT,u.oneCell'=true) (h0:0<m) (gW:n+m<=maxLen) (va:(n+m)*bytes<=140737488355328) (Uo:base<=W.heap.size):
 ∃v' W',(Builtin.append_ #[t,t] ty #[v, .slice (some a) m c]).run P W= .ok v' W'/\W'.ownsRow base e k v' (n+m) (xs++YT)/\W.grownBy W' v.ownBlock/\(∀b,yX v'=some b->yX v=some b\/W.heap.size<=b):=by
 obtain ⟨i,z,hi,hz,hs,hb,pX⟩:=hE.hi;rcases id w8.2 with ⟨hv,P9⟩|⟨g,cap,cur,hv,hbg,hg,FN,bj,WF,Xg⟩
 · have P7:W.ownsRow W.heap.size e k v n xs:=⟨w8.1, .inl ⟨hv,P9⟩⟩;obtain ⟨v',W',r1,r2,r3,_⟩:=run_append_own W W.heap.size t ty e i z k bytes hE.ht hi hz hs hb pX hE.hk v n xs P7 a m c YT hl Io h1 gW va (zN _);refine ⟨v',W',r1,⟨r2.1,?_⟩,r3,fun b Za=> .inr ?_⟩
   · rcases r2.2 with h|⟨g,cap,cur,h2,h3,h4⟩
     · exact .inl h
     · exact .inr ⟨g,cap,cur,h2,ze,h4⟩
   · rcases r2.2 with ⟨h,_⟩|⟨g,cap,cur,h2,h3,h4⟩
     · rw [h] at Za;cases Za
     · rw [h2] at Za;obtain rfl:g=b:=by simpa [yX] using Za
       exact h3
 · obtain ⟨v',W',r1,r2,r3,_⟩:=run_append_own W base t ty e i z k bytes hE.ht hi hz hs hb pX hE.hk v n xs w8 a m c YT hl Io h1 gW va Uo;refine ⟨v',W',r1,r2,r3,fun b Za=>?_⟩;subst hv;by_cases K4:n+m<=cap
   · obtain ⟨W2,q1,_⟩:=run_append_fits W base t ty e i k hE.ht hi hs g n cap xs w8 a m c YT hl Io h1 K4;rw [q1] at r1;injection r1 with r1 _;subst r1;exact .inl Za
   · subst hs;have CU: ∀j u,xs[j]?=some u->W.cell? ((⟨g,0,none⟩:Addr).add j)=some u:=w8.cells (g:=g) rfl;have WD:n+m<=9223372036854775807:=by simp only [maxLen] at gW;omega
     have q1:=run_append_grow (P:=P) W t ty e i z hE.ht hi hz ⟨g,0,none⟩ n cap xs w8.1 CU a m c YT hl Io ze ze (growslice_fits ze (by rw [hb];exact va));rw [q1] at r1;injection r1 with r1 _;subst r1;refine .inr ?_;obtain rfl:W.heap.size=b:=by simpa [yX] using Za
     exact zN _
theorem ZQ {a:Act} {W:World} {x y:Operand} {t:TypeId} {u v:Value} (hx:a.eval x=u) (hy:a.eval y=v):(execOp a.eval ⟨dst, .call ⟨.builtin .append, #[x,y], #[t,t]⟩,ty,pos,z7,g⟩).run P W=
 ((Builtin.append_ #[t,t] ty #[u,v]).run P W).andThen fun r W'=> .ok (.value r) W':=by
 simp only [execOp,resolve,invoke,builtin,wP,xw,uo,hx,hy,yz,xM,xh]
theorem Sv {ops:Array Oper} {t e:TypeId} {l:List Oper} {Q:zX} {M:Mem} {own:List Ob} {env:Env} {len:Nat} {parts:Array (Nat×Operand)} {o:Oper} (ho:o.op= .buildSlice t len parts) (hg:o.guard=none) (k:Nat) (cells:List Value) (y7:cells.length=len*k) (qG:len<=maxLen)
 (gO: ∀hd a W,Fr N hd env a->(Instr.buildSlice t len (parts.map fun (i,x)=>(i,a.eval x))).run P W= .ok (.slice (some ⟨W.heap.size,0,none⟩) len len) (W.alloc (.cells cells.toArray e)))
 (hk:yi N o.dst=true) (zV:yR env own.length=true)
 (h:VL P w M0 N ops l ⟨M,own++ [.row e k len cells],env.put o.dst (.r own.length)⟩ Q):VL P w M0 N ops (o::l) ⟨M,own,env⟩ Q:=
 aeW (.row e k len cells) (.r own.length) hg hk zV (fun hd a W hR=>by
  refine ⟨_,_,?_,rI W (.cells cells.toArray e) none,⟨y7, .inr ⟨W.heap.size,len,_,rfl,hR.1.below.size,JI W _,zN _,qG,by simpa using y7,by rw [wD (by simp [y7])]⟩⟩,fun b hb=>?_⟩
  · obtain ⟨od,oo,oty,aki,akk,og⟩:=o;simp only at ho;subst ho;simp only [execOp,yz,gO hd a W hR.2,xh,xM]
  · obtain rfl:W.heap.size=b:=by simpa [yX] using hb
    exact zN _) h
theorem Cz {t e:TypeId} {env:Env} {x:Operand} {u:Value} {bytes k:Nat} (hx:env.op x=some (.v u)) [hE:kr P t e k bytes] (hu:u.cells.size=k) (qG:Nat.ble k 1000000=true) (hd:Nat->Value) (a:Act) (W:World) (hF:Fr N hd env a):
 (Instr.buildSlice t 1 ((#[(0,x)]:Array (Nat×Operand)).map fun (i,x)=>(i,a.eval x))).run P W= .ok (.slice (some ⟨W.heap.size,0,none⟩) 1 1) (W.alloc (.cells u.cells.toList.toArray e)):=by
 have J7:=uy.mk' hE.h;obtain ⟨i,z,hi,hz,hs,hb,pX⟩:=J7.hi;have dD:=hF.eval hx;have bh:=J7.hk;have A9:k<=1000000:=Xk qG;simp only [SV.den] at dD;have jt:¬ 16777216<k:=ze;have CX:k≠0:=ze
 have CY: ∀cs:Array Value,cs.size=k->Instr.fill (fun q=>some (q*k,k)) cs [(0,u)]=some u.cells:=fun cs WF=>by
  unfold Instr.fill;simp only [Vp,xu,hu,ne_eq,GX,false_or,WF,Nat.lt_irrefl,gt_iff_lt,decide_false,Bool.or_self,Vq,kT,Instr.fill];congr 1
  have key: ∀(q:Nat) (UC:Array Value),UC.size=k->q<=k->(∀j,j<q->UC[j]?=u.cells[j]?)->List.foldl (fun (cs:Array Value) (x:Value×Nat)=>cs.setIfInBounds x.2 x.1) UC ((u.cells.toList.drop q).zipIdx q)=u.cells:=by
   intro q
   induction hq:k-q generalizing q with
   |zero=>
    intro UC ha nW hj;rw [Ut (by simp [hu];omega)];apply Array.ext_getElem?;intro j;by_cases Rl:j<k
    · exact hj j ze
    · rw [Sg (by simp;omega),Sg ze]
   |succ d ih=>
    intro UC ha nW hj;have z9:q<u.cells.toList.length:=by simp [hu];omega
    rw [Zc z9,GQ,GK];refine ih (q+1) ze _ (by simp [ha]) ze (fun j hjq=>?_);by_cases ahy:j=q
    · subst ahy;have:j<UC.size:=ze;simp [this]
    · rw [abu (fun e=>ahy e.symm)];exact hj j ze
  have:=key 0 cs WF (zW _) (fun j hj=>ze);rw [JJ] at this;refine Eq.trans ?_ this;rw [<-G6];simp
 simp only [Instr.buildSlice,yz,jG J7.ht,xh,sizeOf,typeInfo,aO,hi,hs,tZ,xM];rw [zn ze];simp only [CX,kT,yz,zeroValue,typeInfo,aO,hi,xh,hz,xM,wP,xw,uo,dD];rw [CY _ yx];simp [newRow]
theorem abz {ops:Array Oper} {t e:TypeId} {l:List Oper} {Q:zX} {M:Mem} {own:List Ob} {env:Env} {x:Operand} {u:Value} {bytes k:Nat} (hx:env.op x=some (.v u)) [hE:kr P t e k bytes] (hu:u.cells.size=k) (qG:Nat.ble k 1000000=true) (hk:yi N dst=true) (zV:yR env own.length=true)
 (h:VL P w M0 N ops l ⟨M,own++ [.row e k 1 u.cells.toList],env.put dst (.r own.length)⟩ Q):VL P w M0 N ops (⟨dst, .buildSlice t 1 #[(0,x)],ty,pos,z7,none⟩::l) ⟨M,own,env⟩ Q:=
 Sv (t:=t) (e:=e) (o:=⟨dst, .buildSlice t 1 #[(0,x)],ty,pos,z7,none⟩) rfl rfl k u.cells.toList (by simp [hu]) Kq (Cz hx hu qG) hk zV h
end
end
section
open Go Go.RowKit
section
variable {P:Program} {x y:Operand} {t:TypeId}
theorem Qy {n:Int} (h0: -9223372036854775808<=n) (h1:n<=9223372036854775807):IntKind.i64.wrap n=n:=by
 simp only [IntKind.wrap,IntKind.bits,IntKind.signed];simp;split<;>omega
theorem ac3 {a b:Int} (h0: -9223372036854775808<=a+b) (h1:a+b<=9223372036854775807):Wh P .add t x y (.int .i64 a) (.int .i64 b) (.int .i64 (a+b)):= .mk fun W=>by simp [go_sem,Qy h0 h1]
theorem Qs {a b:Int} (h0: -9223372036854775808<=a-b) (h1:a-b<=9223372036854775807):Wh P .sub t x y (.int .i64 a) (.int .i64 b) (.int .i64 (a-b)):= .mk fun W=>by simp [go_sem,Qy h0 h1]
theorem ac2 {a b:Int} (h0: -9223372036854775808<=a*b) (h1:a*b<=9223372036854775807):Wh P .mul t x y (.int .i64 a) (.int .i64 b) (.int .i64 (a*b)):= .mk fun W=>by simp [go_sem,Qy h0 h1]
theorem afs {a b:ByteArray}:Wh P .eql t x y (.string a) (.string b) (.bool (decide (a=b))):= .mk fun W=>by
 have:(a.toList==b.toList)=decide (a=b):=by rw [fa,eH,j5,xX]
 simp [go_sem,this]
theorem afn {a b:ByteArray}:Wh P .neq t x y (.string a) (.string b) (.bool (!decide (a=b))):= .mk fun W=>by
 have:(a.toList==b.toList)=decide (a=b):=by rw [fa,eH,j5,xX]
 simp [go_sem,this]
theorem afo {a b:ByteArray}:Wh P .lss t x y (.string a) (.string b) (.bool (lt a b)):= .mk fun W=>by simp [go_sem,lt]
theorem afr {a b:ByteArray}:Wh P .geq t x y (.string a) (.string b) (.bool (!lt a b)):= .mk fun W=>by simp [go_sem,lt]
theorem OP (a b:ByteArray):(Op.bytesLess a.toList b.toList||a.toList==b.toList)=!lt b a:=by
 rw [show (a.toList==b.toList)=decide (a=b) by rw [fa,eH,j5,xX]];change (lt a b||decide (a=b))=!lt b a;by_cases h:a=b
 · subst h;simp [d7]
 · cases h1:lt a b with
   |true=>rw [Ff h1];rfl
   |false=>cases h2:lt b a with
    |true=>simp [h]
    |false=>exact absurd (ah h1 h2) h
theorem afp {a b:ByteArray}:Wh P .leq t x y (.string a) (.string b) (.bool (!lt b a)):= .mk fun W=>by simp [go_sem,OP]
theorem afq {a b:ByteArray}:Wh P .gtr t x y (.string a) (.string b) (.bool (lt b a)):= .mk fun W=>by simp [go_sem,OP]
theorem S7 {a b:ByteArray} (h:(a++b).size<=maxLen):Wh P .add t x y (.string a) (.string b) (.string (a++b)):= .mk fun W=>by
 rw [jy] at h;unfold maxLen at h;have h':¬ (9223372036854775807<a.size+b.size):=ze;simp [go_sem,Op.stringOp,h'];omega
class afm (P:Program) (t:TypeId):Prop where
 h:P.underlying t=some .bool
theorem afv {a b:Bool} [h:afm P t]:Wh P .eql t x y (.bool a) (.bool b) (.bool (a==b)):= .mk fun W=>by simp [go_sem,run_eql_bool W t a b h.h]
end
section
variable {P:Program} {w:World} {M0:Mem} {N:Nat} {dst:Option Tmp} {ty:TypeId} {pos:String} {z7:Array Edge} {g:Option (Nat×Bool)} {s:St}
class afe (P:Program) (t:TypeId):Prop where
 h:P.eqGuardType P.depth t=false
theorem Nc {op:BinOp} {t:TypeId} {x y:Operand} {xs ys:Array Value} (h:P.eqGuardType P.depth t=false) (W:World):(eqGuard op t x y (.agg xs) (.agg ys)).run P W= .ok () W:=by
 cases op<;>simp [eqGuard,h]
theorem S9 {op:BinOp} {t:TypeId} {x y:Operand} {xs ys:Array Value} {r:Value} [h:afe P t] (hr: ∀W,(binOp op t (.agg xs) (.agg ys)).run P W= .ok r W):Wh P op t x y (.agg xs) (.agg ys) r:= .mk fun W=>by
 rw [yz,Nc h.h];exact hr W
theorem fE {x y:Operand} {qz:Array TypeId} {u v r:Value} (hx:s.env.op x=some (.v u)) (hy:s.env.op y=some (.v v)) (hr: ∀W,(Builtin.max_ qz ty #[u,v]).run P W= .ok r W):QS P w M0 N ⟨dst, .call ⟨.builtin .max, #[x,y],qz⟩,ty,pos,z7,g⟩ s (.v r):=xH fun hd a W hR=>by
 have h1:=hR.2.eval hx;have h2:=hR.2.eval hy;simp only [SV.den] at h1 h2;simp only [execOp,resolve,invoke,builtin,wP,xw,uo,h1,h2,yz,xM,xh,hr,SV.den]
theorem fC {x y:Operand} {qz:Array TypeId} {u v r:Value} (hx:s.env.op x=some (.v u)) (hy:s.env.op y=some (.v v)) (hr: ∀W,(Builtin.min_ qz ty #[u,v]).run P W= .ok r W):QS P w M0 N ⟨dst, .call ⟨.builtin .min, #[x,y],qz⟩,ty,pos,z7,g⟩ s (.v r):=xH fun hd a W hR=>by
 have h1:=hR.2.eval hx;have h2:=hR.2.eval hy;simp only [SV.den] at h1 h2;simp only [execOp,resolve,invoke,builtin,wP,xw,uo,h1,h2,yz,xM,xh,hr,SV.den]
def xt {α:Type} (M:Mem) (k:Nat) (cells:α->List Value) (v:Value) (l:List α):Prop:=
 ∃A c,v= .slice A l.length c/\l.length<=c/\c<=maxLen/\(l= []\/ ∃b off,A=some ⟨b,off,none⟩/\(M b).isSome=true/\ ∀i (h:i<l.length) j x,(cells l[i])[j]?=some x->M.cell b (off+i*k+j)=some x)
theorem xt.mono {α:Type} {M M':Mem} {k:Nat} {cells:α->List Value} {v:Value} {l:List α} (h:xt M k cells v l) (hM:M.le M'):xt M' k cells v l:=by
 obtain ⟨A,c,h1,h2,h3,h4⟩:=h;refine ⟨A,c,h1,h2,h3,?_⟩;rcases h4 with h4|⟨b,off,h5,h6,h7⟩
 · exact .inl h4
 · refine .inr ⟨b,off,h5,?_,fun i h j x hx=>hM.cell (h7 i h j x hx)⟩;cases hb:M b with
   |none=>rw [hb] at h6;cases h6
   |some o=>rw [hM b o hb];rfl
theorem Sl.KI {α:Type} {W:World} {k:Nat} {cells:α->List Value} {v:Value} {l:List α} (h:Sl W k cells v l):xt (Mem.of W) k cells v l:=by
 obtain ⟨A,c,h1,h2,h3,h4⟩:=h;refine ⟨A,c,h1,h2,h3,?_⟩;rcases h4 with h4|⟨b,off,h5,h6,h7⟩
 · exact .inl h4
 · refine .inr ⟨b,off,h5,by simp [Mem.of,h6],fun i h j x hx=>?_⟩;rw [Mem.Z7];exact h7 i _ h rfl j x hx
theorem xt.xS {α:Type} {M:Mem} {W:World} {k:Nat} {cells:α->List Value} {v:Value} {l:List α} (h:xt M k cells v l) (hM:M.le (Mem.of W)):Sl W k cells v l:=by
 obtain ⟨A,c,h1,h2,h3,h4⟩:=h;refine ⟨A,c,h1,h2,h3,?_⟩;rcases h4 with h4|⟨b,off,h5,h6,h7⟩
 · exact .inl h4
 · refine .inr ⟨b,off,h5,?_,fun i u h hu j x hx=>?_⟩
   · cases hb:M b with
     |none=>rw [hb] at h6;cases h6
     |some o=>exact (XL.1 (show W.heap[b]?=some o from hM b o hb)).1
   · rw [<-Mem.Z7];exact hM.cell (h7 i h j x (by rw [hu];exact hx))
theorem xt.get {α:Type} {M:Mem} {k:Nat} {cells:α->List Value} {A:Option Addr} {c:Nat} {l:List α} (h:xt M k cells (.slice A l.length c) l) {i:Nat} (hi:i<l.length):
 ∃b off,A=some ⟨b,off,none⟩/\ ∀j x,(cells l[i])[j]?=some x->M.cell b (off+i*k+j)=some x:=by
 obtain ⟨A',c',he,_,_,h4⟩:=h;injection he with hA _ hc;subst hA;rcases h4 with h4|⟨b,off,rfl,_,h7⟩
 · subst h4;simp at hi
 · exact ⟨b,off,rfl,h7 i hi⟩
theorem xt.nil {α:Type} (M:Mem) (k:Nat) (cells:α->List Value):xt M k cells (.slice none 0 0) ([]:List α):=⟨none,0,rfl,by simp,by simp, .inl rfl⟩
def ud (M:Mem) (k n:Nat) (cs:List Value) (v:Value):Prop:=cs.length=n*k/\((v= .slice none 0 0/\n=0)\/ ∃b c,v= .slice (some ⟨b,0,none⟩) n c/\n<=c/\c<=maxLen/\(M b).isSome=true/\ ∀j u,cs[j]?=some u->M.cell b j=some u)
theorem vm {α:Type} {k:Nat} {cells:α->List Value}: ∀(m:List α) (i j:Nat) (hi:i<m.length),(∀a∈m,(cells a).length=k)->j<k->(m.flatMap cells)[i*k+j]?=(cells m[i])[j]?
 | [],i,_,hi,_,_=>by simp at hi
 |a::m,i,j,hi,hk,hj=>by
  have ha:=hk a yx;rw [j6];cases i with
  |zero=>rw [Vp,xu,wE ze];rfl
  |succ i=>
   rw [kF (by rw [ha,um];omega),ha,show (i+1)*k+j-k=i*k+j by rw [um];omega];exact vm m i j (by simpa using hi) (fun a ha=>hk a (by simp [ha])) hj
theorem ud.YB {α:Type} {M:Mem} {k:Nat} {cells:α->List Value} {v:Value} {l:List α} (hk: ∀a∈l,(cells a).length=k) (h:ud M k l.length (l.flatMap cells) v):xt M k cells v l:=by
 obtain ⟨_,⟨rfl,h0⟩|⟨b,c,rfl,h1,h2,h3,h4⟩⟩:=h
 · have:l= []:=dm h0;subst this;exact xt.nil M k cells
 · refine ⟨_,c,rfl,h1,h2, .inr ⟨b,0,rfl,h3,fun i hi j x hx=>?_⟩⟩
   have Rl:j<k:=by
    have:=(xI.1 hx).1;rw [hk l[i] (yD hi)] at this;exact this
   rw [xu];exact h4 _ _ (by rw [vm l i j hi hk Rl];exact hx)
theorem X5 {hd:Nat->Value} {M:Mem} {own:List Ob} {W:World} {i:Nat} {e:TypeId} {k n:Nat} {cs:List Value} (hR:Wd w M0 hd M own W) (hi:own[i]?=some (.row e k n cs)): ∃M':Mem,M.le M'/\ud M' k n cs (hd i)/\Wd w M0 hd M' (own.set i .gone) W:=by
 have hO:=hR.own i _ hi;have oX:=hR.drop i
 have aeK: ∀j oj b,(own.set i Ob.gone)[j]?=some oj->oj≠ .gone->yX (hd j)=some b->yX (hd i)≠some b:=fun j oj b hj uW MR hif=>by
  by_cases vN:j=i
  · subst vN;rw [wC (xI.1 hi).1] at hj;exact uW (qt hj).symm
  · rw [Zb (uS vN)] at hj;exact vN (hR.VX j i oj _ b hj hi uW yx MR hif)
 let M':Mem:=fun b=>if yX (hd i)=some b then W.heap[b]? else M b
 have hle:M.le M':=fun b o hb=>by
  by_cases hf:yX (hd i)=some b
  · rw [hR.sep i _ b hi yx hf] at hb;cases hb
  · simp only [M',hf,kT];exact hb
 refine ⟨M',hle,⟨hO.1,?_⟩,⟨oX.below,fun b o hb=>?_,fun b hb h0=>?_,hR.YW.trans hle,oX.own,fun j oj b hj uW MR=>?_,oX.VX⟩⟩
 · rcases hO.2 with ⟨h,h0⟩|⟨b,cap,cur,h,h1,h2,h3,h4,h5,h6⟩
   · exact .inl ⟨h,h0⟩
   · have hf:yX (hd i)=some b:=by rw [h];rfl
     have hMb:M' b=some (.cells cur e (0,0)):=by simp only [M',hf,uR];exact h2
     refine .inr ⟨b,cap,h,h3,h4,by rw [hMb];rfl,fun j u hu=>?_⟩;unfold Mem.cell;rw [hMb];rw [<-h6,wA] at hu;split at hu
     · simpa using hu
     · cases hu
 · by_cases hf:yX (hd i)=some b
   · simp only [M',hf,uR] at hb;exact hb
   · simp only [M',hf,kT] at hb;exact hR.mem b o hb
 · by_cases hf:yX (hd i)=some b
   · have:=(XT hO yx hf).1;omega
   · simp only [M',hf,kT];exact hR.wS b hb h0
 · have:=aeK j oj b hj uW MR;simp only [M',this,kT];exact oX.sep j oj b hj uW MR
theorem rU {c:Code} {Q:zX} {M:Mem} {own:List Ob} {env:Env} {i:Nat} {e:TypeId} {k n:Nat} {cs:List Value} (t:Tmp) (ht:env.get t=some (.r i)) (hi:own[i]?=some (.row e k n cs))
 (h: ∀v M',M.le M'->ud M' k n cs v->VC P w M0 N c ⟨M',own.set i .gone,(t, .v v)::env⟩ Q):VC P w M0 N c ⟨M,own,env⟩ Q:= .mk fun hd a W hR=>by
 obtain ⟨M',h1,h2,h3⟩:=X5 hR.1 hi;refine (h (hd i) M' h1 h2).go hd a W ⟨h3,fun q sv hq=>?_,hR.2.size,hR.2.defers⟩;unfold Env.get at hq;split at hq
 · rename_i hb
   obtain rfl:=qA hb;cases hq;exact hR.2.env _ (.r i) ht
 · exact hR.2.env q sv hq
def He (M:Mem) (W:World) (zX:Value->Mem->Prop) (e:Ending) (W':World):Prop:= ∃v M',e= .returned v/\Below W.heap.size W W'/\M.le M'/\M'.le (Mem.of W')/\(∀b,b<W.heap.size->M b=none->M' b=none)/\zX v M'
theorem Sx {ops:Array Oper} {l:List Oper} {Q:zX} {M:Mem} {own:List Ob} {env:Env} {f:FuncId} {xs:Array Operand} {qz:Array TypeId} {vs:List Value} {zX:Value->Mem->Prop} [hf:zG P f] (hv:env.kP xs.toList=some vs)
 (hc: ∀W,M.le (Mem.of W)->Calls P f vs.toArray W (He M W zX)) (hk:yi N dst=true) (h: ∀v M',M.le M'->zX v M'->VL P w M0 N ops l ⟨M',own,env.put dst (.v v)⟩ Q):
 VL P w M0 N ops (⟨dst, .call ⟨.value (.func f),xs,qz⟩,ty,pos,z7,none⟩::l) ⟨M,own,env⟩ Q:= .mk fun hd a W hR=>by
 refine v8 rfl fun K hK=>?_
 unfold Oper.wp;rw [ZP (s:=⟨M,own,env⟩) hR.2 hf.h hv];simp only [Oper.upon];refine (hc W hR.1.mem).mono fun e W' lW=>?_
 obtain ⟨v,M',he,hb,hle,K6,uM,hp⟩:=lW;subst he;have hi:=hR.1.idle hb;refine hK _ _ ((h v M' hle hp).go hd _ W' ⟨⟨hi.below,K6,fun b Za h0=>uM b (by have:=hR.1.below.size;omega) (hR.1.wS b Za h0),hi.YW.trans hle,hi.own,fun i o b sY jt C0=>?_,hi.VX⟩,hR.2.put hk (.v v)⟩);exact uM b (XT (hR.1.own i o sY) jt C0).2 (hR.1.sep i o b sY jt C0)
theorem So {f:FuncId} {fn:Func} {c:Code} {args:List Value} {M:Mem} (hf:P.funcs[f]?=some fn) (hb:fn.body=some c) (hn:fn.ntmps=N) (hk:Nat.ble args.length N=true) (hM:M.le (Mem.of w)) (zX:Value->Mem->Prop)
 (h:VC P w M N c ⟨M,[],vL 0 args⟩ (ay fun s=> ∃v,yH P fn s v/\zX v s.M)):Calls P f args.toArray w (He M w zX):=acU hf hb hn hk hM zX h
end
end
section
open Go Go.RowKit
section
variable {P:Program} {w:World} {M0:Mem} {N:Nat}
def ab4:Go.Op->Bool
 | .select .. =>false
 |_=>true
def Nr (o:Oper) (j:Nat):Bool:=o.after.toList.any fun e=>Region.binds .any e&&Nat.beq e.on j
theorem IC {o:Oper} {j:Nat} (h:Nr o j=true): ∃e∈o.after,Region.binds .any e=true/\e.on=j:=by
 unfold Nr at h;obtain ⟨e,he,h2⟩:=Aq.1 h;simp only [yF] at h2;exact ⟨e,by simpa using he,h2.1,qA h2.2⟩
theorem QC {a:Act} {d:Option Tmp} {v:Value} {t:Tmp} (h:d≠some t):(a.put d v).tmps[t]?=a.tmps[t]?:=by
 cases d with
 |none=>rfl
 |some d=>simp only [Act.put];exact abu (fun e=>h (by rw [e]))
theorem sF {a:Act} {d:Tmp} {v:Value} (h:d<a.tmps.size):(a.put (some d) v).tmps[d]?=some v:=by simp [Act.put,h]
def ES (P:Program) (w:World) (M0:Mem) (N:Nat) (o:Oper) (s:St) (zw:List Ob):Prop:= ∀hd a W,Rel w M0 N hd s a W-> ∃W',(execOp a.eval o).run P W= .ok .skip W'/\Wd w M0 hd s.M zw W'
def y8:List Nat->List Ob->List Ob
 | [],own=>own
 |i::gs,own=>y8 gs (own.set i .gone)
theorem Wd.acA {hd:Nat->Value} {M:Mem} {W:World}: ∀(gs:List Nat) (own:List Ob),Wd w M0 hd M own W->Wd w M0 hd M (y8 gs own) W
 | [],_,h=>h
 |i::gs,own,h=>Wd.acA gs _ (h.drop i)
theorem SK {id:Nat} {l:List Oper} {s:St} {Q:zX} [hm:Oa P] (hn:Nat.beq (qQ l) l.length=true) (hB:Region.lexB .any l.toArray=true) (h:VG P w M0 N l.toArray l s (fun s'=>Q .normal s')):VC P w M0 N (.region id l.toArray true) s Q:=SH hm.h hB h
theorem V4 {dst:Option Tmp} {ty:TypeId} {pos:String} {z7:Array Edge} {g:Option (Nat×Bool)} {t t':TypeId} {x y:Operand} {M:Mem} {own:List Ob} {env:Env} {i off:Nat} {cs:List Value} {u:Value} (hx:env.op x=some (.p i off)) (hy:env.op y=some (.v u)) (hi:own[i]?=some (.qZ t' cs))
 (vE:Nat.blt off cs.length=true) (hu:u.oneCell'=true) [ht:jJ P t 1]:ES P w M0 N ⟨dst, .store t x y,ty,pos,z7,g⟩ ⟨M,own,env⟩ (own.set i (.qZ t' (cs.set off u))):=fun hd a W hR=>by
 have h1:=hR.2.eval hx;have h2:=hR.2.eval hy;simp only [SV.den] at h1 h2;obtain ⟨b,hb,kJ,Zk⟩:=hR.1.own i _ hi;have P8:off<cs.length:=by simpa [x9] using vE
 rw [hb] at h1;have hc:W.cell? ⟨b,off,none⟩=some (cs[off]):=by rw [Vm W b off _ t' _ Zk];simp [P8]
 have hz:W.frozen? ⟨b,off,none⟩=false:=Kv W b off _ t' Zk;have hv:u.cells= #[u]:=by cases u<;>first|rfl|cases hu
 refine ⟨W.setCell ⟨b,off,none⟩ u,?_,?_⟩
 · simp [execOp,h1,h2,yX,Instr.storeAt,Instr.sureAddr,storeVar,y9 ht.h,hv,storeCells,run_store P W _ u _ hu,hc,hz,Ag]
 · exact hR.1.store hi hb ⟨rfl,rfl,rfl,by simp,fun k hk jt=>nK W ⟨b,off,none⟩ k u (fun e=>jt (by rw [e]))⟩ (by rw [Ar W b off _ t' u Zk];simp)
end
end
section
open Go Go.RowKit
section
variable {P:Program} {w:World} {M0:Mem} {N:Nat} {dst:Option Tmp} {ty:TypeId} {pos:String} {z7:Array Edge} {s:St}
def Jx:Nat->List Value->List (Nat×Value)
 |_,[]=> []
 |j,v::l=>(j,v)::Jx (j+1) l
theorem rm (n:Nat): ∀(vs:List Value) (j:Nat) (cs:List Value),cs.length=n->j+vs.length<=n->(∀v∈vs,v.oneCell'=true)->
 Instr.fill (fun i=>some (i*1,1)) cs.toArray (Jx j vs)=some (cs.take j++vs++cs.drop (j+vs.length)).toArray
 | [],j,cs,hl,hj,_=>by
  unfold Jx Instr.fill;simp
 |v::vs,j,cs,hl,hj,h1=>by
  have hv:v.cells= #[v]:=by
   have:=h1 v yx;cases v<;>first|rfl|cases this
  simp only [xd] at hj;have ih:=rm n vs (j+1) (cs.set j v) (by simp [hl]) ze (fun u hu=>h1 u (by simp [hu]));unfold Jx Instr.fill;simp only [hv,v7];rw [zn (by simp;omega)]
  have e1:(#[v]:Array Value).zipIdx.foldl (fun cs x=>cs.setIfInBounds (j+x.2) x.1) cs.toArray=(cs.set j v).toArray:=by
   show (cs.toArray).setIfInBounds (j+0) v=_;simp
  have e2:(fun (i:Nat)=>some (i,1))=(fun i=>some (i*1,1)):=by funext i;simp
  rw [e1,e2,ih];congr 2;rw [Q7,rJ ze]
  have:(cs.take (j+1)).set j v=cs.take j++ [v]:=by
   rw [vF ze,YF _ _ (by simp;omega)];simp [show j-min j cs.length=0 by omega]
  rw [this];simp [nB,Q6 1]
theorem Kg {env:Env}: ∀(l:List (Nat×Operand)) (vs:List Value) (j:Nat),env.kP (l.map (·.2))=some vs->l.map (·.1)=List.range' j vs.length->env.parts l=some (Jx j vs)
 | [],vs,j,h,_=>by cases h;rfl
 |(i,x)::l,vs,j,h,hi=>by
  simp only [xw] at h;unfold Env.kP at h;split at h
  · rename_i v r hx hr
    cases h;simp only [xw,xd,fg] at hi;injection hi with h1 h2;subst h1;unfold Env.parts;rw [hx,Kg l r (i+1) hr h2];rfl
  · cases h
theorem Cx {t e:TypeId} {env:Env} {len:Nat} {parts:Array (Nat×Operand)} {bytes:Nat} {vs:List Value} [hE:kr P t e 1 bytes] (UG:env.kP (parts.toList.map (·.2))=some vs) (dC:parts.toList.map (·.1)=List.range' 0 vs.length) (y7:vs.length=len) (qG:Nat.ble len 1000000=true) (h1:(vs.all (·.oneCell'))=true)
 (hd:Nat->Value) (a:Act) (W:World) (hF:Fr N hd env a):(Instr.buildSlice t len (parts.map fun (i,x)=>(i,a.eval x))).run P W= .ok (.slice (some ⟨W.heap.size,0,none⟩) len len) (W.alloc (.cells vs.toArray e)):=by
 have J7:=uy.mk' hE.h;obtain ⟨i,z,hi,hz,hs,hb,pX⟩:=J7.hi;have hpe:=Env.Jj hF parts.toList _ (Kg _ _ 0 UG dC);have hlm:len<=1000000:=Xk qG;have QP:(parts.map fun (i,x)=>(i,a.eval x)).toList=Jx 0 vs:=by rw [fi];exact hpe
 have CY: ∀cs:Array Value,cs.size=len->Instr.fill (fun q=>some (q*1,1)) cs (Jx 0 vs)=some vs.toArray:=fun cs WF=>by
  have:=rm len vs 0 cs.toList (by simpa using WF) ze (fun v hv=>yw.1 h1 v hv);rw [Sb] at this;rw [this];simp;omega
 simp only [Instr.buildSlice,yz,jG J7.ht,xh,sizeOf,typeInfo,aO,hi,hs,v7,xM];rw [zn ze];by_cases h0:len=0
 · simp only [h0,uR,xM,xh,QP];have hv0:vs= []:=dm ze;subst hv0;simp [Jx,Instr.fill,newRow,Array.range_zero']
 · simp only [h0,kT,yz,zeroValue,typeInfo,aO,hi,xh,hz,xM,QP];have:=CY ((Array.range len).map (z.cells[· % z.cells.size]!)) yx;simp only [v7] at this;rw [this];simp [newRow]
theorem aby {ops:Array Oper} {t e:TypeId} {l:List Oper} {Q:zX} {M:Mem} {own:List Ob} {env:Env} {len:Nat} {parts:Array (Nat×Operand)} {bytes:Nat} {vs:List Value} [hE:kr P t e 1 bytes] (UG:env.kP (parts.toList.map (·.2))=some vs) (dC:parts.toList.map (·.1)=List.range' 0 vs.length) (y7:vs.length=len) (qG:Nat.ble len 1000000=true) (h1:(vs.all (·.oneCell'))=true)
 (hk:yi N dst=true) (zV:yR env own.length=true) (h:VL P w M0 N ops l ⟨M,own++ [.row e 1 len vs],env.put dst (.r own.length)⟩ Q):VL P w M0 N ops (⟨dst, .buildSlice t len parts,ty,pos,z7,none⟩::l) ⟨M,own,env⟩ Q:=
 Sv (t:=t) (e:=e) (o:=⟨dst, .buildSlice t len parts,ty,pos,z7,none⟩) rfl rfl 1 vs ze (by have:=Xk qG;unfold maxLen;omega) (Cx UG dC y7 qG h1) hk zV h
def uV (e:TypeId) (k n:Nat) (cs:List Value) (W:World) (x:Ending) (W':World):Prop:= ∃v,x= .returned v/\Below W.heap.size W W'/\W'.ownsRow W.heap.size e k v n cs
theorem acT {f:FuncId} {fn:Func} {c:Code} {args:List Value} {M:Mem} {e:TypeId} {k n:Nat} {cs:List Value} {t:Tmp} (hf:P.funcs[f]?=some fn) (hb:fn.body=some c) (hn:fn.ntmps=N) (hk:Nat.ble args.length N=true) (hM:M.le (Mem.of w)) (km:fn.results= #[.tmp t])
 (h:VC P w M N c ⟨M,[],vL 0 args⟩ (ay fun s=> ∃i,s.env.get t=some (.r i)/\s.own[i]?=some (.row e k n cs))):Calls P f args.toArray w (uV e k n cs w):=by
 have U5:args.length<=N:=Xk hk;refine eJ hf hb (vZ (h.go (fun _=> .nilFunc) _ w ⟨⟨ZD _ _,hM,fun b _ h=>h,zE,fun i o hi=>by simp at hi,fun i o b hi=>by simp at hi,fun i j oi oj b hi=>by simp at hi⟩,fun t sv ht=>?_,?_,rfl⟩) ?_)
 · obtain ⟨v,_,h1,rfl⟩:=ui args 0 t sv ht;have Uz:args[t]?=some v:=by simpa using h1
   have z9:=(xI.1 Uz).1;show (args.toArray++_)[t]?=some v;rw [du (by simpa using z9)];simpa using Uz
 · simp [hn];omega
 · rintro x a' W' ⟨yE,s',uE,hq⟩
   have key:(∃i,s'.env.get t=some (.r i)/\s'.own[i]?=some (.row e k n cs))->a'.defers= []/\ ∃v,(results fn a'.tmps).run P W'= .ok v W'/\uV e k n cs w (.returned v) W':=by
    rintro ⟨i,h1,h2⟩;have ht:=uE.2.env t _ h1;refine ⟨uE.2.defers,yE i,?_,yE i,rfl,uE.1.below,uE.1.own i _ h2⟩;rw [results_tmp km];simp [ht,SV.den]
   cases x with
   |ret=>exact key hq
   |normal=>exact key hq
   |exit id=>exact hq.elim
   |goto l=>exact hq.elim
   |panic c=>exact hq.elim
   |outgrown=>exact hq.elim
theorem Qn {ops:Array Oper} {l:List Oper} {Q:zX} {M:Mem} {own:List Ob} {env:Env} {f:FuncId} {xs:Array Operand} {qz:Array TypeId} {vs:List Value} {e:TypeId} {k n:Nat} {cs:List Value} [hf:zG P f] (hv:env.kP xs.toList=some vs)
 (hc: ∀W,M.le (Mem.of W)->Calls P f vs.toArray W (uV e k n cs W)) (hk:yi N dst=true) (zV:yR env own.length=true) (h:VL P w M0 N ops l ⟨M,own++ [.row e k n cs],env.put dst (.r own.length)⟩ Q):
 VL P w M0 N ops (⟨dst, .call ⟨.value (.func f),xs,qz⟩,ty,pos,z7,none⟩::l) ⟨M,own,env⟩ Q:= .mk fun hd a W hR=>by
 refine v8 rfl fun K hK=>?_
 unfold Oper.wp;rw [ZP (s:=⟨M,own,env⟩) hR.2 hf.h hv];simp only [Oper.upon];refine (hc W hR.1.mem).mono fun x W' lW=>?_
 obtain ⟨v,he,hb,w8⟩:=lW;subst he;have YC:=hR.1.below.size
 have ju:W'.ownsRow w.heap.size e k v n cs:=by
  refine ⟨w8.1,?_⟩;rcases w8.2 with h1|⟨g,cap,cur,h1,h2,h3⟩
  · exact .inl h1
  · exact .inr ⟨g,cap,cur,h1,ze,h3⟩
 have uM:=hR.1.new (o':= .row e k n cs) (v':=v) (uO hb) ju (fun b Za=>by
  rcases w8.2 with ⟨h1,_⟩|⟨g,cap,cur,h1,h2,h3⟩
  · rw [h1] at Za;cases Za
  · rw [h1] at Za;obtain rfl:g=b:=by simpa [yX] using Za
    exact h2)
 have ci:=(dd (own:=own) hR.2 zV v).put hk (.r own.length);have e1:SV.den (Ke hd own.length v) (.r own.length)=v:=by simp only [SV.den,j7]
 rw [e1] at ci;exact hK _ _ (h.go _ _ _ ⟨uM,ci⟩)
end
end
section
open Go Go.RowKit
section
variable {P:Program} {w:World} {M0:Mem} {N:Nat}
abbrev g7:=Bool×Oper
def efB (l:List Oper) (L:List g7):Bool:=
 (List.range l.length).all fun i=>match L[i]? with
  |none=>true
  |some (f,o)=>ab4 o.op&&o.after.toList.all (fun e=>!Region.binds .any e||Nat.blt e.on i)&&
   (o.looksAt l.toArray).all (fun t=>(List.range l.length).all fun j=>match L[j]? with
    |some (g,p)=>!(p.dst==some t)||(f&&g)||(Nat.blt j i&&Nr o j&&(f||!g))||(Nat.blt i j&&Nr p i&&(g||!f))
    |none=>true)&&
   (List.range i).all fun j=>match L[j]? with|some (g,p)=>(f&&g)||p.dst.isNone||!(p.dst==o.dst)|none=>true
structure aff (l:List Oper) (L:List g7):Prop where
 KJ: ∀(i:Nat) (f:Bool) (o:Oper),L[i]?=some (f,o)-> ∀cs b,o.op≠ .select cs b
 low: ∀(i:Nat) (f:Bool) (o:Oper),L[i]?=some (f,o)-> ∀e∈o.after,Region.binds .any e=true->e.on<i
 use: ∀(i:Nat) (f:Bool) (o:Oper),L[i]?=some (f,o)-> ∀t∈o.looksAt l.toArray,∀(j:Nat) (g:Bool) (p:Oper),L[j]?=some (g,p)->p.dst=some t->
  (f=true/\g=true)\/(j<i/\(f=true\/g=false)/\ ∃e∈o.after,Region.binds .any e=true/\e.on=j)\/(i<j/\(g=true\/f=false)/\ ∃e∈p.after,Region.binds .any e=true/\e.on=i)
 VX: ∀(i:Nat) (f:Bool) (o:Oper) (j:Nat) (g:Bool) (p:Oper) (t:Tmp),L[i]?=some (f,o)->L[j]?=some (g,p)->o.dst=some t->p.dst=some t->(f=true/\g=true)\/i=j
theorem aff.of {l:List Oper} {L:List g7} (hL:L.length=l.length) (h:efB l L=true):aff l L:=by
 unfold efB at h;have lt: ∀ {i:Nat} {o:g7},L[i]?=some o->i<l.length:=fun ho=>by rw [<-hL];exact (xI.1 ho).1
 have hi: ∀(i:Nat) (f:Bool) (o:Oper),L[i]?=some (f,o)->(ab4 o.op&&o.after.toList.all (fun e=>!Region.binds .any e||Nat.blt e.on i)&&
  (o.looksAt l.toArray).all (fun t=>(List.range l.length).all fun j=>match L[j]? with
   |some (g,p)=>!(p.dst==some t)||(f&&g)||(Nat.blt j i&&Nr o j&&(f||!g))||(Nat.blt i j&&Nr p i&&(g||!f))
   |none=>true)&&
  (List.range i).all fun j=>match L[j]? with|some (g,p)=>(f&&g)||p.dst.isNone||!(p.dst==o.dst)|none=>true)=true:=fun i f o ho=>by
  have h1:=yw.1 h i (by simpa using lt ho);rw [ho] at h1;exact h1
 have D: ∀(i:Nat) (f:Bool) (o:Oper) (j:Nat) (g:Bool) (p:Oper) (t:Tmp),j<i->L[i]?=some (f,o)->L[j]?=some (g,p)->o.dst=some t->p.dst=some t->f=true/\g=true:=fun i f o j g p t hj ho hp h1 h2=>by
  have h3:=hi i f o ho;simp only [yF] at h3;have h4:=yw.1 h3.2 j (by simpa using hj);rw [hp] at h4;simpa [h1,h2] using h4
 refine ⟨fun i f o ho cs b e=>?_,fun i f o ho e he Ir=>?_,fun i f o ho t ht j g p hp hd=>?_,fun i f o j g p t ho hp h1 h2=>?_⟩
 · have h3:=hi i f o ho;simp only [yF] at h3;have:=h3.1.1.1;rw [e] at this;cases this
 · have h3:=hi i f o ho;simp only [yF] at h3;have:=yw.1 h3.1.1.2 e (by simpa using he);rw [Ir] at this;simpa [x9] using this
 · have h3:=hi i f o ho;simp only [yF] at h3;have h5:=yw.1 (yw.1 h3.1.2 t ht) j (by simpa using lt hp);rw [hp] at h5;simp only [hd,YZ,Bool.not_true,nC,YY,yF,KB] at h5;rcases h5 with (h5|⟨⟨h6,h7⟩,h8⟩)|⟨⟨h6,h7⟩,h8⟩
   · exact .inl h5
   · exact .inr (.inl ⟨by simpa [x9] using h6,h8,IC h7⟩)
   · exact .inr (.inr ⟨by simpa [x9] using h6,h8,IC h7⟩)
 · rcases Nat.lt_trichotomy i j with h|h|h
   · exact .inl ((D j g p i f o t h hp ho h2 h1).symm)
   · exact .inr h
   · exact .inl (D i f o j g p t h ho hp h1 h2)
def ZW (k:Bool):Env->List g7->List SV->Env
 |env,fo::l,v::vs=>ZW k (match fo.1==k with|true=>env.put fo.2.dst v|false=>env) l vs
 |env,_,_=>env
def U9 (k:Bool) (hd:Nat->Value):Act->List g7->List SV->Act
 |a,fo::l,v::vs=>U9 k hd (match fo.1==k with|true=>a.put fo.2.dst (v.den hd)|false=>a) l vs
 |a,_,_=>a
theorem ml {k:Bool} {hd:Nat->Value}: ∀(l:List g7) (vs:List SV) (env:Env) (a:Act),(∀fo∈l,fo.1=k->yi N fo.2.dst=true)->Fr N hd env a->Fr N hd (ZW k env l vs) (U9 k hd a l vs)
 | [],_,_,_,_,h=>by unfold ZW U9;exact h
 |o::l,[],_,_,_,h=>by unfold ZW U9;exact h
 |o::l,v::vs,env,a,hk,h=>by
  unfold ZW U9;refine ml l vs _ _ (fun p hp=>hk p (by simp [hp])) ?_;cases hs:(o.1==k) with
  |false=>exact h
  |true=>exact h.put (hk o yx (by simpa using hs)) v
theorem Qc {k:Bool} {hd:Nat->Value} {t:Tmp}: ∀(l:List g7) (vs:List SV) (a:Act),(∀fo∈l,fo.1=k->fo.2.dst≠some t)->(U9 k hd a l vs).tmps[t]?=a.tmps[t]?
 | [],_,_,_=>by unfold U9;rfl
 |o::l,[],_,_=>by unfold U9;rfl
 |o::l,v::vs,a,h=>by
  unfold U9;rw [Qc l vs _ (fun p hp=>h p (by simp [hp]))];cases hs:(o.1==k) with
  |false=>rfl
  |true=>exact QC (h o yx (by simpa using hs))
theorem cJ {k:Bool} {hd:Nat->Value}: ∀(l:List g7) (vs:List SV) (a:Act),(U9 k hd a l vs).tmps.size=a.tmps.size
 | [],_,_=>by unfold U9;rfl
 |o::l,[],_=>by unfold U9;rfl
 |o::l,v::vs,a=>by
  unfold U9;rw [cJ l vs];cases (o.1==k) with
  |false=>rfl
  |true=>cases o.2.dst<;>simp [Act.put]
theorem Gi {k:Bool} {hd:Nat->Value} {t:Tmp}: ∀(l:List g7) (vs:List SV) (a:Act) (i:Nat) (o:Oper) (sv:SV),l[i]?=some (k,o)->vs[i]?=some sv->o.dst=some t->t<a.tmps.size->
 (∀(j:Nat) (g:Bool) (p:Oper),i<j->l[j]?=some (g,p)->p.dst≠some t)->(U9 k hd a l vs).tmps[t]?=some (sv.den hd)
 | [],_,_,_,_,_,h,_,_,_,_=>by simp at h
 |p::l,[],_,_,_,_,_,h,_,_,_=>by simp at h
 |p::l,v::vs,a,0,o,sv,h1,h2,h4,h5,h6=>by
  simp at h1 h2;subst h1 h2;unfold U9
  rw [Qc l vs _ (fun q hq _=>by
   obtain ⟨j,hj⟩:=rM hq;obtain ⟨g,q'⟩:=q;exact h6 (j+1) g q' ze (by simpa using hj))]
  simp only [YZ,h4];exact sF h5
 |p::l,v::vs,a,i+1,o,sv,h1,h2,h4,h5,h6=>by
  unfold U9;refine Gi l vs _ i o sv (by simpa using h1) (by simpa using h2) h4 ?_ (fun j g q hj hq=>h6 (j+1) g q ze (by simpa using hq));cases (p.1==k) with
  |false=>exact h5
  |true=>cases p.2.dst<;>simpa [Act.put] using h5
theorem X6 {n:Nat} {hd yE:Nat->Value} (h: ∀i,i<n->yE i=hd i) {sv:SV} (hs:sv.okB n=true):sv.den yE=sv.den hd:=by
 cases sv with
 |v x=>rfl
 |p i off=>simp only [SV.okB,x9] at hs;simp only [SV.den,h i hs]
 |r i=>simp only [SV.okB,x9] at hs;simp only [SV.den,h i hs]
theorem Ck {n m:Nat} (h:n<=m) {sv:SV} (hs:sv.okB n=true):sv.okB m=true:=by
 cases sv with
 |v x=>rfl
 |p i off=>simp only [SV.okB,x9] at hs⊢;omega
 |r i=>simp only [SV.okB,x9] at hs⊢;omega
theorem Wd.take {hd:Nat->Value} {M:Mem} {own:List Ob} {W:World} (h:Wd w M0 hd M own W) (n:Nat):Wd w M0 hd M (own.take n) W:=by
 have up: ∀ {i:Nat} {o:Ob},(own.take n)[i]?=some o->own[i]?=some o:=fun hi=>by
  rw [wA] at hi;split at hi
  · exact hi
  · cases hi
 exact ⟨h.below,h.mem,h.wS,h.YW,fun i o hi=>h.own i o (up hi),fun i o b hi=>h.sep i o b (up hi),fun i j oi oj b hi hj=>h.VX i j oi oj b (up hi) (up hj)⟩
theorem Wd.Rr {hd yE:Nat->Value} {M:Mem} {own:List Ob} {W:World} (h:Wd w M0 hd M own W) (he: ∀i,i<own.length->yE i=hd i):Wd w M0 yE M own W:=by
 have lt: ∀ {i:Nat} {o:Ob},own[i]?=some o->i<own.length:=fun hi=>(xI.1 hi).1
 exact ⟨h.below,h.mem,h.wS,h.YW,fun i o hi=>by rw [he i (lt hi)];exact h.own i o hi,fun i o b hi hn hb=>by rw [he i (lt hi)] at hb;exact h.sep i o b hi hn hb,
  fun i j oi oj b hi hj J6 uW iB Un=>by rw [he i (lt hi)] at iB;rw [he j (lt hj)] at Un;exact h.VX i j oi oj b hi hj J6 uW iB Un⟩
structure QW (P:Program) (w:World) (M0:Mem) (N:Nat) (ops:Array Oper) (o:Oper) (s:St) (sv:SV):Prop where
 go: ∀hd a W,Rel w M0 N hd s a W->if Region.wanted o (yielded ops a.tmps)=true then o.quietAt P a (fun W'=>Below W.heap.size W W') W (sv.den hd) else sv.den hd=undef
section
variable {ops:Array Oper} {s:St} {o:Oper} {sv:SV}
theorem acY (hg:o.guard=none) (hq:QS P w M0 N o s sv):QW P w M0 N ops o s sv:=⟨fun hd a W hR=>by
 rw [zo (by simp [Region.wanted,hg])];exact hq.go hd a W hR⟩
theorem ae4 {j:Nat} {want:Bool} (oj:Oper) (d:Tmp) (b:Bool) (hg:o.guard=some (j,want)) (hj:ops[j]?=some oj) (yE:oj.dst=some d) (hb:s.env.get d=some (.v (.bool b))) (hw:b=want) (hq:QS P w M0 N o s sv):QW P w M0 N ops o s sv:=⟨fun hd a W hR=>by
 rw [zo (by rw [YK hR hg hj yE hb,hw];simp)];exact hq.go hd a W hR⟩
theorem ae5 {j:Nat} {want:Bool} (oj:Oper) (d:Tmp) (b:Bool) (hg:o.guard=some (j,want)) (hj:ops[j]?=some oj) (yE:oj.dst=some d) (hb:s.env.get d=some (.v (.bool b))) (hw:b=!want):QW P w M0 N ops o s (.v undef):=⟨fun hd a W hR=>by
 rw [zn (by rw [YK hR hg hj yE hb,hw];cases want<;>simp)];rfl⟩
end
structure VQ (P:Program) (w:World) (M0:Mem) (N:Nat) (ops:Array Oper) (l:List g7) (s:St) (K:Env->Prop):Prop where
 go: ∃vs:List SV,vs.length=l.length/\(∀(i:Nat) (o:Oper) (sv:SV),l[i]?=some (false,o)->vs[i]?=some sv->QW P w M0 N ops o ⟨s.M,s.own,ZW false s.env (l.take i) (vs.take i)⟩ sv/\yi N o.dst=true/\sv.okB s.own.length=true)/\K (ZW false s.env l vs)
theorem aeU {ops:Array Oper} {s:St} {K:Env->Prop} (h:K s.env):VQ P w M0 N ops [] s K:=⟨[],rfl,fun i o sv hi=>by simp at hi,h⟩
theorem amz {ops:Array Oper} {o:Oper} {l:List g7} {M:Mem} {own:List Ob} {env:Env} {K:Env->Prop} (sv:SV) (hq:QW P w M0 N ops o ⟨M,own,env⟩ sv) (hk:yi N o.dst=true) (ho:sv.okB own.length=true) (h:VQ P w M0 N ops l ⟨M,own,env.put o.dst sv⟩ K):VQ P w M0 N ops ((false,o)::l) ⟨M,own,env⟩ K:=by
 obtain ⟨vs,h1,h2,h3⟩:=h;refine ⟨sv::vs,by simp [h1],fun i p u hi hu=>?_,by unfold ZW;exact h3⟩;cases i with
 |zero=>simp at hi hu;subst hi hu;exact ⟨hq,hk,ho⟩
 |succ i=>
  have:=h2 i p u (by simpa using hi) (by simpa using hu);rw [YE,YE];unfold ZW;exact this
theorem amA {ops:Array Oper} {o:Oper} {l:List g7} {s:St} {K:Env->Prop} (h:VQ P w M0 N ops l s K):VQ P w M0 N ops ((true,o)::l) s K:=by
 obtain ⟨vs,h1,h2,h3⟩:=h;refine ⟨.v undef::vs,by simp [h1],fun i p u hi hu=>?_,by unfold ZW;exact h3⟩;cases i with
 |zero=>simp at hi
 |succ i=>
  have:=h2 i p u (by simpa using hi) (by simpa using hu);rw [YE,YE];unfold ZW;exact this
def kj (P:Program) (C:Value->World->Prop):Result Next->Prop
 | .ok (.value u) W'=>C u W'
 | .ok .skip W'=>C undef W'
 | .ok (.enter f args) W'=>Calls P f args W' fun e NO=> ∃u,e= .returned u/\C u NO
 |_=>False
theorem kj.mono {P:Program} {C C':Value->World->Prop} (hc: ∀u W',C u W'->C' u W'): ∀ {r:Result Next},kj P C r->kj P C' r
 | .ok (.value u) W',h=>hc u W' h
 | .ok .skip W',h=>hc _ W' h
 | .ok (.enter f args) W',h=>eI h fun e NO ⟨u,h1,h2⟩=>⟨u,h1,hc u NO h2⟩
theorem Cb {P:Program} {o:Oper} {a:Act} {W:World} {v:Value} (h:o.quietAt P a (fun W'=>Below W.heap.size W W') W v):kj P (fun u W'=>u=v/\Below W.heap.size W W') ((execOp a.eval o).run P W):=by
 unfold Oper.quietAt at h;generalize (execOp a.eval o).run P W=r at*;cases r with
 |ok nx W'=>
  cases nx<;>simp only [Oper.quietUpon] at h<;>simp only [kj]
  case value u=>obtain ⟨e1,e2⟩:=h;rw [e1];exact ⟨e2,ZD _ _⟩
  case skip=>obtain ⟨e1,e2⟩:=h;rw [e1];exact ⟨e2.symm,ZD _ _⟩
  case enter f args=>obtain ⟨e1,hc⟩:=h;rw [e1];exact hc.mono fun e NO ⟨he,hb⟩=>⟨_,he,rfl,hb⟩
 |halt x w'=>simp only [Oper.quietUpon] at h
theorem Np {P:Program} {C C':Value->World->Prop} {c:Bool} {r:Result Next} {W:World} (h:if c=true then kj P C r else C undef W) (hc: ∀u W',C u W'->C' u W'):if c=true then kj P C' r else C' undef W:=by
 cases c
 · exact hc _ _ h
 · exact kj.mono hc h
structure EF (P:Program) (w:World) (M0:Mem) (N:Nat) (o:Oper) (s:St) (zw:List Ob) (sv:SV):Prop where
 go: ∀hd a W,Rel w M0 N hd s a W->kj P (fun u W'=> ∃yE,(∀i,i<s.own.length->yE i=hd i)/\Wd w M0 yE s.M zw W'/\u=sv.den yE) ((execOp a.eval o).run P W)
 len:s.own.length<=zw.length
 ok:sv.okB zw.length=true
structure EW (P:Program) (w:World) (M0:Mem) (N:Nat) (ops:Array Oper) (o:Oper) (s:St) (zw:List Ob) (sv:SV):Prop where
 go: ∀hd a W,Rel w M0 N hd s a W->if Region.wanted o (yielded ops a.tmps)=true then kj P (fun u W'=> ∃yE,(∀i,i<s.own.length->yE i=hd i)/\Wd w M0 yE s.M zw W'/\u=sv.den yE) ((execOp a.eval o).run P W)
  else ∃yE,(∀i,i<s.own.length->yE i=hd i)/\Wd w M0 yE s.M zw W/\undef=sv.den yE
 len:s.own.length<=zw.length
 ok:sv.okB zw.length=true
section
variable {ops:Array Oper} {s:St} {o:Oper} {zw:List Ob} {sv:SV}
theorem aiW (hg:o.guard=none) (hq:EF P w M0 N o s zw sv):EW P w M0 N ops o s zw sv:=⟨fun hd a W hR=>by
 rw [zo (by simp [Region.wanted,hg])];exact hq.go hd a W hR,hq.len,hq.ok⟩
end
def Be (l:List Oper):Nat->Nat->Nat->Bool
 |0,_,_=>false
 |n+1,i,j=>match l[i]? with
  |none=>false
  |some o=>o.after.toList.any fun e=>Region.binds .any e&&(Nat.beq e.on j||Be l n e.on j)
def TQ (l:List Oper) (xz:List Nat) (i:Nat):Bool:=xz.all fun j=>!Be l 4 i j
def Qe:Nat->List g7->List Nat
 |_,[]=> []
 |k,(true,_)::L=>k::Qe (k+1) L
 |k,(false,_)::L=>Qe (k+1) L
theorem de: ∀(L:List g7) (k i:Nat),i∈Qe k L↔ ∃o,k<=i/\L[i-k]?=some (true,o)
 | [],k,i=>by simp [Qe]
 |(b,p)::L,k,i=>by
  have ih:=de L (k+1) i
  have sh: ∀o,(k+1<=i/\L[i-(k+1)]?=some (true,o))↔(k+1<=i/\((b,p)::L)[i-k]?=some (true,o)):=fun o=>by
   constructor
   · rintro ⟨h1,h2⟩;refine ⟨h1,?_⟩;rw [show i-k=(i-(k+1))+1 by omega];simpa using h2
   · rintro ⟨h1,h2⟩;refine ⟨h1,?_⟩;rw [show i-k=(i-(k+1))+1 by omega] at h2;simpa using h2
  cases b with
  |true=>
   simp only [Qe,jm,ih,sh];constructor
   · rintro (rfl|⟨o,h1,h2⟩)
     · exact ⟨p,zN _,by simp⟩
     · exact ⟨o,ze,h2⟩
   · rintro ⟨o,h1,h2⟩;by_cases he:i=k
     · exact .inl he
     · exact .inr ⟨o,ze,h2⟩
  |false=>
   simp only [Qe,ih,sh];constructor
   · rintro ⟨o,h1,h2⟩;exact ⟨o,ze,h2⟩
   · rintro ⟨o,h1,h2⟩;by_cases he:i=k
     · subst he;simp at h2
     · exact ⟨o,ze,h2⟩
theorem aB: ∀(L:List g7) (k:Nat),(Qe k L).Nodup
 | [],k=>by simp [Qe]
 |(true,p)::L,k=>by
  simp only [Qe,GO];refine ⟨fun h=>?_,aB L (k+1)⟩;obtain ⟨o,h1,_⟩:=(de L (k+1) k).1 h;omega
 |(false,p)::L,k=>by simp only [Qe];exact aB L (k+1)
theorem mC: ∀(L:List g7) (k:Nat),(Qe k L).length<=L.length
 | [],k=>by simp [Qe]
 |(true,p)::L,k=>by have:=mC L (k+1);simp only [Qe,xd];omega
 |(false,p)::L,k=>by have:=mC L (k+1);simp only [Qe,xd];omega
theorem qp: ∀(gs:List Nat) (own:List Ob),(y8 gs own).length=own.length
 | [],_=>rfl
 |i::gs,own=>by unfold y8;rw [qp gs];simp
theorem bo {ops:Array Oper} {o:Oper} {a b:Act} (h: ∀t∈o.looksAt ops,a.tmps[t]?=b.tmps[t]?):Region.wanted o (yielded ops a.tmps)=Region.wanted o (yielded ops b.tmps):=by
 unfold Region.wanted;cases hg:o.guard with
 |none=>rfl
 |some jw=>
  obtain ⟨j,want⟩:=jw;simp only [yielded];cases hd:(ops[j]?).bind (·.dst) with
  |none=>rfl
  |some d=>
   have:d∈o.looksAt ops:=by
    refine rP _ ?_;simp only [hg,hd];simp
   simp only [GR,h d this]
theorem Fr.congr {hd:Nat->Value} {env:Env} {a b:Act} (h:Fr N hd env a) (ht: ∀t:Nat,b.tmps[t]?=a.tmps[t]?) (hs:b.tmps.size=N) (yE:b.defers= []):Fr N hd env b:=⟨fun t sv hq=>by rw [ht t];exact h.env t sv hq,hs,yE⟩
theorem aw {k:Bool} {hd:Nat->Value}: ∀(l:List g7) (vs:List SV) (a:Act),(U9 k hd a l vs).defers=a.defers
 | [],_,_=>by unfold U9;rfl
 |o::l,[],_=>by unfold U9;rfl
 |o::l,v::vs,a=>by
  unfold U9;rw [aw l vs];cases (o.1==k) with
  |false=>rfl
  |true=>cases o.2.dst<;>rfl
theorem aL {l:List Oper} {zT:Array Bool} (Wc: ∀(j:Nat) (p:Oper),l[j]?=some p->zT.getD j false=true-> ∀e∈p.after,Region.binds .any e=true->zT.getD e.on false=true): ∀(n i j:Nat) (o:Oper),l[i]?=some o->(∀e∈o.after,Region.binds .any e=true->zT.getD e.on false=true)->Be l n i j=true->zT.getD j false=true
 |0,i,j,o,_,_,h=>by cases h
 |n+1,i,j,o,ho,F8,h=>by
  unfold Be at h;rw [ho] at h;simp only [Aq,yF,YY] at h;obtain ⟨e,he,hb,h1|h1⟩:=h
  · rw [<-qA h1];exact F8 e (by simpa using he) hb
  · have hl:=F8 e (by simpa using he) hb;cases hp:l[e.on]? with
    |none=>
     cases n with
     |zero=>cases h1
     |succ n=>unfold Be at h1;rw [hp] at h1;cases h1
    |some p=>exact aL Wc n e.on j p hp (Wc e.on p hp hl) h1
end
end
end Go.Proofs.YtaibdpjjojihmaaGreat
