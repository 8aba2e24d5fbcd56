/- A part of the proof of TopPrefix; no conditions. -/
import Derived.Test.YtaibdpjjojihmaaGreatPLg2
set_option linter.unusedVariables false
set_option linter.unusedSimpArgs false
set_option maxRecDepth 20000
namespace Go.Proofs.YtaibdpjjojihmaaGreat
open Go Go.RowKit
section
variable {P:Program} {w:World} {M0:Mem} {N:Nat} {dst:Option Tmp} {ty:TypeId} {pos:String} {z7:Array Edge} {g:Option (Nat×Bool)} {M:Mem} {own:List Ob} {env:Env} {hd:Nat->Value} {W W':World}
theorem rV {s:St} {t:TypeId} {x:Operand} {b off n:Nat} {o:Ob} (i:Nat) (hx:s.env.op x=some (.v (.pointer (some ⟨b,off,none⟩)))) (ho:s.own[i]?=some o) (hf:o.Wy=some b) [ht:X2 P t n] (hn:off+n<=o.cells.length):
 QS P w M0 N ⟨dst, .load t x,ty,pos,z7,g⟩ s (.v (.agg ((o.cells.drop off).take n).toArray)):=xH fun hd a W hR=>by
 have h1:=hR.2.eval hx;have hl:((o.cells.drop off).take n).length=n:=by rw [yC,kI];omega
 have h3:=wm (P:=P) (t:=t) (cs:=(o.cells.drop off).take n) (b:=b) (off:=off) (W:=W) (fun j u hu=>by
  have h2:=ku (hR.1.own i o ho) (off:=off+j) (u:=u) (by
   rw [wA] at hu;split at hu
   · rwa [Vk] at hu
   · cases hu)
  rwa [U0 (hR.1.own i o ho) hf] at h2) (by rw [hl];exact ht.h)
 simp only [SV.den] at h1;simp only [execOp,h1,Instr.loadAt,Instr.sureAddr,yz,xM,xh,h3];rfl
theorem Qr {t e:TypeId} {x y:Operand} {b off k n:Nat} {u0 u:Value} {cs:List Value} (i:Nat) (hx:env.op x=some (.v (.pointer (some ⟨b,off,none⟩)))) (hy:env.op y=some (.v u)) (hi:own[i]?=some (.zC u0 e k n cs)) (hf:yX u0=some b) (vE:off<cs.length) (hu:u.oneCell'=true) [ht:jJ P t 1]:
 ES P w M0 N ⟨dst, .store t x y,ty,pos,z7,g⟩ ⟨M,own,env⟩ (own.set i (.zC u0 e k n (cs.set off u))):=fun hd a W hR=>by
 have h1:=hR.2.eval hx;have h2:=hR.2.eval hy;simp only [SV.den] at h1 h2;have hO:=hR.1.own i _ hi;obtain ⟨hhd,y7,⟨_,h0⟩|⟨b',cap,cur,hv,kJ,Zk,FN,bj,WF,Xg⟩⟩:=id hO
 · subst h0;rw [Vp] at y7;omega
 have vU:yX (hd i)=some b':=by rw [hv];rfl
 have lX:yX (hd i)=some b:=by rw [hhd];exact hf
 obtain rfl:b'=b:=by rw [vU] at lX;exact qt lX
 have hc:=ku hO (off:=off) (u:=cs[off]) (by simp [Ob.cells,vE]);rw [vU] at hc;simp only [Kz] at hc;have hz:W.frozen? ⟨b',off,none⟩=false:=Kv W b' off cur e Zk;have hvc:u.cells= #[u]:=by cases u<;>first|rfl|cases hu
 refine ⟨W.setCell ⟨b',off,none⟩ u,?_,?_⟩
 · simp [execOp,h1,h2,Instr.storeAt,Instr.sureAddr,storeVar,y9 ht.h,hvc,storeCells,run_store P W _ u _ hu,hc,hz,Ag]
 · refine hR.1.KH hi yx (row:=some b') ⟨rfl,rfl,rfl,by simp,fun q hq jt=>nK W ⟨b',off,none⟩ q u (fun e=>jt (by rw [e]))⟩ (fun q hq=>by cases hq;exact vU) ⟨hhd,by simpa using y7, .inr ⟨b',cap,cur.setIfInBounds off u,hv,kJ,Ar W b' off cur e u Zk,FN,bj,by simpa using WF,?_⟩⟩;rw [DG,Q7,Xg]
theorem Fr.two {hd:Nat->Value} {a b:SV} {u v:Value} (h1:a.den hd=u) (h2:b.den hd=v):Fr 2 hd [(0,a),(1,b)] ⟨#[u,v],[]⟩:=by
 refine ⟨fun q sv hq=>?_,rfl,rfl⟩;simp only [Env.get] at hq;split at hq
 · rename_i hb
   obtain rfl:=qA hb;cases hq;simp [h1]
 · split at hq
   · rename_i hb
     obtain rfl:=qA hb;cases hq;simp [h2]
   · cases hq
theorem DZ {t e:TypeId} {x y:Operand} {b off k n n1:Nat} {u0:Value} {cs:List Value} {us:Array Value} (i:Nat) (hx:env.op x=some (.v (.pointer (some ⟨b,off,none⟩)))) (hy:env.op y=some (.v (.agg us))) (hi:own[i]?=some (.zC u0 e k n cs)) (hf:yX u0=some b) (vE:off+n1<=cs.length) (hu:us.toList.all (·.oneCell')=true) [ht:jJ P t n1] (YC:us.toList.length=n1):
 ES P w M0 N ⟨dst, .store t x y,ty,pos,z7,g⟩ ⟨M,own,env⟩ (own.set i (.zC u0 e k n (jT cs off us.toList))):=fun hd a W hR=>by
 have kg:i<own.length:=(xI.1 hi).1;have hO:=hR.1.own i _ hi;have Nb:Wd w M0 hd M (own.set i (.row e k n cs)) W:=hR.1.vD hi yx hO.2;have hfd:yX (hd i)=some b:=by rw [hO.1];exact hf
 have h1:=hR.2.eval hx;have h2:=hR.2.eval hy;simp only [SV.den] at h1 h2;have Is:=Fr.two (hd:=hd) (a:= .p i off) (b:= .v (.agg us)) (u:= .pointer (some ⟨b,off,none⟩)) (v:= .agg us) (by simp [SV.den,hfd]) rfl;obtain ⟨W',h3,h4⟩:=abR (P:=P) (w:=w) (M0:=M0) (N:=2) (dst:=dst) (ty:=ty) (pos:=pos) (z7:=z7) (g:=g) (M:=M) (own:=own.set i (.row e k n cs)) (env:= [(0, .p i off),(1, .v (.agg us))]) (t:=t) (x:= .tmp 0) (y:= .tmp 1) (i:=i) (off:=off) (n1:=n1) rfl rfl (wC kg) vE hu YC hd _ W ⟨Nb,Is⟩;refine ⟨W',?_,?_⟩
 · rw [<-h3];simp only [execOp,h1,h2];rfl
 · rw [Ks] at h4;have h5:=h4.vD (i:=i) (o':= .zC u0 e k n (jT cs off us.toList)) (wC kg) yx ⟨hO.1,h4.own i _ (wC kg)⟩
   rwa [Ks] at h5
theorem S5 {t t':TypeId} {x y:Operand} {b off:Nat} {u0 u:Value} {cs:List Value} (i:Nat) (hx:env.op x=some (.v (.pointer (some ⟨b,off,none⟩)))) (hy:env.op y=some (.v u)) (hi:own[i]?=some (.zK u0 t' cs)) (hf:yX u0=some b) (vE:Nat.blt off cs.length=true) (hu:u.oneCell'=true) [ht:jJ P t 1]:
 ES P w M0 N ⟨dst, .store t x y,ty,pos,z7,g⟩ ⟨M,own,env⟩ (own.set i (.zK u0 t' (cs.set off u))):=fun hd a W hR=>by
 have kg:i<own.length:=(xI.1 hi).1;have hO:=hR.1.own i _ hi;have Nb:Wd w M0 hd M (own.set i (.qZ t' cs)) W:=hR.1.vD hi yx hO.2;have hfd:yX (hd i)=some b:=by rw [hO.1];exact hf
 have h1:=hR.2.eval hx;have h2:=hR.2.eval hy;simp only [SV.den] at h1 h2;have Is:=Fr.two (hd:=hd) (a:= .p i off) (b:= .v u) (u:= .pointer (some ⟨b,off,none⟩)) (v:=u) (by simp [SV.den,hfd]) rfl;obtain ⟨W',h3,h4⟩:=V4 (P:=P) (w:=w) (M0:=M0) (N:=2) (dst:=dst) (ty:=ty) (pos:=pos) (z7:=z7) (g:=g) (M:=M) (own:=own.set i (.qZ t' cs)) (env:= [(0, .p i off),(1, .v u)]) (t:=t) (x:= .tmp 0) (y:= .tmp 1) (i:=i) (off:=off) rfl rfl (wC kg) vE hu hd _ W ⟨Nb,Is⟩;refine ⟨W',?_,?_⟩
 · rw [<-h3];simp only [execOp,h1,h2];rfl
 · rw [Ks] at h4;have h5:=h4.vD (i:=i) (o':= .zK u0 t' (cs.set off u)) (wC kg) yx ⟨hO.1,h4.own i _ (wC kg)⟩
   rwa [Ks] at h5
theorem abA {ops:Array Oper} {l:List Oper} {Q:zX} {v:Value} {e:TypeId} {k n:Nat} {cs:List Value} (i:Nat) (hi:own[i]?=some (.zC v e k n cs))
 (h: ∀M',M.le M'->ud M' k n cs v->VL P w M0 N ops l ⟨M',own.set i .gone,env⟩ Q):VL P w M0 N ops l ⟨M,own,env⟩ Q:= .mk fun hd a W hR=>by
 have kg:i<own.length:=(xI.1 hi).1;have hO:=hR.1.own i _ hi;obtain ⟨M',h1,h2,h3⟩:=X5 (hR.1.vD (o':= .row e k n cs) hi yx hO.2) (wC kg);rw [Ks] at h3;rw [hO.1] at h2;exact (h M' h1 h2).go hd a W ⟨h3,hR.2⟩
theorem La {c:Code} {Q:zX} {v:Value} {e:TypeId} {k n:Nat} {cs:List Value} (i:Nat) (hi:own[i]?=some (.zC v e k n cs))
 (h: ∀M',M.le M'->ud M' k n cs v->VC P w M0 N c ⟨M',own.set i .gone,env⟩ Q):VC P w M0 N c ⟨M,own,env⟩ Q:= .mk fun hd a W hR=>by
 have kg:i<own.length:=(xI.1 hi).1;have hO:=hR.1.own i _ hi;obtain ⟨M',h1,h2,h3⟩:=X5 (hR.1.vD (o':= .row e k n cs) hi yx hO.2) (wC kg);rw [Ks] at h3;rw [hO.1] at h2;exact (h M' h1 h2).go hd a W ⟨h3,hR.2⟩
def uC (P:Program) (f:FuncId) (args:List Value) (M:Mem) (zO:List Ob) (zX:Value->List Ob->Prop):Prop:=
 ∀(w:World) (M0:Mem) (hd:Nat->Value) (W:World),Wd w M0 hd M zO W->Calls P f args.toArray W fun e W'=> ∃v yE zw,e= .returned v/\Wd w M0 yE M zw W'/\zX v zw
theorem Wd.forget {Mx:Mem} (h:Wd w M0 hd Mx own W) (hle:M.le Mx) (h0:M0.le M) (zV: ∀b,b<w.heap.size->M0 b=none->M b=none):Wd w M0 hd M own W:=
 ⟨h.below,hle.trans h.mem,zV,h0,h.own,fun i o b hi jt hf=>by
  have:=h.sep i o b hi jt hf;cases hm:M b with
  |none=>rfl
  |some x=>exact absurd (this▸hle b x hm) yx,h.VX⟩
theorem AD {f:FuncId} {fn:Func} {c:Code} {args:List Value} {zO:List Ob} {zX:Value->List Ob->Prop} (hf:P.funcs[f]?=some fn) (hb:fn.body=some c) (hn:fn.ntmps=N) (hk:Nat.ble args.length N=true)
 (h: ∀(w:World) (M0:Mem),VC P w M0 N c ⟨M,zO,vL 0 args⟩ (ay fun s=> ∃v ρ zw,yH P fn s v/\M.le s.M/\u9 ρ=true/\ZF zw ρ s.own/\zX v zw)):uC P f args M zO zX:=fun w M0 hd W hW=>by
 have U5:args.length<=N:=Xk hk;refine eJ hf hb (vZ ((h w M0).go hd _ W ⟨hW,fun t sv ht=>?_,?_,rfl⟩) ?_)
 · obtain ⟨v,_,h1,rfl⟩:=ui args 0 t sv ht;have Uz:args[t]?=some v:=by simpa using h1
   have z9:=(xI.1 Uz).1;show (args.toArray++_)[t]?=some v;rw [du (by simpa using z9)];simpa using Uz
 · simp [hn];omega
 · rintro e a' W' ⟨yE,s',uE,hq⟩
   have key:(∃v ρ zw,yH P fn s' v/\M.le s'.M/\u9 ρ=true/\ZF zw ρ s'.own/\zX v zw)->a'.defers= []/\ ∃v,(results fn a'.tmps).run P W'= .ok v W'/\ ∃u yE zw,Ending.returned v= .returned u/\Wd w M0 yE M zw W'/\zX u zw:=by
    rintro ⟨v,ρ,zw,h1,hle,h2,h3,h4⟩;have JP:=(Sub.rel (ρ:=ρ) (s:=s') (s':=⟨s'.M,zw,[]⟩) ⟨rfl,h2,h3,trivial⟩ uE).1;exact ⟨uE.2.defers,v,h1.run uE,v,_,zw,rfl,JP.forget hle hW.YW hW.wS,h4⟩
   cases e with
   |ret=>exact key hq
   |normal=>exact key hq
   |exit id=>exact hq.elim
   |goto l=>exact hq.elim
   |panic c=>exact hq.elim
   |outgrown=>exact hq.elim
theorem Jt: ∀(ρ:List Nat) (own:List Ob) (i:Nat) (o:Ob),(y8 ρ own)[i]?=some o->o≠Ob.gone->i∉ρ/\own[i]?=some o
 | [],own,i,o,h,hn=>⟨by simp,h⟩
 |j::ρ,own,i,o,h,hn=>by
  unfold y8 at h;obtain ⟨h1,h2⟩:=Jt ρ _ i o h hn;by_cases gf:j=i
  · subst gf;rw [GZ] at h2;simp only [uR] at h2;split at h2
    · exact absurd (qt h2).symm hn
    · cases h2
  · rw [Zb gf] at h2;exact ⟨by simp;exact ⟨fun e=>gf e.symm,h1⟩,h2⟩
theorem wR.heap {base:Nat} {v:Value} {o:Ob} (h:wR base W v o) (hh: ∀b,yX v=some b->W'.heap[b]?=W.heap[b]?):wR base W' v o:=by
 have me: ∀ {t:TypeId} {cs:List Value},(∃b,v= .pointer (some ⟨b,0,none⟩)/\base<=b/\W.heap[b]?=some (.cells cs.toArray t (0,0)))-> ∃b,v= .pointer (some ⟨b,0,none⟩)/\base<=b/\W'.heap[b]?=some (.cells cs.toArray t (0,0)):=fun h=>by
  obtain ⟨b,rfl,h1,h2⟩:=h;exact ⟨b,rfl,h1,(hh b rfl).trans h2⟩
 have w7: ∀ {e:TypeId} {k n:Nat} {cs:List Value},W.ownsRow base e k v n cs->W'.ownsRow base e k v n cs:=fun h=>by
  obtain ⟨h1,h2|⟨b,cap,cur,rfl,kJ,Zk,h3⟩⟩:=h
  · exact ⟨h1, .inl h2⟩
  · exact ⟨h1, .inr ⟨b,cap,cur,rfl,kJ,(hh b rfl).trans Zk,h3⟩⟩
 cases o with
 |qZ t cs=>exact me h
 |row e k n cs=>exact w7 h
 |gone=>exact h
 |zK u t cs=>exact ⟨h.1,me h.2⟩
 |zC u e k n cs=>exact ⟨h.1,w7 h.2⟩
 |omap es=>
  obtain ⟨b,en,clock,rfl,h1,h2,h3⟩:=h;exact ⟨b,en,clock,rfl,h1,(hh b rfl).trans h2,h3⟩
 |vj u es=>
  obtain ⟨h0,b,en,clock,rfl,h1,h2,h3⟩:=h;exact ⟨h0,b,en,clock,rfl,h1,(hh b rfl).trans h2,h3⟩
theorem sC {ρ:List Nat} {i:Nat} (h:i<ρ.length):ρ.getD i 0∈ρ:=by
 rw [dv,jA h];exact yD h
theorem it {ρ:List Nat} {zO:List Ob} (hR:Wd w M0 hd M own W) (bg:u9 ρ=true) (JR:ZF zO ρ own):
 ∃M':Mem,M.le M'/\Wd w M0 (fun i=>hd (ρ.getD i 0)) M' zO W/\ ∀yE zw W',Wd w M0 yE M' zw W'->Wd w M0 (fun i=>if i<own.length then hd i else yE (i-own.length)) M (y8 ρ own++zw) W':=by
 classical
 let Fb:Nat->Prop:=fun b=> ∃i o,i∉ρ/\own[i]?=some o/\o≠Ob.gone/\yX (hd i)=some b
 let M':Mem:=fun b=>if Fb b then W.heap[b]? else M b
 have hFM: ∀b,Fb b->M b=none:=fun b ⟨i,o,_,hi,jt,hf⟩=>hR.sep i o b hi jt hf
 have hF0: ∀b,Fb b->w.heap.size<=b/\b<W.heap.size:=fun b ⟨i,o,_,hi,jt,hf⟩=>XT (hR.own i o hi) jt hf
 have hle:M.le M':=fun b x hx=>by
  show (if Fb b then W.heap[b]? else M b)=some x;by_cases hb:Fb b
  · rw [hFM b hb] at hx;cases hx
  · rw [zn hb];exact hx
 have hN: ∀b,M' b=none->¬ Fb b/\M b=none:=fun b hb=>by
  by_cases hf:Fb b
  · have:M' b=W.heap[b]?:=zo hf;rw [this,acN (hF0 b hf).2] at hb;cases hb
  · have:M' b=M b:=zn hf;exact ⟨hf,this▸hb⟩
 have hS:=(Sub.rel (N:=0) (ρ:=ρ) (s:=⟨M,own,[]⟩) (s':=⟨M,zO,[]⟩) ⟨rfl,bg,JR,trivial⟩ (hd:=hd) (a:=⟨#[],[]⟩) (W:=W) ⟨hR,⟨fun t sv ht=>(nomatch ht),rfl,rfl⟩⟩).1;refine ⟨M',hle,⟨hS.below,fun b x hx=>?_,fun b hb h0=>?_,hR.YW.trans hle,hS.own,fun i o b hi jt hf=>?_,hS.VX⟩,fun yE zw W' C9=>?_⟩
 · by_cases hb:Fb b
   · have:M' b=W.heap[b]?:=zo hb;rw [this] at hx;exact hx
   · have:M' b=M b:=zn hb;rw [this] at hx;exact hR.mem b x hx
 · have hnf:¬ Fb b:=fun hf=>by have:=(hF0 b hf).1;omega
   have:M' b=M b:=zn hnf;rw [this];exact hR.wS b hb h0
 · have kg:=JR.get i o hi
   have hnf:¬ Fb b:=fun ⟨j,oj,hj,hoj,uW,MR⟩=>by
    have:=hR.VX _ _ _ _ b kg.2 hoj jt uW hf MR;rw [<-this] at hj;exact hj (sC kg.1)
   have:M' b=M b:=zn hnf;rw [this];exact hS.sep i o b hi jt hf
 · have nX:(y8 ρ own).length=own.length:=qp ρ own
   have wS: ∀i o,i<own.length->(y8 ρ own++zw)[i]?=some o->o≠Ob.gone->i∉ρ/\own[i]?=some o:=fun i o kg hi jt=>by
    rw [wE ze] at hi;exact Jt ρ own i o hi jt
   have d6: ∀i o,¬ i<own.length->(y8 ρ own++zw)[i]?=some o->zw[i-own.length]?=some o:=fun i o kg hi=>by
    rw [kF ze,nX] at hi;exact hi
   have hFo: ∀i o b,i∉ρ->own[i]?=some o->o≠Ob.gone->yX (hd i)=some b->W'.heap[b]?=W.heap[b]?/\M' b≠none:=fun i o b h1 h2 h3 h4=>by
    have hf:Fb b:=⟨i,o,h1,h2,h3,h4⟩;have e:M' b=W.heap[b]?:=zo hf;have z9:=(hF0 b hf).2;rw [acN z9] at e⊢;exact ⟨C9.mem b _ e,by rw [e];simp⟩
   refine ⟨C9.below,hle.trans C9.mem,hR.wS,hR.YW,fun i o hi=>?_,fun i o b hi jt hf=>?_,fun i j oi oj b hi hj J6 uW iB Un=>?_⟩
   · by_cases kg:i<own.length
     · simp only [kg,uR];by_cases hg:o= .gone
       · subst hg;trivial
       · obtain ⟨h1,h2⟩:=wS i o kg hi hg;exact (hR.own i o h2).heap (fun b hb=>(hFo i o b h1 h2 hg hb).1)
     · simp only [kg,kT];exact C9.own _ o (d6 i o kg hi)
   · by_cases kg:i<own.length
     · simp only [kg,uR] at hf;obtain ⟨h1,h2⟩:=wS i o kg hi jt;exact hR.sep i o b h2 jt hf
     · simp only [kg,kT] at hf;exact (hN b (C9.sep _ o b (d6 i o kg hi) jt hf)).2
   · by_cases kg:i<own.length
     · simp only [kg,uR] at iB;obtain ⟨h1,h2⟩:=wS i oi kg hi J6;by_cases Wb:j<own.length
       · simp only [Wb,uR] at Un;obtain ⟨h3,h4⟩:=wS j oj Wb hj uW;exact hR.VX i j oi oj b h2 h4 J6 uW iB Un
       · simp only [Wb,kT] at Un;exact absurd (C9.sep _ oj b (d6 j oj Wb hj) uW Un) (hFo i oi b h1 h2 J6 iB).2
     · simp only [kg,kT] at iB;by_cases Wb:j<own.length
       · simp only [Wb,uR] at Un;obtain ⟨h3,h4⟩:=wS j oj Wb hj uW;exact absurd (C9.sep _ oi b (d6 i oi kg hi) J6 iB) (hFo j oj b h3 h4 uW Un).2
       · simp only [Wb,kT] at Un;have:=C9.VX _ _ oi oj b (d6 i oi kg hi) (d6 j oj Wb hj) J6 uW iB Un;omega
theorem yS {ops:Array Oper} {l:List Oper} {Q:zX} {f:FuncId} {xs:Array Operand} {qz:Array TypeId} {vs:List Value} {zO:List Ob} {zX:Value->List Ob->Prop} (ρ:List Nat) [hf:zG P f] (hv:env.kP xs.toList=some vs) (bg:u9 ρ=true) (JR:ZF zO ρ own)
 (hc: ∀M',M.le M'->uC P f vs M' zO zX) (hk:yi N dst=true) (zV:yR env own.length=true)
 (h: ∀v zw,zX v zw->VL P w M0 N ops l ⟨M,y8 ρ own++zw,env.put dst (.v v)⟩ Q):
 VL P w M0 N ops (⟨dst, .call ⟨.value (.func f),xs,qz⟩,ty,pos,z7,none⟩::l) ⟨M,own,env⟩ Q:= .mk fun hd a W hR=>by
 refine v8 rfl fun K hK=>?_
 unfold Oper.wp;rw [ZP (s:=⟨M,own,env⟩) hR.2 hf.h hv];simp only [Oper.upon];obtain ⟨M',h1,h2,h3⟩:=it hR.1 bg JR;refine (hc M' h1 w M0 _ W h2).mono fun e W' ⟨v,yE,zw,he,Zl,hp⟩=>?_
 subst he;have Bb: ∀i,i<own.length->(fun i=>if i<own.length then hd i else yE (i-own.length)) i=hd i:=fun i hi=>zo hi
 exact hK _ _ ((h v zw hp).go _ _ W' ⟨h3 yE zw W' Zl,(hR.2.KH fun t u ht=>X6 Bb (vn zV t u ht)).put hk (.v v)⟩)
end
end Go.Proofs.YtaibdpjjojihmaaGreat
