/- A part of the proof of TopPrefix; no conditions. -/
import Derived.Test.YtaibdpjjojihmaaGreatPWo19
set_option linter.unusedVariables false
set_option linter.unusedSimpArgs false
set_option maxRecDepth 20000
set_option maxHeartbeats 4000000
namespace Go.Proofs.YtaibdpjjojihmaaGreat
section
open Go Go.RowKit
theorem OH {T:List qf} {th i:Int} {wr:Bool} (h:(kC T th i wr).2=true):0<=i:=by
 have key:bW i T.length=true->0<=i:=fun h=>by obtain ⟨k,rfl,_⟩:=VO h;omega
 unfold kC at h;cases hb:bW i T.length with
 |true=>exact key hb
 |false=>
  exfalso;unfold mf Ja at h;rw [hb] at h;simp at h
def N6:Qp->Int->Prop
 | .rd r,pt=>r.done=false/\(r.look=true->0<=r.to)/\(0<pt->r.wy≠ -1\/r.look=true)
 | .kn s,pt=>s.done=false/\pt<=0
 | .wr r,pt=>r.done=false/\pt<=0
def ptS (clock:Int) (ok:Bool) (m:Qp) (pt:Int):Int:=if (ok&&VM m)=true then clock else pt
theorem age (p:jf) (r:gE) (pt clock:Int) (h:N6 (.rd r) pt):(((jj p r).2.2&&(jj p r).2.1.yd)=true->pt<=0)/\((jj p r).2.1.done=false->N6 (.rd (jj p r).2.1) (ptS clock (jj p r).2.2 (.rd (jj p r).2.1) pt)):=by
 obtain ⟨h1,h2,h3⟩:=(h:r.done=false/\(r.look=true->0<=r.to)/\(0<pt->r.wy≠ -1\/r.look=true));unfold jj;rw [zn (by rw [h1];simp)];cases hl:r.look with
 |true=>
  rw [zo rfl];have h4:=h2 hl;unfold Jg;dsimp only;split
  · exact ⟨fun e=>(by simp at e),fun _=>⟨h1,fun e=>(by cases e),fun _=> .inl (by dsimp only;omega)⟩⟩
  · split
    · exact ⟨fun e=>(by simp at e),fun _=>⟨h1,fun e=>(by cases e),fun _=> .inl (by dsimp only;omega)⟩⟩
    · exact ⟨fun e=>(by simp at e),fun e=>(by cases e)⟩
 |false=>
  rw [zn yx];unfold YS;dsimp only;split
  · rename_i ht
    have h4:=OH ht;refine ⟨fun e=>?_,fun _=>⟨h1,fun _=>h4,fun _=> .inr rfl⟩⟩;dsimp only at e;rw [XC,eH] at e;refine Classical.byContradiction fun hp=>?_
    rcases h3 ze with h5|h5
    · exact h5 e
    · rw [hl] at h5;cases h5
  · refine ⟨fun e=>(by simp at e),fun _=>⟨h1,fun e=>?_,fun e=>?_⟩⟩
    · cases e
    · unfold ptS at e;rw [zn yx] at e;rcases h3 e with h5|h5
      · exact .inl h5
      · rw [hl] at h5;cases h5
theorem PP (s:qM) (n:Int):(xb s n).done=s.done/\(xb s n).yd=s.yd:=by
 unfold xb;split<;>exact ⟨rfl,rfl⟩
def KnP (s:qM):Prop:=s.yd=true->s.done=true
theorem adD (p:jf) (s:qM) (h:s.yd=false):KnP (Fw p s).2.1:=by
 have h0:KnP s:=fun e=>by rw [h] at e;cases e
 have hA: ∀s:qM,s.yd=false->KnP (uH p s).2:=fun s h e=>by
  rw [show (uH p s).2.yd=s.yd from rfl,h] at e;cases e
 have hM: ∀n,(xb s n).yd=false:=fun n=>by rw [(PP s n).2,h]
 have hE: ∀(p:jf) (s:qM),KnP (U2 p s).2:=fun _ _ _=>rfl
 have hL: ∀(s:qM) (n:Nd),s.yd=false->KnP (Zw p s n).2:=fun s n h=>by
  unfold Zw;dsimp only;split
  · split
    · exact hE _ _
    · exact fun e=>by rw [show _=s.yd from rfl,h] at e;cases e
  · exact fun e=>by rw [show _=s.yd from rfl,h] at e;cases e
 have hI: ∀(s:qM) (n:Nd),s.yd=false->KnP (ai p s n).2:=fun s n h=>by
  unfold ai;dsimp only;split
  · exact fun e=>by rw [show _=s.yd from rfl,h] at e;cases e
  · split
    · exact hL _ _ h
    · exact fun e=>by rw [show _=s.yd from rfl,h] at e;cases e
 unfold Fw;split
 · unfold Jn;split<;>exact fun e=>by rw [show _=s.yd from rfl,h] at e;cases e
 · unfold Zu;split<;>exact fun e=>by rw [show _=s.yd from rfl,h] at e;cases e
 · unfold Zv;dsimp only;split
   · split
     · exact hA _ (hM _)
     · exact hI _ _ (hM _)
   · exact hI _ _ h
 · unfold Zx;split<;>exact fun e=>by rw [show _=s.yd from rfl,h] at e;cases e
 · unfold vJ;dsimp only;split
   · exact hA _ (hM _)
   · exact hE _ _
def WrP (r:JM):Prop:=r.yd=true->r.done=true
theorem ac5 (p:jf) (r:JM) (h:r.yd=false):WrP (Lh p r).2.1:=by
 have hE: ∀(p:jf) (r:JM) (e:Int),WrP (Uf p r e).2:=fun _ _ _ _=>rfl
 unfold Lh;split
 · unfold vO;split<;>exact fun e=>by rw [show _=r.yd from rfl,h] at e;cases e
 · unfold UI;dsimp only;split
   · exact hE _ _ _
   · split
     · exact fun e=>by rw [show _=r.yd from rfl,h] at e;cases e
     · split
       · exact hE _ _ _
       · exact fun e=>by rw [h] at e;cases e
 · unfold YJ;split
   · exact fun e=>by rw [show _=r.yd from rfl,h] at e;cases e
   · split
     · exact fun _=>rfl
     · exact fun e=>by rw [show _=r.yd from rfl,h] at e;cases e
theorem agx (p:jf) (m:Qp) (pt clock:Int) (h:N6 m pt):(((kQ p m).2.2&&VM (kQ p m).2.1)=true->pt<=0)/\(Z9 (kQ p m).2.1=false->N6 (kQ p m).2.1 (ptS clock (kQ p m).2.2 (kQ p m).2.1 pt)):=by
 cases m with
 |rd r=>exact age p r pt clock h
 |kn s=>
  obtain ⟨h1,h2⟩:=(h:s.done=false/\pt<=0)
  have hk:KnP (jF p s).2.1:=by
   unfold jF;rw [zn (by rw [h1];simp)];exact adD _ _ rfl
  refine ⟨fun _=>h2,fun hd=>⟨hd,?_⟩⟩;unfold ptS;split
  · rename_i e
    rw [yF] at e;have:=hk e.2;rw [show (jF p s).2.1.done=Z9 (kQ p (.kn s)).2.1 from rfl,hd] at this;cases this
  · exact h2
 |wr r=>
  obtain ⟨h1,h2⟩:=(h:r.done=false/\pt<=0)
  have hk:WrP (jE p r).2.1:=by
   unfold jE;rw [zn (by rw [h1];simp)];exact ac5 _ _ rfl
  refine ⟨fun _=>h2,fun hd=>⟨hd,?_⟩⟩;unfold ptS;split
  · rename_i e
    rw [yF] at e;have:=hk e.2;rw [show (jE p r).2.1.done=Z9 (kQ p (.wr r)).2.1 from rfl,hd] at this;cases this
  · exact h2
theorem Pz (p:jf) (th:Int) (o:Op):N6 (Z8 p th o).2 0:=by
 unfold Z8;split
 · exact ⟨rfl,fun e=>(by cases e),fun e=>absurd e ze⟩
 · split
   · exact ⟨rfl,k9 _⟩
   · exact ⟨rfl,k9 _⟩
end
section
open Go Go.RowKit
structure Vv (e f:iK):Prop where
 cl:f.xg=e.xg
 o:f.o=e.o
 Qh:f.Qh=e.Qh
 done:e.done=true->f=e
 yd:0<e.yd->f.yd=e.yd
theorem Vv.refl (e:iK):Vv e e:=⟨rfl,rfl,rfl,fun _=>rfl,fun _=>rfl⟩
theorem Vv.trans {e f g:iK} (h:Vv e f) (h2:Vv f g):Vv e g:=⟨h2.cl.trans h.cl,h2.o.trans h.o,h2.Qh.trans h.Qh,fun hd=>by
 have e1:=h.done hd;rw [e1] at h2;exact h2.done hd,fun hp=>by
 have e1:=h.yd hp;rw [h2.yd ze,e1]⟩
structure XZ (q r:YI):Prop where
 ev: ∀(i:Nat) (e:iK),q.xq[i]?=some e-> ∃f:iK,r.xq[i]?=some f/\Vv e f
 clock:q.clock<=r.clock
theorem XZ.refl (q:YI):XZ q q:=⟨fun i e h=>⟨e,h,Vv.refl e⟩,k9 _⟩
theorem XZ.trans {q r s:YI} (h:XZ q r) (h2:XZ r s):XZ q s:=⟨fun i e he=>by
 obtain ⟨f,hf,hl⟩:=h.ev i e he;obtain ⟨g,hg,J5⟩:=h2.ev i f hf;exact ⟨g,hg,hl.trans J5⟩,Q5 h.clock h2.clock⟩
theorem XZ.len {q r:YI} (h:XZ q r):q.xq.length<=r.xq.length:=by
 rcases yq r.xq.length q.xq.length with hl|hl
 · obtain ⟨f,hf,_⟩:=h.ev _ _ (jA hl);have:=(xI.1 hf).1;omega
 · exact hl
structure Yr (q:YI):Prop where
 run: ∀(i:Nat) k m,q.cls[i]?=some k->k.m=some m-> ∃e,0<=k.ev/\q.xq[k.ev.toNat]?=some e/\e.done=false/\N6 m e.yd
 inj: ∀(i j:Nat) k k' m m',q.cls[i]?=some k->q.cls[j]?=some k'->k.m=some m->k'.m=some m'->k.ev=k'.ev->i=j
theorem Yr.new (c:qn) (n m:Nat):Yr (vP c n m):=by
 have key: ∀(i:Nat) k x,(vP c n m).cls[i]?=some k->k.m=some x->False:=fun i k x h hx=>by
  have hm:=Xj h;unfold vP at hm;rw [m7 hm] at hx;cases hx
 exact ⟨fun i k x h hx=>(key i k x h hx).elim,fun i j k k' x x' h h' hx _ _=>(key i k x h hx).elim⟩
theorem wh {α:Type} {l:List α} {i j:Nat} {x y:α} (h:(l.set i x)[j]?=some y):(j=i/\y=x)\/(j≠i/\l[j]?=some y):=by
 rw [GZ] at h;split at h
 · rename_i e
   split at h
   · cases h;exact .inl ⟨e.symm,rfl⟩
   · cases h
 · rename_i e
   exact .inr ⟨fun e2=>e e2.symm,h⟩
theorem Yr.aet {q:YI} (h:Yr q) (t:Int) (o:Op):Yr (vA q t o)/\XZ q (vA q t o):=by
 unfold vA;split
 · exact ⟨h,XZ.refl q⟩
 · split
   · rename_i k hk
     split
     · exact ⟨h,XZ.refl q⟩
     · refine ⟨⟨fun i k' m U5 hm=>?_,fun i j k1 k2 m m' h1 h2 hm A8 he=>?_⟩,⟨fun i e he=>⟨e,he,Vv.refl e⟩,k9 _⟩⟩
       · rcases wh U5 with ⟨rfl,rfl⟩|⟨_,h3⟩
         · exact h.run _ k m hk hm
         · exact h.run i k' m h3 hm
       · rcases wh h1 with ⟨rfl,rfl⟩|⟨n1,h3⟩
         · rcases wh h2 with ⟨rfl,rfl⟩|⟨n2,h4⟩
           · rfl
           · exact h.inj _ j k k2 m m' hk h4 hm A8 he
         · rcases wh h2 with ⟨rfl,rfl⟩|⟨n2,h4⟩
           · exact h.inj i _ k1 k m m' h3 hk hm A8 he
           · exact h.inj i j k1 k2 m m' h3 h4 hm A8 he
   · exact ⟨h,XZ.refl q⟩
theorem Nm {clock:Int} {ok:Bool} {m:Qp} {e:iK} (hd:e.done=false) (hp:(ok&&VM m)=true->e.yd<=0):Vv e (Yd clock ok m e):=by
 refine ⟨?_,?_,?_,fun h=>(by rw [hd] at h;cases h),fun h=>?_⟩
 · unfold Yd;dsimp only;split<;>split<;>rfl
 · unfold Yd;dsimp only;split<;>split<;>rfl
 · unfold Yd;dsimp only;split<;>split<;>rfl
 · unfold Yd;dsimp only;have:¬ (ok&&VM m)=true:=fun e=>by have:=hp e;omega
   rw [zn this];split<;>rfl
theorem Nl {clock:Int} {ok:Bool} {m:Qp} {e:iK} (hd:e.done=false) (hm:Z9 m=false):(Yd clock ok m e).done=false/\(Yd clock ok m e).yd=ptS clock ok m e.yd:=by
 unfold Yd ptS;dsimp only;rw [zn (show ¬ Z9 m=true by rw [hm];simp)];split
 · exact ⟨hd,rfl⟩
 · exact ⟨hd,rfl⟩
theorem Yr.step {q:YI} (h:Yr q) (i:Nat) (k:S0) (m:Qp) (hk:q.cls[i]?=some k) (hm:k.m=some m):Yr (Ko q i k m)/\XZ q (Ko q i k m):=by
 obtain ⟨e,h0,he,hd,hp⟩:=h.run i k m hk hm;obtain ⟨p1,p2⟩:=agx q.p m e.yd q.clock hp;unfold Ko;generalize kQ q.p m=st at*;obtain ⟨p',m',ok⟩:=st;dsimp only at*;refine ⟨⟨fun j k' x hj hx=>?_,fun a b k1 k2 x x' h1 h2 hx U3 dD=>?_⟩,⟨fun j f hf=>?_,k9 _⟩⟩
 · dsimp only at hj⊢;rcases wh hj with ⟨rfl,rfl⟩|⟨hn,h3⟩
   · dsimp only at hx⊢;split at hx
     · cases hx
     · rename_i uN
       cases hx;have uN:Z9 m'=false:=by simpa using uN
       obtain ⟨s1,s2⟩:=Nl (clock:=q.clock) (ok:=ok) hd uN;refine ⟨Yd q.clock ok m' e,h0,?_,s1,?_⟩
       · rw [R9,he];simp
       · rw [s2];exact p2 uN
   · obtain ⟨f,f0,hf,fd,fp⟩:=h.run j k' x h3 hx;have jt:k.ev.toNat≠k'.ev.toNat:=fun e2=>hn (h.inj j i k' k x m h3 hk hx hm ze)
     refine ⟨f,f0,?_,fd,fp⟩;rw [R9,hf];simp [jt]
 · dsimp only at h1 h2
   have bh: ∀ {a:Nat} {k1:S0} {x:Qp},(q.cls.set i ⟨k.q,(if Z9 m'=true then none else some m'),k.ev⟩)[a]?=some k1->k1.m=some x-> ∃k2 y,q.cls[a]?=some k2/\k2.m=some y/\k2.ev=k1.ev:=fun {a k1 x} ha hx=>by
    rcases wh ha with ⟨rfl,rfl⟩|⟨hn,h3⟩
    · exact ⟨k,m,hk,hm,rfl⟩
    · exact ⟨k1,x,h3,hx,rfl⟩
   obtain ⟨z1,y1,a1,a2,a3⟩:=bh h1 hx;obtain ⟨z2,y2,b1,b2,b3⟩:=bh h2 U3;exact h.inj a b z1 z2 y1 y2 a1 b1 a2 b2 (by rw [a3,b3,dD])
 · dsimp only;rw [R9,hf];by_cases e2:k.ev.toNat=j
   · subst e2;rw [he] at hf;cases hf;exact ⟨_,by simp;rfl,Nm hd p1⟩
   · exact ⟨f,by simp [e2],Vv.refl f⟩
theorem Yr.begin {q:YI} (h:Yr q) (i:Nat) (k:S0) (o:Op) (r:List Op) (hk:q.cls[i]?=some k) (hm:k.m=none):Yr (XW q i k o r)/\XZ q (XW q i k o r):=by
 have z9: ∀(j:Nat) (k':S0) (x:Qp),q.cls[j]?=some k'->k'.m=some x->k'.ev<q.xq.length:=fun j k' x hj hx=>by
  obtain ⟨f,f0,hf,_⟩:=h.run j k' x hj hx;have:=(xI.1 hf).1;omega
 have aaP: ∀(x:iK) (j:Nat) f,q.xq[j]?=some f->(q.xq++ [x])[j]?=some f:=fun x j f hf=>by
  rw [wE (xI.1 hf).1];exact hf
 unfold XW;split
 · have hp:=Pz q.p (i:Int) o;generalize Z8 q.p (i:Int) o=st at*;obtain ⟨p',m'⟩:=st;dsimp only at*;refine ⟨⟨fun j k' x hj hx=>?_,fun a b k1 k2 x x' h1 h2 hx U3 dD=>?_⟩,⟨fun j f hf=>⟨f,aaP _ j f hf,Vv.refl f⟩,k9 _⟩⟩
   · dsimp only at hj⊢;rcases wh hj with ⟨rfl,rfl⟩|⟨hn,h3⟩
     · dsimp only at hx⊢;cases hx;refine ⟨⟨(j:Int),o,NJ,q.clock,0,0,false⟩,ze,?_,rfl,hp⟩;rw [Yp,kF (zN _),qq];rfl
     · obtain ⟨f,f0,hf,fd,fp⟩:=h.run j k' x h3 hx;exact ⟨f,f0,aaP _ _ f hf,fd,fp⟩
   · dsimp only at h1 h2;rcases wh h1 with ⟨rfl,rfl⟩|⟨n1,h3⟩
     · rcases wh h2 with ⟨rfl,rfl⟩|⟨n2,h4⟩
       · rfl
       · have:=z9 b k2 x' h4 U3;dsimp only at dD;omega
     · rcases wh h2 with ⟨rfl,rfl⟩|⟨n2,h4⟩
       · have:=z9 a k1 x h3 hx;dsimp only at dD;omega
       · exact h.inj a b k1 k2 x x' h3 h4 hx U3 dD
 · refine ⟨⟨fun j k' x hj hx=>?_,fun a b k1 k2 x x' h1 h2 hx U3 dD=>?_⟩,⟨fun j f hf=>⟨f,aaP _ j f hf,Vv.refl f⟩,k9 _⟩⟩
   · dsimp only at hj⊢;rcases wh hj with ⟨rfl,rfl⟩|⟨hn,h3⟩
     · cases hx
     · obtain ⟨f,f0,hf,fd,fp⟩:=h.run j k' x h3 hx;exact ⟨f,f0,aaP _ _ f hf,fd,fp⟩
   · dsimp only at h1 h2;rcases wh h1 with ⟨rfl,rfl⟩|⟨n1,h3⟩
     · cases hx
     · rcases wh h2 with ⟨rfl,rfl⟩|⟨n2,h4⟩
       · cases U3
       · exact h.inj a b k1 k2 x x' h3 h4 hx U3 dD
theorem Yr.pick {q:YI} (h:Yr q) (t:Int):Yr (qN q t)/\XZ q (qN q t):=by
 unfold qN;split
 · have hc:Yr {q with clock:=q.clock+1}:=⟨h.run,h.inj⟩;have hl:XZ q {q with clock:=q.clock+1}:=⟨fun i e he=>⟨e,he,Vv.refl e⟩,by dsimp only;omega⟩;generalize ({q with clock:=q.clock+1}:YI)=r at*;unfold qE;split
   · rename_i k hk
     split
     · rename_i m hm
       obtain ⟨a,b⟩:=hc.step _ k m hk hm;exact ⟨a,hl.trans b⟩
     · rename_i hm
       split
       · exact ⟨hc,hl⟩
       · obtain ⟨a,b⟩:=hc.begin _ k _ _ hk hm;exact ⟨a,hl.trans b⟩
   · split
     · exact ⟨⟨hc.run,hc.inj⟩,⟨hl.ev,hl.clock⟩⟩
     · exact ⟨hc,hl⟩
 · exact ⟨h,XZ.refl q⟩
theorem Yr.agj {m:Int} (ps:List Int): ∀ {q:YI},Yr q->Yr (ps.foldl (fun q p=>qN q (p % m)) q)/\XZ q (ps.foldl (fun q p=>qN q (p % m)) q):=by
 induction ps with
 |nil=>exact fun h=>⟨h,XZ.refl _⟩
 |cons p ps ih=>
  intro q h;obtain ⟨a,b⟩:=h.pick (p % m);obtain ⟨c,d⟩:=ih a;exact ⟨c,b.trans d⟩
theorem Yr.on {n m:Int} {q:YI} (h:Yr q) (x:Og):Yr (onS n m q x)/\XZ q (onS n m q x):=by
 unfold onS;split
 · exact h.aet _ _
 · split
   · exact Yr.agj _ h
   · exact ⟨h,XZ.refl _⟩
theorem Yr.oK {n m:Int} (l:List Og): ∀ {q:YI},Yr q->Yr (oK n m q l)/\XZ q (oK n m q l):=by
 induction l with
 |nil=>exact fun h=>⟨h,XZ.refl _⟩
 |cons x l ih=>
  intro q h;obtain ⟨a,b⟩:=h.on (n:=n) (m:=m) x;obtain ⟨c,d⟩:=ih a;exact ⟨c,b.trans d⟩
theorem L8 (n m:Int) {q:YI} (h:Yr q) (l:List Og) (k:Nat):XZ (oK n m q (l.take k)) (oK n m q l):=by
 have e:oK n m q l=oK n m (oK n m q (l.take k)) (l.drop k):=by
  unfold Go.Proofs.YtaibdpjjojihmaaGreat.oK;rw [<-nJ,Us]
 rw [e];exact ((Yr.oK _ ((Yr.oK _ h).1))).2
end
section
open Go Go.RowKit
attribute [local irreducible] Calls
theorem LQ (a:N8) (u v:Value) (w:World) (M:Mem) (hM:M.le (Mem.of w)) (hu:xt M 2 zi u a.ps) (hv:xt M 2 zi v a.ps):
 Calls zf 11 #[.agg #[.int .i64 a.err, .bool a.has, .string a.val,u], .agg #[.int .i64 a.err, .bool a.has, .string a.val,v]] w fun e w'=>e= .returned (.bool true)/\Below w.heap.size w w':=by
 have c4:=fun W (hW:M.le (Mem.of W))=>LP u v a.ps a.ps W (hu.xS hW) (hv.xS hW)
 rw [show decide (a.ps=a.ps)=true from yk rfl] at c4;have g1:(a.err==a.err)=true:=YZ _;have g2:(a.has==a.has)=true:=YZ _;have g3:decide (a.val=a.val)=true:=yk rfl;obtain ⟨A,c,rfl,_⟩:=id hu;obtain ⟨B,d,rfl,_⟩:=id hv;obtain ⟨err,has,val,ps⟩:=a;dsimp only at*;refine zQ Tryz.func11 rfl Tryz.ntmps11 zd (hM) ?_
 repeat' (first|((apply zA);(exact zm zd c4);rfl)|refine vw ?_)
 all_goals
  show yH _ _ _ _;refine yH.one zd (zy zd ?_);simp_all
theorem LO (e:iK) (u v:Value) (w:World) (M:Mem) (hM:M.le (Mem.of w)) (hu:xt M 2 zi u e.a.ps) (hv:xt M 2 zi v e.a.ps):
 Calls zf 13 #[.agg (xT ⟨e,u⟩).toArray, .agg (xT ⟨e,v⟩).toArray] w fun r w'=>r= .returned (.bool true)/\Below w.heap.size w w':=by
 have c4:=fun W (hW:M.le (Mem.of W))=>LQ e.a u v W M hW hu hv
 obtain ⟨A,c,rfl,_⟩:=id hu;obtain ⟨B,d,rfl,_⟩:=id hv;obtain ⟨xg,o,⟨err,has,val,ps⟩,Qh,pt,ended,done⟩:=e;dsimp only [xT] at*;have g1:(xg==xg)=true:=YZ _;have g2:(done==done)=true:=YZ _;have g3:eqv o o=true:=by unfold eqv;simp
 have g4:(Qh==Qh)=true:=YZ _;have g5:(pt==pt)=true:=YZ _;have g6:(ended==ended)=true:=YZ _;refine zQ Tryz.func13 rfl Tryz.ntmps13 zd (hM) ?_
 repeat' (first|((apply zA);(first|exact TT zd|exact zm zd c4);rfl)|refine vw ?_)
 all_goals
  show yH _ _ _ _;refine yH.one zd (zy zd ?_);refine z5 Value.bool ?_;simp_all
structure Byt where
 c:qn
 Yh:Int
 vV:Int
 s:ByteArray
 rounds:Int
def dV (b:Byt) (xU:Int):Bool:=decide ((b.s.size:Int)<=xU)&&decide (b.Yh<=6)&&decide (b.vV<=4)&&decide (b.rounds<=200)
abbrev Q2 (b:Byt):List Value:= [.int .i64 b.c.jz, .int .i64 b.c.leaf, .int .i64 b.c.yV, .int .i64 b.c.kD, .int .i64 b.c.yu, .int .i64 b.Yh, .int .i64 b.vV, .string b.s, .int .i64 b.rounds]
theorem pz (b:Byt) (xU:Int) (w:World):Calls zf 5 #[.agg #[.int .i64 b.c.jz, .int .i64 b.c.leaf, .int .i64 b.c.yV, .int .i64 b.c.kD, .int .i64 b.c.yu, .int .i64 b.Yh, .int .i64 b.vV, .string b.s, .int .i64 b.rounds], .int .i64 xU] w fun r w'=>r= .returned (.bool (dV b xU))/\Below w.heap.size w w':=by
 obtain ⟨⟨jz,leaf,yV,kD,yu⟩,Yh,vV,s,rounds⟩:=b;dsimp only at*;refine zQ Tryz.func5 rfl Tryz.ntmps5 zd (Mem.xE _) ?_
 repeat' (first|refine vw ?_|(refine vd ?_ ?_<;>intro hq))
 all_goals
  show yH _ _ _ _;refine yH.one zd (zy zd ?_);refine z5 Value.bool ?_;unfold dV;simp_all
  try (intros;omega)
end
section
open Go Go.RowKit
attribute [local irreducible] Calls
def awO:Op:=⟨1,⟨#[97]⟩,em,false,⟨#[49]⟩,0⟩
def RZ:List Og:= [(1,0,awO,[]),(2,0,Ki,[0,0,0])]
def R1:qn:=⟨4,2,36,9,0⟩
theorem aid:(gH R1 1 0 RZ).xq.length=1/\dK (gH R1 1 0 RZ)=true:=by decide+kernel
theorem al8:sO (gH R1 1 0 RZ).p.q= [⟨⟨#[97]⟩,⟨#[49]⟩⟩]:=by decide+kernel
theorem al7:ly R1 1 0=true:=by decide+kernel
section
variable {P:Program} {w:World} {M0:Mem} {N:Nat} {M:Mem} {own:List Ob} {env:Env} {dst:Option Tmp} {ty:TypeId} {pos:String} {z7:Array Edge}
theorem agC {t e:TypeId} {parts:Array (Nat×Operand)} {len k bytes:Nat} {vs us:List Value} {ops:Array Oper} {l:List Oper} {Q:zX} [hE:kr P t e k bytes] [hu:FlC vs us] (UG:env.kP (parts.toList.map (·.2))=some vs)
 (h: ∀u,j2 u len->VL P w M0 N ops l ⟨M, .zC u e k len us::own,env.put dst (.v u)⟩ Q) (dC:parts.toList.map (·.1)=List.range' 0 vs.length:=by rfl) (y7:vs.length=len:=by rfl) (qG:Nat.ble (len*k) 1000000=true:=by rfl) (h1:(vs.all fun v=>v.cells.size==k)=true:=by rfl) (hk:yi N dst=true:=by rfl) (zV:yR env 0=true:=by rfl):
 VL P w M0 N ops (⟨dst, .buildSlice t len parts,ty,pos,z7,none⟩::l) ⟨M,own,env⟩ Q:=by
 obtain rfl:=hu.h;refine Xl _ _ (elK UG dC y7 qG h1) hk (vg zV) ?_;refine Yt own.length (by rw [kF (zN _),qq];rfl) fun v hv=>?_
 rw [Qa zV];refine wd _ (h v hv) (ji.perm ?_) (kS zV);rw [YF _ _ (zN _),qq];exact uQ
end
def GA (u:Value):List wT:= [⟨1,0,awO, .slice none 0 0,[]⟩,⟨2,0,Ki,u,[0,0,0]⟩]
theorem V1 (u:Value):(GA u).all jc=true:=rfl
theorem R0 (u:Value):(GA u).map wT.st=RZ:=rfl
theorem ais (u:Value):doP R1 1 0 (ko (GA u))=E2 (gH R1 1 0 RZ):=by
 unfold doP;rw [zo al7];rw [show q9 (ko (GA u))=RZ from (aD (V1 u)).trans (R0 u)];rfl
theorem air (u:Value):AU (q9 (ko (GA u)))<=40000:=by
 rw [show q9 (ko (GA u))=RZ from (aD (V1 u)).trans (R0 u)]
 decide
theorem abn (u:Value):(ko (GA u)).size<=1000000:=by
 have h:=KS (GA u) 255 fun e he=>ZC (yw.1 (V1 u) e he)
 have:(GA u).length=2:=rfl;omega
theorem pA (M:Mem):zu zf 6 [] M [] (fun u M' o=>M.le M'/\u= .bool true/\o= []):=by
 refine xy Tryz.func6 rfl Tryz.ntmps6 zd (fun F w M0 hF=>zz ?_)
 repeat' (first|(refine agC zd (fun u1 hu1=>?_);(obtain ⟨b1,c1,rfl,vK,qD⟩:=xB hu1 ze);refine Yu (uw.one _ _) fun M2 zD JP=>?_)|refine nv ?_)
 have hs1:xt M2 1 oO (.slice (some ⟨b1,0,none⟩) 3 c1) [0,0,0]:=ud.YB (l:= [(0:Int),0,0]) (fun _ _=>rfl) JP;refine agC (us:=Zm ⟨1,0,awO, .slice none 0 0,[]⟩++Zm ⟨2,0,Ki, .slice (some ⟨b1,0,none⟩) 3 c1,[0,0,0]⟩) (hu:=?hu) zd (fun u2 hu2=>?_)
 case hu=>exact ⟨rfl⟩
 obtain ⟨b2,c2,rfl,Zy,uN⟩:=xB hu2 ze;refine Yu (uw.one _ _) fun M3 yc aq=>?_
 obtain ⟨v1,P3⟩: ∃v1,v1=Value.slice (some ⟨b1,0,none⟩) 3 c1:=⟨_,rfl⟩;have gd:xt M3 9 Zm (.slice (some ⟨b2,0,none⟩) 2 c2) (GA v1):=by rw [P3];exact ud.YB (l:=GA (.slice (some ⟨b1,0,none⟩) 3 c1)) (fun _ _=>rfl) aq
 have ju: ∀e∈GA v1,e.Ok M3:=by
  intro e he;rcases jm.1 he with rfl|he
  · exact xt.nil _ _ _
  · rw [jx.1 he,P3];exact hs1.mono yc
 have cE:=fun W (hW:M3.le (Mem.of W))=>B4 _ (GA v1) W M3 hW gd ju (fun e he=>by
  rcases jm.1 he with rfl|he
  · exact ⟨by decide,by decide,by decide,by decide⟩
  · rw [jx.1 he];exact ⟨zW _,zW _,zW _,show 3<=1000000 by decide⟩) (fun e he=>ZC (yw.1 (V1 v1) e he)) (show 2<=1000 by decide)
 have cD:=EI R1 1 0 (ko (GA v1)) (abn v1) (air v1) M3;rw [ais v1] at cD;generalize ko (GA v1)=s at*
 repeat' (first|((apply zA);(exact zm zd cE);rfl)|refine nv ?_)
 refine xQ cD ?_;rintro u M4 _ yQ-⟨-,rfl,ev,nd,mp,el,rfl,bg,Iq,p7,he3,hmp⟩;rw [show (E2 (gH R1 1 0 RZ)).map= [⟨⟨#[97]⟩,⟨#[49]⟩⟩] from al8] at hmp
 have F1:el.length=1:=by
  have:=z5 List.length he3;rw [yo] at this;exact this.trans aid.1
 rw [show (E2 (gH R1 1 0 RZ)).idle=true from aid.2,show (E2 (gH R1 1 0 RZ)).err=0 from rfl];generalize (E2 (gH R1 1 0 RZ)).clock=clock at*;haveI:=hmp.yf;obtain ⟨Ae,ce,rfl,_⟩:=id Iq;obtain ⟨Am,cm,rfl,_⟩:=id hmp;rw [F1] at*;refine zJ ?_
 repeat' (first|refine yh (dst:=some 2) zh fun b3=>?_|refine PV (us:= [.string ⟨#[97]⟩, .string ⟨#[49]⟩]) zd ⟨rfl⟩ rfl zd (fun b4 c4=>?_)|refine nv ?_)
 refine Yu (uw.one _ _) fun M5 kG hR5=>?_
 have hs5:xt M5 2 zi (.slice (some ⟨b4,0,none⟩) 1 c4) [⟨⟨#[97]⟩,⟨#[49]⟩⟩]:=ud.YB (l:= [(⟨⟨#[97]⟩,⟨#[49]⟩⟩:y6)]) (fun _ _=>rfl) hR5;have cS:=fun W (hW:M5.le (Mem.of W))=>Cs _ _ _ _ W ((hmp.mono kG).xS hW) (hs5.xS hW)
 rw [show decide ([(⟨⟨#[97]⟩,⟨#[49]⟩⟩:y6)]= [⟨⟨#[97]⟩,⟨#[49]⟩⟩])=true from yk rfl] at cS
 repeat' (first|((apply zA);(exact zm zd cS);rfl)|refine nv ?_)
 have hle:=zD.trans (yc.trans (yQ.trans kG));exact ⟨_,[],zP,hle,zh,zq,hle,rfl,rfl⟩
end
section
open Go Go.RowKit
attribute [local irreducible] Calls
structure aiH (x y:abL):Prop where
 err:x.err=y.err
 len:x.xq.length<=y.xq.length
 clock:x.clock<=y.clock
 ev: ∀(i:Nat) (e:iK),x.xq[i]?=some e-> ∃f:iK,y.xq[i]?=some f/\Vv e f
theorem Nq (c:qn) (n m:Int) (s t:ByteArray) (k:Nat) (h:q9 t=(q9 s).take k):aiH (doP c n m t) (doP c n m s):=by
 unfold doP;split
 · have hp:=L8 (n.toNat:Nat) (n.toNat+m.toNat:Nat) (Yr.new c n.toNat m.toNat) (q9 s) k;rw [<-h] at hp;exact ⟨rfl,hp.len,hp.clock,hp.ev⟩
 · exact ⟨rfl,zN _,k9 _,fun i e he=>⟨e,he,Vv.refl e⟩⟩
theorem Dl {l:List wT} {s:ByteArray} (h:l.map wT.st=q9 s): ∀e∈l,e.o.key.size<=1000000/\e.ps.length<=1000000:=fun e he=>by
 have hr:=Vb h e he;exact ⟨fX hr,by have:=(i9 hr).2.2.2;omega⟩
theorem Ce: ∀(l:List Og) (k:Nat),AU (l.take k)<=AU l
 | [],k=>by rw [List.take_nil];exact zN _
 |x::l,0=>zW _
 |x::l,k+1=>by
  have:=Ce l k;show x.2.2.2.length+AU (l.take k)<=x.2.2.2.length+AU l;omega
theorem BA (b:Byt) (n:Int) (h:dV b 3000=false) (M:Mem):zu zf 4 [.agg (Q2 b).toArray, .int .i64 n] M [] (fun u M' o=>M.le M'/\u= .bool true/\o= []):=by
 have cS:=pz b 3000;rw [h] at cS;have cA:=pA M;obtain ⟨⟨jz,leaf,yV,kD,yu⟩,Yh,vV,s,rounds⟩:=b;dsimp only [Q2] at*;refine xy Tryz.func4 rfl Tryz.ntmps4 zd (fun F w M0 hF=>zz ?_)
 repeat' (first|refine yZ zd zh fun b2=>?_|((apply zA);(exact zm zd (fun W _=>cS W));rfl)|refine nv ?_)
 refine xQ cA ?_;rintro _ M2 _ zD-⟨-,rfl,rfl⟩;refine zJ ?_
 repeat' (refine nv ?_)
 exact ⟨_,[],zP,zD,zh,zq,zD,rfl,rfl⟩
theorem Bz (b:Byt) (n:Int) (h:dV b 3000=true) (M:Mem):zu zf 4 [.agg (Q2 b).toArray, .int .i64 n] M [] (fun u M' o=>M.le M'/\u= .bool true/\o= []):=by
 have cS:=pz b 3000
 have YC:b.s.size<=3000:=by
  unfold dV at h;simp only [yF,j5] at h;omega
 rw [h] at cS;obtain ⟨⟨jz,leaf,yV,kD,yu⟩,Yh,vV,s,rounds⟩:=b;dsimp only [Q2] at*;have cD:=zu.ofM (M:=M) fun W hW=>Wp s W M hW ze
 refine xy Tryz.func4 rfl Tryz.ntmps4 zd (fun F w M0 hF=>zz ?_)
 repeat' (first|refine yZ zd zh fun b2=>?_|((apply zA);(exact zm zd (fun W _=>cS W));rfl)|refine nv ?_)
 refine xQ cD ?_;rintro v M3 _ yc-⟨rfl,l,hl,Qw,Ux⟩;refine zJ ?_;have Ux:l.map wT.st=q9 s:=Ux
 have FR:l.length<=3500:=by
  have:=(tC 3500 s ze).2;rw [<-Ux,yo] at this;exact this
 obtain ⟨k,hk⟩: ∃k:Nat,(min n (l.length:Int)).toNat=k:=⟨_,rfl⟩;have Rj:k<=l.length:=ze
 have sX:(if (if (l.length:Int)<n then (l.length:Int) else n)>0 then (if (l.length:Int)<n then (l.length:Int) else n) else (0:Int))=(k:Int):=by
  split<;>split<;>omega
 obtain ⟨A,c,rfl,vK,qD,_⟩:=id hl;have sV:=UR hl rfl Rj;have z9:(l.take k).length=k:=by rw [yC];omega
 have cE:=fun W (hW:M3.le (Mem.of W))=>oC _ (l.take k) W M3 hW sV (fun e he=>Qw e (wB he)) (fun e he=>Dl Ux e (wB he)) ze
 have FK:(l.take k).all jc=true:=yw.2 fun e he=>Vb Ux e (wB he)
 have ju:Dm (l.take k)=(ko (l.take k),true):=by unfold Dm;rw [zo FK]
 have kt:q9 (ko (l.take k))=(q9 s).take k:=by
  rw [show q9 (ko (l.take k))=(l.take k).map wT.st from aD FK,<-Ux,eX]
 rw [ju] at cE;dsimp only at cE
 repeat' (first|((apply zA);(first|exact zm zd cE|exact fC zd zd (fun W=>eL W _ _ _ _ _ _)|exact xG (z5 (Value.int .i64) sX) (fE zd zd (fun W=>eM W _ _ _ _ _ _))|exact yg 0 k c zd rfl zd rfl ze ze ze ze);rfl)|refine nv ?_)
 have apG:AU (q9 s)<=3500:=(tC 3500 s ze).1
 have akO:(ko (l.take k)).size<=1000000:=by
  have:=KS (l.take k) 255 fun e he=>ZC (yw.1 FK e he)
  omega
 have Uk:AU (q9 (ko (l.take k)))<=40000:=by
  rw [kt];have:=Ce (q9 s) k;omega
 have cX:=EI ⟨jz,leaf,yV,kD,yu⟩ Yh vV (ko (l.take k)) akO Uk M3;have hle:=Nq ⟨jz,leaf,yV,kD,yu⟩ Yh vV s (ko (l.take k)) k kt;generalize ko (l.take k)=s1 at*;obtain ⟨y,hy⟩: ∃y,y=doP ⟨jz,leaf,yV,kD,yu⟩ Yh vV s:=⟨_,rfl⟩;generalize doP ⟨jz,leaf,yV,kD,yu⟩ Yh vV s1=x at*;rw [<-hy] at hle;refine xQ cX ?_;rintro _ M4 _ yQ-⟨-,rfl,xe,xn,xm,xl,rfl,hxn,oR,Te,hx3,hxm⟩;have cY:=EI ⟨jz,leaf,yV,kD,yu⟩ Yh vV s ze ze M4;rw [<-hy] at cY;haveI:=oR.yf;haveI:=hxm.yf;obtain ⟨Ax,cx,rfl,apn,akx,_⟩:=id oR;unfold maxLen at akx;refine zJ ?_
 repeat' (first|refine yh (dst:=some 8) zh fun b8=>?_|refine nv ?_)
 refine xQ cY ?_;rintro _ M5 _ kG-⟨-,rfl,ye,yn,ym,yl,rfl,hyn,P1,MC,hy3,hym⟩;haveI:=P1.yf;haveI:=hym.yf;obtain ⟨Ay,cy,rfl,_⟩:=id P1;refine zJ ?_;have hxl:xl.length=x.xq.length:=by rw [<-hx3,yo]
 have hyl:yl.length=y.xq.length:=by rw [<-hy3,yo]
 have y7:=hle.len;have aqq:=hle.clock;have g1:(x.err !=y.err)=false:=by rw [hle.err];simp
 have g2:decide ((yl.length:Int)<(xl.length:Int))=false:=z6 ze;have g3:decide (y.clock<x.clock)=false:=z6 ze
 repeat' (first|refine yh (dst:=some 9) zh fun b9=>?_|refine nv ?_)
 have hx5:=oR.mono kG
 refine jv (fun i:Nat=>⟨M5, .zK (ptr b9) 42 [.int .i64 y.err, .slice Ay yl.length cy,yn,ym, .int .i64 y.clock, .bool y.idle]:: .zK (ptr b8) 42 [.int .i64 x.err, .slice Ax xl.length cx,xn,xm, .int .i64 x.clock, .bool x.idle]::F,[(8, .v (ptr b8)),(9, .v (ptr b9)),(75, .v (.slice Ax xl.length cx)),(76, .v (.int .i64 xl.length)),(77, .v (.int .i64 i))]⟩)
  (fun i=>i<=xl.length) (fun i=>xl.length-i) 0 (xZ kX) (zW _) ?_
 intro i hi
 replace hi:i<=xl.length:=hi
 rcases yq i xl.length with Wa|Ro
 · have hd:=Xp Wa;have ad8:i<yl.length:=ze;obtain ⟨ba,off,rfl,jk⟩:=hx5.get Wa;obtain ⟨bb,akj,rfl,iA⟩:=P1.get ad8
   have dD:Vv xl[i].e yl[i].e:=by
    obtain ⟨f,hf,J5⟩:=hle.ev i xl[i].e (by rw [<-hx3,qd,jA Wa];rfl);rw [<-hy3,qd,jA ad8] at hf;cases hf;exact J5
   have hpx:=(Te _ (yD Wa)).mono kG;have hpy:=MC _ (yD ad8);generalize xl[i]=X at*;generalize yl[i]=Y at*;obtain ⟨e,u⟩:=X;obtain ⟨f,u2⟩:=Y;dsimp only at dD hpx hpy;cases Wc:e.done with
   |true=>
    obtain rfl:f=e:=dD.done Wc;have cV:=fun W (hW:M5.le (Mem.of W))=>LO f u u2 W M5 hW hpx hpy
    obtain ⟨A3,c3,rfl,_⟩:=id hpx;obtain ⟨A4,c4,rfl,_⟩:=id hpy;obtain ⟨xg,o,⟨err,has,val,ps⟩,Qh,pt,ended,done⟩:=f;dsimp only at Wc;subst Wc;dsimp only [xT] at*;have f1:(xg !=xg)=false:=by simp
    have f2:(!eqv o o)=false:=by unfold eqv;simp
    have f3:(Qh !=Qh)=false:=by simp
    have f4:(pt !=pt)=false:=by simp
    cases hp:decide (0<pt)
    all_goals
     repeat' (first|refine yh (dst:=some 11) zh fun NI=>?_|refine yh (dst:=some 12) zh fun b12=>?_|((apply zA);(first|exact zj (i) zd zd ze ze|exact zZ _ zd jk _ zd|exact zZ _ zd iA _ zd|exact zm zd cV);rfl)|refine nv ?_)
     exact yG (Q:=fun _ _=>True) (i+1) (xZ kX) Wa ze
   |false=>
    obtain ⟨A3,c3,rfl,_⟩:=id hpx;obtain ⟨A4,c4,rfl,_⟩:=id hpy;obtain ⟨v1,v2,v3,-,v5⟩:=dD;obtain ⟨xg,o,⟨err,has,val,ps⟩,Qh,pt,ended,done⟩:=e;obtain ⟨ID,o2,⟨aq8,aqx,aor,ps2⟩,RW,pt2,ama,aoa⟩:=f;dsimp only at Wc v1 v2 v3 v5;subst Wc v1 v2 v3;dsimp only [xT] at*;have f1:(ID !=ID)=false:=by simp
    have f2:(!eqv o2 o2)=false:=by unfold eqv;simp
    have f3:(RW !=RW)=false:=by simp
    cases hp:decide (0<pt) with
    |true=>
     obtain rfl:=v5 (qc hp);have f4:(pt2 !=pt2)=false:=by simp
     repeat' (first|refine yh (dst:=some 11) zh fun NI=>?_|refine yh (dst:=some 12) zh fun b12=>?_|((apply zA);(first|exact zj (i) zd zd ze ze|exact zZ _ zd jk _ zd|exact zZ _ zd iA _ zd);rfl)|refine nv ?_)
     exact yG (Q:=fun _ _=>True) (i+1) (xZ kX) Wa ze
    |false=>
     repeat' (first|refine yh (dst:=some 11) zh fun NI=>?_|refine yh (dst:=some 12) zh fun b12=>?_|((apply zA);(first|exact zj (i) zd zd ze ze|exact zZ _ zd jk _ zd|exact zZ _ zd iA _ zd);rfl)|refine nv ?_)
     exact yG (Q:=fun _ _=>True) (i+1) (xZ kX) Wa ze
 · have hd:=Xq Ro;have cA:=pA M5
   repeat' (refine nv ?_)
   refine xQ cA ?_;rintro _ M6 _ Uy-⟨-,rfl,rfl⟩;refine zJ ?_
   repeat' (refine nv ?_)
   have hle:=yc.trans (yQ.trans (kG.trans Uy));exact ⟨_,[],zP,hle,zh,zq,hle,rfl,rfl⟩
end
section
open Go.ChangeShapes Go.WideShapes Go.ChangeAt Go.RowKit Go.Deep
theorem EP {H:Type} {enc:TypeId×Value->H} {P:Program} {w:World} {t:TypeId} {fs:Array Field} {fuel:Nat} {cs:List Value} {x:DataW H×List MemPlace} (ht:P.underlying t=some (.struct fs))
 (h:DataW.trod enc P w 0 (fun _=>true) true fuel t cs=some x) (hw:Wt P t x.1):
 cs.length=P.cellsOf t/\ ∀(j:Nat) (f:Field),fs[j]?=some f-> ∃(y:DataW H×List MemPlace) (n:Nat),DataW.trod enc P w 0 (fun _=>true) true n f.type ((cs.drop f.offset).take (P.cellsOf f.type))=some y/\Wt P f.type y.1:=by
 obtain ⟨xs,n,rfl,rfl,hl,hxl,hf⟩:=DataW.trod_struct ht h;refine ⟨hl,fun j f hj=>?_⟩;have Wb:j<fs.size:=(XL.1 hj).1;have h1:=hf j f hj;have hxj:xs[j]?=some (xs[j]'(by omega)):=jA ze;rw [hxj] at h1;refine ⟨_,n,h1,fun m hm=>hw m ?_⟩;simp only [DataW.weights,ht];refine Sh (j:=j) ?_ ?_ m hm
 · rw [qd,Se,hj];rfl
 · rw [qd,hxj];rfl
theorem adh {H:Type} {enc:TypeId×Value->H} {W:World} (n:Nat) (cs:List Value) (y:DataW H×List MemPlace) (h:DataW.trod enc zf W 0 (fun _=>true) true n 25 cs=some y) (hw:Wt zf 25 y.1):
 ∃a:Byt,cs=Q2 a:=by
 obtain ⟨hl,hf⟩:=EP Tryz.underlying25 h hw;have vK:zf.cellsOf 3=1:=by kernel_rfl
 have qD:zf.cellsOf 23=5:=by kernel_rfl
 have hc3:zf.cellsOf 9=1:=by kernel_rfl
 have hc4:zf.cellsOf 25=9:=by kernel_rfl
 rw [hc4] at hl;obtain ⟨y0,m0,ht0,hw0⟩:=hf 0 _ rfl;obtain ⟨y1,m1,Ti,be⟩:=hf 1 _ rfl;obtain ⟨y2,m2,Om,V9⟩:=hf 2 _ rfl;obtain ⟨y3,m3,ht3,hw3⟩:=hf 3 _ rfl;obtain ⟨y4,m4,ht4,hw4⟩:=hf 4 _ rfl;clear hf;have ht0:DataW.trod enc zf W 0 (fun _=>true) true m0 23 ((cs.drop 0).take (zf.cellsOf 23))=some y0:=ht0;have Ti:DataW.trod enc zf W 0 (fun _=>true) true m1 3 ((cs.drop 5).take (zf.cellsOf 3))=some y1:=Ti;have Om:DataW.trod enc zf W 0 (fun _=>true) true m2 3 ((cs.drop 6).take (zf.cellsOf 3))=some y2:=Om;have ht3:DataW.trod enc zf W 0 (fun _=>true) true m3 9 ((cs.drop 7).take (zf.cellsOf 9))=some y3:=ht3;have ht4:DataW.trod enc zf W 0 (fun _=>true) true m4 3 ((cs.drop 8).take (zf.cellsOf 3))=some y4:=ht4;rw [qD] at ht0;rw [vK] at Ti Om ht4;rw [hc3] at ht3;obtain ⟨x0,e0,g0⟩:=adg _ _ _ ht0 hw0;obtain ⟨x1,e1,g1⟩:=UX Q9 Ti;obtain ⟨x2,e2,g2⟩:=UX Q9 Om;obtain ⟨x3,e3,g3⟩:=adf Tryz.underlying9 ht3 hw3;obtain ⟨x4,e4,g4⟩:=UX Q9 ht4;obtain ⟨k1,k2,k3,k4,k5⟩:=x0;clear ht0 Ti Om ht3 ht4 hw0 be V9 hw3 hw4 h hw
 match cs,hl with
 | [c0,c1,c2,c3,c4,c5,c6,c7,c8],_=>
  simp at e1 e2 e3 e4;simp [Vh] at e0;obtain ⟨rfl,rfl,rfl,rfl,rfl⟩:=e0;subst e1 e2 e3 e4;exact ⟨⟨⟨k1,k2,k3,k4,k5⟩,x1,x2,x3,x4⟩,rfl⟩
theorem abr {H:Type} {enc:TypeId×Value->H} {W:World} {base:Nat} {v:Value} {d:DataW H} {p:List MemPlace} (hv:Value.okWide zf W .any base 25 v) (h:DataW.Trod enc zf W 0 (fun _=>true) true 25 v d p) (hw:Wt zf 25 d):
 ∃a:Byt,v= .agg (Q2 a).toArray:=by
 obtain ⟨cs,rfl,YC⟩:=okWide_struct Tryz.underlying25 hv;obtain ⟨fuel,hf⟩:=h;obtain ⟨a,ha⟩:=adh fuel cs.toList _ hf hw;refine ⟨a,?_⟩;obtain ⟨l⟩:=cs;simp only at ha;rw [ha]
theorem zu.calls {P:Program} {f:FuncId} {vs:List Value} {r:Value} (h:zu P f vs Mem.no [] (fun u M' o=>Mem.no.le M'/\u=r/\o= [])) (W:World):Calls P f vs.toArray W fun e W'=>e= .returned r/\Below W.heap.size W W':=by
 refine (h [] zh W Mem.no (fun _=>r) W ⟨ZD _ _,Mem.xE _,fun b _ hb=>rfl,zE,fun i o hi=>?_,fun i o b hi=>?_,fun i j oi oj b hi=>?_⟩).mono fun e W' ⟨v,yE,zw,M',h1,h2,h3,h4,h5,h6,h7⟩=>?_
 · cases hi
 · cases hi
 · cases hi
 · exact ⟨by rw [h1,h6],h4.below⟩
theorem Eo (b:Byt) (n:Int) (W:World):Calls zf 4 #[.agg (Q2 b).toArray, .int .i64 n] W fun e W'=>e= .returned (.bool true)/\Below W.heap.size W W':=by
 cases h:dV b 3000 with
 |false=>exact (BA b n h Mem.no).calls W
 |true=>exact (Bz b n h Mem.no).calls W
end
end Go.Proofs.YtaibdpjjojihmaaGreat
