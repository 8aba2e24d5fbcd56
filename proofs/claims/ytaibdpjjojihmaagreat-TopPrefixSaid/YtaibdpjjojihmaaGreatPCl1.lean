/- A part of the proof of TopPrefix; no conditions. -/
import Derived.Test.YtaibdpjjojihmaaGreatPPn
set_option linter.unusedVariables false
set_option linter.unusedSimpArgs false
set_option maxRecDepth 20000
set_option maxHeartbeats 4000000
namespace Go.Proofs.YtaibdpjjojihmaaGreat
section
open Go Go.RowKit
abbrev Up (l:List ByteArray):Prop:=l.Pairwise fun a b=>lt a b=true
theorem XP {l:List ByteArray} (h:Up l):Xv l=true:=by
 unfold Xv;rw [eF];intro i hi;unfold EM;rcases Vr i with h0|h0
 · rw [yk h0];rfl
 · rw [qO ze,qO hi,DF.1 h (i-1) i ze hi ze,Bool.or_true]
theorem H8: ∀(l:List ByteArray) (k:ByteArray),Up l->(∀a∈l.take (f8 l k),lt a k=true)/\ ∀a∈l.drop (f8 l k),lt a k=false
 | [],k,_=>⟨fun a h=>by simp at h,fun a h=>by simp at h⟩
 |a::l,k,h=>by
  obtain ⟨h1,h2⟩:=aY.1 h;obtain ⟨i1,i2⟩:=H8 l k h2;cases hc:lt a k with
  |true=>
   have e:f8 (a::l) k=f8 l k+1:=by unfold f8;rw [List.countP_cons_of_pos (by simpa using hc)]
   rw [e,YE,gw];exact ⟨fun b hb=>(jm.1 hb).elim (fun e=>e▸hc) (i1 b),i2⟩
  |false=>
   have uD: ∀b∈l,lt b k=false:=fun b hb=>by
    cases C6:lt b k with
    |false=>rfl
    |true=>rw [KX (h1 b hb) C6] at hc;cases hc
   have e:f8 (a::l) k=0:=by
    unfold f8;rw [List.countP_cons_of_neg (by simp [hc]),rK];intro b hb;simp [uD b hb]
   rw [e];exact ⟨fun b hb=>by simp at hb,fun b hb=>(jm.1 hb).elim (fun e=>e▸hc) (uD b)⟩
theorem OC {l:List ByteArray} {k:ByteArray} {i:Nat} (h:Up l) (h1: ∀a∈l.take i,lt a k=true) (h2: ∀a∈l.drop i,lt k a=true):Up (l.take i++k::l.drop i):=by
 have h0:=h;rw [<-Us i l] at h0;obtain ⟨p1,p2,p3⟩:=IU.1 h0;refine IU.2 ⟨p1,aY.2 ⟨h2,p2⟩,fun a ha b hb=>?_⟩;rcases jm.1 hb with rfl|hb
 · exact h1 a ha
 · exact p3 a ha b hb
structure qw (l:List y6):Prop where
 up:Up (ja l)
 sz: ∀p∈l,p.key.size<=16/\p.val.size<=16
theorem qw.sub {l m:List y6} (h:qw l) (hs:m.Sublist l):qw m:=⟨h.up.sublist (hs.map _),fun p hp=>h.sz p (hs.subset hp)⟩
theorem qw.nil:qw []:=⟨List.Pairwise.nil,fun p hp=>by simp at hp⟩
theorem qw.ok {l:List y6} (h:qw l) (hl:l.length<=100000000):a7 l:=⟨hl,XP h.up,fun p hp=>by have:=(h.sz p hp).2;omega⟩
theorem TA (s:ByteArray):(tl s).size<=16:=by
 unfold tl;rw [DE];omega
theorem DB {e:nY} {h:Bool} {v:ByteArray} (h1:e.val.size<=16) (h2:v.size<=16):(ky e h v).size<=16:=by
 unfold ky;split
 · exact h1
 · split
   · exact TA _
   · split
     · exact zW _
     · split
       · exact h2
       · exact zW _
theorem pQ {l:List y6} (h:qw l) (k:ByteArray):(QF l k).size<=16:=by
 unfold QF;split
 · rename_i hh
   rw [jA (U7 hh)];exact (h.sz _ (yD _)).2
 · exact zW _
theorem My (l:List y6) (i:Nat) (p:y6):ja (l.take i++p::l.drop i)=(ja l).take i++p.key::(ja l).drop i:=by simp [ja,eX,List.map_drop]
theorem Ln {l:List y6} (h:qw l) {k:ByteArray} {e:nY} (hk:k.size<=16) (he:e.val.size<=16):qw (JX l k e)/\(JX l k e).length<=l.length+1:=by
 have ha:=DB (h:=vl l k) he (pQ h k);unfold JX;split
 · split
   · rename_i _ hh
     have z9:=U7 hh;rw [jA z9];refine ⟨⟨?_,fun p hp=>?_⟩,by rw [xj];omega⟩
     · have e1:ja (l.set (Ya l k) ⟨l[Ya l k].key,ky e (vl l k) (QF l k)⟩)=ja l:=by
        unfold ja;rw [aR];refine fj yx fun i h1 h2=>?_
        rw [nH];split
        · rename_i he;subst he;simp
        · rfl
       show Up (ja (l.set (Ya l k) ⟨l[Ya l k].key,_⟩));rw [e1];exact h.up
     · rcases dr hp with h1|rfl
       · exact h.sz p h1
       · exact ⟨(h.sz _ (yD z9)).1,ha⟩
   · rename_i _ hh
     obtain ⟨q1,q2⟩:=H8 (ja l) k h.up;have Qw:=Fg l k;refine ⟨⟨?_,fun p hp=>?_⟩,by simp;omega⟩
     · rw [My];refine OC h.up q1 fun a ha'=>?_
       have h1:=q2 a ha';cases h3:lt k a with
       |true=>rfl
       |false=>
        exfalso;have e1:=ah h1 h3;subst e1
        have jt:(ja l).drop (Ya l a)≠ []:=fun e=>by
         rw [e] at ha';simp at ha'
        have z9:Ya l a<l.length:=by
         rcases yq (Ya l a) l.length with h4|h4
         · exact h4
         · exact absurd (Ut (by unfold ja;rw [yo];exact h4)) jt
        refine hh (yk ⟨z9,?_⟩)
        have h5:lt (wi (ja l) (Ya l a)) a=false:=q2 _ (by
         rw [qO (by unfold ja;rw [yo];exact z9)];exact I0.2 ⟨0,by unfold ja;rw [yo,xu];exact z9,by simp [Ya]⟩)
        rw [Zc (by unfold ja;rw [yo];exact z9)] at ha';rcases jm.1 ha' with h6|h6
        · rw [qO (by unfold ja;rw [yo];exact z9)];exact h6.symm
        · have h7:=h.up;rw [<-Us (Ya l a) (ja l),Zc (by unfold ja;rw [yo];exact z9)] at h7;have h8:=(aY.1 (IU.1 h7).2.1).1 a h6;rw [qO (by unfold ja;rw [yo];exact z9)] at h5;rw [h5] at h8;cases h8
     · rcases jH.1 hp with h1|h1
       · exact h.sz p (wB h1)
       · rcases jm.1 h1 with rfl|h1
         · exact ⟨hk,ha⟩
         · exact h.sz p (dp h1)
 · split
   · refine ⟨h.sub ?_,by simp;omega⟩;have:=(List.Sublist.refl (l.take (Ya l k))).append (List.drop_sublist_drop_left l (show Ya l k<=Ya l k+1 by omega))
     rwa [Us] at this
   · exact ⟨h,ze⟩
theorem pm {l:List y6} {k:ByteArray} {e:nY} (h:vl l k=true\/uP e false=false):(JX l k e).length<=l.length:=by
 unfold JX;split
 · split
   · rw [xj];omega
   · rename_i h1 h2
     exfalso;rcases h with h|h
     · exact h2 h
     · rw [show vl l k=false from by simpa using h2] at h1;rw [h] at h1;cases h1
 · split
   · simp;omega
   · omega
structure we (b:Int) (m:xi):Prop where
 key:m.key.size<=16
 hi:m.hi.size<=16
 val:m.val.size<=16
 lo:1<=m.xD
 up:m.xD<=b
 k1:1<=m.kind
 k4:m.kind<=4
theorem we.mono {b b':Int} {m:xi} (h:we b m) (hb:b<=b'):we b' m:=⟨h.1,h.2,h.3,h.4,Q5 h.5 hb,h.6,h.7⟩
theorem Ph {m:xi} (h:m.val.size<=16) (k:ByteArray):(lq m k).val.size<=16:=by
 unfold lq;split
 · split
   · exact h
   · split
     · exact zW _
     · exact zW _
 · exact zW _
theorem dN {l:List y6} (h:qw l) {m:xi} (hk:m.kind≠4->m.key.size<=16) (hv:m.val.size<=16):qw (XF l m)/\(XF l m).length<=l.length+1:=by
 unfold XF;split
 · exact ⟨h.sub IQ,G2 (Ql _ _)⟩
 · rename_i h4;exact Ln h (hk h4) (Ph hv _)
theorem pB {l:List y6} {m:xi} {xU:Int} (hf:w6 l m xU=true) (hl:(l.length:Int)<=xU):((XF l m).length:Int)<=xU:=by
 unfold XF;split
 · have:(ZZ l (ZM m)).length<=l.length:=Ql _ _;omega
 · rename_i hk
   unfold w6 Iw at hf;rw [z6 hk,nC,YY,YY] at hf;rcases hf with (h1|h1)|h1
   · have:=pm (e:=lq m m.key) (.inl h1);omega
   · have h2:Wu (lq m m.key)=false:=by simpa using h1
     have h3:uP (lq m m.key) false=false:=by
      unfold Wu at h2;unfold uP;revert h2;generalize (lq m m.key).kind=q;intro h2;simp_all
     have:=pm (l:=l) (k:=m.key) (.inr h3);omega
   · have h2:=qc h1
     have:(JX l m.key (lq m m.key)).length<=l.length+1:=by
      unfold JX;have Qw:=Fg l m.key
      repeat' split
      all_goals simp
      all_goals omega
     omega
theorem er: ∀(ms:List xi) {l:List y6},qw l->(∀m∈ms,(m.kind≠4->m.key.size<=16)/\m.val.size<=16)->qw (YD l ms)/\(YD l ms).length<=l.length+ms.length
 | [],l,h,_=>⟨h,by simp [YD]⟩
 |m::ms,l,h,hm=>by
  obtain ⟨h1,h2⟩:=dN h (hm m Yq).1 (hm m Yq).2;obtain ⟨h3,h4⟩:=er ms h1 fun x hx=>hm x (XJ _ hx)
  exact ⟨h3,by rw [show YD l (m::ms)=YD (XF l m) ms from rfl,xd];omega⟩
theorem aC: ∀(ms:List xi) {l:List y6} {xU:Int} {n:Nat},qw l->(l.length:Int)<=xU->(∀m∈ms,(m.kind≠4->m.key.size<=16)/\m.val.size<=16)->qw (ZB l ms xU n).1/\((ZB l ms xU n).1.length:Int)<=xU/\n<=(ZB l ms xU n).2/\(ZB l ms xU n).2<=n+ms.length
 | [],l,xU,n,h,hl,_=>⟨h,hl,zN _,zN _⟩
 |m::ms,l,xU,n,h,hl,hm=>by
  unfold ZB;split
  · rename_i hf
    obtain ⟨h1,_⟩:=dN h (hm m Yq).1 (hm m Yq).2;obtain ⟨a,b,c,d⟩:=aC ms (n:=n+1) h1 (pB hf hl) fun x hx=>hm x (XJ _ hx)
    exact ⟨a,b,ze,by rw [xd];omega⟩
  · exact ⟨h,hl,zN _,ze⟩
end
section
open Go Go.RowKit
abbrev jB (n:Nat) (s:yW):Prop:=s.lo.size<=n/\s.hi.size<=n
theorem ir {n:Nat} {s:yW} (h:jB n s):jB n (Kj s):=by
 unfold Kj;split
 · exact ⟨zW _,zW _⟩
 · split
   · exact ⟨h.1,zW _⟩
   · exact h
theorem agt {n:Nat} {a b:ByteArray} (h1:a.size<=n) (h2:b.size<=n):(mx a b).size<=n:=by unfold mx;split<;>assumption
theorem agw {n:Nat} {a b:ByteArray} (h1:a.size<=n) (h2:b.size<=n):(mn a b).size<=n:=by unfold mn;split<;>assumption
theorem QL {n:Nat} {a b:yW} (h1:jB n a) (h2:jB n b):jB n (vT a b):=by
 unfold vT;refine ir ⟨agt h1.1 h2.1,?_⟩;show (lH a b).size<=n;unfold lH;split
 · exact h2.2
 · split
   · exact h1.2
   · exact agw h1.2 h2.2
theorem Jh {n:Nat} {ps:List ByteArray} (h: ∀p∈ps,p.size<=n) (i:Int):jB n (xL ps i):=by
 have hs: ∀j,(wi ps j).size<=n:=fun j=>by
  unfold wi;rcases yq j ps.length with h1|h1
  · rw [jA h1];exact h _ (yD h1)
  · rw [dq h1];exact zW _
 unfold xL;split
 · exact ⟨zW _,zW _⟩
 · unfold Xw;refine ir ⟨?_,?_⟩
   · show (if _ then _ else _:ByteArray).size<=n;split
     · exact hs _
     · exact zW _
   · show (if _ then _ else _:ByteArray).size<=n;split
     · exact hs _
     · exact zW _
theorem Du {n:Nat} {m:xi} {s:yW} (hk:m.key.size<=n) (hh:m.hi.size<=n) (hs:jB n s):(jD m s).1.key.size<=n/\(jD m s).1.hi.size<=n:=by
 unfold jD;split
 · split
   · rename_i _ h4
     have hsp:jB n (ZM m):=by unfold ZM;rw [zo h4];exact ⟨hk,hh⟩
     exact QL hsp hs
   · exact ⟨hk,hh⟩
 · exact ⟨zW _,zW _⟩
theorem rA (m:xi) (s:yW):(jD m s).1.val.size<=m.val.size:=by
 unfold jD;split
 · split<;>exact zN _
 · exact zW _
theorem Q1 {m:xi} {s:yW} (h:(jD m s).2=true):(jD m s).1.xD=m.xD/\(jD m s).1.kind=m.kind/\qJ (jD m s).1=qJ m:=by
 unfold jD at h⊢;split at h
 · rename_i ht
   rw [zo ht];split
   · rename_i h4
     refine ⟨rfl,rfl,?_⟩;unfold qJ;dsimp only;rw [zo h4,zo h4]
   · exact ⟨rfl,rfl,rfl⟩
 · cases h
theorem Qg {b:Int} {m:xi} {s:yW} (h:we b m) (hs:jB 16 s) (hc:(jD m s).2=true):we b (jD m s).1:=by
 obtain ⟨h1,h2⟩:=Du h.key h.hi hs;obtain ⟨h3,h4,_⟩:=Q1 hc;exact ⟨h1,h2,by have:=rA m s;have:=h.val;omega,by rw [h3];exact h.lo,by rw [h3];exact h.up,by rw [h4];exact h.k1,by rw [h4];exact h.k4⟩
structure YA (m:xi):Prop where
 key:m.key.size<=100
 hi:m.hi.size<=100
 val:m.val.size<=16
 k:m.kind≠4->m.key.size<=16
theorem we.t {b:Int} {m:xi} (h:we b m):YA m:=⟨by have:=h.key;omega,by have:=h.hi;omega,h.val,fun _=>h.key⟩
theorem YA.ok {m:xi} (h:YA m):DT m:=⟨by have:=h.val;omega,by have:=h.key;omega⟩
theorem abg {m:xi} {s:yW} (h:YA m) (hs:jB 100 s) (hc:(jD m s).2=true):YA (jD m s).1:=by
 obtain ⟨h1,h2⟩:=Du h.key h.hi hs;refine ⟨h1,h2,jZ (rA m s) h.val,fun hk=>?_⟩;rw [(Q1 hc).2.1] at hk;have h3:=h.k hk;unfold jD at hc⊢;split at hc
 · rename_i ht
   rw [zo ht,zn hk];exact h3
 · cases hc
theorem NA {m x:xi} {s:yW} (h:x∈J9 m s):x=(jD m s).1/\(jD m s).2=true:=by
 unfold J9 at h;split at h
 · rename_i hc;exact ⟨jx.1 h,hc⟩
 · cases h
theorem rB {l:List xi} {s:yW} {x:xi} (h:x∈jR l s): ∃m∈l,x=(jD m s).1/\(jD m s).2=true:=by
 unfold jR at h;obtain ⟨m,hm,hx⟩:=KA.1 h;exact ⟨m,hm,NA hx⟩
theorem rC {b:Int} {l:List xi} {s:yW} (h: ∀m∈l,we b m) (hs:jB 16 s): ∀m∈jR l s,we b m:=fun x hx=>by
 obtain ⟨m,hm,rfl,hc⟩:=rB hx;exact Qg (h m hm) hs hc
theorem dh {l:List xi} {s:yW} (h: ∀m∈l,YA m) (hs:jB 100 s): ∀m∈jR l s,YA m:=fun x hx=>by
 obtain ⟨m,hm,rfl,hc⟩:=rB hx;exact abg (h m hm) hs hc
theorem aH (l:List xi) (s:yW):(jR l s).length<=l.length:=by
 induction l with
 |nil=>exact zN _
 |cons m l ih=>
  show ((J9 m s)++jR l s).length<=_;rw [yK,xd];have:(J9 m s).length<=1:=by unfold J9;split<;>simp
  omega
theorem vS (m:xi) (l:List xi):uY (m::l)=qJ m+uY l:=rfl
theorem dU (a b:List xi):uY (a++b)=uY a+uY b:=by
 induction a with
 |nil=>show _=0+_;simp
 |cons m a ih=>rw [wQ,vS,vS,ih];omega
theorem W6 (m:xi):4<=qJ m:=by unfold qJ;split<;>omega
theorem pG (l:List xi):4*(l.length:Int)<=uY l:=by
 induction l with
 |nil=>exact k9 _
 |cons m l ih=>rw [vS,xd];have:=W6 m;omega
theorem mN (l:List xi) (s:yW):uY (jR l s)<=uY l:=by
 induction l with
 |nil=>exact k9 _
 |cons m l ih=>
  show uY ((J9 m s)++jR l s)<=_;rw [dU,vS];have h0:=W6 m
  have:uY (J9 m s)<=qJ m:=by
   unfold J9;split
   · rename_i hc
     rw [vS,(Q1 hc).2.2];show qJ m+0<=_;omega
   · show (0:Int)<=_;omega
  omega
theorem aM {l:List xi} {m:xi} {b:Int} (h:XI l m b=true):uY (l++ [m])<=b:=by
 unfold XI at h;have h1:qJ m<=b-uY l:=by simp at h;exact h.1
 rw [dU];show _+(qJ m+0)<=_;omega
theorem rG: ∀(l ms:List xi) (b:Int) (j:Nat) {p:xi->Prop},(∀m∈ms,p m)->(∀m∈l,p m)->uY ms<=b->(∀m∈(Ur ms l b j).1,p m)/\uY (Ur ms l b j).1<=b/\j<=(Ur ms l b j).2/\(Ur ms l b j).2<=j+l.length
 | [],ms,b,j,p,h1,_,h3=>⟨h1,h3,zN _,zN _⟩
 |m::l,ms,b,j,p,h1,h2,h3=>by
  unfold Ur;split
  · rename_i ha
    obtain ⟨a,c,d,e⟩:=rG l (ms++ [m]) b (j+1) (p:=p) (fun x hx=>by
     rcases jH.1 hx with h|h
     · exact h1 x h
     · rw [jx.1 h];exact h2 m Yq) (fun x hx=>h2 x (XJ _ hx)) (aM ha)
    exact ⟨a,c,ze,by rw [xd];omega⟩
  · exact ⟨h1,h3,zN _,ze⟩
theorem RD {ps:List ByteArray} {i:Int} {m x:xi} (h:x∈Df ps i m):x=(jD m (xL ps i)).1/\(jD m (xL ps i)).2=true:=by
 unfold Df at h;split at h
 · rename_i hc
   simp at hc;exact ⟨by simpa using h,by first|exact hc.2|exact hc⟩
 · cases h
theorem ek {p:Nd} {i:Int} {x:xi} (h:x∈jW p i): ∃m∈p.ms,x=(jD m (xL p.ps i)).1/\(jD m (xL p.ps i)).2=true:=by
 unfold jW Xx at h;obtain ⟨m,hm,hx⟩:=KA.1 h;exact ⟨m,au hm,RD hx⟩
theorem CA (l:List xi) (s:yW) (m:xi):w5 l s m= []\/w5 l s m= [m]\/(w5 l s m= [(jD m ⟨s.hi,em,true⟩).1]/\(jD m ⟨s.hi,em,true⟩).2=true):=by
 unfold w5;by_cases h1:l.any (fun x=>x.xD==m.xD)=true
 · rw [zo h1];by_cases h2:m.kind=4
   · rw [zo h2];unfold Z0;by_cases h3:s.vx=true
     · rw [zo h3];exact .inl rfl
     · rw [zn h3];by_cases h4:(jD m ⟨s.hi,em,true⟩).2=true
       · rw [zo h4];exact .inr (.inr ⟨rfl,h4⟩)
       · rw [zn h4];exact .inl rfl
   · rw [zn h2];exact .inl rfl
 · rw [zn h1];exact .inr (.inl rfl)
theorem Mr {l:List xi} {s:yW} {m x:xi} (h:x∈w5 l s m):x=m\/(x=(jD m ⟨s.hi,em,true⟩).1/\(jD m ⟨s.hi,em,true⟩).2=true):=by
 rcases CA l s m with e|e|⟨e,hc⟩
 · rw [e] at h;cases h
 · rw [e] at h;exact .inl (jx.1 h)
 · rw [e] at h;exact .inr ⟨jx.1 h,hc⟩
theorem Fl (l:List xi) (s:yW) (m:xi):uY (w5 l s m)<=qJ m:=by
 have h0:=W6 m;rcases CA l s m with e|e|⟨e,hc⟩
 · rw [e];show (0:Int)<=_;omega
 · rw [e,vS];show qJ m+0<=_;omega
 · rw [e,vS,(Q1 hc).2.2];show qJ m+0<=_;omega
theorem Fk (l:List xi) (s:yW) (ms:List xi):uY (ms.flatMap (w5 l s))<=uY ms:=by
 induction ms with
 |nil=>exact k9 _
 |cons m ms ih=>rw [j6,dU,vS];have:=Fl l s m;omega
end
section
open Go Go.RowKit
structure uk (c:qn):Prop where
 f4:4<=c.jz
 f64:c.jz<=64
 l2:2<=c.leaf
 l64:c.leaf<=64
 b36:36<=c.yV
 RY:c.yV<=4096
 s1:1<=c.kD
 OR:c.kD<=4096
 r0:0<=c.yu
 ajZ:c.yu<=100
structure yB (c:qn) (b:Int) (n:Nd):Prop where
 PA:0<=n.level
 H7:n.level<=b
 LC:0<=n.seen
 EB:n.seen<=b
 high:n.high.size<=16
 ps:Up n.ps/\ ∀p∈n.ps,p.size<=16
 kn:(n.ks.length:Int)<=c.jz
 pn:(n.ps.length:Int)<=c.jz
 kids:n.level≠0->n.ks.length=n.ps.length+1
 rows:qw n.rs
 rn:(n.rs.length:Int)<=c.leaf
 ms: ∀m∈n.ms,we b m
 mz:uY n.ms<=c.yV
theorem yB.mono {c:qn} {b b':Int} {n:Nd} (h:yB c b n) (hb:b<=b'):yB c b' n:= {h with H7:=Q5 h.H7 hb,EB:=Q5 h.EB hb,ms:=fun m hm=>(h.ms m hm).mono hb}
theorem yB.bP {c:qn} (hc:uk c) {b:Int} {n:Nd} (h:yB c b n):n.ms.length<=1024:=by have:=pG n.ms;have:=h.mz;have:=hc.RY;omega
theorem yB.xW {c:qn} {b:Int} {n:Nd} (h:yB c b (bare n)):yB c b n:=⟨h.PA,h.H7,h.LC,h.EB,h.high,h.ps,h.kn,h.pn,h.kids,h.rows,h.rn,h.ms,h.mz⟩
theorem yB.bare {c:qn} {b:Int} {n:Nd} (h:yB c b n):yB c b (bare n):=⟨h.PA,h.H7,h.LC,h.EB,h.high,h.ps,h.kn,h.pn,h.kids,h.rows,h.rn,h.ms,h.mz⟩
theorem we.in {b:Int} {m:xi} (h:we b m) (hb:b<=1000000000):m.In:=by
 have:=h.lo;have:=h.up;have:=h.k1;have:=h.k4;have:=h.key;have:=h.hi;have:=h.val;exact ⟨⟨ze,ze⟩,⟨ze,ze⟩,by unfold Sz;omega,by unfold Sz;omega,by unfold Sz;omega⟩
theorem yB.NF {c:qn} (hc:uk c) {b:Int} {n:Nd} (h:yB c b n) (hb:b<=1000000000):n.Tt:=by
 have hm:=h.bP hc;have hf:=hc.f64;have hl:=hc.l64;exact ⟨by have:=h.high;omega,fun s hs=>by have:=h.ps.2 s hs;omega,by have:=h.pn;omega,by have:=h.kn;omega,fun m hm=>⟨by have:=(h.ms m hm).key;omega,by have:=(h.ms m hm).hi;omega,by have:=(h.ms m hm).val;omega⟩,ze,fun p hp=>⟨by have:=(h.rows.sz p hp).1;omega,by have:=(h.rows.sz p hp).2;omega⟩,by have:=h.rn;omega,fun m hm=>(h.ms m hm).in hb⟩
theorem UY {c:qn} (hc:uk c) {b:Int} (hb:0<=b):yB c b wZ:=⟨k9 _,hb,k9 _,hb,zW _,⟨List.Pairwise.nil,fun p hp=>(nomatch hp)⟩,by have:=hc.f4;show (0:Int)<=_;omega,by have:=hc.f4;show (0:Int)<=_;omega,fun h=>absurd rfl h,qw.nil,by have:=hc.l2;show (0:Int)<=_;omega,fun m hm=>(nomatch hm),by have:=hc.b36;show (0:Int)<=_;omega⟩
theorem abl {n:Nat} {a b:ByteArray} (h:b.size<=n):(NG a b).size<=n:=by
 unfold NG
 repeat' split
 all_goals first|(rw [DE];omega)|omega|exact zW _
theorem PT {l:List y6} (h:qw l) (i:Nat):(wi (ja l) i).size<=16:=by
 unfold wi ja;rw [qd];cases hi:l[i]? with
 |none=>exact zW _
 |some p=>exact (h.sz p (Xj hi)).1
theorem TW {n:Nat} {ps:List ByteArray} (h: ∀p∈ps,p.size<=n) (i:Nat):(wi ps i).size<=n:=by
 unfold wi;cases hi:ps[i]? with
 |none=>exact zW _
 |some p=>exact h p (Xj hi)
theorem gi {c:qn} {b:Int} {n x y:Nd} {k:ByteArray} (h:yB c b n) (he:qm n=some (x,y,k)):yB c b x/\yB c b y/\k.size<=16/\x.level=n.level/\y.level=n.level:=by
 unfold qm at he;split at he
 · rename_i h0
   split at he
   · cases he
   · simp only [Ua,JH] at he;obtain ⟨rfl,rfl,rfl⟩:=he;refine ⟨{h with rows:=h.rows.sub (G1 _ _),rn:=by show ((n.rs.take _).length:Int)<=c.leaf;rw [yC];have:=h.rn;omega},{h with rows:=h.rows.sub (G0 _ _),rn:=by show ((n.rs.drop _).length:Int)<=c.leaf;rw [kI];have:=h.rn;omega},abl (PT h.rows _),rfl,rfl⟩
 · rename_i h0
   split at he
   · rename_i h1
     simp only [Ua,JH] at he;obtain ⟨rfl,rfl,rfl⟩:=he;have hk:=TW h.ps.2 ((n.ks.length+1)/2-1);have gQ:=h.kn;have CS:=h.pn;have Uk:=h.kids h0;have hz:=h.mz;refine ⟨{h with ps:=⟨h.ps.1.sublist (G1 _ _),fun p hp=>h.ps.2 p (wB hp)⟩,kn:=?_,pn:=?_,kids:=fun _=>?_,ms:=rC h.ms ⟨zW _,hk⟩,mz:=Q5 (mN _ _) hz},{h with ps:=⟨h.ps.1.sublist (G0 _ _),fun p hp=>h.ps.2 p (dp hp)⟩,kn:=?_,pn:=?_,kids:=fun _=>?_,ms:=rC h.ms ⟨hk,zW _⟩,mz:=Q5 (mN _ _) hz},hk,rfl,rfl⟩
     all_goals
      first
       |(show ((n.ks.take _).length:Int)<=c.jz;rw [yC];omega)
       |(show ((n.ps.take _).length:Int)<=c.jz;rw [yC];omega)
       |(show ((n.ks.drop _).length:Int)<=c.jz;rw [kI];omega)
       |(show ((n.ps.drop _).length:Int)<=c.jz;rw [kI];omega)
       |(show (n.ks.take _).length=(n.ps.take _).length+1;rw [yC,yC];omega)
       |(show (n.ks.drop _).length=(n.ps.drop _).length+1;rw [kI,kI];omega)
   · cases he
theorem Vg {c:qn} {b:Int} {n x y:Nd} {k:ByteArray} {slot:Int} (h:yB c b n) (he:kK n slot=some (x,y,k)):yB c b x/\yB c b y/\k.size<=16/\x.level=n.level/\y.level=n.level:=by
 unfold kK at he;cases hh:qm n with
 |none=>rw [hh] at he;cases he
 |some q=>
  obtain ⟨x0,y0,k0⟩:=q;rw [hh] at he;simp only [ur,Ua,JH] at he;obtain ⟨rfl,rfl,rfl⟩:=he;obtain ⟨h1,h2,h3,h4,h5⟩:=gi h hh;exact ⟨{h1 with high:=h3},{h2 with},h3,h4,h5⟩
theorem Mp {c:qn} (hc:uk c) {b:Int} {n r x y:Nd} {i j:Int} (h:yB c b n) (he:J2 n i j=some (r,x,y)):yB c (b+1) r/\yB c (b+1) x/\yB c (b+1) y:=by
 unfold J2 at he;cases hh:kK n j with
 |none=>rw [hh] at he;cases he
 |some q=>
  obtain ⟨x0,y0,k0⟩:=q;rw [hh] at he;simp only [ur,Ua,JH] at he;obtain ⟨rfl,rfl,rfl⟩:=he;obtain ⟨h1,h2,h3,h4,h5⟩:=Vg h hh;have hb:b<=b+1:=ze;have h':=h.mono hb;have g1:=h1.mono hb;have g2:=h2.mono hb;have hl:=h.PA;have hu:=h.H7;refine ⟨{h' with PA:=?_,H7:=?_,ps:=⟨List.pairwise_singleton _ _,fun p hp=>by rw [jx.1 hp];exact h3⟩,kn:=(by show (2:Int)<=c.jz;have:=hc.f4;omega),pn:=(by show (1:Int)<=c.jz;have:=hc.f4;omega),kids:=fun _=>rfl,rows:=qw.nil,rn:=(by show (0:Int)<=c.leaf;have:=hc.l2;omega),ms:=?_,mz:=?_},{g1 with LC:=?_,EB:=?_,ms:=fun m hm=>(nomatch hm),mz:=(by show (0:Int)<=c.yV;have:=hc.b36;omega)},{g2 with LC:=?_,EB:=?_,ms:=fun m hm=>(nomatch hm),mz:=(by show (0:Int)<=c.yV;have:=hc.b36;omega)}⟩
  · show 0<=n.level+1;omega
  · show n.level+1<=b+1;omega
  · intro m hm;have A8:m∈(if n.level=0 then [] else n.ms):=hm;split at A8
    · cases A8
    · exact h'.ms m A8
  · show uY (if n.level=0 then [] else n.ms)<=c.yV;split
    · show (0:Int)<=c.yV;have:=hc.b36;omega
    · exact h.mz
  · show 0<=(if n.level=0 then x0.seen else 0);split
    · exact h1.LC
    · omega
  · show (if n.level=0 then x0.seen else 0)<=b+1;have:=h1.EB;have:=h.LC;have:=h.EB;split<;>omega
  · show 0<=(if n.level=0 then y0.seen else 0);split
    · exact h2.LC
    · omega
  · show (if n.level=0 then y0.seen else 0)<=b+1;have:=h2.EB;have:=h.LC;have:=h.EB;split<;>omega
theorem GD {c:qn} {b:Int} {n o:Nd} {i slot:Int} {k:ByteArray} (h:yB c b n) (hk:k.size<=16) (hn:(n.ks.length:Int)<c.jz) (he:wM n i k slot=some o):yB c b o/\o.level=n.level:=by
 unfold wM at he;split at he
 · cases he
 · rename_i h0
   split at he
   · rename_i hi
     injection he with he;subst he;have Uk:=h.kids h0;unfold Ie at hi;simp only [yF,j5,KB,gx] at hi;obtain ⟨⟨⟨h1,h2⟩,h3⟩,h4⟩:=hi;have hle:i.toNat<=n.ps.length:=ze;rw [show i=((i.toNat:Nat):Int) by omega,Ca hle] at h3 h4;generalize i.toNat=j at*;refine ⟨{h with ps:=⟨?_,fun p hp=>?_⟩,kn:=?_,pn:=?_,kids:=fun _=>?_},rfl⟩
     · unfold Xw at h3 h4;rw [C7] at h3;have hup:=h.ps.1
       have Qw:¬ lt k (if 0<j then wi n.ps (j-1) else em)=true:=by
        unfold has at h3;simp at h3;intro hc;simp_all
       have cq:j<n.ps.length->lt k (wi n.ps j)=true:=fun hj=>by
        unfold has at h3;rw [zo hj] at h3;simp [hj] at h3;exact h3.2
       have jt:k≠(if 0<j then wi n.ps (j-1) else em):=fun e=>by
        refine h4 ?_;rw [e];unfold Kj
        have alv:empty ⟨if 0<j then wi n.ps (j-1) else em,if j<n.ps.length then wi n.ps j else em,!decide (j<n.ps.length)⟩=false:=by
         unfold empty;by_cases hj:j<n.ps.length
         · have:=cq hj;rw [e] at this;simp [hj,this]
         · simp [hj]
        rw [alv];simp only [Vq,kT];have alk: ∀(lo hi:ByteArray) (o:Bool),lo=(if o=true then (⟨lo,em,true⟩:yW) else ⟨lo,hi,o⟩).lo:=fun lo hi o=>by cases o<;>rfl
        exact alk _ _ _
       refine OC hup (fun a ha=>?_) (fun a ha=>?_)
       · obtain ⟨q,hq,rfl⟩:=gz.1 ha;have hj0:0<j:=ze;rw [zo hj0] at Qw jt
         have h5:lt (wi n.ps (j-1)) k=true:=by
          cases hc:lt (wi n.ps (j-1)) k with
          |true=>rfl
          |false=>exact absurd (ah (by simpa using Qw) hc) jt
         rcases yq q (j-1) with h6|h6
         · have h7:=DF.1 hup q (j-1) ze ze h6;rw [qO (show j-1<n.ps.length by omega)] at h5;exact KX h7 h5
         · have h8:q=j-1:=ze;subst h8;rw [qO (show j-1<n.ps.length by omega)] at h5;exact h5
       · obtain ⟨q,hq,rfl⟩:=I0.1 ha;have hj:j<n.ps.length:=ze;have h5:=cq hj;rw [qO hj] at h5;rcases Vr q with h6|h6
         · subst h6;simpa using h5
         · have h7:=DF.1 hup j (q+j) hj hq ze;refine KX h5 ?_;simpa [Q6] using h7
     · rcases jH.1 hp with h5|h5
       · exact h.ps.2 p (wB h5)
       · rcases jm.1 h5 with rfl|h5
         · exact hk
         · exact h.ps.2 p (dp h5)
     · show ((n.ks.take _++_::n.ks.drop _).length:Int)<=c.jz;simp;omega
     · show ((n.ps.take _++_::n.ps.drop _).length:Int)<=c.jz;simp;omega
     · show (n.ks.take _++_::n.ks.drop _).length=(n.ps.take _++_::n.ps.drop _).length+1;simp;omega
   · cases he
theorem E7 {b:Int} {c:qn} {p k:Nd} {i:Int} (hc:uk c) (hp:yB c b p) (hk:yB c b k):yB c b (kw c p k i).1/\(∀m∈(kw c p k i).2,we b m)/\(kw c p k i).1.level=k.level:=by
 have hf: ∀m∈jW p i,we b m:=fun x hx=>by
  obtain ⟨m,hm,rfl,kW⟩:=ek hx;exact Qg (hp.ms m hm) (Jh hp.ps.2 i) kW
 unfold kw;split
 · obtain ⟨h1,h2,_⟩:=aC (jW p i) (n:=0) hk.rows hk.rn fun m hm=>⟨fun _=>(hf m hm).key,(hf m hm).val⟩
   exact ⟨{hk with rows:=h1,rn:=h2},fun m hm=>hf m (wB hm),rfl⟩
 · obtain ⟨h1,h2,_⟩:=rG (jW p i) k.ms c.yV 0 hk.ms hf hk.mz;exact ⟨{hk with ms:=h1,mz:=h2},fun m hm=>hf m (wB hm),rfl⟩
end
section
open Go Go.RowKit
theorem LZ {c:qn} (hc:uk c) {b:Int} {p k:Nd} {i:Int} (hp:yB c b p) (hk:yB c b k):yB c b (Ww c p k i).1/\yB c b (Ww c p k i).2.1:=by
 unfold Ww;obtain ⟨h1,h2,h3⟩:=E7 (i:=i) hc hp hk;split
 · rename_i hx
   refine ⟨{hp with ms:=fun x hx=>?_,mz:=Q5 (Fk _ _ _) hp.mz},{h1 with LC:=?_,EB:=?_}⟩
   · obtain ⟨m,hm,hx⟩:=KA.1 hx;rcases Mr hx with rfl|⟨rfl,kW⟩
     · exact hp.ms _ hm
     · exact Qg (hp.ms m hm) ⟨(Jh hp.ps.2 i).2,zW _⟩ kW
   all_goals
    have jt:=hx.2;have hl:=h2 _ (GW jt);show _<=_;rw [aiv jt]
   · exact Q5 Kq hl.lo
   · exact hl.up
 · exact ⟨hp,hk⟩
theorem bR {o:Op} {st b:Int} {m:xi} (h:Jl o st=some m) (hs:st<=b):we b m/\m.xD=st:=by
 unfold Jl at h;split at h
 · rename_i hr
   injection h with h;subst h;obtain ⟨h1,h2,h3,h4⟩:=hr;unfold jb at h1;simp only [yF,j5] at h1;obtain ⟨⟨⟨⟨⟨⟨⟨⟨_,_⟩,a1⟩,a2⟩,a3⟩,_⟩,_⟩,_⟩,_⟩:=h1;exact ⟨⟨a1,a2,a3,h4,hs,h2,h3⟩,rfl⟩
 · cases h
structure Yz (b:Int) (s:kY):Prop where
 c:uk s.c
 len:s.us.length=s.ns.length
 n:s.ns.length<=4096
 nd: ∀n∈s.ns,yB s.c b n
 frn:s.fr.length<=s.ns.length
 frb: ∀f∈s.fr,∃k:Nat,f=(k:Int)/\k<s.ns.length
 b0:0<=b
theorem Yz.mono {b b':Int} {s:kY} (h:Yz b s) (hb:b<=b'):Yz b' s:= {h with nd:=fun n hn=>(h.nd n hn).mono hb,b0:=Q5 h.b0 hb}
theorem Yz.get {b:Int} {s:kY} (h:Yz b s) (i:Int):yB s.c b (s.get i):=by
 unfold kY.get JU;split
 · rw [dv];cases hi:s.ns[i.toNat]? with
   |none=>exact UY h.c h.b0
   |some n=>exact h.nd n (Xj hi)
 · exact UY h.c h.b0
theorem kY.hJ (s:kY) (n:Nd):(s.set n).ns.length=s.ns.length:=by unfold kY.set;dsimp only;split<;>simp
theorem Yz.set {b:Int} {s:kY} (h:Yz b s) {n:Nd} (hn:yB s.c b n):Yz b (s.set n):=by
 have hl:=s.hJ n;refine ⟨h.c,by rw [hl];exact h.len,by rw [hl];exact h.n,fun x hx=>?_,by rw [hl];exact h.frn,by rw [hl];exact h.frb,h.b0⟩;unfold kY.set at hx;dsimp only at hx;split at hx
 · rcases dr hx with h1|rfl
   · exact h.nd x h1
   · exact hn
 · exact h.nd x hx
theorem Yz.tk {b:Int} {s:kY} (h:Yz b s) {n:Nd} (hn:yB s.c b n):Yz b (s.tk n):=by
 have hp:=ue Kk s.fr;have hl:(s.tk n).ns.length=s.ns.length:=by unfold kY.tk;simp
 refine ⟨h.c,by rw [hl];unfold kY.tk;simp [h.len],by rw [hl];exact h.n,fun x hx=>?_,?_,?_,h.b0⟩
 · rcases dr hx with h1|rfl
   · exact h.nd x h1
   · exact {hn with}
 · rw [hl];show (j8 Kk s.fr).dropLast.length<=_;rw [rO,hp.length_eq];have:=h.frn;omega
 · rw [hl];intro f hf;exact h.frb f (hp.mem_iff.1 (IT _ hf))
theorem kY.aaj {b:Int} {s:kY} (h:Yz b s) (h0:s.fr≠ []):s.next<s.ns.length/\j8 Kk s.fr=(j8 Kk s.fr).dropLast++ [(s.next:Int)]:=by
 have hp:=ue Kk s.fr;have jt:j8 Kk s.fr≠ []:=fun e=>h0 (by rw [e] at hp;exact hp.symm.eq_nil)
 obtain ⟨k,h1,h2⟩:=h.frb _ (hp.mem_iff.1 (GW jt))
 have h3:s.next=k:=by
  unfold kY.next;rw [aiv jt,h1];simp
 rw [h3];refine ⟨h2,?_⟩;rw [<-h1];exact (acQ jt).symm
theorem pp {b:Int} {s:kY} (h:Yz b s) (o:Op) (h0:(Xc s o).2=0):yB s.c (b+1) (Xc s o).1:=by
 have hg:=(h.get 0).mono (show b<=b+1 by omega);have MI:=(h.get 0).LC;have Ik:=(h.get 0).EB;unfold Xc at h0⊢;split
 · exact hg
 · rename_i hh
   rw [zn hh] at h0;split
   · exact hg
   · rename_i m hm
     simp only [hm] at h0;obtain ⟨hi,kt⟩:=bR (b:=b+1) hm ze;split
     · rename_i hl
       rw [zo hl] at h0;split
       · rename_i hf
         obtain ⟨h1,h2⟩:=dN hg.rows (fun _=>hi.key) hi.val;exact {hg with rows:=h1,rn:=pB hf hg.rn,LC:=(by show 0<=m.xD;omega),EB:=(by show m.xD<=b+1;omega)}
       · rename_i hf
         rw [zn hf] at h0;cases h0
     · rename_i hl
       rw [zn hl] at h0;split
       · rename_i hf
         refine {hg with ms:=fun x hx=>?_,mz:=aM hf,LC:=(by show 0<=m.xD;omega),EB:=(by show m.xD<=b+1;omega)};rcases jH.1 hx with h1|h1
         · exact hg.ms x h1
         · rw [jx.1 h1];exact hi
       · rename_i hf
         rw [zn hf] at h0;cases h0
end
section
open Go Go.RowKit
attribute [local irreducible] Calls
theorem W7 {ps:List ByteArray} {ks:List Int} (h:vC ps ks=true):Xv ps=true/\ks.length=ps.length+1:=by
 unfold vC at h;rw [yF] at h;have:(ks.length:Int)=(ps.length:Int)+1:=by simpa using h.2
 exact ⟨h.1,ze⟩
theorem BV (v:Value) (l:List y6) (M:Mem) (hl:xt M 2 zi v l) (h2:l.length<2):
 zu zf 236 [v] M [] (fun r M' o=>r= .tuple #[qY,qY, .string em, .bool false]/\M'=M/\o= []):=by
 obtain ⟨A,c,rfl,vK,qD,_⟩:=id hl;have d1:decide ((l.length:Int)<2)=true:=yk ze;refine KC (args:= [.slice A l.length c]) (zO:= []) Tryz.func236 rfl Tryz.ntmps236 zd (fun F w M0 hF=>zz ?_)
 repeat' (refine nw ?_)
 exact ⟨_,[],kB.four rfl (RV.tmp zd) (RV.tmp zd) (RV.tmp zd) (RV.tmp zd),zE,zh,zq,rfl,rfl,rfl⟩
theorem tQ (v u:Value) (ps:List ByteArray) (ks:List Int) (M:Mem) (hp:xt M 1 zM v ps) (hk:xt M 1 zF u ks) (h4:ks.length<4):
 zu zf 237 [v,u] M [] (fun r M' o=>r= .tuple #[qY,qY, .string em,qY,qY, .bool false]/\M'=M/\o= []):=by
 obtain ⟨A,c,rfl,vK,qD,_⟩:=id hp;obtain ⟨B,d,rfl,Zy,uN,_⟩:=id hk;have d1:decide ((ks.length:Int)<4)=true:=yk ze;refine KC (args:= [.slice A ps.length c, .slice B ks.length d]) (zO:= []) Tryz.func237 rfl Tryz.ntmps237 zd (fun F w M0 hF=>zz ?_)
 repeat' (refine nw ?_)
 exact ⟨_,[],kB.six rfl (RV.tmp zd) (RV.tmp zd) (RV.tmp zd) (RV.tmp zd) (RV.tmp zd) (RV.tmp zd),zE,zh,zq,rfl,rfl,rfl⟩
theorem o8 (v u:Value) (ps:List ByteArray) (ks:List Int) (i:Int) (k:ByteArray) (Uw:Int) (M:Mem) (hp:xt M 1 zM v ps) (hk:xt M 1 zF u ks) (hn:ks.length<=100000) (CS:ps.length<=100000)
 (h:(decide (0<=i)&&decide (i<(ks.length:Int))&&has (xL ps i) k&&!decide (k=(xL ps i).lo))=false):
 zu zf 239 [v,u, .int .i64 i, .string k, .int .i64 Uw] M [] (fun r M' o=>r= .tuple #[qY,qY]/\M'=M/\o= []):=by
 obtain ⟨A,c,rfl,vK,qD,_⟩:=id hp;obtain ⟨B,d,rfl,Zy,uN,_⟩:=id hk;have cG:=fun W hW=>ZS _ ps i W (hp.xS hW) ze
 have cH:=fun W=>KP (xL ps i) k W
 refine xy Tryz.func239 rfl Tryz.ntmps239 zd (fun F w M0 hF=>zz ?_);rcases Q4 i 0 with h0|h0
 · have g1:decide ((i:Int)<0)=true:=yk h0
   repeat' (first|refine yh zh fun b=>?_|((apply zA);(exact zm zd cG);rfl)|refine nw ?_)
   exact ⟨_,[],kH,zE,zh,zq,rfl,rfl,rfl⟩
 have g1:decide ((i:Int)<0)=false:=z6 ze;rcases Q4 i ks.length with h1|h1
 · have g2:decide ((ks.length:Int)<=(i:Int))=false:=z6 ze;rw [yk h0,yk h1,XC,XC] at h;cases hh:has (xL ps i) k<;>rw [hh] at h cH
   · repeat' (first|refine yh zh fun b=>?_|((apply zA);(first|exact zm zd cG|exact zm zd (fun W _=>cH W));rfl)|refine nw ?_)
     exact ⟨_,[],kH,zE,zh,zq,rfl,rfl,rfl⟩
   · have g3:decide (k=(xL ps i).lo)=true:=by simpa using h
     repeat' (first|refine yh zh fun b=>?_|((apply zA);(first|exact zm zd cG|exact zm zd (fun W _=>cH W));rfl)|refine nw ?_)
     exact ⟨_,[],kH,zE,zh,zq,rfl,rfl,rfl⟩
 · have g2:decide ((ks.length:Int)<=(i:Int))=true:=yk h1
   repeat' (first|refine yh zh fun b=>?_|((apply zA);(exact zm zd cG);rfl)|refine nw ?_)
   exact ⟨_,[],kH,zE,zh,zq,rfl,rfl,rfl⟩
end
end Go.Proofs.YtaibdpjjojihmaaGreat
