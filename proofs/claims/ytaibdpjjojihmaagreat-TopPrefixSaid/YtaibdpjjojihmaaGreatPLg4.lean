/- A part of the proof of TopPrefix; no conditions. -/
import Derived.Test.YtaibdpjjojihmaaGreatPLg3
set_option linter.unusedVariables false
set_option linter.unusedSimpArgs false
set_option maxRecDepth 20000
namespace Go.Proofs.YtaibdpjjojihmaaGreat
open Go Go.RowKit
section
variable {P:Program} {w:World} {M0:Mem} {N:Nat}
structure EX (P:Program) (w:World) (M0:Mem) (N:Nat) (ops:Array Oper) (o:Oper) (s:St) (ι:Type) (M':ι->Mem) (zw:ι->List Ob) (sv:ι->SV):Prop where
 go: ∀hd a W,Rel w M0 N hd s a W->if Region.wanted o (yielded ops a.tmps)=true then kj P (fun u W'=> ∃(x:ι) (yE:Nat->Value),(∀i,i<s.own.length->yE i=hd i)/\Wd w M0 yE (M' x) (zw x) W'/\u=(sv x).den yE) ((execOp a.eval o).run P W)
  else ∃(x:ι) (yE:Nat->Value),(∀i,i<s.own.length->yE i=hd i)/\Wd w M0 yE (M' x) (zw x) W/\undef=(sv x).den yE
 len: ∀x,s.own.length<=(zw x).length
 ok: ∀x,(sv x).okB (zw x).length=true
def VF (P:Program) (w:World) (M0:Mem) (N:Nat) (gs:List Nat) (n0:Nat) (l:List Oper):Nat->List Nat->St->(St->Prop)->Prop
 |0,xz,s,Q=>xz= []->Q s
 |n+1,xz,s,Q=>(xz= []->Q s)/\ ∀i∈xz.filter (TQ l xz),∀o,l[i]?=some o-> ∃(ι:Type) (M':ι->Mem) (zw:ι->List Ob) (sv:ι->SV),EX P w M0 N l.toArray o s ι M' zw sv/\yi N o.dst=true/\ ∀x,s.M.le (M' x)/\(y8 gs (zw x)).take n0=(y8 gs s.own).take n0/\VF P w M0 N gs n0 l n (xz.erase i) ⟨M' x,zw x,s.env.put o.dst (sv x)⟩ Q
theorem VF.fin {gs:List Nat} {n0:Nat} {l:List Oper} {s:St} {Q:St->Prop}: ∀ {n:Nat},VF P w M0 N gs n0 l n [] s Q->Q s
 |0,h=>h rfl
 |n+1,h=>h.1 rfl
theorem I7 {gs:List Nat} {n0:Nat} {l:List Oper} {s:St} {Q:St->Prop} {n:Nat} (h:Q s):VF P w M0 N gs n0 l n [] s Q:=by
 cases n with
 |zero=>exact fun _=>h
 |succ n=>exact ⟨fun _=>h,fun i hi=>by simp at hi⟩
structure NT (P:Program) (w:World) (M0:Mem) (N:Nat) (gs:List Nat) (n0:Nat) (l:List Oper) (n:Nat) (xz ks:List Nat) (s:St) (Q:St->Prop):Prop where
 go: ∀i∈ks,∀o,l[i]?=some o-> ∃(ι:Type) (M':ι->Mem) (zw:ι->List Ob) (sv:ι->SV),EX P w M0 N l.toArray o s ι M' zw sv/\yi N o.dst=true/\ ∀x,s.M.le (M' x)/\(y8 gs (zw x)).take n0=(y8 gs s.own).take n0/\VF P w M0 N gs n0 l n (xz.erase i) ⟨M' x,zw x,s.env.put o.dst (sv x)⟩ Q
theorem abB {gs:List Nat} {n0:Nat} {l:List Oper} {s:St} {Q:St->Prop} {n k:Nat} {xz:List Nat} (h:NT P w M0 N gs n0 l n (k::xz) ((k::xz).filter (TQ l (k::xz))) s Q):VF P w M0 N gs n0 l (n+1) (k::xz) s Q:=⟨fun e=>(by cases e),h.go⟩
theorem kz {gs:List Nat} {n0:Nat} {l:List Oper} {s:St} {Q:St->Prop} {n:Nat} {xz:List Nat}:NT P w M0 N gs n0 l n xz [] s Q:=⟨fun i hi=>by simp at hi⟩
theorem gB {gs:List Nat} {n0:Nat} {l:List Oper} {M:Mem} {own:List Ob} {env:Env} {Q:St->Prop} {n i:Nat} {xz ks:List Nat} {o:Oper} (ι:Type) (M':ι->Mem) (zw:ι->List Ob) (sv:ι->SV) (ho:l[i]?=some o) (he:EX P w M0 N l.toArray o ⟨M,own,env⟩ ι M' zw sv) (hk:yi N o.dst=true)
 (h: ∀x,M.le (M' x)/\(y8 gs (zw x)).take n0=(y8 gs own).take n0/\VF P w M0 N gs n0 l n (xz.erase i) ⟨M' x,zw x,env.put o.dst (sv x)⟩ Q) (h2:NT P w M0 N gs n0 l n xz ks ⟨M,own,env⟩ Q):NT P w M0 N gs n0 l n xz (i::ks) ⟨M,own,env⟩ Q:=⟨fun j hj p hp=>by
 rcases jm.1 hj with rfl|hj
 · rw [ho] at hp;obtain rfl:=qt hp;exact ⟨ι,M',zw,sv,he,hk,h⟩
 · exact h2.go j hj p hp⟩
theorem wF {gs:List Nat} {n0:Nat} {l:List Oper} {M:Mem} {own:List Ob} {env:Env} {Q:St->Prop} {n i:Nat} {xz ks:List Nat} {o:Oper} (ho:l[i]?=some o) (zw:List Ob) (sv:SV) (he:EW P w M0 N l.toArray o ⟨M,own,env⟩ zw sv) (hg:(y8 gs zw).take n0=(y8 gs own).take n0) (hk:yi N o.dst=true)
 (h:VF P w M0 N gs n0 l n (xz.erase i) ⟨M,zw,env.put o.dst sv⟩ Q) (h2:NT P w M0 N gs n0 l n xz ks ⟨M,own,env⟩ Q):NT P w M0 N gs n0 l n xz (i::ks) ⟨M,own,env⟩ Q:=
 gB Unit (fun _=>M) (fun _=>zw) (fun _=>sv) ho ⟨fun hd a W hR=>Np (he.go hd a W hR) fun u W' ⟨yE,h⟩=>⟨(),yE,h⟩,fun _=>he.len,fun _=>he.ok⟩ hk (fun _=>⟨zE,hg,h⟩) h2
theorem rq {id:Nat} {l:List Oper} {L:List g7} {es:List Nat} {σ:Type} (R:List Nat->σ->World->Prop) (F:σ->Act->Prop) (V:Nat->List Nat->σ->Prop) [hm:Oa P] (hLm:L.map (·.2)=l) (hB:efB l L=true) (oW:Qe 0 L=es)
 {vs:List SV} (P2:vs.length=L.length) (oY: ∀fo∈L,fo.1=false->yi N fo.2.dst=true) {Xo:Nat->Value} {a0:Act} {W0:World} {K:Exit->Act->World->Prop} (hN0:a0.tmps.size=N) (hD0:a0.defers= [])
 (hFc: ∀s a b,F s a->(∀t:Tmp,b.tmps[t]?=a.tmps[t]?)->b.tmps.size=N->b.defers= []->F s b)
 (hRi: ∀xz s W W',R xz s W->Below W.heap.size W W'->R xz s W')
 (hq: ∀i o v xz s W,L[i]?=some (false,o)->vs[i]?=some v->R xz s W->(∀(d e:Nat) oe,L[e]?=some (true,oe)->Be l d e i=true->e∈xz)->
  if Region.wanted o (yielded l.toArray (U9 false Xo a0 (L.take i) (vs.take i)).tmps)=true then o.quietAt P (U9 false Xo a0 (L.take i) (vs.take i)) (fun W'=>Below W.heap.size W W') W (v.den Xo) else v.den Xo=undef)
 (he: ∀i o n xz s W b,i∈xz.filter (TQ l xz)->l[i]?=some o->R xz s W->F s b->V (n+1) xz s->yi N o.dst=true/\
  if Region.wanted o (yielded l.toArray b.tmps)=true then kj P (fun z W'=> ∃s',R (xz.erase i) s' W'/\F s' (b.put o.dst z)/\V n (xz.erase i) s') ((execOp b.eval o).run P W) else ∃s',R (xz.erase i) s' W/\F s' (b.put o.dst undef)/\V n (xz.erase i) s')
 (F0: ∀n s W a,R [] s W->F s a->V n [] s->K .normal a W)
 {s0:σ} (Bc:R es s0 W0) (hF0:F s0 (U9 false Xo a0 L vs)) (hV0:V l.length es s0):(Code.region id l.toArray true).wp P K a0 W0:=by
 have Ee:L.length=l.length:=by rw [<-hLm];simp
 have hS:=aff.of Ee hB
 have hLo: ∀(i:Nat) (o:Oper),l[i]?=some o-> ∃f,L[i]?=some (f,o):=fun i o ho=>by
  rw [<-hLm,qd] at ho;cases hL:L[i]? with
  |none=>rw [hL] at ho;cases ho
  |some fo=>
   rw [hL] at ho;cases ho;exact ⟨fo.1,rfl⟩
 have hoL: ∀(i:Nat) (f:Bool) (o:Oper),L[i]?=some (f,o)->l[i]?=some o:=fun i f o h=>by
  rw [<-hLm,qd,h];rfl
 have ME: ∀i,i<L.length-> ∃u,vs[i]?=some u:=fun i hi=>⟨vs[i]'(by omega),jA ze⟩
 have hdk: ∀(i:Nat) (o:Oper) (t:Tmp),L[i]?=some (false,o)->o.dst=some t->t<N:=fun i o t hi ht=>by
  have:yi N o.dst=true:=oY (false,o) (Xj hi) rfl;rw [ht] at this;simpa [yi,x9] using this
 have F7: ∀(i:Nat) (o:Oper) (j:Nat) (g:Bool) (p:Oper) (t:Tmp),L[i]?=some (false,o)->L[j]?=some (g,p)->o.dst=some t->p.dst=some t->i=j:=fun i o j g p t h1 h2 h3 h4=>
  (hS.VX i false o j g p t h1 h2 h3 h4).resolve_left (fun h=>by cases h.1)
 have ovq: ∀(b:Act) (i:Nat) (o:Oper) (v:SV) (t:Tmp),b.tmps.size=N->L[i]?=some (false,o)->vs[i]?=some v->o.dst=some t->(U9 false Xo b L vs).tmps[t]?=some (v.den Xo):=fun b i o v t hb hi hv ht=>
  Gi L vs b i o v hi hv ht (by rw [hb];exact hdk i o t hi ht) (fun j g p hj hp e=>by have:=F7 i o j g p t hi hp ht e;omega)
 have ovn: ∀(b:Act) (t:Tmp),(∀(i:Nat) (o:Oper),L[i]?=some (false,o)->o.dst≠some t)->(U9 false Xo b L vs).tmps[t]?=b.tmps[t]?:=fun b t h=>
  Qc L vs b (fun fo FX hf e=>by
   obtain ⟨j,hj⟩:=rM FX;obtain ⟨g,p⟩:=fo;have hg:g=false:=hf;subst hg;exact h j p hj e)
 have akn: ∀(fuel:Nat) (zT:Array Bool) (a:Act) (W:World) (n:Nat) (xz:List Nat) (s:σ),zT.size=L.length->(zT.toList.filter (!·)).length=fuel->
  (∀(i:Nat) (o:Oper) (sv:SV) (d:Tmp),L[i]?=some (false,o)->vs[i]?=some sv->zT.getD i false=true->o.dst=some d->a.tmps[d]?=some (sv.den Xo))->
  (∀t,(∀(i:Nat) (f:Bool) (o:Oper),L[i]?=some (f,o)->zT.getD i false=true->o.dst≠some t)->a.tmps[t]?=a0.tmps[t]?)->a.tmps.size=N->a.defers= []->
  (∀(j:Nat) (g:Bool) (p:Oper),L[j]?=some (g,p)->zT.getD j false=true-> ∀e∈p.after,Region.binds .any e=true->zT.getD e.on false=true)->
  (∀i,i∈xz↔ ∃o,L[i]?=some (true,o)/\zT.getD i false=false)->xz.Nodup->xz.length<=n->R xz s W->
  F s (U9 false Xo a L vs)->V n xz s->wpAny P .any l.toArray K fuel zT a W:=by
  intro fuel
  induction fuel with
  |zero=>
   intro zT a W n xz s Ux gS hT hC hN hD Wc FL bg hnl hRs Is Ot
   have uD: ∀i,i<L.length->zT.getD i false=true:=fun i hi=>by
    have aaF:zT.toList.filter (!·)= []:=dm gS;cases hb:zT.getD i false with
    |true=>rfl
    |false=>
     have kg:i<zT.toList.length:=by simp [Ux,hi]
     have:zT.toList[i]=false:=by
      have:i<zT.size:=ze;simp [this] at hb;simpa using hb
     have A8:zT.toList[i]∈zT.toList.filter (!·):=ZE.2 ⟨yD kg,by rw [this];rfl⟩;rw [aaF] at A8;cases A8
   refine ⟨?_,?_⟩
   · refine aiw.2 fun i hi=>?_
     obtain ⟨h1,o,ho,_⟩:=mem_ready.1 hi;have Im:l[i]?=some o:=by simpa using ho
     have:=uD i (by rw [Ee];exact (xI.1 Im).1);rw [getD_both h1] at this;cases this
   · have iv:xz= []:=aiw.2 fun i hi=>by
      obtain ⟨o,h1,h2⟩:=(FL i).1 hi;rw [uD i (xI.1 h1).1] at h2;cases h2
     subst iv;refine F0 n s W a hRs (hFc s _ a Is (fun t=>?_) hN hD) Ot;by_cases VR: ∃(i:Nat) (o:Oper),L[i]?=some (false,o)/\o.dst=some t
     · obtain ⟨i,o,ho,yE⟩:=VR;have kg:=(xI.1 ho).1;obtain ⟨u,hu⟩:=ME i kg;rw [hT i o u t ho hu (uD i kg) yE,ovq a i o u t hN ho hu yE]
     · exact (ovn a t (fun i o ho e=>VR ⟨i,o,ho,e⟩)).symm
  |succ fuel ih=>
   intro zT a W n xz s Ux gS hT hC hN hD Wc FL bg hnl hRs Is Ot;refine ⟨fun hr=>?_,fun i hi=>?_⟩
   · exfalso
     have VR: ∃i,i<L.length/\zT.getD i false=false:=by
      have jt:(zT.toList.filter (!·))≠ []:=fun e=>by rw [e] at gS;simp at gS
      obtain ⟨b,hb⟩:=List.exists_mem_of_ne_nil _ jt;obtain ⟨kJ,Zk⟩:=ZE.1 hb;have:b=false:=by simpa using Zk
      subst this;obtain ⟨i,hi,he⟩:=IS.1 kJ;have kg:i<zT.size:=by simpa using hi
      exact ⟨i,ze,by simp [kg];simpa using he⟩
     have Ra: ∃i,(i<L.length/\zT.getD i false=false)/\ ∀j,j<i->zT.getD j false=true:=by
      obtain ⟨i,hi⟩:=VR
      induction i using Nat.strongRecOn with
      |_ i ihh=>
       by_cases hj: ∃j,j<i/\zT.getD j false=false
       · obtain ⟨j,hj1,hj2⟩:=hj;exact ihh j hj1 ⟨ze,hj2⟩
       · exact ⟨i,hi,fun j Rm=>by
          cases hb:zT.getD j false with
          |true=>rfl
          |false=>exact (hj ⟨j,Rm,hb⟩).elim⟩
     obtain ⟨i,⟨kg,hiu⟩,ak7⟩:=Ra;have hli:i<l.length:=ze;obtain ⟨f,hf⟩:=hLo i l[i] (by simp [hli]);have:i∈Region.ready .any l.toArray zT:=mem_ready.2 ⟨getD_in ze hiu,l[i],by simp [hli],fun e he Ir=>ak7 e.on (hS.low i f l[i] hf e he Ir)⟩;rw [hr] at this;cases this
   · obtain ⟨Ih,o,ho,F8⟩:=mem_ready.1 hi;have Im:l[i]?=some o:=by simpa using ho
     obtain ⟨f,gV⟩:=hLo i o Im;have kg:=(xI.1 gV).1;have CQ:=getD_both Ih;have ahq:(zT.setIfInBounds i true).size=L.length:=by simp [Ux]
     have ahD:((zT.setIfInBounds i true).toList.filter (!·)).length=fuel:=by
      have key: ∀(bs:List Bool) (i:Nat),bs[i]?=some false->((bs.set i true).filter (!·)).length+1=(bs.filter (!·)).length:=by
       intro bs
       induction bs with
       |nil=>intro i h;simp at h
       |cons b bs ihb=>
        intro i h;cases i with
        |zero=>simp at h;subst h;simp
        |succ i=>
         have:=ihb i (by simpa using h);cases b<;>simp [ff] at this⊢ <;>omega
      have h1:zT.toList[i]?=some false:=by
       have J5:i<zT.size:=ze;simp [J5] at CQ⊢;exact CQ
      have:=key zT.toList i h1;rw [DG];omega
     have adw: ∀j,(zT.setIfInBounds i true).getD j false=true->j=i\/zT.getD j false=true:=fun j hj=>by
      by_cases vN:j=i
      · exact .inl vN
      · rw [m9 false (fun e=>vN e.symm)] at hj;exact .inr hj
     have PE:(zT.setIfInBounds i true).getD i false=true:=by
      have:i<zT.size:=ze;simp [this]
     have unl: ∀(j:Nat) (g:Bool) (p:Oper),L[j]?=some (g,p)->(∃e∈p.after,Region.binds .any e=true/\e.on=i)->zT.getD j false=false:=fun j g p hp ⟨e,he,hbd,Um⟩=>by
      cases hb:zT.getD j false with
      |false=>rfl
      |true=>
       have:=Wc j g p hp hb e he hbd;rw [Um,CQ] at this;cases this
     have ahI: ∀(j:Nat) (g:Bool) (p:Oper),L[j]?=some (g,p)->(zT.setIfInBounds i true).getD j false=true-> ∀e∈p.after,Region.binds .any e=true->(zT.setIfInBounds i true).getD e.on false=true:=fun j g p hp hj e he hbd=>by
      refine getD_set_true ?_;by_cases vN:j=i
      · subst vN;rw [gV] at hp;cases hp;exact F8 e he hbd
      · exact Wc j g p hp ((adw j hj).resolve_left vN) e he hbd
     have ab7: ∀(b:Act),(∀t∈o.looksAt l.toArray,a.tmps[t]?=b.tmps[t]?)->execOp a.eval o=execOp b.eval o:=fun b hb=>by
      refine execOp_congr o (hS.KJ i f o gV) fun x hx=>?_
      cases x with
      |tmp t=>
       have ht:t∈o.looksAt l.toArray:=rN _ (List.mem_filterMap.2 ⟨.tmp t,by simpa using hx,rfl⟩);simp [Act.eval,hb t ht]
      |const v=>rfl
      |global g=>rfl
      |func f=>rfl
     have ah8: ∀t,(∀(j:Nat) (g:Bool) (p:Oper),L[j]?=some (g,p)->p.dst=some t->zT.getD j false=false)->a.tmps[t]?=a0.tmps[t]?:=fun t ht=>hC t (fun j g p hp hj e=>by
      have:=ht j g p hp e;rw [hj] at this;cases this)
     have hrs: ∀q,q≠i->(zT.setIfInBounds i true).getD q false=zT.getD q false:=fun q hq=>m9 false (fun e=>hq e.symm)
     unfold wpOp;simp only [ho];cases f with
     |false=>
      obtain ⟨v,hv⟩:=ME i kg;have hdo:=oY (false,o) (Xj gV) rfl
      have h1:=hq i o v xz s W gV hv hRs (fun d e oe hoe hE2=>(FL e).2 ⟨oe,hoe,by
       cases hb:zT.getD e false with
       |false=>rfl
       |true=>
        have:=aL (zT:=zT) (fun q p hp ee=>by
         obtain ⟨g,hg⟩:=hLo q p hp;exact Wc q g p hg ee) d e i oe (hoL e true oe hoe) (Wc e true oe hoe hb) hE2
        rw [CQ] at this;cases this⟩)
      have look: ∀t∈o.looksAt l.toArray,a.tmps[t]?=(U9 false Xo a0 (L.take i) (vs.take i)).tmps[t]?:=fun t ht=>by
       by_cases VR: ∃(j:Nat) (g:Bool) (p:Oper),L[j]?=some (g,p)/\p.dst=some t
       · obtain ⟨j,g,p,hp,bf⟩:=VR;have Wb:=(xI.1 hp).1;rcases (hS.use i false o gV t ht j g p hp bf).resolve_left (fun h=>by cases h.1) with ⟨vN,hfg,e,he,hbd,Um⟩|⟨gf,hfg,hdj⟩
         · have hg:g=false:=hfg.resolve_left yx;subst hg;have hlj:=F8 e he hbd;rw [Um] at hlj;obtain ⟨u,hu⟩:=ME j Wb;rw [hT j p u t hp hu hlj bf];refine (Gi (L.take i) (vs.take i) a0 j p u (by rw [wA,zo vN];exact hp) (by rw [wA,zo vN];exact hu) bf (by rw [hN0];exact hdk j p t hp bf) (fun q g' p' ee MK e'=>?_)).symm;rw [wA] at MK;split at MK
           · have:=F7 j p q g' p' t hp MK bf e';omega
           · cases MK
         · have un: ∀(q:Nat) (g':Bool) (p':Oper),L[q]?=some (g',p')->p'.dst=some t->zT.getD q false=false:=fun q g' p' MK aaC=>by
            rcases (hS.use i false o gV t ht q g' p' MK aaC).resolve_left (fun h=>by cases h.1) with ⟨Il,alp,e',he',aqu,aqe⟩|⟨hiq,_,hdq⟩
            · have hg':g'=false:=alp.resolve_left yx;subst hg';have:=F7 q p' j g p t MK hp aaC bf;omega
            · exact unl q g' p' MK hdq
           rw [ah8 t un];refine (Qc _ _ _ (fun fo FX hf e=>?_)).symm;obtain ⟨q,ee⟩:=rM FX;rw [wA] at ee;split at ee
           · obtain ⟨g',p'⟩:=fo;have hg':g'=false:=hf;subst hg';have:=F7 q p' j g p t ee hp e bf;omega
           · cases ee
       · rw [ah8 t (fun q g' p' MK aaC=>(VR ⟨q,g',p',MK,aaC⟩).elim)];refine (Qc _ _ _ (fun fo FX _ e=>?_)).symm;obtain ⟨q,ee⟩:=rM (wB FX);exact VR ⟨q,fo.1,fo.2,ee,e⟩
      have key: ∀W',Below W.heap.size W W'->wpAny P .any l.toArray K fuel (zT.setIfInBounds i true) (a.put o.dst (v.den Xo)) W':=fun W' hb=>by
       have lV:(a.put o.dst (v.den Xo)).tmps.size=N:=by cases o.dst<;>simp [Act.put,hN]
       have Rq:(a.put o.dst (v.den Xo)).defers= []:=by cases o.dst<;>exact hD
       refine ih _ _ W' n xz s ahq ahD (fun q p sv d hp hv' Eb bf=>?_) (fun t ht=>?_) lV Rq ahI (fun q=>?_) bg hnl (hRi xz s W W' hRs hb) (hFc s _ _ Is (fun t=>?_) (by rw [cJ];exact lV) (by rw [aw];exact Rq)) Ot
       · by_cases Il:q=i
         · subst Il;rw [gV] at hp;rw [hv] at hv';cases hp;cases hv';rw [bf];refine sF ?_;rw [hN];exact hdk q _ d gV bf
         · have jt:o.dst≠some d:=fun e=>Il (F7 q p i _ o d hp gV bf e)
           rw [QC jt];exact hT q p sv d hp hv' ((adw q Eb).resolve_left Il) bf
       · have jt:o.dst≠some t:=ht i _ o gV PE;rw [QC jt];exact hC t (fun q g p hp Eb=>ht q g p hp (getD_set_true Eb))
       · rw [FL q];constructor
         · rintro ⟨p,h2,h3⟩;refine ⟨p,h2,?_⟩;rw [hrs q (fun e=>by subst e;rw [gV] at h2;cases h2)];exact h3
         · rintro ⟨p,h2,h3⟩;refine ⟨p,h2,?_⟩;rw [hrs q (fun e=>by subst e;rw [gV] at h2;cases h2)] at h3;exact h3
       · by_cases VR: ∃(j:Nat) (p:Oper),L[j]?=some (false,p)/\p.dst=some t
         · obtain ⟨j,p,hp,bf⟩:=VR;obtain ⟨u,hu⟩:=ME j (xI.1 hp).1;rw [ovq _ j p u t lV hp hu bf,ovq a j p u t hN hp hu bf]
         · rw [ovn _ t (fun j p hp e=>VR ⟨j,p,hp,e⟩),ovn a t (fun j p hp e=>VR ⟨j,p,hp,e⟩),QC (fun e=>VR ⟨i,o,gV,e⟩)]
      rw [bo look];cases hw:Region.wanted o (yielded l.toArray (U9 false Xo a0 (L.take i) (vs.take i)).tmps) with
      |false=>
       rw [hw] at h1;simp only [Vq,kT] at h1⊢;rw [<-h1];exact key W (ZD _ _)
      |true=>
       rw [hw] at h1;simp only [uR] at h1⊢;refine .inl ?_;unfold Oper.wp;rw [ab7 _ look];unfold Oper.quietAt at h1;generalize (execOp (U9 false Xo a0 (L.take i) (vs.take i)).eval o).run P W=r at*;cases r with
       |ok nx W'=>
        cases nx<;>simp only [Oper.quietUpon] at h1<;>simp only [Oper.upon]
        case value u=>
         obtain ⟨e1,e2⟩:=h1;rw [e1,e2];exact key _ (ZD _ _)
        case skip=>
         obtain ⟨e1,e2⟩:=h1;rw [e1,<-e2];exact key _ (ZD _ _)
        case enter f args=>
         obtain ⟨e1,hc⟩:=h1;rw [e1];exact hc.mono fun e NO ⟨he,hb⟩=>by subst he;exact key _ hb
       |halt x w'=>simp only [Oper.quietUpon] at h1
     |true=>
      have hir:i∈xz:=(FL i).2 ⟨o,gV,CQ⟩
      have hrd:i∈xz.filter (TQ l xz):=ZE.2 ⟨hir,by
       unfold TQ;refine yw.2 fun j hj=>?_
       cases hb:Be l 4 i j with
       |false=>rfl
       |true=>
        have:=aL (zT:=zT) (fun q p hp ee=>by
         obtain ⟨g,hg⟩:=hLo q p hp;exact Wc q g p hg ee) 4 i j o Im F8 hb
        obtain ⟨p,_,h3⟩:=(FL j).1 hj;rw [h3] at this;cases this⟩
      cases n with
      |zero=>
       have:xz= []:=dm ze;rw [this] at hir;cases hir
      |succ n=>
      obtain ⟨FT,h1⟩:=he i o n xz s W _ hrd Im hRs Is Ot
      have look: ∀t∈o.looksAt l.toArray,a.tmps[t]?=(U9 false Xo a L vs).tmps[t]?:=fun t ht=>by
       by_cases VR: ∃(j:Nat) (p:Oper),L[j]?=some (false,p)/\p.dst=some t
       · obtain ⟨j,p,hp,bf⟩:=VR;obtain ⟨v,hv⟩:=ME j (xI.1 hp).1;rcases (hS.use i true o gV t ht j false p hp bf).resolve_left (fun h=>by cases h.2) with ⟨_,_,e,he,hbd,Um⟩|⟨_,hfg,_⟩
         · have hlj:=F8 e he hbd;rw [Um] at hlj;rw [hT j p v t hp hv hlj bf,ovq a j p v t hN hp hv bf]
         · rcases hfg with h|h<;>cases h
       · exact (ovn a t (fun j p hp e=>VR ⟨j,p,hp,e⟩)).symm
      have key: ∀z W',(∃s',R (xz.erase i) s' W'/\F s' ((U9 false Xo a L vs).put o.dst z)/\V n (xz.erase i) s')->wpAny P .any l.toArray K fuel (zT.setIfInBounds i true) (a.put o.dst z) W':=fun z W' ⟨s',uE,hF',hV'⟩=>by
       have lV:(a.put o.dst z).tmps.size=N:=by cases o.dst<;>simp [Act.put,hN]
       have Rq:(a.put o.dst z).defers= []:=by cases o.dst<;>exact hD
       refine ih _ _ W' n (xz.erase i) s' ahq ahD (fun q p sv d hp hv' Eb bf=>?_) (fun t ht=>?_) lV Rq ahI (fun q=>?_) (bg.erase i) (by rw [List.length_erase_of_mem hir];omega) uE (hFc s' _ _ hF' (fun t=>?_) (by rw [cJ];exact lV) (by rw [aw];exact Rq)) hV'
       · have Il:q≠i:=fun e=>by subst e;rw [gV] at hp;cases hp
         have jt:o.dst≠some d:=fun e=>Il (F7 q p i _ o d hp gV bf e)
         rw [QC jt];exact hT q p sv d hp hv' ((adw q Eb).resolve_left Il) bf
       · have jt:o.dst≠some t:=ht i _ o gV PE;rw [QC jt];exact hC t (fun q g p hp Eb=>ht q g p hp (getD_set_true Eb))
       · rw [bg.mem_erase_iff,FL q];constructor
         · rintro ⟨jt,p,h2,h3⟩;exact ⟨p,h2,by rw [hrs q jt];exact h3⟩
         · rintro ⟨p,h2,h3⟩;have jt:q≠i:=fun e=>by subst e;rw [PE] at h3;cases h3
           rw [hrs q jt] at h3;exact ⟨jt,p,h2,h3⟩
       · by_cases VR: ∃(j:Nat) (p:Oper),L[j]?=some (false,p)/\p.dst=some t
         · obtain ⟨j,p,hp,bf⟩:=VR;obtain ⟨v,hv⟩:=ME j (xI.1 hp).1;have vN:j≠i:=fun e=>by subst e;rw [gV] at hp;cases hp
           rw [ovq _ j p v t lV hp hv bf,QC (fun e=>vN (F7 j p i true o t hp gV bf e)),ovq a j p v t hN hp hv bf]
         · have e1:=ovn a t (fun j p hp e=>VR ⟨j,p,hp,e⟩);rw [ovn _ t (fun j p hp e=>VR ⟨j,p,hp,e⟩)];by_cases hdt:o.dst=some t
           · have htN:t<N:=by rw [hdt] at FT;simpa [yi,x9] using FT
             rw [hdt,sF (by rw [hN];exact htN),sF (by rw [cJ,hN];exact htN)]
           · rw [QC hdt,QC hdt,e1]
      rw [bo look];cases hw:Region.wanted o (yielded l.toArray (U9 false Xo a L vs).tmps) with
      |false=>
       rw [hw] at h1;simp only [Vq,kT] at h1⊢;exact key _ W h1
      |true=>
       rw [hw] at h1;simp only [uR] at h1⊢;refine .inl ?_;unfold Oper.wp;rw [ab7 _ look];generalize (execOp (U9 false Xo a L vs).eval o).run P W=r at*;cases r with
       |ok nx W'=>
        cases nx<;>simp only [kj] at h1<;>simp only [Oper.upon]
        case value z=>exact key _ _ h1
        case skip=>exact key _ _ h1
        case enter f args=>exact h1.mono fun e NO ⟨z,he,hz⟩=>by subst he;exact key _ _ hz
       |halt x w'=>simp only [kj] at h1
 refine wp_region_any hm.h ?_
 have ap:Below W0.heap.size W0 {W0 with drawn:=W0.drawn+1}:=by
  have:=below_regrown W0 (W0.drawn+1) #[];rw [Go.Sort.grow_empty] at this;exact this
 have YC:l.toArray.size=L.length:=by simp [Ee]
 rw [YC];refine akn L.length _ a0 _ l.length es s0 yx ?_ (fun i o sv d _ _ h=>(by rw [rL] at h;cases h)) (fun t _=>rfl) hN0 hD0 (fun j g p _ h=>(by rw [rL] at h;cases h)) (fun i=>?_) ?_ ?_ (hRi es s0 W0 _ Bc ap) hF0 hV0
 · rw [Array.toList_replicate]
   induction L.length with
   |zero=>rfl
   |succ n ihn=>rw [List.replicate_succ];simp
 · rw [<-oW,de];constructor
   · rintro ⟨o,_,h⟩;exact ⟨o,h,rL _ _⟩
   · rintro ⟨o,h,_⟩;exact ⟨o,zW _,h⟩
 · rw [<-oW];exact aB L 0
 · rw [<-oW,<-Ee];exact mC L 0
theorem SL {id:Nat} {l:List Oper} {M:Mem} {own:List Ob} {env:Env} {Q:zX} (L:List g7) (gs:List Nat) (es:List Nat) [hm:Oa P] (hLm:L.map (·.2)=l) (hB:efB l L=true) (oW:Qe 0 L=es) (zV:yR env own.length=true)
 (hV:VQ P w M0 N l.toArray L ⟨M,y8 gs own,env⟩ (fun tB=>VF P w M0 N gs own.length l l.length es ⟨M,own,tB⟩ (fun s=>Q .normal s))):
 VC P w M0 N (.region id l.toArray true) ⟨M,own,env⟩ Q:= .mk fun Xo a0 W0 Bc=>by
 obtain ⟨vs,P2,hq,hE⟩:=hV
 have oY: ∀fo∈L,fo.1=false->yi N fo.2.dst=true:=fun fo FX hf=>by
  obtain ⟨i,hi⟩:=rM FX;obtain ⟨f,o⟩:=fo;have C0:f=false:=hf;subst C0;have kg:=(xI.1 hi).1;exact (hq i o vs[i] hi (by simp [P2,kg])).2.1
 have hFq:Fr N Xo (ZW false env L vs) (U9 false Xo a0 L vs):=ml L vs env a0 oY Bc.2
 have akW: ∀t sv,(ZW false env L vs).get t=some sv->sv.okB own.length=true:=by
  have key: ∀(L':List g7) (vs':List SV) (e:Env),(∀t sv,e.get t=some sv->sv.okB own.length=true)->(∀(i:Nat) (o:Oper) (sv:SV),L'[i]?=some (false,o)->vs'[i]?=some sv->sv.okB own.length=true)-> ∀t sv,(ZW false e L' vs').get t=some sv->sv.okB own.length=true:=by
   intro L'
   induction L' with
   |nil=>intro vs' e h1 _;unfold ZW;exact h1
   |cons fo L' ihL=>
    intro vs' e h1 h2;cases vs' with
    |nil=>unfold ZW;exact h1
    |cons v vs'=>
     unfold ZW;refine ihL vs' _ ?_ (fun i o sv hi hv=>h2 (i+1) o sv (by simpa using hi) (by simpa using hv));obtain ⟨f,o⟩:=fo;cases f with
     |true=>exact h1
     |false=>
      intro t sv ht;simp only [YZ] at ht;cases yE:o.dst with
      |none=>rw [yE] at ht;exact h1 t sv ht
      |some d=>
       rw [yE] at ht;simp only [Env.put,Env.get] at ht;split at ht
       · cases ht;exact h2 0 o v rfl rfl
       · exact h1 t sv ht
  refine key L vs env (fun t sv ht=>vn zV t sv ht) (fun i o sv hi hv=>?_);have:=(hq i o sv hi hv).2.2
  rwa [qp] at this
 refine rq (N:=N) (Xo:=Xo) (σ:=(Nat->Value)×St) (fun xz s W=>Wd w M0 s.1 s.2.M s.2.own W/\M.le s.2.M/\(∀i,i<own.length->s.1 i=Xo i)/\(y8 gs s.2.own).take own.length=(y8 gs own).take own.length/\own.length<=s.2.own.length)
  (fun s b=>Fr N s.1 s.2.env b/\ ∀t sv,s.2.env.get t=some sv->sv.okB s.2.own.length=true) (fun n xz s=>VF P w M0 N gs own.length l n xz s.2 (fun s=>Q .normal s))
  hLm hB oW P2 oY Bc.2.size Bc.2.defers (fun s a b h ht hs hd=>⟨h.1.congr ht hs hd,h.2⟩) (fun xz s W W' h hb=>⟨h.1.idle hb,h.2⟩) ?_ ?_ (fun n s W a hR hF hV=>⟨s.1,s.2,⟨hR.1,hF.1⟩,hV.fin⟩)
  (s0:=(Xo,⟨M,own,ZW false env L vs⟩)) ⟨Bc.1,zE,fun _ _=>rfl,rfl,zN _⟩ ⟨hFq,akW⟩ hE
 · rintro i o v xz ⟨hd,s⟩ W gV hv ⟨Zl,hMx,Bb,hgx,hlx⟩-
   have hWG:Wd w M0 Xo M (y8 gs own) W:=by
    have h1:=((Zl.forget hMx Bc.1.YW Bc.1.wS).acA gs).take own.length;rw [hgx,wD (by rw [qp];exact zN _)] at h1;exact h1.Rr (fun q ee=>(Bb q (by rwa [qp] at ee)).symm)
   exact (hq i o v gV hv).1.go Xo _ W ⟨hWG,ml (k:=false) (hd:=Xo) (L.take i) (vs.take i) env a0 (fun fo FX=>oY fo (wB FX)) Bc.2⟩
 · rintro i o n xz ⟨hd,Mx,x,aa5⟩ W b hrd ho ⟨Zl,hMx,Bb,hgx,hlx⟩ ⟨Is,ju⟩ Ot;obtain ⟨ι,Mf,T9,uf,hEW,FT,Ot⟩:=Ot.2 i hrd o ho;refine ⟨FT,Np (hEW.go hd b W ⟨Zl,Is⟩) ?_⟩;rintro z W' ⟨xx,yE,ahW,aem,rfl⟩;obtain ⟨zD,hgo,aeo⟩:=Ot xx;have y7:x.length<=(T9 xx).length:=hEW.len xx;have akV:=hEW.ok xx;have J5:own.length<=x.length:=hlx;refine ⟨(yE,⟨Mf xx,T9 xx,aa5.put o.dst (uf xx)⟩),⟨aem,hMx.trans zD,fun q ee=>(ahW q (by show q<x.length;omega)).trans (Bb q ee),hgo.trans hgx,jZ hlx y7⟩,⟨(Is.KH (yE:=yE) (fun t sv ht=>X6 ahW (ju t sv ht))).put (dst:=o.dst) FT (uf xx),fun t sv ht=>?_⟩,aeo⟩;cases uN:o.dst with
   |none=>rw [uN] at ht;exact Ck y7 (ju t sv ht)
   |some d=>
    rw [uN] at ht;simp only [Env.put,Env.get] at ht;split at ht
    · cases ht;exact akV
    · exact Ck y7 (ju t sv ht)
def bc (es:List Nat):Nat->List Oper->List g7
 |_,[]=> []
 |k,o::l=>(es.contains k,o)::bc es (k+1) l
theorem sK (es:List Nat): ∀(l:List Oper) (k:Nat),(bc es k l).map (·.2)=l
 | [],_=>rfl
 |o::l,k=>by unfold bc;rw [xw,sK es l (k+1)]
theorem Xm {id:Nat} {l:List Oper} {M:Mem} {own:List Ob} {env:Env} {Q:zX} (gs:List Nat) (es:List Nat) [hm:Oa P] (hB:efB l (bc es 0 l)=true) (oW:Qe 0 (bc es 0 l)=es) (zV:yR env own.length=true)
 (hV:VQ P w M0 N l.toArray (bc es 0 l) ⟨M,y8 gs own,env⟩ (fun tB=>VF P w M0 N gs own.length l l.length es ⟨M,own,tB⟩ (fun s=>Q .normal s))):
 VC P w M0 N (.region id l.toArray true) ⟨M,own,env⟩ Q:=SL (bc es 0 l) gs es (sK es l 0) hB oW zV hV
section
variable {ops:Array Oper} {es:List Nat} {k:Nat} {l:List Oper} {M:Mem} {own:List Ob} {env:Env} {K:Env->Prop}
theorem I5 {s:St} (h:K s.env):VQ P w M0 N ops (bc es k []) s K:=aeU h
theorem YH {o:Oper} (hf:es.contains k=false) (sv:SV) (hq:QW P w M0 N ops o ⟨M,own,env⟩ sv) (hk:yi N o.dst=true) (ho:sv.okB own.length=true) (h:VQ P w M0 N ops (bc es (k+1) l) ⟨M,own,env.put o.dst sv⟩ K):
 VQ P w M0 N ops (bc es k (o::l)) ⟨M,own,env⟩ K:=by
 unfold bc;rw [hf];exact amz sv hq hk ho h
theorem acX {o:Oper} {s:St} (hf:es.contains k=true) (h:VQ P w M0 N ops (bc es (k+1) l) s K):VQ P w M0 N ops (bc es k (o::l)) s K:=by
 unfold bc;rw [hf];exact amA h
end
theorem dz {ops:Array Oper} {dst:Option Tmp} {ty:TypeId} {pos:String} {z7:Array Edge} {M:Mem} {own:List Ob} {env:Env} {f:FuncId} {xs:Array Operand} {qz:Array TypeId} {vs:List Value} {e:TypeId} {k n:Nat} {cs:List Value} [hf:zG P f] (hv:env.kP xs.toList=some vs) (hc: ∀W,M.le (Mem.of W)->Calls P f vs.toArray W (uV e k n cs W)):
 EX P w M0 N ops ⟨dst, .call ⟨.value (.func f),xs,qz⟩,ty,pos,z7,none⟩ ⟨M,own,env⟩ {v:Value//j2 v n} (fun _=>M) (fun v=>own++ [.zC v.1 e k n cs]) (fun v=> .v v.1):=⟨fun hd a W hR=>by
 rw [zo (by simp [Region.wanted])];rw [ZP (s:=⟨M,own,env⟩) hR.2 hf.h hv];simp only [kj];refine (hc W hR.1.mem).mono fun x W' ⟨v,he,hb,ho⟩=>⟨v,he,?_⟩
 have hi:=hR.1.idle hb
 have Im:W'.ownsRow w.heap.size e k v n cs:=by
  obtain ⟨h1,h2|⟨b,cap,cur,h3,h4,h5⟩⟩:=ho
  · exact ⟨h1, .inl h2⟩
  · exact ⟨h1, .inr ⟨b,cap,cur,h3,by have:=hR.1.below.size;omega,h5⟩⟩
 have ef: ∀b,yX v=some b->W.heap.size<=b:=fun b hf=>by
  obtain ⟨_,⟨h2,_⟩|⟨b',cap,cur,h3,h4,_⟩⟩:=ho
  · rw [h2] at hf;cases hf
  · rw [h3] at hf;obtain rfl:b'=b:=by simpa [yX] using hf
    exact h4
 refine ⟨⟨v,uJ Im⟩,Ke hd own.length v,fun i hi=>qj _ _ (by have:i<own.length:=hi;omega),hi.add ⟨rfl,Im⟩ (fun b hf=>?_),rfl⟩;have h:=hR.1.fresh (ef b hf);exact h,fun _=>by simp,fun _=>rfl⟩
theorem kV {x y:Code} {s:St} {Q:zX} (R:St->Prop) (h1:VC P w M0 N x s (fun e s'=>e= .normal/\R s')) (h2: ∀s',R s'->VC P w M0 N y s' Q):VC P w M0 N (.seq x y) s Q:=
 KD (AK h1 fun e s' ⟨he,hr⟩=>by subst he;exact h2 s' hr)
end
end Go.Proofs.YtaibdpjjojihmaaGreat
