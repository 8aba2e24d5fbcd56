/- A part of the proof of TopPrefix; no conditions. -/
import Derived.Test.YtaibdpjjojihmaaGreatPHo2
import Derived.Test.YtaibdpjjojihmaaGreatPSu4
set_option linter.unusedVariables false
set_option linter.unusedSimpArgs false
set_option maxRecDepth 20000
set_option maxHeartbeats 4000000
namespace Go.Proofs.YtaibdpjjojihmaaGreat
section
open Go Go.RowKit
attribute [local irreducible] Calls
end
section
open Go Go.RowKit
attribute [local irreducible] Calls
structure Co where
 cb:Nat
 tb:Nat
 tg:Nat
 tc:Nat
 mb:Nat
 s:qC
 T:List qf
 hs:List AP
 wa:Int
 ch:Int
def Co.es (c:Co):List (Int×Value):=c.hs.map fun h=>(h.th,ptr h.hb)
def Co.ob (c:Co):List Ob:=vh c.cb c.s.sb c.tb c.mb c.wa c.ch:: .vj (.map (some c.mb)) c.es::(c.s.ob++(xo c.tb c.tg c.tc c.T++c.hs.map (u4 c.cb)))
theorem aai (cb:Nat) (l:List AP):jI (l.map (u4 cb)):=⟨fun o ho=>by obtain ⟨h,_,rfl⟩:=uT.1 ho;rfl⟩
instance (cb:Nat) (l:List AP):jI (l.map (u4 cb)):=aai cb l
instance (c:Co):jI c.ob:=by unfold Co.ob;infer_instance
structure jf where
 q:kY
 T:List qf
 wa:Int
 ch:Int
def yU (H:List (Int×Nat)) (th:Int):Option Nat:=(H.find? fun p=>p.1==th).map (·.2)
structure yO (cb sb:Nat) (b:Int) (p:jf) (H:List (Int×Nat)) (M:Mem) (c:Co):Prop where
 cb:c.cb=cb
 st:qe sb b p.q M c.s
 tok:gD c.T
 tab:j9 c.T=p.T
 wa:c.wa=p.wa
 ch:c.ch=p.ch
 hs:c.hs.map (fun h=>(h.th,h.hb))=H
 ju: ∀h∈c.hs,DX h
theorem yO.mono {cb sb:Nat} {b:Int} {p:jf} {H:List (Int×Nat)} {M M':Mem} {c:Co} (h:yO cb sb b p H M c) (hM:M.le M'):yO cb sb b p H M' c:=⟨h.cb,h.st.mono hM,h.tok,h.tab,h.wa,h.ch,h.hs,h.ju⟩
theorem yO.up {cb sb:Nat} {b b':Int} {p:jf} {H:List (Int×Nat)} {M:Mem} {c:Co} (h:yO cb sb b p H M c) (hb:b<=b'):yO cb sb b' p H M c:=⟨h.cb,h.st.up hb,h.tok,h.tab,h.wa,h.ch,h.hs,h.ju⟩
variable {cb sb:Nat} {b:Int} {p:jf} {H:List (Int×Nat)} {M:Mem} {c:Co}
theorem VZ (c:Co):uu c.ob c.s.ob (vh c.cb c.s.sb c.tb c.mb c.wa c.ch:: .vj (.map (some c.mb)) c.es::(xo c.tb c.tg c.tc c.T++c.hs.map (u4 c.cb))):=⟨by
 unfold Co.ob;exact (List.perm_append_comm_assoc [_,_] c.s.ob _)⟩
theorem XV {f:FuncId} {vs:List Value} {X:Value->Mem->Prop} (hc:zu zf f vs M c.s.ob (fun u M' o=>M.le M'/\o=c.s.ob/\X u M')):zu zf f vs M c.ob (fun u M' o=>M.le M'/\o=c.ob/\X u M'):=by
 refine hc.wide (VZ c) zh ?_;rintro u M' o hle ⟨-,rfl,hx⟩;exact ⟨c.ob,ji.perm (VZ c).h.symm,zh,hle,rfl,hx⟩
theorem ez {f:FuncId} {vs:List Value} {X:Value->Mem->Prop} {b':Int} {q':kY} (h:yO cb sb b p H M c) (hc:zu zf f vs M c.s.ob (fun u M' o=>M.le M'/\X u M'/\ ∃s':qC,o=s'.ob/\qe sb b' q' M' s')):zu zf f vs M c.ob (fun u M' o=>M.le M'/\X u M'/\ ∃c':Co,o=c'.ob/\yO cb sb b' {p with q:=q'} H M' c'):=by
 refine hc.wide (VZ c) zh ?_;rintro u M' o hle ⟨-,hx,s',rfl,P6⟩;have Ik:s'.sb=c.s.sb:=by rw [P6.sb,h.st.sb]
 refine ⟨({c with s:=s'}:Co).ob,?_,zh,hle,hx,{c with s:=s'},rfl,⟨h.cb,P6,h.tok,h.tab,h.wa,h.ch,h.hs,h.ju⟩⟩;have:=(VZ {c with s:=s'}).h.symm;dsimp only [Co.es] at this;rw [Ik] at this;exact ji.perm this
theorem yO.hand {th:Int} {hb:Nat} (h:yO cb sb b p H M c) (hl:yU H th=some hb): ∃l1 x l2,c.hs=l1++x::l2/\x.th=th/\x.hb=hb/\DX x:=by
 unfold yU at hl;cases hf:H.find? (fun p=>p.1==th) with
 |none=>rw [hf] at hl;cases hl
 |some e=>
  rw [hf] at hl;cases hl;have hm:=List.mem_of_find?_eq_some hf;have he:=List.find?_some hf;rw [<-h.hs] at hm;obtain ⟨x,hx,rfl⟩:=uT.1 hm;obtain ⟨l1,l2,hs⟩:=List.append_of_mem hx;exact ⟨l1,x,l2,hs,beq_iff_eq.1 he,rfl,h.ju x hx⟩
theorem agm {α:Type} (a n x:α) (S Tb A B:List α):(a::n::(S++(Tb++(A++x::B)))).Perm ((x::a::Tb)++(n::(S++(A++B)))):=by
 haveI:DecidableEq α:=fun a b=>Classical.propDecidable (a=b)
 rw [Kc];intro z;simp only [Yo,Ym];omega
theorem iF {l1 l2:List AP} {x:AP} (hs:c.hs=l1++x::l2) (x':AP) (T':List qf) (h1:x'.th=x.th) (h2:x'.hb=x.hb):({c with hs:=l1++x'::l2,T:=T'}:Co).ob.Perm (Zz c.cb c.s.sb c.tb c.mb c.wa c.ch c.tg c.tc x' T'++(.vj (.map (some c.mb)) c.es::(c.s.ob++(l1.map (u4 c.cb)++l2.map (u4 c.cb))))):=by
 have he:(l1++x'::l2).map (fun h=>(h.th,ptr h.hb))=c.es:=by unfold Co.es;rw [hs,jo,jo,xw,xw,h1,h2]
 unfold Co.ob;rw [show ({c with hs:=l1++x'::l2,T:=T'}:Co).es=c.es from he];unfold Zz;dsimp only;rw [jo,xw];exact agm _ _ _ _ _ _ _
theorem tI {f:FuncId} {vs:List Value} {X:Value->Prop} {T2:List qf} {l1 l2:List AP} {x:AP} (h:yO cb sb b p H M c) (hs:c.hs=l1++x::l2) (hc:zu zf f vs M (Zz c.cb c.s.sb c.tb c.mb c.wa c.ch c.tg c.tc x c.T) (fun u M' o=>M'=M/\X u/\ ∃(x':AP) (T':List qf),x'.th=x.th/\x'.hb=x.hb/\DX x'/\gD T'/\j9 T'=T2/\o=Zz c.cb c.s.sb c.tb c.mb c.wa c.ch c.tg c.tc x' T')):
 zu zf f vs M c.ob (fun u M' o=>M'=M/\X u/\ ∃c':Co,o=c'.ob/\yO cb sb b {p with T:=T2} H M c'):=by
 have h0:=iF (c:=c) hs x c.T rfl rfl;rw [show ({c with hs:=l1++x::l2,T:=c.T}:Co)=c by rw [<-hs]] at h0;refine hc.wide (G:= .vj (.map (some c.mb)) c.es::(c.s.ob++(l1.map (u4 c.cb)++l2.map (u4 c.cb)))) ⟨h0⟩ zh ?_;rintro u M' o-⟨rfl,hx,x',T',e1,e2,hxo,hT,hbT,rfl⟩;refine ⟨({c with hs:=l1++x'::l2,T:=T'}:Co).ob,ji.perm (iF hs x' T' e1 e2).symm,zh,rfl,hx,_,rfl,⟨h.cb,h.st,hT,hbT,h.wa,h.ch,?_,fun y hy=>?_⟩⟩
 · rw [<-h.hs,hs];dsimp only;rw [jo,jo,xw,xw,e1,e2]
 · rcases jH.1 hy with h1|h1
   · exact h.ju y (by rw [hs];exact rN _ h1)
   · rcases jm.1 h1 with rfl|h1
     · exact hxo
     · exact h.ju y (by rw [hs];exact rP _ (XJ _ h1))
theorem Y9 {th:Int} {hb:Nat} (h:yO cb sb b p H M c) (hl:yU H th=some hb) (ht:th<1000) (i:Int) (wr:Bool):zu zf 117 [ptr hb, .int .i64 i, .bool wr] M c.ob (fun u M' o=>M'=M/\u= .bool (kC p.T th i wr).2/\ ∃c':Co,o=c'.ob/\yO cb sb b {p with T:=(kC p.T th i wr).1} H M c'):=by
 obtain ⟨l1,x,l2,hs,rfl,rfl,hx⟩:=h.hand hl;rw [<-h.tab];exact tI h hs (MZ x c.T i wr M h.tok ht hx)
theorem eA {th:Int} {hb:Nat} (h:yO cb sb b p H M c) (hl:yU H th=some hb) (i:Int):zu zf 138 [ptr hb, .int .i64 i] M c.ob (fun u M' o=>M'=M/\True/\ ∃c':Co,o=c'.ob/\yO cb sb b {p with T:=V7 p.T th i} H M c'):=by
 obtain ⟨l1,x,l2,hs,rfl,rfl,hx⟩:=h.hand hl;rw [<-h.tab];exact tI h hs ((Ru x c.T i M h.tok).mono fun u M' o _ ⟨e,T',h1,h2,h3⟩=>⟨e,trivial,x,T',rfl,rfl,hx,h1,h2,h3⟩)
theorem V0 {th:Int} {hb:Nat} (h:yO cb sb b p H M c) (hl:yU H th=some hb):zu zf 140 [ptr hb] M c.ob (fun u M' o=>M'=M/\True/\ ∃c':Co,o=c'.ob/\yO cb sb b {p with T:=Qf p.T th} H M c'):=by
 obtain ⟨l1,x,l2,hs,rfl,rfl,hx⟩:=h.hand hl;rw [<-h.tab];exact tI h hs ((C8 x c.T M h.tok).mono fun u M' o _ ⟨e,T',h1,h2,h3⟩=>⟨e,trivial,{x with want:=none},T',rfl,rfl,hx,h1,h2,h3⟩)
end
section
open Go Go.RowKit
attribute [local irreducible] Calls
def bt (l:List Nd):Nat:=(l.map fun n=>n.ms.length).sum
theorem LA (l:List Nd) {k:Nat} (h:k<l.length):bt (l.take (k+1))=bt (l.take k)+l[k].ms.length:=by
 unfold bt;rw [vF h,jo,GN];simp
theorem HC (n:Nat): ∀(l:List Nd),(∀x∈l,x.ms.length<=n)->bt l<=n*l.length
 | [],_=>zW _
 |x::l,h=>by
  have h1:=HC n l fun y hy=>h y (XJ _ hy)
  have h2:=h x Yq;unfold bt at h1⊢;rw [xw,List.sum_cons,xd,Nat.mul_succ];omega
theorem Ly (l:List Nd) (k:Nat):bt (l.take k)<=bt l:=by
 conv=>rhs;rw [<-Us k l]
 unfold bt;rw [jo,GN];omega
def bq (q:kY):Nat:=bt q.all
variable {cb sb:Nat} {b:Int} {p:jf} {H:List (Int×Nat)} {M:Mem} {c:Co}
theorem R4 {q:kY} {s:qC} (h:s.pure=q):s.all=q.all:=by
 rw [<-h];unfold qC.all kY.all;show _=(Yb s.us).map fun i=>JU (s.ns.map bare) s.us i
 simp only [rc]
theorem abs {q:kY} (h:Yz b q):(∀n∈q.all,yB q.c b n)/\q.all.length<=4096:=by
 unfold kY.all;refine ⟨fun n hn=>?_,?_⟩
 · obtain ⟨i,_,rfl⟩:=uT.1 hn;exact h.get i
 · rw [yo];exact jZ (d9 _ _) (by rw [h.len];exact h.n)
theorem Gt {q:kY} {s:qC} {tb mb:Nat} {wa ch:Int} (h:qe sb b q M s):zu zf 184 [ptr cb] M (vh cb sb tb mb wa ch::s.ob) (fun u M' o=>M.le M'/\u= .int .i64 (bq q:Nat)/\o=vh cb sb tb mb wa ch::s.ob):=by
 have cN:=fR s M h.ok;rw [h.sb] at cN;refine xy Tryz.func184 rfl Tryz.ntmps184 zd (fun F w M0 hF=>zz ?_)
 repeat' (refine nv ?_)
 refine xQ cN ?_;rintro u M2 _ zD-⟨rfl,l,hu,ju,hl⟩;refine zJ ?_;obtain ⟨A,k,rfl,gR,Ul,_⟩:=id hu;unfold maxLen at Ul;rw [R4 h.pure] at hl;obtain ⟨hni,hnl⟩:=abs h.inv;have y7:l.length<=4096:=by rw [<-hl,yo] at hnl;exact hnl
 have hmn: ∀n∈l,n.ms.length<=1024:=fun n hn=>by
  have:bare n∈q.all:=by rw [<-hl];exact m5 hn
  exact (hni _ this).bP h.inv.c
 have ak:bt l=bq q:=by
  unfold bq;rw [<-hl];unfold bt;rw [XB];rfl
 repeat' (refine nv ?_)
 refine jv (fun j:Nat=>⟨M2,vh cb sb tb mb wa ch::(s.ob++F),[(3, .v (.int .i64 (bt (l.take j):Nat))),(10, .v (.slice A l.length k)),(11, .v (.int .i64 l.length)),(12, .v (.int .i64 j))]⟩) (fun j=>j<=l.length) (fun j=>l.length-j) 0 (xZ jY) (zW _) ?_;intro j hj;have kt:=Ly l j;have sV:=HC 1024 l hmn;rcases yq j l.length with z9|ql
 · have hd:=Xp z9;obtain ⟨ba,off,rfl,jk⟩:=hu.get z9;have hz:=ju _ (yD z9);have oz:=zI hz;have gd:=LA l z9;have hmz:=hmn _ (yD z9);generalize l[j]=z at*;obtain ⟨Am,cm,A0,_⟩:=id hz.2.2.1;have Ch:=hz.1.yf;have T8:=hz.2.1.yf;have Cg:=hz.2.2.2.yf;obtain ⟨slot,level,pv,ps,kv,ks,high,top,right,seen,mv,ms,rv,rs⟩:=z;dsimp only [yr] at*;subst A0;have e3:((bt (l.take j):Nat):Int)+(ms.length:Int)=((bt (l.take (j+1)):Nat):Int):=ze
   repeat' (first|refine yh (dst:=some 5) zh fun b5=>?_|((apply zA);(first|exact zj (j) zd zd ze ze|exact zZ _ zd jk _ zd|exact xG (z5 (Value.int .i64) e3) (yN zd zd (ac3 ze ze)));rfl)|refine nv ?_)
   exact yG (Q:=fun _ _=>True) (j+1) (xZ jY) z9 ze
 · have hd:=Xq ql;obtain rfl:j=l.length:=ze;rw [xk,ak]
   repeat' (refine nv ?_)
   exact ⟨_,vh cb sb tb mb wa ch::s.ob,zP,zD,zh,zq,zD,rfl,rfl⟩
theorem Nu {q:kY} {s:qC} {tb mb:Nat} {wa ch:Int} (h:qe sb b q M s) (h0:0<=ch) (h1:ch<=1000000000000):zu zf 156 [ptr cb] M (vh cb sb tb mb wa ch::s.ob) (fun u M' o=>M.le M'/\o=vh cb sb tb mb (bq q:Nat) (ch+1)::s.ob):=by
 have cC:=Gt (cb:=cb) (tb:=tb) (mb:=mb) (wa:=wa) (ch:=ch+1) h;refine xy Tryz.func156 rfl Tryz.ntmps156 zd (fun F w M0 hF=>zz ?_)
 repeat' (refine nv ?_)
 refine xQ cC ?_;rintro u M2 _ zD-⟨-,rfl,rfl⟩;refine zJ ?_
 repeat' (refine nv ?_)
 exact ⟨_,vh cb sb tb mb (bq q:Nat) (ch+1)::s.ob,yH.nil rfl,zD,zh,zq,zD,rfl⟩
theorem tG {tb mb:Nat} {wa ch:Int}:zu zf 101 [ptr cb] M [vh cb sb tb mb wa ch] (fun u M' o=>u= .int .i64 wa/\M'=M/\o= [vh cb sb tb mb wa ch]):=by
 refine xy Tryz.func101 rfl Tryz.ntmps101 zd (fun F w M0 hF=>zz ?_)
 repeat' (refine nv ?_)
 exact ⟨_,[vh cb sb tb mb wa ch],zP,zE,zh,zq,rfl,rfl,rfl⟩
theorem tH {tb mb:Nat} {wa ch:Int}:zu zf 66 [ptr cb] M [vh cb sb tb mb wa ch] (fun u M' o=>u= .int .i64 ch/\M'=M/\o= [vh cb sb tb mb wa ch]):=by
 refine xy Tryz.func66 rfl Tryz.ntmps66 zd (fun F w M0 hF=>zz ?_)
 repeat' (refine nv ?_)
 exact ⟨_,[vh cb sb tb mb wa ch],zP,zE,zh,zq,rfl,rfl,rfl⟩
theorem Ds {tb mb:Nat} {wa ch:Int}:zu zf 46 [ptr cb] M [vh cb sb tb mb wa ch] (fun u M' o=>u=ptr sb/\M'=M/\o= [vh cb sb tb mb wa ch]):=by
 refine xy Tryz.func46 rfl Tryz.ntmps46 zd (fun F w M0 hF=>zz ?_)
 repeat' (refine nv ?_)
 exact ⟨_,[vh cb sb tb mb wa ch],zP,zE,zh,zq,rfl,rfl,rfl⟩
theorem rz (c:Co):uu c.ob [vh c.cb c.s.sb c.tb c.mb c.wa c.ch] (.vj (.map (some c.mb)) c.es::(c.s.ob++(xo c.tb c.tg c.tc c.T++c.hs.map (u4 c.cb)))):=⟨.refl _⟩
theorem RO (c:Co):uu c.ob (vh c.cb c.s.sb c.tb c.mb c.wa c.ch::c.s.ob) (.vj (.map (some c.mb)) c.es::(xo c.tb c.tg c.tc c.T++c.hs.map (u4 c.cb))):=⟨(aU (l₁:=c.s.ob)).symm.cons _⟩
theorem Xi (h:yO cb sb b p H M c):zu zf 46 [ptr cb] M c.ob (fun u M' o=>u=ptr sb/\M'=M/\o=c.ob):=by
 have:=Ds (cb:=c.cb) (sb:=c.s.sb) (tb:=c.tb) (mb:=c.mb) (wa:=c.wa) (ch:=c.ch) (M:=M);rw [h.cb,h.st.sb] at this;refine this.wide (by have:=rz c;rw [h.cb,h.st.sb] at this;exact this) zh ?_;rintro u M' o-⟨rfl,rfl,rfl⟩;exact ⟨c.ob,ji.perm (by have:=(rz c).h.symm;rw [h.cb,h.st.sb] at this;exact this),zh,rfl,rfl,rfl⟩
theorem Gw (h:yO cb sb b p H M c):zu zf 101 [ptr cb] M c.ob (fun u M' o=>u= .int .i64 p.wa/\M'=M/\o=c.ob):=by
 have:=tG (cb:=c.cb) (sb:=c.s.sb) (tb:=c.tb) (mb:=c.mb) (wa:=c.wa) (ch:=c.ch) (M:=M);rw [h.cb] at this;refine this.wide (by have:=rz c;rw [h.cb] at this;exact this) zh ?_;rintro u M' o-⟨rfl,rfl,rfl⟩;exact ⟨c.ob,ji.perm (by have:=(rz c).h.symm;rw [h.cb] at this;exact this),zh,by rw [h.wa],rfl,rfl⟩
theorem aG (h:yO cb sb b p H M c):zu zf 66 [ptr cb] M c.ob (fun u M' o=>u= .int .i64 p.ch/\M'=M/\o=c.ob):=by
 have:=tH (cb:=c.cb) (sb:=c.s.sb) (tb:=c.tb) (mb:=c.mb) (wa:=c.wa) (ch:=c.ch) (M:=M);rw [h.cb] at this;refine this.wide (by have:=rz c;rw [h.cb] at this;exact this) zh ?_;rintro u M' o-⟨rfl,rfl,rfl⟩;exact ⟨c.ob,ji.perm (by have:=(rz c).h.symm;rw [h.cb] at this;exact this),zh,by rw [h.ch],rfl,rfl⟩
theorem tJ (h:yO cb sb b p H M c) (h0:0<=p.ch) (h1:p.ch<=1000000000000):zu zf 156 [ptr cb] M c.ob (fun u M' o=>M.le M'/\True/\ ∃c':Co,o=c'.ob/\yO cb sb b {p with wa:=(bq p.q:Nat),ch:=p.ch+1} H M' c'):=by
 have:=Nu (cb:=c.cb) (tb:=c.tb) (mb:=c.mb) (wa:=c.wa) (ch:=c.ch) h.st (by rw [h.ch];exact h0) (by rw [h.ch];exact h1);rw [h.cb] at this;refine this.wide (by have:=RO c;rw [h.cb,h.st.sb] at this;exact this) zh ?_;rintro u M' o hle ⟨-,rfl⟩;refine ⟨({c with wa:=(bq p.q:Nat),ch:=c.ch+1}:Co).ob,?_,zh,hle,trivial,_,rfl,⟨h.cb,h.st.mono hle,h.tok,h.tab,rfl,by rw [<-h.ch],h.hs,h.ju⟩⟩;have:=(RO {c with wa:=(bq p.q:Nat),ch:=c.ch+1}).h.symm;dsimp only at this;rw [h.cb,h.st.sb] at this;rw [h.cb];exact ji.perm this
end
section
open Go Go.RowKit
attribute [local irreducible] Calls
theorem PG (hs:List AP) (th:Int):uZ (hs.map fun h=>(h.th,ptr h.hb)) th=(yU (hs.map fun h=>(h.th,h.hb)) th).map ptr:=by
 induction hs with
 |nil=>rfl
 |cons h hs ih=>
  rw [xw,xw,Zt];unfold yU at ih⊢;rw [GM];by_cases e:h.th=th
  · rw [zo e];simp [e]
  · rw [zn e,ih];simp [beq_eq_false_iff_ne.2 e]
theorem TU {es:List (Int×Value)} {n:Int} {u:Value} (h:uZ es n=none):V8 es n u=es++ [(n,u)]:=by
 induction es with
 |nil=>rfl
 |cons p es ih=>
  rw [Zt] at h;split at h
  · cases h
  · rename_i hp
    unfold V8;rw [zn hp,ih h];rfl
theorem Mn {H:List (Int×Nat)} {t th:Int} {x hb:Nat} (h:yU H t=some x):yU (H++ [(th,hb)]) t=some x:=by
 unfold yU at h⊢;rw [List.find?_append];cases hf:H.find? (fun p=>p.1==t) with
 |none=>rw [hf] at h;cases h
 |some e=>rw [hf] at h;exact h
theorem Mm {H:List (Int×Nat)} {th:Int} {hb:Nat} (h:yU H th=none):yU (H++ [(th,hb)]) th=some hb:=by
 unfold yU at h⊢;rw [List.find?_append];cases hf:H.find? (fun p=>p.1==th) with
 |none=>simp
 |some e=>rw [hf] at h;cases h
instance:ux zf 133:=zp
instance:kM zf 135 (.agg #[.pointer none, .pointer none, .map none, .int .i64 0, .int .i64 0]):=⟨Tryz.zeroValue135⟩
variable {cb sb:Nat} {b:Int} {p:jf} {H:List (Int×Nat)} {M:Mem} {c:Co}
theorem Gu {tb mb:Nat} {wa ch:Int} {es:List (Int×Value)} {th:Int} {hb:Nat} (h0:0<=th) (hl:uZ es th=some (ptr hb)):zu zf 65 [ptr cb, .int .i64 th] M [vh cb sb tb mb wa ch, .vj (.map (some mb)) es] (fun u M' o=>u=ptr hb/\M'=M/\o= [vh cb sb tb mb wa ch, .vj (.map (some mb)) es]):=by
 have d1:decide (th<0)=false:=z6 ze;have J5:(uZ es th).getD (.pointer none)=ptr hb:=by rw [hl];rfl
 refine xy Tryz.func65 rfl Tryz.ntmps65 zd (fun F w M0 hF=>zz ?_)
 repeat' (first|((apply zA);(exact qlk zd zd J5);rfl)|refine nv ?_)
 exact ⟨_,[vh cb sb tb mb wa ch, .vj (.map (some mb)) es],zP,zE,zh,zq,rfl,rfl,rfl⟩
theorem Gv {tb mb:Nat} {wa ch:Int} {es:List (Int×Value)} {th:Int} (h0:0<=th) (hl:uZ es th=none):zu zf 65 [ptr cb, .int .i64 th] M [vh cb sb tb mb wa ch, .vj (.map (some mb)) es] (fun u M' o=>M'=M/\ ∃hb:Nat,u=ptr hb/\o= [u4 cb ⟨th,hb,none,0⟩,vh cb sb tb mb wa ch, .vj (.map (some mb)) (es++ [(th,ptr hb)])]):=by
 have d1:decide (th<0)=false:=z6 ze;have J5:(uZ es th).getD (.pointer none)= .pointer none:=by rw [hl];rfl
 have hp: ∀u,V8 es th u=es++ [(th,u)]:=fun u=>TU hl
 have hl3: ∀u:Value,(uZ (es++ [(th,u)]) th).getD (.pointer none)=u:=fun u=>by rw [<-hp,d8,zo rfl];rfl
 refine xy Tryz.func65 rfl Tryz.ntmps65 zd (fun F w M0 hF=>zz ?_)
 repeat' (first|refine yZ zd zh fun hb=>?_|(refine agA zd zd zd ?_;rw [hp])|((apply zA);(exact qlk zd zd J5);rfl)|refine nv ?_)
 repeat' (first|((apply zA);(exact qlk zd zd (hl3 _));rfl)|refine nv ?_)
 exact ⟨_,[u4 cb ⟨th,hb,none,0⟩,vh cb sb tb mb wa ch, .vj (.map (some mb)) (es++ [(th,ptr hb)])],zP,zE,zh,zq,rfl,hb,rfl,rfl⟩
theorem RN (c:Co):uu c.ob [vh c.cb c.s.sb c.tb c.mb c.wa c.ch, .vj (.map (some c.mb)) c.es] (c.s.ob++(xo c.tb c.tg c.tc c.T++c.hs.map (u4 c.cb))):=⟨.refl _⟩
theorem agl {α:Type} (x a n:α) (S Tb A:List α):([x,a,n]++(S++(Tb++A))).Perm (a::n::(S++(Tb++(A++ [x])))):=by
 haveI:DecidableEq α:=fun a b=>Classical.propDecidable (a=b)
 rw [Kc];intro z;simp only [Yo,Ym,nE];omega
theorem dg (h:yO cb sb b p H M c) {th:Int} (h0:0<=th):zu zf 65 [ptr cb, .int .i64 th] M c.ob (fun u M' o=>M'=M/\ ∃(hb:Nat) (H':List (Int×Nat)) (c':Co),u=ptr hb/\yU H' th=some hb/\(∀t x,yU H t=some x->yU H' t=some x)/\o=c'.ob/\yO cb sb b p H' M c'):=by
 have hle:uZ c.es th=(yU H th).map ptr:=by unfold Co.es;rw [PG,h.hs]
 cases hl:yU H th with
 |some hb=>
  rw [hl] at hle;have:=Gu (cb:=c.cb) (sb:=c.s.sb) (tb:=c.tb) (mb:=c.mb) (wa:=c.wa) (ch:=c.ch) (M:=M) h0 hle;rw [h.cb] at this;refine this.wide (by have:=RN c;rw [h.cb] at this;exact this) zh ?_;rintro u M' o-⟨rfl,rfl,rfl⟩;exact ⟨c.ob,ji.perm (by have:=(RN c).h.symm;rw [h.cb] at this;exact this),zh,rfl,hb,H,c,rfl,hl,fun _ _ e=>e,rfl,h⟩
 |none=>
  rw [hl] at hle;have:=Gv (cb:=c.cb) (sb:=c.s.sb) (tb:=c.tb) (mb:=c.mb) (wa:=c.wa) (ch:=c.ch) (M:=M) h0 hle;rw [h.cb] at this;refine this.wide (by have:=RN c;rw [h.cb] at this;exact this) zh ?_;rintro u M' o-⟨rfl,hb,rfl,rfl⟩;refine ⟨({c with hs:=c.hs++ [⟨th,hb,none,0⟩]}:Co).ob,ji.perm ?_,zh,rfl,hb,H++ [(th,hb)],_,rfl,Mm hl,fun t x e=>Mn e,rfl,⟨h.cb,h.st,h.tok,h.tab,h.wa,h.ch,?_,fun y hy=>?_⟩⟩
  · unfold Co.ob;rw [show ({c with hs:=c.hs++ [⟨th,hb,none,0⟩]}:Co).es=c.es++ [(th,ptr hb)] by unfold Co.es;simp];dsimp only;rw [jo,h.cb];exact agl _ _ _ _ _ _
  · dsimp only;rw [jo,h.hs];rfl
  · rcases jH.1 hy with h1|h1
    · exact h.ju y h1
    · rw [jx.1 h1];exact ⟨k9 _,(show (0:Int)<=5000000 by decide)⟩
section
variable {P:Program} {w:World} {M0:Mem} {N:Nat} {own:List Ob} {env:Env}
theorem I8 (e:TypeId) (k:Nat) {x:Code} {Q:zX} (zV:yR env 0=true): ∀(n:Nat),VC P w M0 N x ⟨M,List.replicate n (.zC (.slice none 0 0) e k 0 [])++own,env⟩ Q->VC P w M0 N x ⟨M,own,env⟩ Q
 |0,h=>h
 |n+1,h=>I8 e k zV n (uU e k h zV)
end
def ot:qf:=⟨qY,[],0⟩
theorem Pt (n:Nat):lD n=(List.replicate n ot).flatMap wY:=by
 unfold lD;rw [List.flatMap_def,List.flatMap_def,List.map_const',fm,G8];rfl
theorem Tz {n:Nat} (h:n<=4096):gD (List.replicate n ot):=⟨by rw [m6];exact h,fun s hs=>by
 rw [m7 hs];exact ⟨ON.mono Kq,fun t ht=>(nomatch ht)⟩⟩
def aak (c:qn):jf:=⟨ags c,List.replicate c.kD.toNat ot,0,0⟩
theorem RX (n:Nat):j9 (List.replicate n ot)=List.replicate n ot:=by unfold j9;rw [G8];rfl
theorem agk {α:Type} (a r:α) (N X:List α):(N++(a::r::X)).Perm ((a::r::N)++X):=by
 haveI:DecidableEq α:=fun a b=>Classical.propDecidable (a=b)
 rw [Kc];intro z;simp only [Yo,Ym];omega
theorem MM {q:kY} {s:qC} (h:qe sb b q M s):zu zf 63 [ptr sb, .int .i64 0] M s.ob (fun u M' o=>M'=M/\ ∃(cb:Nat) (c:Co),u= .tuple #[ptr cb, .int .i64 0]/\o=c.ob/\yO cb sb b ⟨q,List.replicate q.c.kD.toNat ot,0,0⟩ [] M' c):=by
 have cC:=Zp h;have hc:=h.inv.c;have h1:=hc.s1;have h2:=hc.OR
 have cL:=zu.aah (zO:= []) (M:=M) (fun M' _=>Mv q.c.kD M') (fun v o hp=>by
  rcases hp with ⟨m,b,g,c,_,_,_,_,rfl⟩|⟨_,_,rfl⟩<;>infer_instance)
 refine xy Tryz.func63 rfl Tryz.ntmps63 zd (fun F w M0 hF=>zz ?_)
 repeat' (first|refine kV (x:= .region 3 _ _) (fun s'=> ∃(m tb tg tc:Nat),q.c.kD=(m:Int)/\vo s' ⟨M, .zK (ptr tb) 180 (a9 tg m tc):: .zC (.slice (some ⟨tg,0,none⟩) m tc) 259 2 m (lD m)::(s.ob++F),[(0, .v (ptr sb)),(1, .v (.int .i64 0)),(6, .v (ptr tb))]⟩) ?_ ?_|refine uK cC ?_|refine nv ?_)
 · refine xQ cL ?_;rintro _ M2 _- -⟨hM,⟨m,tb,tg,tc,hm,_,_,rfl,rfl⟩|⟨hx,_,_⟩⟩
   · subst hM;refine zJ ?_
     repeat' (refine nv ?_)
     exact ⟨rfl,m,tb,tg,tc,hm,xZ ka⟩
   · exact absurd hx ze
 · rintro s' ⟨m,tb,tg,tc,hm,hs⟩;refine x8 _ hs ?_;refine I8 3 1 zd m ?_
   have htb:xo tb tg tc (List.replicate m ot)= .zK (ptr tb) 180 (a9 tg m tc):: .zC (.slice (some ⟨tg,0,none⟩) m tc) 259 2 m (lD m)::List.replicate m (.zC (.slice none 0 0) 3 1 0 []):=by
    unfold xo;rw [m6,Pt,G8];rfl
   refine KE (xo tb tg tc (List.replicate m ot)++(s.ob++F)) ?_ (ji.perm ?_)
   · repeat' (first|refine kmk fun mb=>?_|refine yZ zd zh fun cb=>?_|refine nv ?_)
     have hmm:q.c.kD.toNat=m:=ze;rw [hmm];refine ⟨_,(⟨cb,tb,tg,tc,mb,s,List.replicate m ot,[],0,0⟩:Co).ob,kH,zE,zh,?_,rfl,cb,_,rfl,rfl,⟨rfl,h,Tz ze,RX m,rfl,rfl,rfl,fun y hy=>(nomatch hy)⟩⟩;unfold Co.ob Co.es;dsimp only;rw [h.sb,uo,uo,xR];exact zq (zw:=vh cb sb tb mb 0 0:: .vj (.map (some mb)) []::(s.ob++xo tb tg tc (List.replicate m ot)))
   · rw [htb];exact agk _ _ _ _
theorem MP (c:qn) (h:Oj c=false):zu zf 40 [c.av] M [] (fun u M' o=>M'=M/\u= .tuple #[.pointer none, .int .i64 2]/\o= []):=by
 have cN:=Ey c M h
 have cC:zu zf 63 [.pointer none, .int .i64 2] M [] (fun u M' o=>u= .tuple #[.pointer none, .int .i64 2]/\M'=M/\o= []):=by
  refine xy Tryz.func63 rfl Tryz.ntmps63 zd (fun F w M0 hF=>zz ?_)
  repeat' (refine nv ?_)
  exact ⟨_,[],kH,zE,zh,zq,rfl,rfl,rfl⟩
 refine xy Tryz.func40 rfl Tryz.ntmps40 zd (fun F w M0 hF=>zz ?_)
 repeat' (first|refine yZ zd zh fun bx=>?_|refine uK cN ?_|refine uK cC ?_|refine nv ?_)
 exact ⟨_,[],kH,zE,zh,zq,rfl,rfl,rfl⟩
theorem MN (c:qn) (h:Oj c=true):zu zf 40 [c.av] M [] (fun u M' o=>M.le M'/\ ∃(cb sb:Nat) (x:Co),u= .tuple #[ptr cb, .int .i64 0]/\o=x.ob/\yO cb sb 0 (aak c) [] M' x):=by
 have cN:=Ex c M h;refine xy Tryz.func40 rfl Tryz.ntmps40 zd (fun F w M0 hF=>zz ?_)
 repeat' (first|refine yZ zd zh fun bx=>?_|refine nv ?_)
 refine xQ cN ?_;rintro _ M2 _ zD-⟨-,sb,s,rfl,rfl,hS⟩;refine zJ ?_;have cC:=MM hS
 repeat' (refine nv ?_)
 refine xQ cC ?_;rintro _ M3 _- -⟨hM,cb,x,rfl,rfl,hx⟩;subst hM;refine zJ ?_
 repeat' (refine nv ?_)
 exact ⟨_,x.ob,kH,zD,zh,zq,zD,cb,sb,x,rfl,rfl,hx⟩
end
end Go.Proofs.YtaibdpjjojihmaaGreat
