/- A part of the proof of TopPrefix; no conditions. -/
import Derived.Test.YtaibdpjjojihmaaGreatPLr5
import Derived.Test.YtaibdpjjojihmaaGreatPSu5
set_option linter.unusedVariables false
set_option linter.unusedSimpArgs false
set_option maxRecDepth 20000
set_option maxHeartbeats 4000000
namespace Go.Proofs.YtaibdpjjojihmaaGreat
section
open Go Go.RowKit
attribute [local irreducible] Calls
section
variable {P:Program} {M:Mem} {own zO:List Ob}
theorem zu.look {f:FuncId} {args:List Value} {v:Value} (hn:jI zO) (hc: ∀(w:World) (M0:Mem) (hd:Nat->Value) (W:World),Wd w M0 hd M zO W->Calls P f args.toArray W fun e W'=>e= .returned v/\Below W.heap.size W W'):zu P f args M zO (fun u M' o=>u=v/\M'=M/\o=zO):=fun F hF w M0 hd W hW=>by
 obtain ⟨Zy,h1⟩:=hW.KJ (zw:=zO) ⟨F, .refl _⟩;refine (hc w M0 Zy W h1).mono fun e W' ⟨he,hb⟩=>⟨v,hd,zO,M,he,zE,hn,hW.idle hb,rfl,rfl,rfl⟩
theorem zu.agz {f:FuncId} {args:List Value} {e:TypeId} {k n:Nat} {cs:List Value} (hn:jI zO) (hc: ∀(w:World) (M0:Mem) (hd:Nat->Value) (W:World),Wd w M0 hd M zO W->Calls P f args.toArray W (uV e k n cs W)):zu P f args M zO (fun u M' o=>M'=M/\j2 u n/\o= .zC u e k n cs::zO):=fun F hF w M0 hd W hW=>by
 obtain ⟨Zy,h1⟩:=hW.KJ (zw:=zO) ⟨F, .refl _⟩;refine (hc w M0 Zy W h1).mono fun x W' lW=>?_
 obtain ⟨v,he,hb,w8⟩:=lW;have YC:=hW.below.size
 have ju:W'.ownsRow w.heap.size e k v n cs:=by
  refine ⟨w8.1,?_⟩;rcases w8.2 with h1|⟨g,cap,cur,h1,h2,h3⟩
  · exact .inl h1
  · exact .inr ⟨g,cap,cur,h1,ze,h3⟩
 have uM:=Wd.new (o':= .zC v e k n cs) (v':=v) hW (uO hb) ⟨rfl,ju⟩ (fun b Za=>by
  rcases w8.2 with ⟨h1,_⟩|⟨g,cap,cur,h1,h2,h3⟩
  · rw [h1] at Za;cases Za
  · rw [h1] at Za;obtain rfl:g=b:=by simpa [yX] using Za
    exact h2)
 obtain ⟨yE,h⟩:=uM.KJ (zw:= .zC v e k n cs::(zO++F)) (ji.perm uQ);exact ⟨v,yE, .zC v e k n cs::zO,M,he,zE,zh,h,rfl,uJ ju,rfl⟩
theorem zu.aah {f:FuncId} {args:List Value} {zO:List Ob} {zX:Value->List Ob->Prop} (hc: ∀M',M.le M'->uC P f args M' zO zX) (hn: ∀v o,zX v o->jI o):zu P f args M zO (fun v M' zw=>M'=M/\zX v zw):=fun F hF w M0 hd W hW=>by
 have JR:=sj zO F [];rw [Yn,Aj] at JR;obtain ⟨M',h1,h2,h3⟩:=it hW (QG zO.length 0) JR;refine (hc M' h1 w M0 _ W h2).mono fun e W' ⟨v,yE,zw,he,Zl,hp⟩=>?_
 have hL:(y8 (List.range' 0 zO.length) (zO++F)).length=zO.length+F.length:=by rw [qp,yK]
 refine ⟨v,_,zw,M,he,zE,hn v zw hp,(h3 yE zw W' Zl).rx (fun i=>if i<zw.length then zO.length+F.length+i else zO.length+(i-zw.length)) (fun i o hi=>?_) (fun i j hi hj h=>?_),rfl,hp⟩
 · by_cases hl:i<zw.length
   · rw [wE hl] at hi;simp only [zo hl];rw [kF ze,hL,JG];exact hi
   · simp only [zn hl];have z9:=(xI.1 hi).1;rw [yK] at z9;rw [kF ze] at hi;rw [wE ze,QV _ _ _ (fun hm=>by have:=AA.1 hm;omega),kF ze,JG];exact hi
 · rw [yK] at hi hj
   try dsimp only at h
   split at h<;>split at h<;>omega
end
instance jI.tab (b g c:Nat) (T:List qf):jI (xo b g c T):=⟨fun o ho=>by
 rcases jm.1 ho with rfl|ho
 · rfl
 rcases jm.1 ho with rfl|ho
 · rfl
 obtain ⟨s,_,rfl⟩:=uT.1 ho;rfl⟩
theorem sN {α β:Type} (f:α->β) (T:List α) {k:Nat} (hk:k<T.length) (x:α):((T.set k x).map f).Perm (f x::((T.take k).map f++(T.drop (k+1)).map f)):=by
 rw [aiz,zo hk,jo,xw];exact aU
theorem BB (b g c:Nat) (T:List qf) {k:Nat} (hk:k<T.length) (x:qf):(xo b g c (T.set k x)).Perm (wH b g c T.length ((T.set k x).flatMap wY) x.u x.yM++((T.take k).map UL++(T.drop (k+1)).map UL)):=by
 unfold xo wH;rw [xj];exact ((sN UL T hk x).cons _).cons _
theorem iO {f:FuncId} {vs:List Value} {b g c:Nat} {T:List qf} {r:Int×List Int×Int} {M:Mem} {k:Nat} (hk:k<T.length) (hc: ∀M',M.le M'->uC zf f vs M' (wH b g c T.length (T.flatMap wY) T[k].u T[k].yM) (nP b g c T.length k (T.flatMap wY) r)):
 zu zf f vs M (xo b g c T) (fun u M' o=>M'=M/\u= .int .i64 r.1/\ ∃u',j2 u' r.2.1.length/\o=xo b g c (T.set k ⟨u',r.2.1,r.2.2⟩)):=by
 have h1:=zu.aah hc (fun v o hp=>by obtain ⟨_,u',_,rfl⟩:=hp;unfold wH;infer_instance);have hp:=BB b g c T hk T[k];rw [IX] at hp;refine h1.wide (G:=(T.take k).map UL++(T.drop (k+1)).map UL) ⟨hp⟩ zh ?_;rintro u M' o-⟨rfl,rfl,u',hu,rfl⟩;refine ⟨xo b g c (T.set k ⟨u',r.2.1,r.2.2⟩),ji.perm ?_,zh,rfl,rfl,u',hu,rfl⟩;have:=(BB b g c T hk ⟨u',r.2.1,r.2.2⟩).symm;rw [ri T hk] at this;exact this
def slB (s:qf):qf:=⟨qY,s.yM,s.jg⟩
def j9 (T:List qf):List qf:=T.map slB
def vR (T:List qf) (i:Int):qf:=if bW i T.length=true then T.getD i.toNat ⟨qY,[],0⟩ else ⟨qY,[],0⟩
def mf (T:List qf) (th i:Int):Bool×Bool:=(bW i T.length&&decide (th∈(vR T i).yM),bW i T.length&&(decide (th∈(vR T i).yM)&&((vR T i).jg==2)))
def LH (T:List qf) (i:Int) (r:Int×List Int×Int):List qf:=T.set i.toNat ⟨qY,r.2.1,r.2.2⟩
def Ja (T:List qf) (th i hw:Int):List qf×Int:=if bW i T.length=true then (LH T i (Vy th (vR T i).yM (vR T i).jg hw),(Vy th (vR T i).yM (vR T i).jg hw).1) else (T,2)
def V7 (T:List qf) (th i:Int):List qf:=if bW i T.length=true then LH T i (Qv th (vR T i).yM (vR T i).jg) else T
def Qf (T:List qf) (th:Int):List qf:=T.map fun s=>⟨qY,(Qv th s.yM s.jg).2.1,(Qv th s.yM s.jg).2.2⟩
def gD (T:List qf):Prop:=T.length<=4096/\ ∀s∈T,DO 1000 s/\ ∀t∈s.yM,0<=t/\t<1000
theorem VO {i:Int} {n:Nat} (h:bW i n=true): ∃k:Nat,i=(k:Int)/\k<n:=by
 unfold bW at h;simp at h;exact ⟨i.toNat,ze,ze⟩
theorem FC {k n:Nat} (h:k<n):bW (k:Int) n=true:=by unfold bW;simp;omega
theorem sT {i:Int} {n:Nat} (h:bW i n=false):i<0\/(n:Int)<=i:=by
 unfold bW at h;rcases Q4 i 0 with h1|h1
 · exact .inl h1
 · rw [yk h1,XC] at h;have:=wc h;omega
theorem KQ {T:List qf} {k:Nat} (h:k<T.length):vR T (k:Int)=T[k]:=by
 unfold vR;rw [zo (FC h)];simp [List.getD,h]
theorem YO (T:List qf) (i:Int):(vR (j9 T) i).yM=(vR T i).yM/\(vR (j9 T) i).jg=(vR T i).jg:=by
 cases hb:bW i T.length with
 |false=>
  simp [vR,j9,hb]
 |true=>
  obtain ⟨k,rfl,hk⟩:=VO hb;rw [KQ hk,KQ (by unfold j9;rw [yo];exact hk)];simp [j9,slB]
theorem ZT (T:List qf):(j9 T).length=T.length:=yo _
theorem eE (T:List qf) (k:Nat) (u:Value) (r:Int×List Int×Int):j9 (T.set k ⟨u,r.2.1,r.2.2⟩)=LH (j9 T) (k:Int) r:=by
 unfold j9 LH;rw [aR,Yp];rfl
theorem abo {l:List Int} (h:Ht l) (hb: ∀t∈l,0<=t/\t<1000):l.length<=1000:=by
 have h1:=(tV l).1 h
 have key: ∀(l:List Int) (a:Int),l.Pairwise (· < ·)->(∀t∈l,a<=t/\t<1000)->(l.length:Int)<=1000-a\/l= []:=by
  intro l
  induction l with
  |nil=>intro a _ _;exact .inr rfl
  |cons x l ih=>
   intro a hp hm;left;obtain ⟨p1,p2⟩:=aY.1 hp;have hx:=hm x Yq;rcases ih (x+1) p2 (fun t ht=>⟨by have:=p1 t ht;omega,(hm t (XJ _ ht)).2⟩) with h|h
   · rw [xd];omega
   · rw [h];show ((1:Nat):Int)<=_;omega
 rcases key l 0 h1 hb with h2|h2
 · omega
 · rw [h2];exact zW _
theorem aap {l:List Int} {k t:Int} (h:t∈gN l k):t=k\/t∈l:=by
 unfold gN at h;rcases jH.1 h with h|h
 · exact .inr (wB h)
 · rcases jm.1 h with h|h
   · exact .inl h
   · exact .inr (dp h)
theorem si {T:List qf} (h:gD T) (k:Nat) {s:qf} (hs:DO 1000 s/\ ∀t∈s.yM,0<=t/\t<1000):gD (T.set k s):=⟨by rw [xj];exact h.1,HG h.2 hs⟩
theorem OF {s:qf} (h:DO 1000 s/\ ∀t∈s.yM,0<=t/\t<1000) (th hw:Int) (hh:hw=1\/hw=2) (ht:th<1000) (u':Value) (hu:j2 u' (Vy th s.yM s.jg hw).2.1.length):DO 1000 ⟨u',(Vy th s.yM s.jg hw).2.1,(Vy th s.yM s.jg hw).2.2⟩/\ ∀t∈(Vy th s.yM s.jg hw).2.1,0<=t/\t<1000:=by
 have hm: ∀t∈(Vy th s.yM s.jg hw).2.1,0<=t/\t<1000:=by
  unfold Vy;split
  · exact h.2
  · rename_i h1
    split
    · exact h.2
    · intro t ht';rcases aap ht' with rfl|h2
      · omega
      · exact h.2 t h2
 have h1:=HA h.1 th hw hh u' hu;exact ⟨⟨h1.1,h1.2.1,abo h1.2.1 hm,h1.2.2.2⟩,hm⟩
theorem ade {s:qf} (h:DO 1000 s/\ ∀t∈s.yM,0<=t/\t<1000) (th:Int) (u':Value) (hu:j2 u' (Qv th s.yM s.jg).2.1.length):DO 1000 ⟨u',(Qv th s.yM s.jg).2.1,(Qv th s.yM s.jg).2.2⟩/\ ∀t∈(Qv th s.yM s.jg).2.1,0<=t/\t<1000:=by
 refine ⟨ab1 h.1 th u' hu,?_⟩;unfold Qv;split
 · exact fun t ht=>h.2 t ((ZE.1 ht).1)
 · exact h.2
theorem mm (T:List qf) {k:Nat} (hk:k<T.length):(T.flatMap wY)[k*2]?=some T[k].u/\(T.flatMap wY)[k*2+1]?=some (.int .i64 T[k].jg)/\(T.flatMap wY).length=T.length*2:=by
 have h1:=vm (k:=2) (cells:=wY) T k 0 hk (fun _ _=>rfl) ze;have h2:=vm (k:=2) (cells:=wY) T k 1 hk (fun _ _=>rfl) ze;exact ⟨h1,h2,ki (cells:=wY) (k:=2) (fun _=>rfl) T⟩
theorem TB (b g c:Nat) (T:List qf) (th i:Int) (M:Mem) (h:gD T):zu zf 129 [.pointer (some ⟨b,0,none⟩), .int .i64 th, .int .i64 i] M (xo b g c T) (fun u M' o=>u= .tuple #[.bool (mf T th i).1, .bool (mf T th i).2]/\M'=M/\o=xo b g c T):=by
 refine zu.look zh fun w M0 hd W hW=>?_
 obtain ⟨g',c',m1,m2,m3⟩:=Ep (pre:= []) hW
 have hH:aiV (Mem.of W) b T.length i (vR T i).yM (vR T i).jg:=⟨g',c',m1,fun k hik hk=>by
  subst hik;rw [KQ hk];obtain ⟨b2,off,e1,uA⟩:=m2.get hk;injection e1 with e1;injection e1 with e2 e3;have q0:=uA 0 _ rfl;have q1:=uA 1 _ rfl;have Ec:off+k*2=0+k*2:=by first|omega|(subst e3;rfl)
  exact ⟨T[k].u,by rw [e2];simpa [<-e3] using q0,by rw [e2];simpa [<-e3] using q1,m3 _ (yD hk)⟩⟩
 have hs:Ht (vR T i).yM/\(vR T i).yM.length<=1000:=by
  cases hb:bW i T.length with
  |false=>unfold vR;rw [zn (by rw [hb];simp)];exact ⟨aeM,zW _⟩
  |true=>
   obtain ⟨k,rfl,hk⟩:=VO hb;rw [KQ hk];have:=(h.2 _ (yD hk)).1;exact ⟨this.2.1,this.2.2.1⟩
 have:=ec b T.length th i (vR T i).yM (vR T i).jg W (Mem.of W) (zE) hH hs.1 (by have:=h.1;omega) ze;exact this
end
section
open Go Go.RowKit
attribute [local irreducible] Calls
theorem Vz {T:List qf} {th hw:Int} {k:Nat} (hk:k<T.length):Ja (j9 T) th (k:Int) hw=(LH (j9 T) k (Vy th T[k].yM T[k].jg hw),(Vy th T[k].yM T[k].jg hw).1):=by
 unfold Ja;rw [zo (by rw [ZT];exact FC hk),(YO T _).1,(YO T _).2,KQ hk]
theorem QA {T:List qf} {th hw i:Int} (h:bW i T.length=false):Ja (j9 T) th i hw=(j9 T,2):=by
 unfold Ja;rw [zn (by rw [ZT,h];simp)]
theorem TO {T:List qf} {th:Int} {k:Nat} (hk:k<T.length):V7 (j9 T) th (k:Int)=LH (j9 T) k (Qv th T[k].yM T[k].jg):=by
 unfold V7;rw [zo (by rw [ZT];exact FC hk),(YO T _).1,(YO T _).2,KQ hk]
theorem OV {T:List qf} {th i:Int} (h:bW i T.length=false):V7 (j9 T) th i=j9 T:=by
 unfold V7;rw [zn (by rw [ZT,h];simp)]
theorem iP {f:FuncId} {vs:List Value} {b g c:Nat} {T:List qf} {M:Mem} {x:Value} (hc: ∀M',M.le M'->uC zf f vs M' [.zK (.pointer (some ⟨b,0,none⟩)) 180 (a9 g T.length c)] (fun v zw=>v=x/\zw= [.zK (.pointer (some ⟨b,0,none⟩)) 180 (a9 g T.length c)])):
 zu zf f vs M (xo b g c T) (fun u M' o=>M'=M/\u=x/\o=xo b g c T):=by
 refine (zu.aah hc (fun v o hp=>by obtain ⟨_,rfl⟩:=hp;infer_instance)).wide (G:= .zC (.slice (some ⟨g,0,none⟩) T.length c) 259 2 T.length (T.flatMap wY)::T.map UL) ⟨.refl _⟩ zh ?_;rintro u M' o-⟨rfl,rfl,rfl⟩;exact ⟨xo b g c T,ji.refl _,zh,rfl,rfl,rfl⟩
def DM (b g c:Nat) (T:List qf) (th i hw:Int) (M:Mem) (u:Value) (M':Mem) (o:List Ob):Prop:=M'=M/\u= .int .i64 (Ja (j9 T) th i hw).2/\ ∃T',gD T'/\j9 T'=(Ja (j9 T) th i hw).1/\o=xo b g c T'
theorem OI (b g c:Nat) (T:List qf) (th i:Int) (M:Mem) (h:gD T) (ht:th<1000):zu zf 130 [.pointer (some ⟨b,0,none⟩), .int .i64 th, .int .i64 i] M (xo b g c T) (DM b g c T th i 1 M):=by
 have hl:=h.1;cases hb:bW i T.length with
 |true=>
  obtain ⟨k,rfl,hk⟩:=VO hb;obtain ⟨f1,f2,f3⟩:=mm T hk;have hs:=h.2 _ (yD hk);refine (iO hk (fun M' _=>Fs b g c T.length k (T.flatMap wY) T[k].u T[k].yM th T[k].jg M' hk ze f1 f2 f3 hs.1.2.1 (by have:=hs.1.2.2.1;omega) hs.1.1)).mono ?_;rintro u M' o-⟨rfl,rfl,u',hu,rfl⟩;exact ⟨rfl,by rw [Vz hk],_,si h k (OF hs th 1 (.inl rfl) ht u' hu),by rw [eE,Vz hk],rfl⟩
 |false=>
  refine (iP (x:= .int .i64 2) (fun M' _=>CD b g c T.length th i M' (sT hb))).mono ?_;rintro u M' o-⟨rfl,rfl,rfl⟩;exact ⟨rfl,by rw [QA hb],T,h,by rw [QA hb],rfl⟩
theorem Ls (b g c:Nat) (T:List qf) (th i:Int) (M:Mem) (h:gD T) (ht:th<1000):zu zf 131 [.pointer (some ⟨b,0,none⟩), .int .i64 th, .int .i64 i] M (xo b g c T) (DM b g c T th i 2 M):=by
 have hl:=h.1;cases hb:bW i T.length with
 |true=>
  obtain ⟨k,rfl,hk⟩:=VO hb;obtain ⟨f1,f2,f3⟩:=mm T hk;have hs:=h.2 _ (yD hk);refine (iO hk (fun M' _=>CC b g c T.length k (T.flatMap wY) T[k].u T[k].yM th T[k].jg M' hk ze f1 f2 f3 hs.1.2.1 (by have:=hs.1.2.2.1;omega) hs.1.1)).mono ?_;rintro u M' o-⟨rfl,rfl,u',hu,rfl⟩;exact ⟨rfl,by rw [Vz hk],_,si h k (OF hs th 2 (.inr rfl) ht u' hu),by rw [eE,Vz hk],rfl⟩
 |false=>
  refine (iP (x:= .int .i64 2) (fun M' _=>sR b g c T.length th i M' (sT hb))).mono ?_;rintro u M' o-⟨rfl,rfl,rfl⟩;exact ⟨rfl,by rw [QA hb],T,h,by rw [QA hb],rfl⟩
theorem BC (b g c:Nat) (T:List qf) (th i:Int) (M:Mem) (h:gD T):zu zf 158 [.pointer (some ⟨b,0,none⟩), .int .i64 th, .int .i64 i] M (xo b g c T) (fun u M' o=>M'=M/\ ∃x T',u= .int .i64 x/\gD T'/\j9 T'=V7 (j9 T) th i/\o=xo b g c T'):=by
 have hl:=h.1;cases hb:bW i T.length with
 |true=>
  obtain ⟨k,rfl,hk⟩:=VO hb;obtain ⟨f1,f2,f3⟩:=mm T hk;have hs:=h.2 _ (yD hk);refine (iO hk (fun M' _=>Wz b g c T.length k (T.flatMap wY) T[k].u T[k].yM th T[k].jg M' hk ze f1 f2 f3 hs.1.2.1 (by have:=hs.1.2.2.1;omega) hs.1.1)).mono ?_;rintro u M' o-⟨rfl,rfl,u',hu,rfl⟩;exact ⟨rfl,_,_,rfl,si h k (ade hs th u' hu),by rw [eE,TO hk],rfl⟩
 |false=>
  refine (iP (x:= .int .i64 8) (fun M' _=>lR b g c T.length th i M' (sT hb) ze)).mono ?_;rintro u M' o-⟨rfl,rfl,rfl⟩;exact ⟨rfl,_,T,rfl,h,by rw [OV hb],rfl⟩
theorem BD (b g c:Nat) (T:List qf) (th:Int) (M:Mem) (h:gD T):zu zf 161 [.pointer (some ⟨b,0,none⟩), .int .i64 th] M (xo b g c T) (fun u M' o=>M'=M/\ ∃x T',u= .int .i64 x/\gD T'/\j9 T'=Qf (j9 T) th/\o=xo b g c T'):=by
 have hl:=h.1;refine (zu.aah (fun M' _=>Ft b g c 1000 T th M' ze ze (fun s hs=>(h.2 s hs).1)) (fun v o hp=>by obtain ⟨_,T',rfl,_⟩:=hp;infer_instance)).mono ?_;rintro u M' o-⟨rfl,rfl,T',rfl,hl',ju,Um⟩;have JS: ∀k (hk:k<T'.length) (Ul:k<T.length),(T'[k].yM,T'[k].jg)=(Qv th T[k].yM T[k].jg).2:=fun k hk Ul=>Um k _ _ (jA Ul) (jA hk)
 refine ⟨rfl,_,T',rfl,⟨ze,fun s hs=>⟨ju s hs,?_⟩⟩,?_,rfl⟩
 · obtain ⟨k,hk,rfl⟩:=IS.1 hs;have Ul:k<T.length:=ze;have:=z5 Prod.fst (JS k hk Ul);dsimp only at this;rw [this];unfold Qv;split
   · exact fun t ht=>(h.2 _ (yD Ul)).2 t (ZE.1 ht).1
   · exact (h.2 _ (yD Ul)).2
 · refine fj (by unfold Qf;rw [ZT,yo,ZT,hl']) fun k h1 h2=>?_
   have hk:k<T'.length:=by rw [ZT] at h1;exact h1
   have Ul:k<T.length:=ze;have e:=JS k hk Ul;simp only [j9,Qf,XD,slB];rw [<-e]
theorem L3 (p:Hn->Bool) (T:List qf) (h:gD T):(wu p T).length<=4096*1000:=by
 have h1:(wu p T).length<=(qX T T.length).length:=Ql _ _
 have h2: ∀k,k<=T.length->(qX T k).length<=k*1000:=by
  intro k
  induction k with
  |zero=>intro _;simp [qX]
  |succ k ih=>
   intro hk;rw [QQ ze,yK];have h3:=ih ze;have h4:(kf k T[k]).length<=1000:=by unfold kf;rw [yo];exact (h.2 _ (yD _)).1.2.2.1
   omega
 have h3:=h2 T.length (zN _);have h4:=h.1;omega
theorem ac8 (b g c:Nat) (T:List qf) (th:Int) (M:Mem) (h:gD T):zu zf 151 [.pointer (some ⟨b,0,none⟩), .int .i64 th] M (xo b g c T) (fun u M' o=>M'=M/\j2 u (wu (fun h=>h.zL==th) T).length/\o= .zC u 238 3 (wu (fun h=>h.zL==th) T).length ((wu (fun h=>h.zL==th) T).flatMap K5)::xo b g c T):=
 zu.agz zh fun w M0 hd W hW=>CE b T th W (Mem.of W) (zE) (Ep (pre:= []) hW) (by have:=h.1;omega) (fun s hs=>by have:=(h.2 s hs).1.2.2.1;omega)
end
section
open Go Go.RowKit
attribute [local irreducible] Calls
section
variable {P:Program} {w:World} {M0:Mem} {N:Nat} {dst:Option Tmp} {ty:TypeId} {pos:String} {z7:Array Edge} {g:Option (Nat×Bool)} {M:Mem} {own zO F:List Ob} {env:Env} {s:St}
theorem qmb {fn:Fn} {x:Operand} {u:Value} (hx:s.env.op x=some (.v u)):QS P w M0 N ⟨dst, .makeFunc fn #[x] #[],ty,pos,z7,g⟩ s (.v (.func fn #[u] #[])):=xH fun hd a W hR=>by
 have h1:=hR.2.eval hx;simp only [SV.den] at h1;simp [execOp,h1,SV.den,Instr.makeFunc]
theorem aeB {f:FuncId} {x:Operand} {u:Value} {xs:Array Operand} {qz:Array TypeId} {vs:List Value} [hf:zG P f] (hx:s.env.op x=some (.v (.func (.func f) #[u] #[]))) (hv:s.env.kP xs.toList=some vs):Ent P w M0 N ⟨dst, .call ⟨.value x,xs,qz⟩,ty,pos,z7,g⟩ s f (u::vs):=fun hd a W hR=>by
 have h1:=Env.ZG hR.2 _ _ hv;have h2:=hR.2.eval hx;simp only [SV.den] at h2;have e:(#[u]++xs.map a.eval++ #[]:Array Value)=(u::vs).toArray:=by rw [<-h1];cases xs;simp
 simp only [execOp,resolve,h2,Deferred.ofValue,yz,xM,xh,invoke,Je hf.h,e]
theorem kcb {f:FuncId} {u:Value} {vs:List Value} {R:Value->Mem->List Ob->Prop} {ops:Array Oper} {l:List Oper} {Q:zX} {x:Operand} {xs:Array Operand} {qz:Array TypeId} [hf:zG P f] (hc:zu P f (u::vs) M zO R) (hx:env.op x=some (.v (.func (.func f) #[u] #[])))
 (hk: ∀v M' o,M.le M'->jI o->R v M' o->VL P w M0 N ops l ⟨M',o++F,env.put dst (.v v)⟩ Q) (hv:env.kP xs.toList=some vs:=by rfl) (ht:uu own zO F:=by infer_instance) (hn:jI own:=by infer_instance) (hd:yi N dst=true:=by rfl) (zV:yR env 0=true:=by rfl):
 VL P w M0 N ops (⟨dst, .call ⟨.value x,xs,qz⟩,ty,pos,z7,none⟩::l) ⟨M,own,env⟩ Q:=nL (aeB (s:=⟨M,own,env⟩) hx hv) hc ht hn hd zV hk
end
structure AP where
 th:Int
 hb:Nat
 want:Option Addr
 xU:Int
abbrev u4 (cb:Nat) (h:AP):Ob:= .zK (ptr h.hb) 160 [ptr cb, .int .i64 h.th, .pointer h.want, .int .i64 h.xU]
abbrev vh (cb sb tb mb:Nat) (wa ch:Int):Ob:= .zK (ptr cb) 135 [ptr sb,ptr tb, .map (some mb), .int .i64 wa, .int .i64 ch]
def Zz (cb sb tb mb:Nat) (wa ch:Int) (tg tc:Nat) (x:AP) (T:List qf):List Ob:=u4 cb x::vh cb sb tb mb wa ch::xo tb tg tc T
instance (cb sb tb mb:Nat) (wa ch:Int) (tg tc:Nat) (x:AP) (T:List qf):jI (Zz cb sb tb mb wa ch tg tc x T):=by unfold Zz;infer_instance
variable {cb sb tb mb tg tc:Nat} {wa ch:Int}
theorem Gb (x:AP) (T:List qf) (M:Mem) (h:gD T):zu zf 132 [ptr x.hb] M (Zz cb sb tb mb wa ch tg tc x T) (fun u M' o=>M'=M/\j2 u (wu (fun h=>h.zL==x.th) T).length/\o= .zC u 238 3 (wu (fun h=>h.zL==x.th) T).length ((wu (fun h=>h.zL==x.th) T).flatMap K5)::Zz cb sb tb mb wa ch tg tc x T):=by
 have cO:=ac8 tb tg tc T x.th M h;unfold Zz;generalize wu (fun h=>h.zL==x.th) T=L at*;obtain ⟨th,hb,want,xU⟩:=x;dsimp only at*;refine xy Tryz.func132 rfl Tryz.ntmps132 zd (fun F w M0 hF=>zz ?_)
 repeat' (first|refine zU [] [11,12] [] 1 yI zd zd ?_|refine nv ?_)
 repeat' (refine nu ?_)
 refine xF cO rfl ?_ zx;rintro u M2 _- -⟨hM,hu,rfl⟩;subst hM;refine yJ ?_
 repeat' (first|refine nu ?_|exact zx|refine nz ?_ ?_)
 repeat' (refine nv ?_)
 exact ⟨_,_,zP,zE,zh,zq (zw:= .zC u 238 3 L.length (L.flatMap K5)::u4 cb ⟨th,hb,want,xU⟩::vh cb sb tb mb wa ch::xo tb tg tc T),rfl,hu,rfl⟩
end
section
open Go Go.RowKit
attribute [local irreducible] Calls
def kC (T:List qf) (th i:Int) (wr:Bool):List qf×Bool:=
 if (!(mf T th i).1||(wr&&!(mf T th i).2))=true then ((Ja T th i (if wr=true then 2 else 1)).1,(Ja T th i (if wr=true then 2 else 1)).2==0) else (T,true)
theorem MY (T:List qf) (th i:Int):mf (j9 T) th i=mf T th i:=by
 unfold mf;rw [(YO T i).1,(YO T i).2,ZT]
variable {cb sb tb mb tg tc:Nat} {wa ch:Int}
def DX (x:AP):Prop:=0<=x.xU/\x.xU<=5000000
theorem MZ (x:AP) (T:List qf) (i:Int) (wr:Bool) (M:Mem) (h:gD T) (ht:x.th<1000) (hx:DX x):zu zf 117 [ptr x.hb, .int .i64 i, .bool wr] M (Zz cb sb tb mb wa ch tg tc x T) (fun u M' o=>M'=M/\u= .bool (kC (j9 T) x.th i wr).2/\ ∃(x':AP) (T':List qf),x'.th=x.th/\x'.hb=x.hb/\DX x'/\gD T'/\j9 T'=(kC (j9 T) x.th i wr).1/\o=Zz cb sb tb mb wa ch tg tc x' T'):=by
 have cH:=TB tb tg tc T x.th i M h;have cRd:=OI tb tg tc T x.th i M h ht;have cWr:=Ls tb tg tc T x.th i M h ht;have cO:=fun (T':List qf) (want:Option Addr) (h':gD T')=>Gb (cb:=cb) (sb:=sb) (tb:=tb) (mb:=mb) (wa:=wa) (ch:=ch) (tg:=tg) (tc:=tc) ⟨x.th,x.hb,want,x.xU⟩ T' M h'
 have FM:=fun (T':List qf) (h':gD T')=>L3 (fun h=>h.zL==x.th) T' h'
 unfold kC;rw [MY];obtain ⟨nd,bg⟩: ∃nd:Bool,(!(mf T x.th i).1||(wr&&!(mf T x.th i).2))=nd:=⟨_,rfl⟩;rw [bg];generalize mf T x.th i=hq at*;obtain ⟨q1,q2⟩:=hq;dsimp only at bg cH;unfold Zz at*;obtain ⟨th,hb,want,xU⟩:=x;dsimp only at*;obtain ⟨hm0,Rc⟩:=hx;dsimp only at hm0 Rc;have aot: ∀(T':List qf),gD T'->True:=fun _ _=>trivial
 refine xy (args:= [ptr hb, .int .i64 i, .bool wr]) (zO:=u4 cb ⟨th,hb,want,xU⟩::vh cb sb tb mb wa ch::xo tb tg tc T) Tryz.func117 rfl Tryz.ntmps117 zd (fun F w M0 hF=>zz ?_)
 repeat' (first|refine zU [] [12,13,14,15,16,17] [] 1 yI zd zd ?_|refine kV (x:= .region 3 _ _) (fun s'=>vo s' ⟨M,u4 cb ⟨th,hb,want,xU⟩::vh cb sb tb mb wa ch::(xo tb tg tc T++F),[(0, .v (ptr hb)),(1, .v (.int .i64 i)),(2, .v (.bool wr)),(7, .v (.bool q1)),(8, .v (.bool q2))]⟩) ?_ ?_|refine nv ?_)
 · repeat' (first|refine YG cH rfl ?_ zx|refine nu ?_|exact zx|refine nz ?_ ?_)
   all_goals exact ⟨rfl,xZ kX⟩
 · rintro s' hs;refine x8 _ hs ?_;clear hs s'
   repeat' (first|refine kV (x:= .region 4 _ _) (fun s'=>vo s' ⟨M,u4 cb ⟨th,hb,want,xU⟩::vh cb sb tb mb wa ch::(xo tb tg tc T++F),[(0, .v (ptr hb)),(1, .v (.int .i64 i)),(2, .v (.bool wr)),(36, .v (.bool nd))]⟩) ?_ ?_|refine nv ?_)
   · cases q1
     all_goals cases q2
     all_goals cases wr
     all_goals
      subst bg
      repeat' (refine nv ?_)
      exact ⟨rfl,xZ jY⟩
   · rintro s' hs;refine x8 _ hs ?_;clear hs s';cases ahj:nd with
     |false=>
      subst ahj;rw [zn yx];have cO2:=cO T none h;have aha:=FM T h;generalize wu (fun h=>h.zL==th) T=L at*
      repeat' (first|refine zU [.v (ptr hb)] [6,7,8,11] [11] 5 yI zd zd ?_|refine nv ?_)
      repeat' (refine nu ?_)
      refine xF cO2 rfl ?_ zx;rintro u M2 _- -⟨hM,hu,rfl⟩;subst hM;refine yJ ?_;obtain ⟨Au,cu,rfl⟩:=hu.sl
      repeat' (first|refine Vt zd (by exact Y4 (by exact fE zd zd (fun W=>eM W _ _ _ _ _ _))) zd ?_ ?_|refine nu ?_|exact zx|refine nz ?_ ?_)
      repeat' (refine nv ?_)
      refine ⟨_,Zz cb sb tb mb wa ch tg tc ⟨th,hb,none,if (L.length:Int)>xU then (L.length:Int) else xU⟩ T,zP,zE,zh,?_,rfl,rfl,⟨th,hb,none,if (L.length:Int)>xU then (L.length:Int) else xU⟩,T,rfl,rfl,⟨?_,?_⟩,h,rfl,rfl⟩
      · unfold Zz;exact zq
      · dsimp only;split<;>omega
      · dsimp only;split<;>omega
     |true=>
      subst ahj;rw [zo rfl];cases wr with
      |true=>
       rw [show (if (true:Bool)=true then (2:Int) else 1)=2 from rfl]
       repeat' (first|((apply zA);(exact qmb zd);rfl)|refine nv ?_)
       refine kcb cWr zd ?_;rintro _ M2 _- -⟨hM,rfl,T',hT',hbT,rfl⟩;subst hM;refine zJ ?_;rw [<-hbT];generalize (Ja (j9 T) th i 2).2=r2 at*;cases hr:(r2 !=0) with
       |true=>
        have KL:(r2==0)=false:=beq_eq_false_iff_ne.2 (bne_iff_ne.1 hr)
        repeat' (first|refine yZ zd zh fun wb=>?_|refine nv ?_)
        rw [KL];exact ⟨_,Zz cb sb tb mb wa ch tg tc ⟨th,hb,some ⟨wb,0,none⟩,xU⟩ T',zP,zE,zh,by unfold Zz;exact zq,rfl,rfl,⟨th,hb,some ⟨wb,0,none⟩,xU⟩,T',rfl,rfl,⟨hm0,Rc⟩,hT',rfl,rfl⟩
       |false=>
        have KL:(r2==0)=true:=beq_iff_eq.2 (bne_eq_false_iff_eq.1 hr);rw [KL];have cO2:=cO T' none hT';have aha:=FM T' hT';generalize wu (fun h=>h.zL==th) T'=L at*
        repeat' (first|refine zU [.v (ptr hb)] [6,7,8,11] [11] 5 yI zd zd ?_|refine nv ?_)
        repeat' (refine nu ?_)
        refine xF cO2 rfl ?_ zx;rintro u M2 _- -⟨hM,hu,rfl⟩;subst hM;refine yJ ?_;obtain ⟨Au,cu,rfl⟩:=hu.sl
        repeat' (first|refine Vt zd (by exact Y4 (by exact fE zd zd (fun W=>eM W _ _ _ _ _ _))) zd ?_ ?_|refine nu ?_|exact zx|refine nz ?_ ?_)
        repeat' (refine nv ?_)
        refine ⟨_,Zz cb sb tb mb wa ch tg tc ⟨th,hb,none,if (L.length:Int)>xU then (L.length:Int) else xU⟩ T',zP,zE,zh,?_,rfl,rfl,⟨th,hb,none,if (L.length:Int)>xU then (L.length:Int) else xU⟩,T',rfl,rfl,⟨?_,?_⟩,hT',rfl,rfl⟩
        · unfold Zz;exact zq
        · dsimp only;split<;>omega
        · dsimp only;split<;>omega
      |false=>
       rw [show (if (false:Bool)=true then (2:Int) else 1)=1 from rfl]
       repeat' (first|((apply zA);(exact qmb zd);rfl)|refine nv ?_)
       refine kcb cRd zd ?_;rintro _ M2 _- -⟨hM,rfl,T',hT',hbT,rfl⟩;subst hM;refine zJ ?_;rw [<-hbT];generalize (Ja (j9 T) th i 1).2=r2 at*;cases hr:(r2 !=0) with
       |true=>
        have KL:(r2==0)=false:=beq_eq_false_iff_ne.2 (bne_iff_ne.1 hr)
        repeat' (first|refine yZ zd zh fun wb=>?_|refine nv ?_)
        rw [KL];exact ⟨_,Zz cb sb tb mb wa ch tg tc ⟨th,hb,some ⟨wb,0,none⟩,xU⟩ T',zP,zE,zh,by unfold Zz;exact zq,rfl,rfl,⟨th,hb,some ⟨wb,0,none⟩,xU⟩,T',rfl,rfl,⟨hm0,Rc⟩,hT',rfl,rfl⟩
       |false=>
        have KL:(r2==0)=true:=beq_iff_eq.2 (bne_eq_false_iff_eq.1 hr);rw [KL];have cO2:=cO T' none hT';have aha:=FM T' hT';generalize wu (fun h=>h.zL==th) T'=L at*
        repeat' (first|refine zU [.v (ptr hb)] [6,7,8,11] [11] 5 yI zd zd ?_|refine nv ?_)
        repeat' (refine nu ?_)
        refine xF cO2 rfl ?_ zx;rintro u M2 _- -⟨hM,hu,rfl⟩;subst hM;refine yJ ?_;obtain ⟨Au,cu,rfl⟩:=hu.sl
        repeat' (first|refine Vt zd (by exact Y4 (by exact fE zd zd (fun W=>eM W _ _ _ _ _ _))) zd ?_ ?_|refine nu ?_|exact zx|refine nz ?_ ?_)
        repeat' (refine nv ?_)
        refine ⟨_,Zz cb sb tb mb wa ch tg tc ⟨th,hb,none,if (L.length:Int)>xU then (L.length:Int) else xU⟩ T',zP,zE,zh,?_,rfl,rfl,⟨th,hb,none,if (L.length:Int)>xU then (L.length:Int) else xU⟩,T',rfl,rfl,⟨?_,?_⟩,hT',rfl,rfl⟩
        · unfold Zz;exact zq
        · dsimp only;split<;>omega
        · dsimp only;split<;>omega
theorem Ru (x:AP) (T:List qf) (i:Int) (M:Mem) (h:gD T):zu zf 138 [ptr x.hb, .int .i64 i] M (Zz cb sb tb mb wa ch tg tc x T) (fun u M' o=>M'=M/\ ∃T':List qf,gD T'/\j9 T'=V7 (j9 T) x.th i/\o=Zz cb sb tb mb wa ch tg tc x T'):=by
 have cR:=BC tb tg tc T x.th i M h;unfold Zz;obtain ⟨th,hb,want,xU⟩:=x;dsimp only at*;refine xy (args:= [ptr hb, .int .i64 i]) (zO:=u4 cb ⟨th,hb,want,xU⟩::vh cb sb tb mb wa ch::xo tb tg tc T) Tryz.func138 rfl Tryz.ntmps138 zd (fun F w M0 hF=>zz ?_)
 repeat' (first|refine zU [.l (xo tb tg tc T)] [12] [12] 1 yI zd zd ?_|refine nv ?_)
 repeat' (refine nu ?_)
 refine xF cR rfl ?_ zx;rintro u M2 _- -⟨hM,z,T',rfl,hT,Za,rfl⟩;subst hM;refine yJ ?_
 repeat' (refine nu ?_)
 skip
 exact ⟨_,u4 cb ⟨th,hb,want,xU⟩::vh cb sb tb mb wa ch::xo tb tg tc T',yH.nil rfl,zE,zh,zq,rfl,T',hT,Za,rfl⟩
theorem C8 (x:AP) (T:List qf) (M:Mem) (h:gD T):zu zf 140 [ptr x.hb] M (Zz cb sb tb mb wa ch tg tc x T) (fun u M' o=>M'=M/\ ∃T':List qf,gD T'/\j9 T'=Qf (j9 T) x.th/\o=Zz cb sb tb mb wa ch tg tc {x with want:=none} T'):=by
 have cR:=BD tb tg tc T x.th M h;unfold Zz;obtain ⟨th,hb,want,xU⟩:=x;dsimp only at*;refine xy (args:= [ptr hb]) (zO:=u4 cb ⟨th,hb,want,xU⟩::vh cb sb tb mb wa ch::xo tb tg tc T) Tryz.func140 rfl Tryz.ntmps140 zd (fun F w M0 hF=>zz ?_)
 repeat' (first|refine zU [.l (xo tb tg tc T)] [11] [11] 1 yI zd zd ?_|refine nv ?_)
 repeat' (refine nu ?_)
 refine xF cR rfl ?_ zx;rintro u M2 _- -⟨hM,z,T',rfl,hT,Za,rfl⟩;subst hM;refine yJ ?_
 repeat' (refine nu ?_)
 repeat' (refine nv ?_)
 exact ⟨_,u4 cb ⟨th,hb,none,xU⟩::vh cb sb tb mb wa ch::xo tb tg tc T',yH.nil rfl,zE,zh,zq,rfl,T',hT,Za,rfl⟩
end
end Go.Proofs.YtaibdpjjojihmaaGreat
