/- A part of the proof of TopPrefix; no conditions. -/
import Derived.Test.YtaibdpjjojihmaaGreatPLt7
set_option linter.unusedVariables false
set_option linter.unusedSimpArgs false
set_option maxRecDepth 20000
set_option maxHeartbeats 4000000
namespace Go.Proofs.YtaibdpjjojihmaaGreat
section
open Go Go.RowKit
attribute [local irreducible] Calls
structure Hn where
 zL:Int
 slot:Int
 write:Bool
abbrev K5 (h:Hn):List Value:= [.int .i64 h.zL, .int .i64 h.slot, .bool h.write]
abbrev aci (h:Hn):Value:= .agg #[.int .i64 h.zL, .int .i64 h.slot, .bool h.write]
def kf (k:Nat) (s:qf):List Hn:=s.yM.map fun t=>⟨t,k,s.jg==2⟩
def qX (T:List qf) (k:Nat):List Hn:=(List.range k).flatMap fun i=>match T[i]? with|some s=>kf i s|none=> []
theorem QQ {T:List qf} {k:Nat} (h:k<T.length):qX T (k+1)=qX T k++kf k T[k]:=by
 unfold qX;rw [nF,JF];simp [h]
def wu (p:Hn->Bool) (T:List qf):List Hn:=(qX T T.length).filter p
theorem Fq (f:FuncId) [hf:zG zf f] (k8:Array Value) (p:Hn->Bool) (b:Nat) (T:List qf) (w:World) (M:Mem) (hM:M.le (Mem.of w)) (h:NV M b T) (hn:T.length<=10000) (D8: ∀s∈T,s.yM.length<=10000)
 (hp: ∀x W,M.le (Mem.of W)->Calls zf f (#[aci x]++k8) W fun e w'=>e= .returned (.bool (p x))/\Below W.heap.size W w'):
 Calls zf 178 #[.pointer (some ⟨b,0,none⟩), .func (.func f) #[] k8] w (uV 238 3 (wu p T).length ((wu p T).flatMap K5) w):=by
 obtain ⟨g,c,hc,hs,hw⟩:=h;have hnp:(some (⟨b,0,none⟩:Addr)).isNone=false:=rfl;refine aZ (args:= [.pointer (some ⟨b,0,none⟩), .func (.func f) #[] k8]) (M:=M) Tryz.func178 rfl Tryz.ntmps178 zd hM rfl ?_;refine KD ?_;refine Y0 ?_;apply zA
 · exact qas zd
 · rfl
 refine a6 ?_;refine KD ?_;refine Y0 ?_;apply zA
 · exact qas zd
 · rfl
 refine a6 ?_;refine iI 5 238 3 zd zd ?_
 repeat' (first|((apply zA);(first|exact yN zd zd uz|exact Uu zd|exact zY zd hc);rfl)|refine vw ?_)
 have am: ∀k,k<=T.length->(qX T k).length<=k*10000:=fun k=>by
  induction k with
  |zero=>intro _;simp [qX]
  |succ k ih=>
   intro hk;rw [QQ ze,yK];have:=ih ze;have h2:=D8 T[k] (yD ze);unfold kf;rw [yo];omega
 have gT: ∀l:List Hn,(l.filter p).length<=l.length:=fun l=>Ql _ _
 refine kU (fun k:Nat=>⟨M,[.row 238 3 ((qX T k).filter p).length (((qX T k).filter p).flatMap K5)],[(1, .v (.func (.func f) #[] k8)),(5, .r 0),(16, .v (.slice (some ⟨g,0,none⟩) T.length c)),(17, .v (.int .i64 T.length)),(18, .v (.int .i64 k))]⟩) (fun k=>k<=T.length) (fun k=>T.length-k) [0] 0 ⟨rfl,rfl,xc,kX⟩ ze ?_;intro k hk;rcases yq k T.length with z9|ql
 · have hd:=Xp z9;obtain ⟨_,_,he,jk⟩:=hs.get z9;injection he with he;injection he with Iq p7;subst Iq p7;have kt:=QQ z9;have ap:=am k ze;have hsw:=hw T[k] (yD z9);have hwk:=D8 T[k] (yD z9);have Tm:k*10000<=100000000:=ze;have kJ:=gT (qX T k);obtain ⟨A,cu,hu,_,_,_⟩:=id hsw;generalize alK:(qX T k).filter p=UC at*
   have w9: ∀q,(kf k T[k]).take q=(T[k].yM.take q).map fun t=>(⟨t,k,T[k].jg==2⟩:Hn):=fun q=>by
    unfold kf;rw [eX]
   generalize hTk:T[k]=s at*;obtain ⟨u,yM,jg⟩:=s;dsimp only at*;subst hu
   repeat' (first|((apply zA);(first|exact zj (k) zd zd ze ze|exact zZ _ zd jk _ zd);rfl)|refine vw ?_)
   refine kU (fun q:Nat=>⟨M,[.row 238 3 (UC++((kf k ⟨.slice A yM.length cu,yM,jg⟩).take q).filter p).length ((UC++((kf k ⟨.slice A yM.length cu,yM,jg⟩).take q).filter p).flatMap K5), .qZ 259 [.slice A yM.length cu, .int .i64 jg]],[(1, .v (.func (.func f) #[] k8)),(5, .r 0),(6, .v (.int .i64 k)),(7, .p 1 0),(16, .v (.slice (some ⟨g,0,none⟩) T.length c)),(17, .v (.int .i64 T.length)),(18, .v (.int .i64 k)),(24, .v (.slice A yM.length cu)),(25, .v (.int .i64 yM.length)),(26, .v (.int .i64 q))]⟩) (fun q=>q<=yM.length) (fun q=>yM.length-q) [0,1] 0 ⟨rfl,rfl,⟨by simp,rfl,trivial⟩,⟨rfl,rfl,rfl,rfl,rfl,rfl,rfl,rfl,rfl,rfl,trivial⟩⟩ ze ?_;intro q hq;rcases yq q yM.length with Eb|hqg
   · have uN:=Xp Eb;obtain ⟨b3,Cm,rfl,iA⟩:=hsw.get Eb
     have Ii:(kf k ⟨.slice (some ⟨b3,Cm,none⟩) yM.length cu,yM,jg⟩).take (q+1)=(kf k ⟨.slice (some ⟨b3,Cm,none⟩) yM.length cu,yM,jg⟩).take q++ [⟨yM[q],k,jg==2⟩]:=by
      rw [w9,w9,vF Eb,jo];rfl
     have hlq:(((kf k ⟨.slice (some ⟨b3,Cm,none⟩) yM.length cu,yM,jg⟩).take q).filter p).length<=10000:=by
      have h1:=gT ((kf k ⟨.slice (some ⟨b3,Cm,none⟩) yM.length cu,yM,jg⟩).take q);rw [w9,yo,yC] at h1;rw [w9];omega
     have Rv:(UC++((kf k ⟨.slice (some ⟨b3,Cm,none⟩) yM.length cu,yM,jg⟩).take q).filter p).length<=200000000:=by rw [yK];omega
     have cP:=hp ⟨yM[q],k,jg==2⟩
     have w7:UC++((kf k ⟨.slice (some ⟨b3,Cm,none⟩) yM.length cu,yM,jg⟩).take (q+1)).filter p=(UC++((kf k ⟨.slice (some ⟨b3,Cm,none⟩) yM.length cu,yM,jg⟩).take q).filter p)++(if p ⟨yM[q],k,jg==2⟩=true then [⟨yM[q],k,jg==2⟩] else []):=by
      rw [Ii,aX,xY];simp [ff]
     generalize UC++((kf k ⟨.slice (some ⟨b3,Cm,none⟩) yM.length cu,yM,jg⟩).take q).filter p=row at*;cases iw:p ⟨yM[q],k,jg==2⟩ with
     |true=>
      rw [iw] at cP;rw [iw,zo rfl] at w7
      repeat' (first|((apply zA);(first|exact zj (q) zd zd ze ze|exact zY zd (iA 0 _ zd)|exact kA zd zd (fun W hW=>cP W hW));rfl)|refine vw ?_)
      refine yL (Q:=fun _ _=>True) [4,1] (q+1) ⟨rfl,rfl,⟨?_,rfl,trivial⟩,⟨rfl,rfl,rfl,rfl,rfl,rfl,rfl,rfl,rfl,rfl,trivial⟩⟩ ze ze;show some (Ob.row _ 3 (row.length+1) (row.flatMap K5++_))=some (Ob.row _ 3 (UC++_).length ((UC++_).flatMap K5));rw [w7,yK,JF];rfl
     |false=>
      rw [iw] at cP;rw [iw,zn yx,xR] at w7
      repeat' (first|((apply zA);(first|exact zj (q) zd zd ze ze|exact zY zd (iA 0 _ zd)|exact kA zd zd (fun W hW=>cP W hW));rfl)|refine vw ?_)
      refine yL (Q:=fun _ _=>True) [0,1] (q+1) ⟨rfl,rfl,⟨?_,rfl,trivial⟩,⟨rfl,rfl,rfl,rfl,rfl,rfl,rfl,rfl,rfl,rfl,trivial⟩⟩ ze ze;show some (Ob.row _ 3 row.length (row.flatMap K5))=some (Ob.row _ 3 (UC++_).length ((UC++_).flatMap K5));rw [w7]
   · have uN:=Xq hqg;obtain rfl:q=yM.length:=ze
     repeat' (refine vw ?_)
     refine yL (Q:=fun _ _=>True) [0] (k+1) ⟨rfl,rfl,⟨?_,trivial⟩,kX⟩ ze ze;have:(kf k ⟨.slice A yM.length cu,yM,jg⟩).take yM.length=kf k ⟨.slice A yM.length cu,yM,jg⟩:=wD (by unfold kf;simp);show some (Ob.row _ 3 (UC++((kf k ⟨.slice A yM.length cu,yM,jg⟩).take yM.length).filter p).length _)=some (Ob.row _ 3 ((qX T (k+1)).filter p).length (((qX T (k+1)).filter p).flatMap K5));rw [kt,aX,alK,this]
 · have hd:=Xq ql;obtain rfl:k=T.length:=ze
   repeat' (refine vw ?_)
   exact .inl ⟨0,rfl,rfl⟩
theorem NV.mono {M M':Mem} {b:Nat} {T:List qf} (h:NV M b T) (hm:M.le M'):NV M' b T:=by
 obtain ⟨g,c,h1,h2,h3⟩:=h;exact ⟨g,c,hm.cell h1,h2.mono hm,fun s hs=>(h3 s hs).mono hm⟩
theorem agr (x:Hn) (t:Int) (b:Nat) (w:World) (M:Mem) (hM:M.le (Mem.of w)) (hb:M.cell b 0=some (.int .i64 t)):Calls zf 179 (#[aci x]++ #[.pointer (some ⟨b,0,none⟩)]) w fun e w'=>e= .returned (.bool (x.zL==t))/\Below w.heap.size w w':=by
 refine zQ Tryz.func179 rfl Tryz.ntmps179 zd (hM) ?_
 repeat' (first|((apply zA);(exact zY zd hb);rfl)|refine vw ?_)
 show yH _ _ _ _;refine yH.one zd (zy zd ?_);rfl
theorem CE (b:Nat) (T:List qf) (zL:Int) (w:World) (M:Mem) (hM:M.le (Mem.of w)) (h:NV M b T) (hn:T.length<=10000) (D8: ∀s∈T,s.yM.length<=10000):
 Calls zf 151 #[.pointer (some ⟨b,0,none⟩), .int .i64 zL] w (uV 238 3 (wu (fun h=>h.zL==zL) T).length ((wu (fun h=>h.zL==zL) T).flatMap K5) w):=by
 refine aZ (args:= [.pointer (some ⟨b,0,none⟩), .int .i64 zL]) (M:=M) Tryz.func151 rfl Tryz.ntmps151 zd hM rfl ?_
 repeat' (refine vw ?_)
 refine AF 0 zd (fun t M1 qR ht=>?_);have htc:M1.cell t 0=some (.int .i64 zL):=Mem.cell_of ht rfl
 repeat' (((apply zA);(exact KF zd);rfl))
 refine Qn zd (fun W hW=>Fq 179 #[.pointer (some ⟨t,0,none⟩)] (fun h=>h.zL==zL) b T W M1 hW (h.mono qR) hn D8 (fun x W hW=>agr x zL t W M1 hW htc)) zd zd ?_
 repeat' (refine vw ?_)
 exact .inl ⟨1,rfl,rfl⟩
theorem tV (l:List Int):Ht l↔l.Pairwise (· < ·):=by
 rw [DF];exact ⟨fun h i j hi hj gf=>h i j hi hj gf,fun h i j hi hj gf=>h i j hi hj gf⟩
theorem Cw: ∀(l:List Int) (k:Int),l.Pairwise (· < ·)->(∀x∈l.take (lL l k),x<k)/\ ∀x∈l.drop (lL l k),k<=x
 | [],k,_=>⟨fun x h=>by simp at h,fun x h=>by simp at h⟩
 |a::l,k,h=>by
  rw [aY] at h;obtain ⟨i1,i2⟩:=Cw l k h.2;by_cases ha:a<k
  · have e:lL (a::l) k=lL l k+1:=by unfold lL;rw [GU];simp [ha]
    rw [e];refine ⟨fun x hx=>?_,fun x hx=>i2 x (by simpa using hx)⟩;rw [YE] at hx;rcases jm.1 hx with rfl|hx
    · exact ha
    · exact i1 x hx
  · have h0: ∀x∈a::l,k<=x:=fun x hx=>by
     rcases jm.1 hx with rfl|hx
     · omega
     · have:=h.1 x hx;omega
    have e:lL (a::l) k=0:=by
     unfold lL;rw [rK];intro x hx;have:=h0 x hx;simp;omega
    rw [e];exact ⟨fun x hx=>by simp at hx,fun x hx=>h0 x (by simpa using hx)⟩
theorem abp {l:List Int} {k:Int} (h:Ht l) (hk:¬ k∈l):Ht (gN l k):=by
 rw [tV] at h⊢;obtain ⟨h1,h2⟩:=Cw l k h;unfold gN;rw [IU];refine ⟨h.sublist (G1 _ _),?_,fun a ha b hb=>?_⟩
 · rw [aY];refine ⟨fun x hx=>?_,h.sublist (G0 _ _)⟩;have:=h2 x hx;have:x≠k:=fun e=>hk (e▸dp hx)
   omega
 · have:=h1 a ha;rcases jm.1 hb with rfl|hb
   · exact this
   · have:=h2 b hb;omega
theorem aeL {l:List Int} (p:Int->Bool) (h:Ht l):Ht (K0 p l):=by
 rw [tV] at h⊢;exact h.sublist (IQ)
end
section
open Go.ChangeShapes Go.WideShapes Go.ChangeAt Go.RowKit
end
section
open Go Go.RowKit
def DO (N:Nat) (s:qf):Prop:=j2 s.u s.yM.length/\Ht s.yM/\s.yM.length<=N/\(s.jg=0->s.yM= [])/\(s.jg=2->s.yM.length<=1)
theorem DO.mono {N N':Nat} {s:qf} (h:DO N s) (hn:N<=N'):DO N' s:=⟨h.1,h.2.1,jZ h.2.2.1 hn,h.2.2.2⟩
theorem ON:DO 0 ⟨.slice none 0 0,[],0⟩:=⟨.inl ⟨rfl,rfl⟩,aeM,zN _,fun _=>rfl,fun _=>zW _⟩
theorem HA {N:Nat} {s:qf} (h:DO N s) (t hw:Int) (hh:hw=1\/hw=2) (u':Value) (hu:j2 u' (Vy t s.yM s.jg hw).2.1.length):DO (N+1) ⟨u',(Vy t s.yM s.jg hw).2.1,(Vy t s.yM s.jg hw).2.2⟩:=by
 obtain ⟨h1,h2,h3,h4,h5⟩:=h;unfold Vy at hu⊢;split at hu
 · rename_i hc
   rw [zo hc] at*;exact ⟨hu,h2,G2 h3,h4,h5⟩
 · rename_i hc
   rw [zn hc] at*;split at hu
   · rename_i hd
     rw [zo hd] at*;exact ⟨hu,h2,G2 h3,h4,h5⟩
   · rename_i hd
     rw [zn hd] at*;have hm:¬ t∈s.yM:=fun e=>hc (.inr e)
     refine ⟨hu,abp h2 hm,by rw [sS];exact GV h3,fun e=>by exfalso;simp only at e;omega,fun e=>?_⟩;simp only at e
     have h0:s.jg=0:=by
      rcases t6 (s.jg=0) with h|h
      · exact h
      · exact absurd (.inr ⟨e,h⟩) hd
     rw [sS,h4 h0];exact zN _
theorem HG {T:List qf} {k:Nat} {s:qf} {p:qf->Prop} (h: ∀x∈T,p x) (hs:p s): ∀x∈T.set k s,p x:=fun x hx=>by
 rcases dr hx with h1|h1
 · exact h x h1
 · rw [h1];exact hs
theorem sW {k:Nat} {s:qf} {h:Hn} (hh:h∈kf k s):h.slot=(k:Int)/\h.zL∈s.yM/\h.write=(s.jg==2):=by
 unfold kf at hh;obtain ⟨t,ht,rfl⟩:=uT.1 hh;exact ⟨rfl,ht,rfl⟩
section
variable {P:Program} {w:World} {M0 M:Mem} {N:Nat} {env:Env}
end
end
section
open Go Go.RowKit
attribute [local irreducible] Calls
theorem lR (b g c n:Nat) (zL slot:Int) (M:Mem) (h:slot<0\/(n:Int)<=slot) (hn:n<=1000000):
 uC zf 158 [.pointer (some ⟨b,0,none⟩), .int .i64 zL, .int .i64 slot] M [.zK (.pointer (some ⟨b,0,none⟩)) 180 (a9 g n c)] (fun v zw=>v= .int .i64 8/\zw= [.zK (.pointer (some ⟨b,0,none⟩)) 180 (a9 g n c)]):=by
 refine AD Tryz.func158 rfl Tryz.ntmps158 zd (fun w M0=>?_);have hnp:(some (⟨b,0,none⟩:Addr)).isNone=false:=rfl
 have J6:bW slot n=false:=by
  unfold bW;rcases h with h|h
  · rw [z6 ze];rfl
  · rw [z6 (show ¬ slot<(n:Int) by omega),Bool.and_false]
 have cH: ∀(hd:Nat->Value) (W:World) (own:List Ob),(∀i o,own[i]?=some o->wR w.heap.size W (hd i) o)->own[0]?=some (.zK (.pointer (some ⟨b,0,none⟩)) 180 (a9 g n c))->Calls zf 129 #[.pointer (some ⟨b,0,none⟩), .int .i64 zL, .int .i64 slot] W fun e W'=>e= .returned (.tuple #[.bool false, .bool false])/\Below W.heap.size W W':=fun hd W own hO h0=>by
  have:=ec b n zL slot [] 0 W (Mem.of W) (zE) ⟨g,c,?_,fun k' U5 Ul=>ze⟩ aeM hn yx
  · rw [J6] at this;exact this
  · have:=ku (hO 0 _ h0) (off:=0) (u:= .slice (some ⟨g,0,none⟩) n c) rfl;rw [(hO 0 _ h0).1] at this;rw [Mem.Z7];exact this
 repeat' (refine vw ?_)
 refine AF 1 zd (fun t M1 qR ht=>?_);have htc:M1.cell t 0=some (.int .i64 zL):=Mem.cell_of ht rfl
 repeat' (first|((apply zA);(first|exact yN zd zd uz|exact zY zd htc|(refine uj (r:= .tuple #[.bool false, .bool false]) zd ?_;exact fun hd W hO hW=>cH hd W _ hO rfl));rfl)|refine vw ?_)
 exact ⟨_,[0],[.zK (.pointer (some ⟨b,0,none⟩)) 180 (a9 g n c)],zP,qR,rfl,xc,rfl,rfl⟩
theorem adB {l:List Int} {t x:Int}:x∈K0 (fun n=>n==t) l↔x∈l/\x≠t:=by
 unfold K0;rw [ZE];simp
theorem TM (t:Int) (yM:List Int) (jg:Int):(Qv t (Qv t yM jg).2.1 (Qv t yM jg).2.2).2=(Qv t yM jg).2:=by
 by_cases h:t∈yM
 · have e:Qv t yM jg=(0,K0 (fun n=>n==t) yM,if (K0 (fun n=>n==t) yM).length=0 then 0 else jg):=by unfold Qv;rw [zo h]
   rw [e];have hn:¬ t∈K0 (fun n=>n==t) yM:=fun h2=>(adB.1 h2).2 rfl
   unfold Qv;rw [zn hn]
 · have e:Qv t yM jg=(8,yM,jg):=by unfold Qv;rw [zn h]
   rw [e];unfold Qv;rw [zn h]
theorem ab1 {N:Nat} {s:qf} (h:DO N s) (t:Int) (u':Value) (hu:j2 u' (Qv t s.yM s.jg).2.1.length):DO N ⟨u',(Qv t s.yM s.jg).2.1,(Qv t s.yM s.jg).2.2⟩:=by
 obtain ⟨h1,h2,h3,h4,h5⟩:=h;have hle:(K0 (fun n=>n==t) s.yM).length<=s.yM.length:=Ql _ _;unfold Qv at hu⊢;split at hu
 · rename_i hc
   rw [zo hc] at*;refine ⟨hu,aeL _ h2,jZ hle h3,fun e=>?_,fun e=>?_⟩
   · simp only at e⊢;split at e
     · rename_i h0;exact gy.1 h0
     · have:=h4 e;rw [this] at hc;cases hc
   · simp only at e⊢;split at e
     · cases e
     · exact jZ hle (h5 e)
 · rename_i hc
   rw [zn hc] at*;exact ⟨hu,h2,h3,h4,h5⟩
def D2 (b g c:Nat) (N:Nat) (T:List qf) (th:Int) (v:Value) (zw:List Ob):Prop:=v= .int .i64 ((wu (fun h=>h.zL==th) T).length:Nat)/\ ∃T':List qf,zw=xo b g c T'/\T'.length=T.length/\(∀s∈T',DO N s)/\ ∀(k:Nat) (s s':qf),T[k]?=some s->T'[k]?=some s'->(s'.yM,s'.jg)=(Qv th s.yM s.jg).2
theorem O5 {T:List qf} {p:Hn->Bool} {h:Hn} (hh:h∈wu p T):p h=true/\ ∃(i:Nat) (s:qf),T[i]?=some s/\h.slot=(i:Int)/\h.zL∈s.yM/\h.write=(s.jg==2):=by
 unfold wu at hh;obtain ⟨h1,h2⟩:=ZE.1 hh;refine ⟨h2,?_⟩;unfold qX at h1;obtain ⟨i,hi,hx⟩:=KA.1 h1;have hi:=GI.1 hi;rw [jA hi] at hx;exact ⟨i,T[i],jA hi,sW hx⟩
theorem Mh {T:List qf} {i:Nat} {s:qf} {t:Int} (hs:T[i]?=some s) (ht:t∈s.yM):(⟨t,i,s.jg==2⟩:Hn)∈qX T T.length:=by
 unfold qX;refine KA.2 ⟨i,GI.2 (xI.1 hs).1,?_⟩;rw [hs];unfold kf;exact uT.2 ⟨t,ht,rfl⟩
theorem Ft (b g c N:Nat) (T:List qf) (th:Int) (M:Mem) (hn:T.length<=10000) (hN:N<=10000) (ju: ∀s∈T,DO N s):
 uC zf 161 [.pointer (some ⟨b,0,none⟩), .int .i64 th] M (xo b g c T) (D2 b g c N T th):=by
 refine AD Tryz.func161 rfl Tryz.ntmps161 zd (fun w M0=>?_)
 repeat' (refine vw ?_)
 refine NR [] (xo b g c T) zd (fun hd W hW=>CE b T th W (Mem.of W) (zE) (Ep (pre:= []) hW) hn (fun s hs=>by have:=(ju s hs).2.2.1;omega)) zd zd ?_;refine Hb 0 zd (fun us M1 qR AX=>?_)
 have K6: ∀h∈wu (fun h=>h.zL==th) T,∃(i:Nat) (s:qf),T[i]?=some s/\h.slot=(i:Int)/\h.zL=th/\th∈s.yM:=fun h hh=>by
  obtain ⟨h1,i,s,h2,h3,h4,_⟩:=O5 hh;have h1:=beq_iff_eq.1 h1;exact ⟨i,s,h2,h3,h1,h1▸h4⟩
 have uD: ∀(i:Nat) (s:qf),T[i]?=some s->th∈s.yM-> ∃h∈wu (fun h=>h.zL==th) T,h.slot=(i:Int):=fun i s hs ht=>⟨⟨th,i,s.jg==2⟩,ZE.2 ⟨Mh hs ht,by simp⟩,rfl⟩
 unfold D2;generalize wu (fun h=>h.zL==th) T=H at*;have hS:xt M1 3 K5 us H:=ud.YB (fun _ _=>rfl) AX;obtain ⟨B,cb,akH,kJ,Zk,_⟩:=id hS;subst akH;unfold maxLen at Zk;refine Ys _ ⟨M1,xo b g c T,[(0, .v (.pointer (some ⟨b,0,none⟩))),(1, .v (.int .i64 th)),(10, .v (.slice B H.length cb))]⟩ (Sub.tab (pre:= [.gone]) ka) ?_
 repeat' (refine vw ?_)
 refine kU (fun x:List qf×Nat=>⟨M1,xo b g c x.1,[(0, .v (.pointer (some ⟨b,0,none⟩))),(1, .v (.int .i64 th)),(5, .v (.slice B H.length cb)),(11, .v (.slice B H.length cb)),(12, .v (.int .i64 H.length)),(13, .v (.int .i64 x.2))]⟩) (fun x=>x.2<=H.length/\x.1.length=T.length/\(∀s∈x.1,DO N s)/\ ∀(k:Nat) (s s':qf),T[k]?=some s->x.1[k]?=some s'->(s'.yM,s'.jg)=(Qv th s.yM s.jg).2\/((s'.yM,s'.jg)=(s.yM,s.jg)/\ ∀h∈H.take x.2,h.slot≠(k:Int))) (fun x=>H.length-x.2) (List.range' ([]:List Ob).length (xo b g c T).length) (T,0) (Sub.tab (pre:= []) JE) ⟨zW _,rfl,ju,fun k s s' h1 h2=>by
  have h3:T[k]?=some s':=h2;rw [h1] at h3;obtain rfl:=qt h3;exact .inr ⟨rfl,fun h hh=>by simp at hh⟩⟩ ?_
 rintro ⟨X,q⟩ ⟨hq,hX,aaR,FV⟩;dsimp only at hq hX aaR FV⊢;rcases yq q H.length with z9|ql
 · have hd:=Xp z9;obtain ⟨b1,o1,rfl,jk⟩:=hS.get z9;obtain ⟨j,s0,hj0,sV,MG,htm⟩:=K6 _ (yD z9);have AY:H.take (q+1)=H.take q++ [H[q]]:=vF z9;generalize H[q]=h at*;obtain ⟨ht,hs,hw⟩:=h;dsimp only at sV MG;subst sV MG;have hjT:=(xI.1 hj0).1;have hj:j<X.length:=ze;have hsj:=aaR X[j] (yD hj)
   repeat' (first|refine NS [] (xo b g c X) zd zd ?_|((apply zA);(first|exact zj (q) zd zd ze ze|exact zZ _ zd jk _ zd);rfl)|refine vw ?_)
   refine abx (T:=X) (g:=g) (c:=c) (r:=Qv ht X[j].yM X[j].jg) [_] j hj zd (fun M' _=>Wz b g c X.length j (X.flatMap wY) X[j].u X[j].yM ht X[j].jg M' hj ze (rj hj).1 (rj hj).2 (VU X) hsj.2.1 (by have:=hsj.2.2.1;omega) hsj.1) zd zd (fun u' KK=>?_)
   repeat' (refine vw ?_)
   refine yL (Q:=fun _ _=>True) _ (X.set j ⟨u',(Qv ht X[j].yM X[j].jg).2.1,(Qv ht X[j].yM X[j].jg).2.2⟩,q+1) (Sub.tab (pre:= [_]) JE) ⟨Nat.succ_le_of_lt z9,by show (X.set j _).length=_;rw [xj];exact hX,HG aaR (ab1 hsj ht u' KK),fun k s s' h1 h2=>?_⟩ (by show H.length-(q+1)<H.length-q;omega);have h2:(X.set j _)[k]?=some s':=h2;by_cases hkj:j=k
   · subst hkj;rw [wC hj] at h2;obtain rfl:=qt h2;rcases FV j s X[j] h1 (jA hj) with h3|⟨h3,_⟩
     · left;have e1:X[j].yM=(Qv ht s.yM s.jg).2.1:=z5 Prod.fst h3;have e2:X[j].jg=(Qv ht s.yM s.jg).2.2:=z5 Prod.snd h3;show (Qv ht X[j].yM X[j].jg).2=_;rw [e1,e2];exact TM _ _ _
     · left;have e1:X[j].yM=s.yM:=z5 Prod.fst h3;have e2:X[j].jg=s.jg:=z5 Prod.snd h3;show (Qv ht X[j].yM X[j].jg).2=_;rw [e1,e2]
   · rw [Zb hkj] at h2;rcases FV k s s' h1 h2 with h3|⟨h3,h4⟩
     · exact .inl h3
     · refine .inr ⟨h3,fun h hh=>?_⟩;show h.slot≠_;have hh:h∈H.take (q+1):=hh;rw [AY] at hh;rcases jH.1 hh with hh|hh
       · exact h4 h hh
       · rw [jx.1 hh];show (j:Int)≠(k:Int);omega
 · have hd:=Xq ql;obtain rfl:q=H.length:=ze;rw [xk] at FV
   repeat' (refine vw ?_)
   refine ⟨_,List.range' ([]:List Ob).length (xo b g c X).length,xo b g c X,zP,qR,QH _ _,iR (xo b g c X) [],rfl,X,rfl,hX,aaR,fun k s s' h1 h2=>?_⟩;rcases FV k s s' h1 h2 with h3|⟨h3,h4⟩
   · exact h3
   · have ad6:¬ th∈s.yM:=fun ht=>by
      obtain ⟨h,hh,he⟩:=uD k s h1 ht;exact h4 h hh he
     rw [h3];unfold Qv;rw [zn ad6]
end
end Go.Proofs.YtaibdpjjojihmaaGreat
