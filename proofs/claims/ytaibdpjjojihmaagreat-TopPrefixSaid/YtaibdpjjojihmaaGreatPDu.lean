/- A part of the proof of TopPrefix; no conditions. -/
import Derived.Test.YtaibdpjjojihmaaGreatPMd6
set_option linter.unusedVariables false
set_option linter.unusedSimpArgs false
set_option maxRecDepth 20000
set_option maxHeartbeats 4000000
namespace Go.Proofs.YtaibdpjjojihmaaGreat
section
open Go Go.RowKit
attribute [local irreducible] Calls
instance:Hl zf 183 "Len" 281 166:=zp
instance:Hl zf 183 "Less" 282 166:=zp
instance:Hl zf 183 "Swap" 283 166:=zp
theorem at1 {α:Type} (f:α->Value) (L:List α) {i:Nat} (h:i<L.length):(L.flatMap fun a=> [f a])[0+i*1]?=some (f L[i]):=by
 have:=vm (k:=1) (cells:=fun a=> [f a]) L i 0 h (fun _ _=>rfl) ze;rw [show 0+i*1=i*1+0 by omega,this];rfl
theorem ady {α:Type} (f:α->Value) (L:List α):(L.flatMap fun a=> [f a]).length=L.length:=by
 induction L with
 |nil=>rfl
 |cons a L ih=>rw [j6,yK,ih];show 1+L.length=_;simp;omega
theorem adb {α:Type} (f:α->Value) (L:List α) (i:Nat) (x:α) (v:Value) (hv:v=f x):(L.flatMap fun a=> [f a]).set (0+i*1) v=(L.set i x).flatMap fun a=> [f a]:=by
 subst hv;rw [show 0+i*1=i by omega]
 induction L generalizing i with
 |nil=>rfl
 |cons a L ih=>
  cases i with
  |zero=>rfl
  |succ i=>show f a::((L.flatMap fun a=> [f a]).set i (f x))=_;rw [ih];rfl
theorem af8 {α:Type} (f:α->Value) (L:List α) (m:Nat):(L.flatMap fun a=> [f a]).take (m*1)=(L.take m).flatMap fun a=> [f a]:=by
 rw [v7]
 induction L generalizing m with
 |nil=>simp
 |cons a L ih=>
  cases m with
  |zero=>rfl
  |succ m=>show f a::((L.flatMap fun a=> [f a]).take m)=_;rw [ih];rfl
abbrev Xh (fb fc:Nat) (L:List Int):Ob:= .zC (.slice (some ⟨fb,0,none⟩) L.length fc) 3 1 L.length (L.flatMap zF)
abbrev BN (lb fb fc:Nat) (cv uv:Value) (L:List Int):Ob:= .zK (.pointer (some ⟨lb,0,none⟩)) 168 [cv,uv, .slice (some ⟨fb,0,none⟩) L.length fc]
def UA (lb fb fc:Nat) (cv uv:Value) (L:List Int):List Ob:= [BN lb fb fc cv uv L,Xh fb fc L]
abbrev feV (lb:Nat):Value:= .iface 183 (.pointer (some ⟨lb,2,none⟩))
abbrev Kk (a b:Int):Bool:=decide (a<b)
theorem Mt (fb fc:Nat) (L:List Int) (M:Mem):zu zf 281 [.slice (some ⟨fb,0,none⟩) L.length fc] M [] (fun u M' o=>u= .int .i64 L.length/\M'=M/\o= []):=by
 refine xy Tryz.func281 rfl Tryz.ntmps281 zd (fun F w M0 hF=>zz ?_)
 repeat' (refine nw ?_)
 exact ⟨_,[],zP,zE,zh,zq,rfl,rfl,rfl⟩
theorem Fo (fb fc:Nat) (L:List Int) (i j:Nat) (a b:Int) (ha:a=i) (hb:b=j) (hi:i<L.length) (hj:j<L.length) (M:Mem):zu zf 282 [.slice (some ⟨fb,0,none⟩) L.length fc, .int .i64 a, .int .i64 b] M [Xh fb fc L] (fun u M' o=>u= .bool (Cv Kk L i j)/\M'=M/\o= [Xh fb fc L]):=by
 rw [PD _ hi hj];subst ha hb;have c1:=at1 (Value.int .i64) L hi;have c2:=at1 (Value.int .i64) L hj;refine xy Tryz.func282 rfl Tryz.ntmps282 zd (fun F w M0 hF=>zz ?_)
 repeat' (first|((first|apply zA|apply Ze);(first|exact zj i zd zd rfl hi|exact zj j zd zd rfl hj|exact TS zd c1|exact TS zd c2);rfl)|refine nw ?_)
 exact ⟨_,[Xh fb fc L],zP,zE,zh,zq,rfl,rfl,rfl⟩
theorem Fm (fb fc:Nat) (L:List Int) (i j:Nat) (a b:Int) (ha:a=i) (hb:b=j) (hi:i<L.length) (hj:j<L.length) (M:Mem):zu zf 283 [.slice (some ⟨fb,0,none⟩) L.length fc, .int .i64 a, .int .i64 b] M [Xh fb fc L] (fun u M' o=>u= .tuple #[]/\M'=M/\o= [Xh fb fc (vQ L i j)]):=by
 subst ha hb;unfold Xh;rw [ZI];have c1:=at1 (Value.int .i64) L hi;have c2:=at1 (Value.int .i64) L hj;have h0:0+i*1<(L.flatMap zF).length:=by rw [ady (Value.int .i64)];omega
 have h1:0+j*1<((L.flatMap zF).set (0+i*1) (.int .i64 L[j])).length:=by rw [xj,ady (Value.int .i64)];omega
 have e1:((L.flatMap zF).set (0+i*1) (.int .i64 L[j])).set (0+j*1) (.int .i64 L[i])=(vQ L i j).flatMap zF:=by
  rw [adb (Value.int .i64) L i L[j] _ rfl,adb (Value.int .i64) (L.set i L[j]) j L[i] _ rfl,BF hi hj]
 refine xy Tryz.func283 rfl Tryz.ntmps283 zd (fun F w M0 hF=>zz ?_);rw [<-e1];clear e1;generalize L.flatMap zF=cs0 at*;refine qW [0] [7,11,13,15] yI zd zd ?_
 repeat' (first|refine YH zd _ (by exact Y4 (by first|exact zj i zd zd rfl hi|exact zj j zd zd rfl hj)) zd zd ?_|refine wF zd _ _ (by exact gm (by first|exact ah7 0 zd h0|exact ah7 0 zd h1)) zd zd ?_ ?_|refine wF zd _ _ (by exact gm (fq (by first|exact TS zd c1|exact TS zd c2))) zd zd ?_ ?_|refine nf ?_|exact kz)
 all_goals exact ⟨_,[.zC (.slice (some ⟨fb,0,none⟩) L.length fc) 3 1 L.length ((cs0.set (0+i*1) (.int .i64 L[j])).set (0+j*1) (.int .i64 L[i]))],yH.nil rfl,zE,zh,ji.refl _,rfl,rfl,rfl⟩
theorem Ms (lb fb fc:Nat) (cv uv:Value) (L:List Int) (x:Int) (hL:L.length<=1000000) (M:Mem):zu zf 284 [.pointer (some ⟨lb,2,none⟩)] M (UA lb fb fc cv uv (L++ [x])) (fun u M' o=>u= .iface 3 (.int .i64 x)/\M'=M/\o=UA lb fb fc cv uv L):=by
 have hl:(L++ [x]).length=L.length+1:=by simp
 have c1:=at1 (Value.int .i64) (L++ [x]) (i:=L.length) ze;rw [show (L++ [x])[L.length]'(by omega)=x from acP rfl _] at c1
 have ht:((L++ [x]).flatMap zF).take (L.length*1)=L.flatMap zF:=by
  have:=af8 (Value.int .i64) (L++ [x]) L.length;rw [ua] at this;exact this
 unfold UA BN Xh;rw [hl];refine xy Tryz.func284 rfl Tryz.ntmps284 zd (fun F w M0 hF=>zz ?_);refine SN fb fun eg=>?_
 have hcp:=(VK eg).1
 repeat' (first|refine kV (x:= .region 3 _ _) (fun s'=>vo s' ⟨M, .zC (.slice (some ⟨fb,0,none⟩) (L.length+1) fc) 3 1 (L.length+1) ((L++ [x]).flatMap zF)::BN lb fb fc cv uv L::F,[(0, .v (.pointer (some ⟨lb,2,none⟩))),(4, .v (.int .i64 x))]⟩) ?_ ?_|((apply zA);(first|exact xG (z5 (Value.int .i64) (show ((L.length+1:Nat):Int)-1=(L.length:Int) by omega)) (yN zd zd (Qs ze ze))|exact zj L.length zd zd rfl ze|exact TS zd c1|exact xG (Z1 fb L.length fc 1) (yg 0 L.length fc zd zd zd zd ze ze ze ze));rfl)|refine nw ?_)
 · exact ⟨rfl,xZ j4⟩
 · intro s' hs;refine x8 _ hs ?_;refine nN (m:=L.length) ze ?_;rw [ht]
   repeat' (refine nw ?_)
   exact ⟨_,[BN lb fb fc cv uv L,Xh fb fc L],zP,zE,zh,zq,rfl,rfl,rfl⟩
theorem CB (lb fb fc:Nat) (cv uv:Value):Hp Mem.no (feV lb) (UA lb fb fc cv uv) Kk (fun _=>True) where
 Jk L:=by unfold UA;infer_instance
 perm _ _ _ _:=trivial
 less L i j a b ha hb hi hj _ _:=Wg.mk (fun w M0 N M env dst ty pos z7 x xs qz F hx hv=>Qd hx hv (by unfold UA;infer_instance) rfl) (fun M _=>Fo fb fc L i j a b ha hb hi hj M) (by unfold UA;infer_instance) (ji.perm (.swap _ _ _))
 swap L i j a b ha hb hi hj _ _:=Wg.mk (fun w M0 N M env dst ty pos z7 x xs qz F hx hv=>Qd hx hv (by unfold UA;infer_instance) rfl) (fun M _=>Fm fb fc L i j a b ha hb hi hj M) (by unfold UA;infer_instance) (by unfold UA BN;rw [ZI];exact ji.perm (.swap _ _ _))
 len L _:=Wg.mk (fun w M0 N M env dst ty pos z7 x xs qz F hx hv=>Qd hx hv (by unfold UA;infer_instance) rfl) (fun M _=>Mt fb fc L M) zh (ji.refl _)
theorem RC (lb fb fc:Nat) (cv uv:Value) (L:List Int) (x:Int) (M:Mem) (h0:0<L.length) (hL:L.length<=1000000) (hx:j8 Kk L=(j8 Kk L).dropLast++ [x]):
 zu zf 115 [feV lb] M (UA lb fb fc cv uv L) (fun u M' o=>u= .iface 3 (.int .i64 x)/\M'=M/\o=UA lb fb fc cv uv (j8 Kk L).dropLast):=
 C1 (CB lb fb fc cv uv) L x _ M h0 hL trivial (Mem.xE M) hx (Wg.mk (fun w M0 N M env dst ty pos z7 x xs qz F hx hv=>iE hx hv) (fun M _=>Ms lb fb fc cv uv _ x (by rw [rO,(ue Kk L).length_eq];omega) M) (by unfold UA;infer_instance) (ji.perm (by rw [xR])))
theorem Ni (lb fb fc:Nat) (cv uv:Value) (L:List Int) (M:Mem) (hL:L.length<=1000000):
 zu zf 98 [feV lb] M (UA lb fb fc cv uv L) (fun u M' o=>u= .tuple #[]/\M'=M/\o=UA lb fb fc cv uv (Xf Kk L.length (L.length/2) L)):=MS (CB lb fb fc cv uv) L M hL trivial (Mem.xE M)
end
section
open Go Go.RowKit
attribute [local irreducible] Calls
section
variable {P:Program} {w:World} {M0:Mem} {N:Nat} {M:Mem} {own zw:List Ob} {env:Env} {dst:Option Tmp} {ty:TypeId} {pos:String} {z7:Array Edge} {g:Option (Nat×Bool)}
theorem xal {t:TypeId} {z:Value} {zs:List Value} {c:Nat->List Ob} {ops:Array Oper} [hz:kM P t z] (hc:Le z zs:=by infer_instance) (ha: ∀b,JO own [.zK (.pointer (some ⟨b,0,none⟩)) t zs] (c b):=by intro;infer_instance):
 EX P w M0 N ops ⟨dst, .alloc t,ty,pos,z7,none⟩ ⟨M,own,env⟩ Nat (fun _=>M) c (fun b=> .v (.pointer (some ⟨b,0,none⟩))):=⟨fun hd a W hR=>by
 rw [zo (by simp [Region.wanted])]
 have h1:(execOp a.eval ⟨dst, .alloc t,ty,pos,z7,none⟩).run P W= .ok (.value (.pointer (some ⟨W.heap.size,0,none⟩))) (W.alloc (.cells z.cells t)):=by
  simp [execOp,Instr.alloc,hz.h,newVar,newRow]
 rw [h1];refine ⟨W.heap.size,Ke hd own.length (.pointer (some ⟨W.heap.size,0,none⟩)),fun i hi=>qj _ _ (by have:i<own.length:=hi;omega),?_,rfl⟩;rw [<-(ha _).h];refine hR.1.new (rI W _ none) ⟨rfl,W.heap.size,rfl,hR.1.below.size,?_⟩ (fun b hb=>?_)
 · rw [<-hc.h];simpa using JI W _
 · obtain rfl:W.heap.size=b:=by simpa [yX] using hb
   exact zN _,fun b=>by rw [<-(ha b).h];simp,fun _=>rfl⟩
class aeO (P:Program) (t:TypeId) (zs:outParam (List Value)):Prop where
 h: ∃z,kM P t z/\Le z zs
instance (t:TypeId) (z:Value) (zs:List Value) [a:kM P t z] [b:Le z zs]:aeO P t zs:=⟨z,a,b⟩
theorem aiD {gs:List Nat} {n0:Nat} {l:List Oper} {Q:St->Prop} {n i:Nat} {xz ks:List Nat} {o:Oper} {c:Nat->List Ob} (ho:l[i]?=some o) (he:EX P w M0 N l.toArray o ⟨M,own,env⟩ Nat (fun _=>M) c (fun b=> .v (.pointer (some ⟨b,0,none⟩)))) (hk:yi N o.dst=true)
 (h: ∀b,VF P w M0 N gs n0 l n (xz.erase i) ⟨M,c b,env.put o.dst (.v (.pointer (some ⟨b,0,none⟩)))⟩ Q) (h2:NT P w M0 N gs n0 l n xz ks ⟨M,own,env⟩ Q)
 (hg: ∀b,(y8 gs (c b)).take n0=(y8 gs own).take n0:=by intro b;first|rfl|simp only [y8,aW,Ub,xd,YE,ua,xk,xY]):NT P w M0 N gs n0 l n xz (i::ks) ⟨M,own,env⟩ Q:=
 gB _ _ _ _ ho he hk (fun b=>⟨zE,hg b,h b⟩) h2
theorem ae2 {gs:List Nat} {n0:Nat} {l:List Oper} {Q:St->Prop} {n i:Nat} {xz ks:List Nat} {t:TypeId} {zs:List Value} {c:Nat->List Ob} (ho:l[i]?=some ⟨dst, .alloc t,ty,pos,z7,none⟩) [hz:aeO P t zs] (hk:yi N dst=true)
 (h: ∀b,VF P w M0 N gs n0 l n (xz.erase i) ⟨M,c b,env.put dst (.v (.pointer (some ⟨b,0,none⟩)))⟩ Q) (h2:NT P w M0 N gs n0 l n xz ks ⟨M,own,env⟩ Q)
 (ha: ∀b,JO own [.zK (.pointer (some ⟨b,0,none⟩)) t zs] (c b):=by intro;infer_instance)
 (hg: ∀b,(y8 gs (c b)).take n0=(y8 gs own).take n0:=by intro b;first|rfl|simp only [y8,aW,Ub,xd,YE,ua,xk,xY]):NT P w M0 N gs n0 l n xz (i::ks) ⟨M,own,env⟩ Q:=by
 obtain ⟨z,h1,h3⟩:=hz.h;exact aiD ho (xal h3 ha) hk h h2 hg
end
theorem WZ {M:Mem} {α:Type} {k:Nat} {cells:α->List Value} {v:Value} {l:List α} (h:xt M k cells v l):v.oneCell'=true:=by
 obtain ⟨A,c,rfl,_⟩:=h;rfl
theorem da {α:Type} {k:Nat} {cells:α->List Value} (hk: ∀a,(cells a).length=k) (L:List α) {i:Nat} (h:i<L.length):((L.flatMap cells).drop (0+i*k)).take k=cells L[i]:=by
 rw [xu,vf hk,Zc h,j6]
 conv=>lhs;arg 1;rw [<-hk L[i]]
 exact ua
theorem Di {α:Type} {k:Nat} {cells:α->List Value} (hk: ∀a,(cells a).length=k) (L:List α) {i:Nat} (h:i<L.length):0+i*k+k<=(L.flatMap cells).length:=by
 rw [ki hk,xu,<-uq];exact uB _ h
structure qx where
 v:Value
 l:List xi
 n:Int
def yT (h:qx):List Value:= [h.v, .int .i64 h.n]
def UN (h:qx):Int:=(h.l[0]?.getD QI).xD
def ZN (a b:qx):Bool:=decide (UN a<UN b)||(decide (UN a=UN b)&&decide (a.n<b.n))
def qx.Ok (M:Mem) (h:qx):Prop:=xt M 6 zR h.v h.l/\0<h.l.length
instance:Hl zf 251 "Len" 148 253:=zp
instance:Hl zf 251 "Less" 298 253:=zp
instance:Hl zf 251 "Swap" 301 253:=zp
theorem p6 (A:Option Addr) (c n:Nat) (M:Mem):zu zf 148 [.slice A n c] M [] (fun u M' o=>u= .int .i64 n/\M'=M/\o= []):=by
 refine xy Tryz.func148 rfl Tryz.ntmps148 zd (fun F w M0 hF=>zz ?_)
 repeat' (refine nw ?_)
 exact ⟨_,[],zP,zE,zh,zq,rfl,rfl,rfl⟩
abbrev Js (b c:Nat) (L:List qx):Ob:= .zC (.slice (some ⟨b,0,none⟩) L.length c) 256 2 L.length (L.flatMap yT)
theorem F5 (b c:Nat) (L:List qx) (i j:Nat) (x y:Int) (hx:x=i) (hy:y=j) (hi:i<L.length) (hj:j<L.length) (M:Mem) (ju: ∀h∈L,h.Ok M):zu zf 298 [.slice (some ⟨b,0,none⟩) L.length c, .int .i64 x, .int .i64 y] M [Js b c L] (fun u M' o=>u= .bool (Cv ZN L i j)/\M'=M/\o= [Js b c L]):=by
 rw [PD _ hi hj];subst hx hy;have hk: ∀h:qx,(yT h).length=2:=fun _=>rfl
 have e1:=da hk L hi;have e2:=da hk L hj;have n1:=Di hk L hi;have n2:=Di hk L hj;obtain ⟨a1,a2⟩:=ju _ (yD hi);obtain ⟨b1,b2⟩:=ju _ (yD hj);have o1:L[i].v.oneCell'=true:=WZ a1;have o2:L[j].v.oneCell'=true:=WZ b1;unfold Js;refine xy Tryz.func298 rfl Tryz.ntmps298 zd (fun F w M0 hF=>zz ?_);generalize L.flatMap yT=cs0 at*;generalize L[i]=h1 at*;generalize L[j]=h2 at*;obtain ⟨v1,l1,m1⟩:=h1;obtain ⟨v2,l2,m2⟩:=h2;dsimp only at a1 a2 b1 b2 o1 o2;obtain ⟨A1,c1,rfl,p1,p2,_⟩:=id a1;obtain ⟨A2,c2,rfl,q1,q2,_⟩:=id b1;obtain ⟨B1,f1,rfl,vK⟩:=a1.get a2;obtain ⟨B2,f2,rfl,qD⟩:=b1.get b2;have s1:UN ⟨.slice (some ⟨B1,f1,none⟩) l1.length c1,l1,m1⟩=l1[0].xD:=by unfold UN;rw [jA a2];rfl
 have s2:UN ⟨.slice (some ⟨B2,f2,none⟩) l2.length c2,l2,m2⟩=l2[0].xD:=by unfold UN;rw [jA b2];rfl
 unfold ZN;rw [s1,s2];dsimp only [yT] at e1 e2
 repeat' (first|refine qW [] [8,9,10,11] yI zd zd ?_|refine nw ?_)
 repeat' (first|refine ae2 zd zd (fun b3=>?_) ?_|refine YH zd _ (by exact Y4 (by first|exact zj i zd zd rfl hi|exact zj j zd zd rfl hj|exact Oi zd e1 n1|exact Oi zd e2 n2)) zd zd ?_|refine wF zd _ _ (by exact gm (by exact RE zd)) (by simp only [y8,aW,Ub,xd,YE,ua,xk]) zd ?_ ?_|refine nf ?_|exact kz)
 all_goals
  rcases XK (decide (l1[0].xD<l2[0].xD)) with d1|d1
  · rw [d1]
    repeat' (first|((apply Ze);(first|exact zj (0) zd zd ze ze|exact zY zd (vK 0 _ zd)|exact zY zd (qD 0 _ zd));rfl)|refine nw ?_)
    exact ⟨_,[.zC (.slice (some ⟨b,0,none⟩) L.length c) 256 2 L.length cs0],zP,zE,zh,zq,rfl,rfl,rfl⟩
  · rw [d1];rcases XK (decide (l1[0].xD=l2[0].xD)) with d2|d2
    · have d3:(l1[0].xD==l2[0].xD)=true:=beq_iff_eq.2 (qc d2);rw [d2]
      repeat' (first|((apply Ze);(first|exact zj (0) zd zd ze ze|exact zY zd (vK 0 _ zd)|exact zY zd (qD 0 _ zd));rfl)|refine nw ?_)
      exact ⟨_,[.zC (.slice (some ⟨b,0,none⟩) L.length c) 256 2 L.length cs0],zP,zE,zh,zq,rfl,rfl,rfl⟩
    · have d3:(l1[0].xD==l2[0].xD)=false:=beq_eq_false_iff_ne.2 (wc d2);rw [d2]
      repeat' (first|((apply Ze);(first|exact zj (0) zd zd ze ze|exact zY zd (vK 0 _ zd)|exact zY zd (qD 0 _ zd));rfl)|refine nw ?_)
      exact ⟨_,[.zC (.slice (some ⟨b,0,none⟩) L.length c) 256 2 L.length cs0],zP,zE,zh,zq,rfl,rfl,rfl⟩
end
section
open Go Go.RowKit
attribute [local irreducible] Calls
section
variable {P:Program} {w:World} {M0:Mem} {N:Nat} {M:Mem} {own:List Ob} {env:Env}
theorem Ho {ops:Array Oper} {o:Oper} {e:TypeId} {k n:Nat} {cs:List Value} {c:Value->List Ob} (hg:o.guard=none) (he:EF P w M0 N o ⟨M,own,env⟩ (own++ [.row e k n cs]) (.r own.length)) (ha: ∀u,JO own [.zC u e k n cs] (c u)):
 EX P w M0 N ops o ⟨M,own,env⟩ {u:Value//j2 u n} (fun _=>M) (fun u=>c u.1) (fun u=> .v u.1):=⟨fun hd a W hR=>by
 rw [zo (by simp [Region.wanted,hg])]
 have key: ∀(u:Value) (W':World),(∃yE,(∀i,i<own.length->yE i=hd i)/\Wd w M0 yE M (own++ [.row e k n cs]) W'/\u=(SV.r own.length).den yE)->
  ∃(x: {u:Value//j2 u n}) (yE:Nat->Value),(∀i,i<own.length->yE i=hd i)/\Wd w M0 yE M (c x.1) W'/\u=(SV.v x.1).den yE:=by
  rintro u W' ⟨yE,h1,h2,h3⟩;have hO:=h2.own own.length _ (by rw [kF (zN _),qq];rfl);refine ⟨⟨yE own.length,uJ hO⟩,yE,h1,?_,h3⟩;rw [<-(ha _).h];have:=h2.vD (i:=own.length) (o':= .zC (yE own.length) e k n cs) (by rw [kF (zN _),qq];rfl) yx ⟨rfl,hO⟩;rw [YF _ _ (zN _),qq] at this;exact this
 exact (he.go hd a W hR).mono key,fun x=>by rw [<-(ha x.1).h];simp,fun _=>rfl⟩
end
section
variable {P:Program} {w:World} {M0:Mem} {N:Nat} {M:Mem} {own:List Ob} {env:Env} {dst:Option Tmp} {ty:TypeId} {pos:String} {z7:Array Edge}
end
section
variable {P:Program} {w:World} {M0:Mem} {N:Nat} {M:Mem} {own:List Ob} {env:Env} {dst:Option Tmp} {ty:TypeId} {pos:String} {z7:Array Edge}
theorem Y1.nft {M:Mem} {own:List Ob} {b:Nat} {o:Ob} {us:List Value} [h:Lc own b o] (hc:o.cells=us):Y1 M own b 0 us:=by
 obtain ⟨i,h1,h2⟩:=h.h;subst hc;exact .inl ⟨i,o,h1,h2,fun j v hj=>by rw [xu];exact hj⟩
end
end
section
open Go Go.RowKit
section
variable {P:Program} {w:World} {M0:Mem} {N:Nat}
structure XU (P:Program) (w:World) (M0:Mem) (N:Nat) (ops:Array Oper) (o:Oper) (s:St) (ι:Type) (M':ι->Mem) (zw:ι->List Ob) (v:ι->Value):Prop where
 go: ∀hd a W,Rel w M0 N hd s a W->if Region.wanted o (yielded ops a.tmps)=true then kj P (fun u W'=> ∃(x:ι) (yE:Nat->Value),Wd w M0 yE (M' x) (zw x) W'/\u=v x) ((execOp a.eval o).run P W)
  else ∃(x:ι) (yE:Nat->Value),Wd w M0 yE (M' x) (zw x) W/\undef=v x
end
end
end Go.Proofs.YtaibdpjjojihmaaGreat
