/- A part of the proof of TopPrefix; no conditions. -/
import Derived.Shelf.Spec.SlicesInsertGrow
import Derived.Test.YtaibdpjjojihmaaGreatPMd5
set_option linter.unusedVariables false
set_option linter.unusedSimpArgs false
set_option maxRecDepth 20000
set_option maxHeartbeats 4000000
namespace Go.Proofs.YtaibdpjjojihmaaGreat
section
open Go Go.RowKit Go.Shelf
def Tu:Ren:=⟨fun x=>match x with|21=>177|27=>208|28=>209|35=>235|39=>249|x=>x,fun t=>match t with|0=>0|3=>3|4=>4|22=>32|t=>t,fun x=>x⟩
theorem PN:Lays2.n21 zf Tu:= {
 mixed:=by kernel_rfl
 f21:=by kernel_rfl
 f27:=by kernel_rfl
 f28:=by kernel_rfl
 f35:=by kernel_rfl
 f39:=by kernel_rfl
 t0:=by kernel_rfl
 a0:=fun w=>by kernel_rfl
 z0:=fun w=>by kernel_rfl
 v0:=fun w=>by kernel_rfl
 t3:=by kernel_rfl
 a3:=fun w=>by kernel_rfl
 z3:=fun w=>by kernel_rfl
 v3:=fun w=>by kernel_rfl
 t4:=by kernel_rfl
 a4:=fun w=>by kernel_rfl
 z4:=fun w=>by kernel_rfl
 v4:=fun w=>by kernel_rfl
 t22:=by kernel_rfl
 a22:=fun w=>by kernel_rfl
 z22:=fun w=>by kernel_rfl
 v22:=fun w=>by kernel_rfl
 i3:=by kernel_rfl}
section
variable {w:World} {M0 M:Mem} {hd:Nat->Value} {own:List Ob} {W W':World}
theorem Wd.sub {ρ:List Nat} {zw:List Ob} (h:Wd w M0 hd M own W) (bg:u9 ρ=true) (hs:ZF zw ρ own):Wd w M0 (fun i=>hd (ρ.getD i 0)) M zw W:=
 (Sub.rel (N:=0) (a:=⟨#[],[]⟩) (s:=⟨M,own,[]⟩) (s':=⟨M,zw,[]⟩) (ρ:=ρ) ⟨rfl,bg,hs,trivial⟩ ⟨h,⟨fun t sv ht=>(nomatch ht),rfl,rfl⟩⟩).1
theorem Wd.swap {i:Nat} {o o':Ob} {row:Option Nat} {v':Value} (hW:Wd w M0 hd M own W) (hi:own[i]?=some o) (jt:o≠Ob.gone) (hg:W.grownBy W' row) (w7: ∀b,row=some b->yX (hd i)=some b) (ju:wR w.heap.size W' v' o') (hf: ∀b,yX v'=some b->yX (hd i)=some b\/W.heap.size<=b): ∃yE,Wd w M0 yE M [o'] W':=by
 have JT:=hW.app hi jt hg w7 ju hf;refine ⟨_,JT.sub (ρ:= [own.length]) rfl ⟨?_,trivial⟩⟩;rw [kF yx];simp
end
theorem gk {a b c:World} {r:Option Nat} (h:a.grownBy b none) (k:b.grownBy c r) (hr: ∀x,r=some x->a.heap.size<=x):a.grownBy c none:=
 ⟨k.os.trans h.os,k.tape.trans h.tape,k.output.trans h.output,jZ h.size k.size,fun q hq _=>(k.block q (IL hq h.size) (fun e=>by have:=hr q e.symm;omega)).trans (h.block q hq yx)⟩
theorem ar {a b c:World} {r:Option Nat} (h:a.grownBy b r) (k:b.grownBy c r):a.grownBy c r:=
 ⟨k.os.trans h.os,k.tape.trans h.tape,k.output.trans h.output,jZ h.size k.size,fun q hq hn=>(k.block q (IL hq h.size) hn).trans (h.block q hq hn)⟩
theorem CL {C cs:List Value} {n i:Nat} (x:Value) (hC:C.length=n+1) (hCt:C.take n=cs) (hi:i<=n):jT (jT C (i+1) (cs.drop i)) i [x]=cs.take i++x::cs.drop i:=by
 have kW:cs.length=n:=by rw [<-hCt,yC];omega
 have hCi:C.take i=cs.take i:=by rw [<-hCt,wO,jn hi]
 rw [u7 _ _ C (by rw [kI];omega)];rw [u7 _ _ _ (by simp;omega)]
 have e1:(C.take (i+1)++cs.drop i++C.drop (i+1+(cs.drop i).length)).take i=cs.take i:=by
  rw [xY,GF (by simp;omega),wO,jn ze,hCi]
 have e2:(C.take (i+1)++cs.drop i++C.drop (i+1+(cs.drop i).length)).drop (i+ [x].length)=cs.drop i:=by
  have h1:C.drop (i+1+(cs.drop i).length)= []:=Ut (by rw [kI];omega);rw [h1,xR];have h2:(C.take (i+1)).length=i+1:=by rw [yC];omega
  show (C.take (i+1)++cs.drop i).drop (i+1)=_;exact GL h2
 rw [e1,e2];simp
theorem Mz {A Z D:List Value} {i:Nat} (x:Value) (hA:A.length=i) (hZ:Z.length=D.length+1):jT (jT (A++Z) i [x]) (i+1) D=A++x::D:=by
 obtain ⟨z,Z',rfl⟩: ∃z Z',Z=z::Z':=by
  cases Z with
  |nil=>simp at hZ
  |cons z Z'=>exact ⟨z,Z',rfl⟩
 have hZ':Z'.length=D.length:=by simpa using hZ
 have h1:jT (A++z::Z') i [x]=A++x::Z':=by
  rw [u7 [x] i (A++z::Z') (by rw [yK,hA];show i+1<=i+(Z'.length+1);omega),Ai hA]
  have h2:(A++z::Z').drop (i+ [x].length)=Z':=by
   rw [show A++z::Z'=(A++ [z])++Z' by simp];exact GL (by rw [yK,hA];rfl)
  rw [h2];simp
 rw [h1,show A++x::Z'=(A++ [x])++Z' by simp];have h3:(A++ [x]).length=i+1:=by rw [yK,hA];rfl
 rw [u7 D (i+1) ((A++ [x])++Z') (by rw [yK,h3];omega),Ai h3];rw [Ut (by rw [yK,h3];omega)];simp
theorem aca (u lv x:Value) (i n:Nat) (cs:List Value) (M:Mem) (hi:i<=n) (hn:n<=1000000) (hx:x.oneCell'=true) (ahL: ∀v∈cs,v.oneCell'=true):
 uC zf 177 [u, .int .i64 i,lv] M [.zC u 3 1 n cs, .zC lv 3 1 1 [x]] (fun v zw=>j2 v (n+1)/\zw= [.zC v 3 1 (n+1) (cs.take i++x::cs.drop i)]):=by
 intro w M0 hd W hW;have hO0:=hW.own 0 _ rfl;have hO1:=hW.own 1 _ rfl;obtain ⟨hu,Bc⟩:=id hO0;obtain ⟨hl,Nb⟩:=id hO1;obtain ⟨kW,alM⟩:=id Bc;obtain ⟨_,⟨_,h⟩|⟨vb,vc,ajT,oS,apu,aav,apt,aps,apr,akG⟩⟩:=id Nb
 · omega
 rw [hl] at oS;subst oS;rw [v7] at kW
 have hvs: ∀j v,([x]:List Value)[j]?=some v->W.cell? ⟨vb,0+j,none⟩=some v:=fun j v hj=>by
  rw [Vm W vb (0+j) _ _ _ aav];rw [<-akG,wA] at hj;split at hj
  · rw [xu];simpa using hj
  · cases hj
 have Jr: ∀v∈([x]:List Value),v.oneCell'=true:=fun v hv=>by rw [jx.1 hv];exact hx
 have uM:(cs.take i++x::cs.drop i).length=(n+1)*1:=by simp;omega
 have lY: ∀(v':Value) (W':World) (row:Option Nat),W.grownBy W' row->(∀b,row=some b->yX (hd 0)=some b)->W'.ownsRow w.heap.size 3 1 v' (n+1) (cs.take i++x::cs.drop i)->(∀b,yX v'=some b->yX (hd 0)=some b\/W.heap.size<=b)->
  ∃v yE zw,Ending.returned v'= .returned v/\Wd w M0 yE M zw W'/\j2 v (n+1)/\zw= [.zC v 3 1 (n+1) (cs.take i++x::cs.drop i)]:=fun v' W' row h1 h2 h3 h4=>by
  obtain ⟨yE,h5⟩:=hW.swap (i:=0) (o':= .zC v' 3 1 (n+1) (cs.take i++x::cs.drop i)) (v':=v') rfl yx h1 h2 ⟨rfl,h3⟩ h4;exact ⟨v',yE,_,rfl,h5,uJ h3,rfl⟩
 have FW: ∀(W1:World) (cap:Nat) (cur:Array Value),W.grownBy W1 none->W1.heap[W.heap.size]?=some (.cells cur 3 (0,0))->n+1<=cap->cap<=maxLen->cur.size=cap->cur.toList.take (n+1)=cs.take i++x::cs.drop i->
  ∃v yE zw,Ending.returned (.slice (some ⟨W.heap.size,0,none⟩) (n+1) cap)= .returned v/\Wd w M0 yE M zw W1/\j2 v (n+1)/\zw= [.zC v 3 1 (n+1) (cs.take i++x::cs.drop i)]:=fun W1 cap cur h1 h2 h3 h4 h5 h6=>
  lY _ W1 none h1 (fun b hb=>by cases hb) ⟨uM, .inr ⟨W.heap.size,cap,cur,rfl,hW.below.size,h2,h3,h4,ze,by rw [v7];exact h6⟩⟩ (fun b hb=> .inr (by
   obtain rfl:W.heap.size=b:=by simpa [yX] using hb
   exact zN _))
 rcases alM with ⟨aaF,P9⟩|⟨b,cap,cur,hv,kJ,Zk,FN,bj,WF,Xg⟩
 · rw [hu] at aaF;subst aaF P9;obtain rfl:cs= []:=gy.1 kW;obtain rfl:i=0:=ze;have hc:=Any2.slices_Insert_int_end_grow PN none 0 0 vb 0 1 vc [] [x] W ze ze ze ze rfl rfl (fun _=>rfl) (fun a ha=>by cases ha) hvs Jr;refine eI hc fun e W' ⟨he,hw⟩=>?_
   subst he hw;have ql:=tX W 1 0 (Tu.t 3);have bj:grownCap W 1 0 (Tu.t 3)<=maxLen:=AC W 1 0 (Tu.t 3) ze;refine FW _ _ _ ⟨rfl,rfl,rfl,by simp,fun q hq _=>An W.drew _ q hq⟩ (JI W.drew _) ql bj ?_ ?_
   · simp only [As,aT];show 1+(grownCap W 1 0 _-1)*1=grownCap W 1 0 _;omega
   · simp
 · rw [hu] at hv;subst hv;rw [v7] at Xg WF;have vU:yX (hd 0)=some b:=by rw [hu];rfl
   have hcc: ∀j v,cs[j]?=some v->W.cell? ⟨b,0+j,none⟩=some v:=fun j v hj=>by
    rw [Vm W b (0+j) _ _ _ Zk];rw [<-Xg,wA] at hj;split at hj
    · rw [xu];simpa using hj
    · cases hj
   have uA: ∀j,j<cap->(W.cell? ⟨b,0+j,none⟩).isSome=true:=fun j hj=>by
    rw [Vm W b (0+j) _ _ _ Zk];simp;omega
   have Oo: ∀j,W.frozen? ⟨b,j,none⟩=false:=fun j=>by simp [World.frozen?,Zk]
   rcases yq n cap with K4|K4
   · have hC:(cur.toList.take (n+1)).length=n+1:=by rw [yC,mZ];omega
     have hCt:(cur.toList.take (n+1)).take n=cs:=by rw [wO,jn ze,Xg]
     rcases yq i n with J6|J6
     · have hvb:vb≠b:=fun e=>by
        have:=hW.VX 0 1 _ _ b rfl rfl yx yx vU (by rw [hl,<-e];rfl);omega
       have hc:=Any2.slices_Insert_int_shift PN b 0 n cap i vb 0 1 vc cs [x] W J6 ze ze (by unfold maxLen at bj;omega) hvb kW rfl hcc (fun j hj=>uA j ze) (fun j _=>Oo _) hvs ahL Jr
        3 3 ajT.size cur.size (by simp [World.shape?,aav]) (by simp [World.shape?,Zk]) ze (by simp [World.frozen?,aav]) (by simp [World.frozen?,aav])
       refine eI hc fun e W' ⟨he,hw⟩=>?_
       subst he hw;have Xo:W.drew.heap[b]?=some (.cells cur 3 (0,0)):=Zk
       refine lY _ _ (some b) (ar (ar (b:=W.drew) ⟨rfl,rfl,rfl,zN _,fun _ _ _=>rfl⟩ (jV _ _ _)) (jV _ _ _)) (fun q hq=>by rw [<-qt hq];exact vU)
        ⟨uM, .inr ⟨b,cap,_,rfl,kJ,x7 _ _ _ _ (x7 _ _ _ _ Xo),K4,bj,by rw [vu,vu,v7];exact WF,?_⟩⟩ (fun q hq=> .inl (by
         obtain rfl:b=q:=by simpa [yX] using hq
         exact vU))
       rw [v7,vt,vt];rw [show 0+(i+1)=i+1 by omega,show 0+i=i by omega];exact CL x hC hCt hi
     · obtain rfl:i=n:=ze
       have hc:=Any2.slices_Insert_int_end_room PN b 0 i cap vb 0 1 vc [x] W ze ze (by unfold maxLen at bj;omega) rfl (fun j hj=>by
        have:=uA (i+j) ze
        rwa [show 0+(i+j)=0+i+j by omega] at this) (fun j _=>Oo _) hvs Jr
       refine eI hc fun e W' ⟨he,hw⟩=>?_
       subst he hw
       refine lY _ _ (some b) (jV _ _ _) (fun q hq=>by rw [<-qt hq];exact vU)
        ⟨uM, .inr ⟨b,cap,_,rfl,kJ,x7 _ _ _ _ Zk,K4,bj,by rw [vu,v7];exact WF,?_⟩⟩ (fun q hq=> .inl (by
         obtain rfl:b=q:=by simpa [yX] using hq
         exact vU))
       rw [v7,vt,show 0+i=i by omega];have:=CL x hC hCt hi;rw [Ut (by omega:cs.length<=i)] at this⊢;exact this
   · have ql:=tX W (n+1) cap (Tu.t 3);have alC:=bj;unfold maxLen at alC;have aaM:grownCap W (n+1) cap (Tu.t 3)<=maxLen:=AC W (n+1) cap (Tu.t 3) (by unfold maxLen;omega);rcases yq i n with J6|J6
     · have hc:=Any2.slices_Insert_int_grow PN b 0 n cap i vb 0 1 vc cs [x] W J6 ze FN ze ze kW rfl hcc hvs ahL Jr;refine eI hc fun e W' ⟨he,hw⟩=>?_
       subst he hw;have Uo:=JI W (.cells ((cs.take i).toArray++Builtin.zeroCells (Value.int .i64 0).cells (n+1-i)++Builtin.zeroCells (Value.int .i64 0).cells (grownCap W (n+1) cap (Tu.t 3)-(n+1))) (Tu.t 3));refine FW _ _ _ (gk (gk (b:=(W.alloc _).drew) ⟨rfl,rfl,rfl,by simp,fun q hq _=>An W _ q hq⟩ (jV _ _ _) (fun q hq=>by rw [<-qt hq];exact zN _)) (ar (b:=World.drew _) ⟨rfl,rfl,rfl,zN _,fun _ _ _=>rfl⟩ (jV _ _ _)) (fun q hq=>by rw [<-qt hq];exact zN _)) (x7 _ _ _ _ (show (World.drew _).heap[W.heap.size]?=_ from x7 _ _ _ _ (show (World.drew _).heap[W.heap.size]?=_ from Uo))) ql aaM ?_ ?_
       · rw [vu,vu];simp only [As,aT,GY,yC];show min i cs.length+(n+1-i)*1+(grownCap W (n+1) cap _-(n+1))*1=grownCap W (n+1) cap _;omega
       · rw [vt,vt];simp only [IN];have hz:(Builtin.zeroCells (Value.int .i64 0).cells (n+1-i)).toList.length=n+1-i:=by rw [mZ,aT];show (n+1-i)*1=_;omega
         rw [GF (by rw [yK,hz,yC];omega),wD (by rw [yK,hz,yC];omega)];have hli:(cs.take i).length=i:=by rw [yC];omega
         exact Mz x hli (by rw [hz,kI];omega)
     · obtain rfl:i=n:=ze
       have hc:=Any2.slices_Insert_int_end_grow PN (some ⟨b,0,none⟩) i cap vb 0 1 vc cs [x] W ze FN ze ze kW rfl (fun h=>by cases h) (fun a ha j v hj=>by
        obtain rfl:=qt ha;have:=hcc j v hj
        rwa [vG]) hvs Jr
       refine eI hc fun e W' ⟨he,hw⟩=>?_
       subst he hw;refine FW _ _ _ ⟨rfl,rfl,rfl,by simp,fun q hq _=>An W.drew _ q hq⟩ (JI W.drew _) ql aaM ?_ ?_
       · simp only [As,aT,GY,yK];show cs.length+1+(grownCap W (i+1) cap _-(i+1))*1=grownCap W (i+1) cap _;omega
       · rw [IN,GF (by simp;omega),wD (by simp;omega),wD ze,Ut ze]
end
section
open Go Go.RowKit
attribute [local irreducible] Calls
theorem kB.six {P:Program} {w:World} {M0:Mem} {N:Nat} {fn:Func} {s:St} {r1 r2 r3 r4 r5 r6:ResultVar} {v1 v2 v3 v4 v5 v6:Value} (h:fn.results= #[r1,r2,r3,r4,r5,r6]) (h1:RV P w M0 N s r1 v1) (h2:RV P w M0 N s r2 v2) (h3:RV P w M0 N s r3 v3) (h4:RV P w M0 N s r4 v4) (h5:RV P w M0 N s r5 v5) (h6:RV P w M0 N s r6 v6):kB P w M0 N fn s (.tuple #[v1,v2,v3,v4,v5,v6]):=fun hd a W hR=>by
 rw [YQ (P:=P),h];simp [h1 hd a W hR,h2 hd a W hR,h3 hd a W hR,h4 hd a W hR,h5 hd a W hR,h6 hd a W hR]
theorem Dz (v u:Value) (ps:List ByteArray) (ks:List Int) (M:Mem) (hp:xt M 1 zM v ps) (hk:xt M 1 zF u ks) (h4:4<=ks.length) (hn:ks.length<=100000) (Uk:ks.length=ps.length+1):
 zu zf 237 [v,u] M [] (fun r M' o=>M.le M'/\o= []/\ ∃a b c d,r= .tuple #[a,b, .string (wi ps ((ks.length+1)/2-1)),c,d, .bool true]/\xt M' 1 zM a (ps.take ((ks.length+1)/2-1))/\xt M' 1 zF b (ks.take ((ks.length+1)/2))/\xt M' 1 zM c (ps.drop ((ks.length+1)/2))/\xt M' 1 zF d (ks.drop ((ks.length+1)/2))):=by
 obtain ⟨A,c,rfl,vK,qD,_⟩:=id hp;obtain ⟨B,d,rfl,Zy,uN,_⟩:=id hk;unfold maxLen at qD uN;obtain ⟨q,hq⟩: ∃q,q=(ks.length+1)/2:=⟨_,rfl⟩;rw [<-hq];have hq1:2<=q:=ze;have pZ:q<ks.length:=ze;have MJ:=hp.part (p:=0) (q:=q-1) (m:=c) ze ze ze ze;have hp2:=hp.part (p:=q) (q:=ps.length) (m:=c) ze ze ze ze;have gR:=hk.part (p:=0) (q:=q) (m:=d) ze ze ze ze;have Ul:=hk.part (p:=q) (q:=ks.length) (m:=d) ze ze ze ze;rw [JJ] at MJ gR;rw [xk] at hp2 Ul;have k1:=zu.iq fun W hW=>Y5 _ (ps.take (q-1)) W (MJ.xS hW) (by rw [yC];omega)
 have k2:=zu.iq fun W hW=>Y6 _ (ks.take q) W (gR.xS hW) (by rw [yC];omega)
 have k3:=zu.iq fun W hW=>Y5 _ (ps.drop q) W (hp2.xS hW) (by rw [kI];omega)
 have k4:=zu.iq fun W hW=>Y6 _ (ks.drop q) W (Ul.xS hW) (by rw [kI];omega)
 obtain ⟨bA,off,rfl,jk⟩:=hp.get (show q-1<ps.length by omega);have hsA:wi ps (q-1)=ps[q-1]:=qO _;rw [hsA];refine KC (args:= [.slice (some ⟨bA,off,none⟩) ps.length c, .slice B ks.length d]) (zO:= []) Tryz.func237 rfl Tryz.ntmps237 zd (fun F w M0 hF=>zz ?_);have g3:decide ((ks.length:Int)<4)=false:=z6 ze
 have g4:((ps.length:Int) !=(ks.length:Int)-1)=false:=by
  rw [show (ks.length:Int)-1=ps.length by omega];simp
 repeat' (first|refine qW [] [4,8,17,21,22,23,25,26] yI zd zd ?_|((apply zA);(first|exact xG (z5 (Value.int .i64) (show ((ks.length:Int)+1)/2=(q:Int) by omega)) (yN zd zd (D4 ze ze ze))|exact yN zd zd (Qs ze ze));rfl)|refine nw ?_)
 repeat' (first|refine nM zd (xcr k1) zd (fun r1 hr1=>?_) ?_|refine nM zd (xcr k2) zd (fun r2 KL=>?_) ?_|refine nM zd (xcr k3) zd (fun r3 hr3=>?_) ?_|refine nM zd (xcr k4) zd (fun r4 hr4=>?_) ?_|refine YH zd _ (by exact Y4 (by first|exact xG (z5 (Value.int .i64) (show (q:Int)-1=((q-1:Nat):Int) by omega)) (yN zd zd (Qs ze ze))|exact yg 0 q d zd zd zd zd ze ze ze ze|exact yg 0 (q-1) c zd zd zd zd ze ze ze ze|exact yg q ps.length c zd zd zd zd ze ze ze ze|exact yg q ks.length d zd zd zd zd ze ze ze ze|exact zj ((q-1)) zd zd ze ze|exact zY zd (jk 0 _ zd))) zd zd ?_|refine nf ?_|exact kz|refine ng ?_ ?_)
 refine wG (v:=r1) (e:=9) (k:=1) (n:=(ps.take (q-1)).length) (cs:=(ps.take (q-1)).flatMap zM) zh fun M2 zD Nb=>?_
 refine wG (v:=r2) (e:=3) (k:=1) (n:=(ks.take q).length) (cs:=(ks.take q).flatMap zF) zh fun M3 yc JP=>?_
 refine wG (v:=r3) (e:=9) (k:=1) (n:=(ps.drop q).length) (cs:=(ps.drop q).flatMap zM) zh fun M4 yQ aq=>?_
 refine wG (v:=r4) (e:=3) (k:=1) (n:=(ks.drop q).length) (cs:=(ks.drop q).flatMap zF) zh fun M5 kG iC=>?_
 have s1:=(Nb.YB (cells:=zM) (fun _ _=>rfl)).mono (yc.trans (yQ.trans kG));have s2:=(JP.YB (cells:=zF) (fun _ _=>rfl)).mono (yQ.trans kG);have s3:=(aq.YB (cells:=zM) (fun _ _=>rfl)).mono kG;have s4:=iC.YB (cells:=zF) (fun _ _=>rfl);have hle:=zD.trans (yc.trans (yQ.trans kG))
 repeat' (refine nw ?_)
 exact ⟨_,[],kB.six zd (RV.tmp zd) (RV.tmp zd) (RV.tmp zd) (RV.tmp zd) (RV.tmp zd) (RV.tmp zd),hle,zh,zq,hle,rfl,r1,r2,r3,r4,rfl,s1,s2,s3,s4⟩
instance:OvT zf 208 32 4:=⟨fun args W=>IM Tryz.func208 Yy Yy Yy (e:=Extern.SlicesOverlaps.overlaps #[32,32] #[4]) Yy args W⟩
theorem iW (u vv:Value) (l:List Int) (x:Int) (i:Nat) (M:Mem) (hi:i<=l.length) (hn:l.length<=1000000000) (Jr:(zF x).all (·.oneCell')=true) (WA:(l.flatMap zF).all (·.oneCell')=true):
 zu zf 177 [u, .int .i64 i,vv] M [.zC u 3 1 l.length (l.flatMap zF), .zC vv 3 1 1 (zF x)] (fun r M' o=>M'=M/\j2 r (l.length+1)/\o= [.zC r 3 1 (l.length+1) ((l.take i++x::l.drop i).flatMap zF)]):=by
 have hk: ∀a:Int,(zF a).length=1:=fun _=>rfl
 have hoT: ∀m,((l.take m).flatMap zF).all (·.oneCell')=true:=fun m=>by
  rw [<-ve hk,yw];exact fun v hv=>yw.1 WA v (wB hv)
 have Tl: ∀m,((l.drop m).flatMap zF).all (·.oneCell')=true:=fun m=>by
  rw [<-vf hk,yw];exact fun v hv=>yw.1 WA v (dp hv)
 refine xy Tryz.func177 rfl Tryz.ntmps177 zd (fun F w M0 hF=>zz ?_);refine JK (u:=u) (e:=3) (k:=1) (n:=l.length) (cs:=l.flatMap zF) zh fun hu=>?_
 refine JK (u:=vv) (e:=3) (k:=1) (n:=1) (cs:=zF x) zh fun hv=>?_
 obtain ⟨VB,VC,rfl,hV1,hV2⟩:=xB hv ze;have g0:((1:Int)==0)=false:=rfl;have cg: ∀own M,Y1 M (.zC (.slice (some ⟨VB,0,none⟩) 1 VC) 3 1 1 (zF x)::own) VB 0 (zF x):=fun own M=> .inl ⟨0,_,rfl,rfl,fun j v hj=>by rw [xu];exact hj⟩
 rcases yq i l.length with z9|ql
 · obtain ⟨B,C,rfl,Ry,hC2⟩:=xB hu ze;have g1:((i:Int)==(l.length:Int))=false:=beq_eq_false_iff_ne.2 ze;rcases yq C (l.length+1) with hC|hC
   · have g2:decide ((C:Int)<(l.length:Int)+(1:Nat))=true:=yk ze
     have zV:Y1 M (.zC (.slice (some ⟨B,0,none⟩) l.length C) 3 1 l.length (l.flatMap zF):: .zC (.slice (some ⟨VB,0,none⟩) 1 VC) 3 1 1 (zF x)::F) B 0 ((l.take i).flatMap zF):= .inl ⟨0,_,rfl,rfl,fun j v hj=>by
      rw [xu];rw [<-ve hk] at hj;rw [wA] at hj;split at hj
      · exact hj
      · cases hj⟩
     repeat' (first|((apply zA);(first|exact xG (x6 B i l.length C 1 ze) (yg i l.length C zd zd zd zd ze ze ze ze)|exact xG (Z1 B i C 1) (yg 0 i C zd zd zd zd ze ze ze ze)|exact LV zd|exact xG (z5 (Value.int .i64) (show (l.length:Int)+((1:Nat):Int)-(i:Int)=((l.length+1-i:Nat):Int) by omega)) (yN zd zd (Qs ze ze)));rfl)|refine nw ?_)
     refine adF (n:=l.length+1-i) zd zd ze ze (by rw [ki hk,yC,jn hi]) zV (by unfold maxLen;omega) ze zd zd fun r hr=>?_
     rw [show i+(l.length+1-i)=l.length+1 by omega] at hr⊢;obtain ⟨B2,C2,rfl,hD1,hD2⟩:=xB hr ze;refine dw (uw.one _ _) fun cur kW gU _ _=>?_
     have hnk:(l.length+1)*1<=C2*1:=uB _ hD1
     have AY:cur.take ((l.take i).flatMap zF).length=(l.take i).flatMap zF:=by
      have h1:=z5 (List.take ((l.take i).flatMap zF).length) gU;rw [wO,ua,jn (by rw [ki hk,yC];exact uB _ ze)] at h1;exact h1
     have iy:((l.take i).flatMap zF).length=i*1:=by rw [ki hk,yC,jn hi]
     have am:(zF x).length=1:=hk x;have UH:((l.drop i).flatMap zF).length=(l.length-i)*1:=by rw [ki hk,kI]
     have ak:i*1+1+(l.length-i)*1=(l.length+1)*1:=by
      rw [<-uq,<-um];congr 1;omega
     have ao:(i+1)*1=i*1+1:=uq ..;have w9:=adK cur ((l.take i).flatMap zF) (zF x) ((l.drop i).flatMap zF) AY (by rw [iy,am,UH,kW];omega);rw [iy,am,UH,ak] at w9;have FY:(l.take i++x::l.drop i).flatMap zF=(l.take i).flatMap zF++zF x++(l.drop i).flatMap zF:=by simp
     rw [FY,<-w9]
     repeat' (first|((apply zA);(exact xG (x6 B2 i (l.length+1) C2 1 ze) (yg i (l.length+1) C2 zd zd zd zd ze ze ze ze));rfl)|refine nw ?_)
     refine fv (m:=1) (us:=zF x) ?_ zd zd (by show Nat.min 1 (l.length+1-i)=1;exact jn ze) zd (.inl ⟨2,_,rfl,rfl,fun j v hj=>by rw [xu];exact hj⟩) Jr (Kd.here B2 (i*1) _ cur _ _ (by rw [am,kW];omega)) zd zd
     repeat' (first|refine qW [0] [8] yI zd zd ?_|refine nw ?_)
     repeat' (first|refine YH zd _ (by exact Y4 (by first|exact xG (x6 B2 (i+1) (l.length+1) C2 1 ze) (yg (i+1) (l.length+1) C2 zd zd zd zd ze ze ze ze)|exact xG (x6 B i l.length C 1 ze) (yg i l.length C zd zd zd zd ze ze ze ze))) zd zd ?_|refine wF zd _ _ (by exact gm (by exact fG (m:=l.length-i) (us:=(l.drop i).flatMap zF) zd zd (by show Nat.min (l.length-i) (l.length+1-(i+1))=l.length-i;exact jn ze) UH (.inl ⟨1,_,rfl,rfl,fun j v hj=>by rw [<-vf hk,Vk] at hj;exact hj⟩) (Tl i) (Kd.here B2 ((i+1)*1) _ _ _ _ (by rw [UH,xA,kW,ao];omega)))) zd zd ?_ ?_|refine nf ?_|exact kz)
     rw [ao];refine dx (b:=B2) (e:=3) (k:=1) (n:=l.length+1) (cap:=C2) (cur:=jT (jT cur (i*1) (zF x)) (i*1+1) ((l.drop i).flatMap zF)) (uw.one _ _) (by rw [xA,xA,kW]) ze ze ?_
     repeat' (refine nw ?_)
     exact ⟨_,[.zC (.slice (some ⟨B2,0,none⟩) (l.length+1) C2) 3 1 (l.length+1) _],zP,zE,zh,zq,rfl,hr,rfl⟩
   · have g2:decide ((C:Int)<(l.length:Int)+(1:Nat))=false:=z6 ze;refine Ud (uw.one _ _) fun cur kW gU _ _=>?_
     have hnk:(l.length+1)*1<=C*1:=uB _ hC;have iy:((l.take i).flatMap zF).length=i*1:=by rw [ki hk,yC,jn hi]
     have am:(zF x).length=1:=hk x;have UH:((l.drop i).flatMap zF).length=(l.length-i)*1:=by rw [ki hk,kI]
     have ao:(i+1)*1=i*1+1:=uq ..
     have ak:i*1+1+(l.length-i)*1=(l.length+1)*1:=by
      rw [<-uq,<-um];congr 1;omega
     have AY:cur.take ((l.take i).flatMap zF).length=(l.take i).flatMap zF:=by
      have h1:=z5 (List.take (i*1)) gU;rw [wO,jn (uB _ hi),ve hk] at h1;rw [iy];exact h1
     have hcd: ∀(j:Nat) v,((l.drop i).flatMap zF)[j]?=some v->cur[i*1+j]?=some v:=fun j v hj=>by
      rw [<-vf hk,Vk,<-gU,wA] at hj;split at hj
      · exact hj
      · cases hj
     have w9:=adJ cur ((l.take i).flatMap zF) (zF x) ((l.drop i).flatMap zF) AY (by rw [iy,am,UH,kW];omega);rw [iy,am,UH,ak] at w9;have FY:(l.take i++x::l.drop i).flatMap zF=(l.take i).flatMap zF++zF x++(l.drop i).flatMap zF:=by simp
     rw [FY,<-w9]
     repeat' (first|refine qW [0] [8] yI zd zd ?_|((apply zA);(first|exact LV zd|exact xG (x6 B i l.length C 1 ze) (yg i l.length C zd zd zd zd ze ze ze ze)|exact xG (Z1 B (l.length+1) C 1) (yg 0 (l.length+1) C zd zd zd zd ze ze ze ze)|exact xG (x6 B (i+1) (l.length+1) C 1 ze) (yg (i+1) (l.length+1) C zd zd zd zd ze ze ze ze)|exact Hg (i:=1) (j:=0) zd zd zd zd ze zd zd (by show 0<cur.length;omega));rfl)|refine nw ?_)
     repeat' (first|refine YH zd _ (by exact Y4 (by first|exact xG (x6 B (i+1) (l.length+1) C 1 ze) (yg (i+1) (l.length+1) C zd zd zd zd ze ze ze ze)|exact xG (x6 B i (l.length+1) C 1 ze) (yg i (l.length+1) C zd zd zd zd ze ze ze ze))) zd zd ?_|refine wF zd _ _ (by exact gm (by exact fG (m:=l.length-i) (us:=(l.drop i).flatMap zF) zd zd (by show Nat.min (l.length+1-i) (l.length+1-(i+1))=l.length-i;exact (GS ze).trans ze) UH (.inl ⟨0,_,rfl,rfl,hcd⟩) (Tl i) (Kd.here B ((i+1)*1) _ _ _ _ (by rw [UH,kW,ao];omega)))) zd zd ?_ ?_|refine nf ?_|exact kz)
     rw [ao]
     repeat' (first|((apply zA);(exact xG (x6 B i (l.length+1) C 1 ze) (yg i (l.length+1) C zd zd zd zd ze ze ze ze));rfl)|refine nw ?_)
     refine fv (m:=1) (us:=zF x) ?_ zd zd (by show Nat.min 1 (l.length+1-i)=1;exact jn ze) zd (.inl ⟨1,_,rfl,rfl,fun j v hj=>by rw [xu];exact hj⟩) Jr (Kd.here B (i*1) _ _ _ _ (by rw [am,xA,kW];omega)) zd zd;refine Qm (b:=B) (e:=3) (k:=1) (n:=l.length+1) (cap:=C) (uw.one _ _) (by rw [xA,xA,kW]) ze ze ?_
     repeat' (refine nw ?_)
     exact ⟨_,[.zC (.slice (some ⟨B,0,none⟩) (l.length+1) C) 3 1 (l.length+1) _],zP,zE,zh,zq,rfl, .inr ⟨B,C,rfl,hC,ze⟩,rfl⟩
 · obtain rfl:i=l.length:=ze;have g1:((l.length:Int)==(l.length:Int))=true:=YZ _;rw [xk,nG]
   obtain ⟨A,C,rfl,Ry⟩: ∃A C,u= .slice A l.length C/\l.length<=C:=by
    rcases hu with ⟨rfl,h⟩|⟨b,c,rfl,h,_⟩
    · exact ⟨none,0,by rw [h],ze⟩
    · exact ⟨_,c,rfl,h⟩
   refine gC (.zC (.slice (some ⟨VB,0,none⟩) 1 VC) 3 1 1 (zF x):: .zC (.slice A l.length C) 3 1 l.length (l.flatMap zF)::F) ?_
   repeat' (first|refine ft (u:= .slice A l.length C) (e:=3) (k:=1) (n:=l.length) (xs:=l.flatMap zF) zd zd zh zd (cg _ _) Jr ze (by unfold maxLen;omega) ze zd zd (fun r hr=>?_)|((apply zA);(exact yg l.length l.length C zd zd zd zd ze ze ze ze);rfl)|refine nw ?_)
   have e:(l++ [x]).flatMap zF=l.flatMap zF++zF x:=by simp
   rw [e];exact ⟨_,[.zC r 3 1 (l.length+1) (l.flatMap zF++zF x)],zP,zE,zh,zq,rfl,hr,rfl⟩
theorem OJ (l:List ByteArray):(l.flatMap zM).all (·.oneCell')=true:=by simp [aV,zM,Value.oneCell']
theorem PW (l:List Int):(l.flatMap zF).all (·.oneCell')=true:=by simp [aV,zF,Value.oneCell']
theorem tP (v u:Value) (ps:List ByteArray) (ks:List Int) (i:Nat) (k:ByteArray) (Uw:Int) (M:Mem) (hp:xt M 1 zM v ps) (hk:xt M 1 zF u ks) (hn:ks.length<=100000) (Uk:ks.length=ps.length+1) (hi:i<ks.length) (hh:has (xL ps i) k=true) (jt:k≠(xL ps i).lo):
 zu zf 239 [v,u, .int .i64 i, .string k, .int .i64 Uw] M [] (fun r M' o=>M.le M'/\o= []/\ ∃a b,r= .tuple #[a,b]/\xt M' 1 zM a (ps.take i++k::ps.drop i)/\xt M' 1 zF b (ks.take (i+1)++Uw::ks.drop (i+1))):=by
 obtain ⟨A,c,rfl,vK,qD,_⟩:=id hp;obtain ⟨B,d,rfl,Zy,uN,_⟩:=id hk;unfold maxLen at qD uN;have cG:=fun W hW=>ZS _ ps i W (hp.xS hW) ze
 have cH:=fun W=>KP (xL ps i) k W
 rw [hh] at cH;refine xy Tryz.func239 rfl Tryz.ntmps239 zd (fun F w M0 hF=>zz ?_);have k1:=zu.iq fun W hW=>Y5 _ ps W (hp.xS hW) ze
 have k2:=zu.iq fun W hW=>Y6 _ ks W (hk.xS hW) ze
 have k3:=fun r vv=>iU r vv ps k i M ze ze rfl (OJ ps)
 have k4:=fun r vv=>iW r vv ks Uw (i+1) M ze ze rfl (PW ks)
 have g1:decide ((i:Int)<0)=false:=z6 ze;have g2:decide ((ks.length:Int)<=(i:Int))=false:=z6 ze;have g3:decide (k=(xL ps i).lo)=false:=z6 jt
 repeat' (first|refine yh zh fun b=>?_|refine pW k1 fun r1 hr1=>?_|refine pW k2 fun r2 KL=>?_|refine pW (k3 _ _) fun r3 hr3=>?_|(refine pW (k4 _ _) fun r4 hr4=>?_;refine Yu (uw.one _ _) fun M2 zD iC=>?_;refine Yu (uw.one _ _) fun M3 yc aq=>?_)|refine PV (us:=zM k) zd ⟨by rfl⟩ zd zd fun b2 cp=>?_|refine PV (us:=zF Uw) zd ⟨by rfl⟩ zd zd fun b3 cp=>?_|((apply zA);(first|exact zm zd cG|exact zm zd (fun W _=>cH W));rfl)|refine nw ?_)
 have l1:ps.length+1=(ps.take i++k::ps.drop i).length:=by simp;omega
 have l2:ks.length+1=(ks.take (i+1)++Uw::ks.drop (i+1)).length:=by simp;omega
 rw [l1] at aq;rw [l2] at iC;exact ⟨_,[],kH,zD.trans yc,zh,zq,zD.trans yc,rfl,r3,r4,rfl,aq.YB (cells:=zM) (fun _ _=>rfl),(iC.YB (cells:=zF) (fun _ _=>rfl)).mono yc⟩
end
end Go.Proofs.YtaibdpjjojihmaaGreat
