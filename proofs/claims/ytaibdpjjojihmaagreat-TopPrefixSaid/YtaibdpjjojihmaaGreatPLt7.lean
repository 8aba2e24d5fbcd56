/- A part of the proof of TopPrefix; no conditions. -/
import Derived.Test.YtaibdpjjojihmaaGreatPDw
set_option linter.unusedVariables false
set_option linter.unusedSimpArgs false
set_option maxRecDepth 20000
set_option maxHeartbeats 4000000
namespace Go.Proofs.YtaibdpjjojihmaaGreat
section
open Go Go.RowKit
attribute [local irreducible] Calls
def nP (b g c n k:Nat) (cs:List Value) (r:Int×List Int×Int) (v:Value) (zw:List Ob):Prop:=v= .int .i64 r.1/\ ∃u',j2 u' r.2.1.length/\zw=wH b g c n ((cs.set (k*2) u').set (k*2+1) (.int .i64 r.2.2)) u' r.2.1
theorem Fs (b g c n k:Nat) (cs:List Value) (u:Value) (yM:List Int) (zL jg:Int) (M:Mem) (hk:k<n) (hn:n<=1000000) (hu:cs[k*2]?=some u) (hh:cs[k*2+1]?=some (.int .i64 jg)) (kW:cs.length=n*2) (sZ:Ht yM) (D8:yM.length<=1000000) (AX:j2 u yM.length):
 uC zf 130 [.pointer (some ⟨b,0,none⟩), .int .i64 zL, .int .i64 k] M (wH b g c n cs u yM) (nP b g c n k cs (Vy zL yM jg 1)):=by
 refine AD Tryz.func130 rfl Tryz.ntmps130 zd (fun w M0=>?_)
 repeat' (refine vw ?_)
 refine yS (zO:=wH b g c n cs u yM) [0,1,2] zd zd ka (fun M' _=>lQ b g c n k cs u yM zL jg 1 M' hk hn hu hh kW sZ D8 AX) zd zd ?_;rintro _ _ ⟨rfl,u',h1,rfl⟩
 repeat' (refine vw ?_)
 exact ⟨_,[3,4,5],wH b g c n ((cs.set (k*2) u').set (k*2+1) (.int .i64 (Vy zL yM jg 1).2.2)) u' (Vy zL yM jg 1).2.1,zP,zE,rfl,ka,rfl,u',h1,rfl⟩
theorem CC (b g c n k:Nat) (cs:List Value) (u:Value) (yM:List Int) (zL jg:Int) (M:Mem) (hk:k<n) (hn:n<=1000000) (hu:cs[k*2]?=some u) (hh:cs[k*2+1]?=some (.int .i64 jg)) (kW:cs.length=n*2) (sZ:Ht yM) (D8:yM.length<=1000000) (AX:j2 u yM.length):
 uC zf 131 [.pointer (some ⟨b,0,none⟩), .int .i64 zL, .int .i64 k] M (wH b g c n cs u yM) (nP b g c n k cs (Vy zL yM jg 2)):=by
 refine AD Tryz.func131 rfl Tryz.ntmps131 zd (fun w M0=>?_)
 repeat' (refine vw ?_)
 refine yS (zO:=wH b g c n cs u yM) [0,1,2] zd zd ka (fun M' _=>lQ b g c n k cs u yM zL jg 2 M' hk hn hu hh kW sZ D8 AX) zd zd ?_;rintro _ _ ⟨rfl,u',h1,rfl⟩
 repeat' (refine vw ?_)
 exact ⟨_,[3,4,5],wH b g c n ((cs.set (k*2) u').set (k*2+1) (.int .i64 (Vy zL yM jg 2).2.2)) u' (Vy zL yM jg 2).2.1,zP,zE,rfl,ka,rfl,u',h1,rfl⟩
def Qv (zL:Int) (yM:List Int) (jg:Int):Int×List Int×Int:=if zL∈yM then (0,K0 (fun n=>n==zL) yM,if (K0 (fun n=>n==zL) yM).length=0 then 0 else jg) else (8,yM,jg)
theorem EN (x:Int) (b:Nat) (t:Int) (w:World) (M:Mem) (hMw:M.le (Mem.of w)) (hb:M.cell b 0=some (.int .i64 t)):
 Calls zf 189 #[.int .i64 x, .pointer (some ⟨b,0,none⟩)] w fun e w'=>e= .returned (.bool (x==t))/\Below w.heap.size w w':=by
 refine zQ Tryz.func189 rfl Tryz.ntmps189 zd (hMw) ?_
 repeat' (first|((apply zA);(exact zY zd hb);rfl)|refine vw ?_)
 show yH _ _ _ _;refine yH.one zd (zy zd ?_);rfl
theorem Wz (b g c n k:Nat) (cs:List Value) (u:Value) (yM:List Int) (zL jg:Int) (M:Mem) (hk:k<n) (hn:n<=1000000) (hu:cs[k*2]?=some u) (hh:cs[k*2+1]?=some (.int .i64 jg)) (kW:cs.length=n*2) (sZ:Ht yM) (D8:yM.length<=1000000) (AX:j2 u yM.length):
 uC zf 158 [.pointer (some ⟨b,0,none⟩), .int .i64 zL, .int .i64 k] M (wH b g c n cs u yM) (nP b g c n k cs (Qv zL yM jg)):=by
 refine AD Tryz.func158 rfl Tryz.ntmps158 zd (fun w M0=>?_);have hnp:(some (⟨b,0,none⟩:Addr)).isNone=false:=rfl;have pY:(cs.set (k*2) u).set (k*2+1) (.int .i64 jg)=cs:=by rw [UV hu,UV hh]
 have KK:cs[0+k*2+0]?=some u:=by rw [show 0+k*2+0=k*2 by omega];exact hu
 have hh':cs[0+k*2+1]?=some (.int .i64 jg):=by rw [show 0+k*2+1=k*2+1 by omega];exact hh
 have J6:bW (k:Int) n=true:=by unfold bW;rw [yk ze,yk ze];rfl
 have cH: ∀(hd:Nat->Value) (W:World) (own:List Ob),(∀i o,own[i]?=some o->wR w.heap.size W (hd i) o)->own[0]?=some (.zK (.pointer (some ⟨b,0,none⟩)) 180 (a9 g n c))->own[1]?=some (.zC (.slice (some ⟨g,0,none⟩) n c) 259 2 n cs)->own[2]?=some (.zC u 3 1 yM.length (ic yM))->Calls zf 129 #[.pointer (some ⟨b,0,none⟩), .int .i64 zL, .int .i64 k] W fun e W'=>e= .returned (.tuple #[.bool (bW (k:Int) n&&decide (zL∈yM)), .bool (bW (k:Int) n&&(decide (zL∈yM)&&(jg==2)))])/\Below W.heap.size W W':=fun hd W own hO h0 h1 h2=>by
  refine ec b n zL (k:Int) yM jg W (Mem.of W) (zE) ⟨g,c,?_,fun k' U5 Ul=>⟨u,?_,?_,?_⟩⟩ sZ hn D8
  · have:=ku (hO 0 _ h0) (off:=0) (u:= .slice (some ⟨g,0,none⟩) n c) rfl;rw [(hO 0 _ h0).1] at this;rw [Mem.Z7];exact this
  · obtain rfl:k'=k:=ze;have:=ku (hO 1 _ h1) (off:=0+k'*2+0) KK;rw [(hO 1 _ h1).1] at this;rw [Mem.Z7];exact this
  · obtain rfl:k'=k:=ze;have:=ku (hO 1 _ h1) (off:=0+k'*2+1) hh';rw [(hO 1 _ h1).1] at this;rw [Mem.Z7];exact this
  · have h3:=hO 2 _ h2;have h4:=h3.2;rw [h3.1] at h4;exact (CN h4).KI
 rw [J6] at cH;unfold wH
 repeat' (refine vw ?_)
 refine AF 3 zd (fun t M1 qR ht=>?_);have htc:M1.cell t 0=some (.int .i64 zL):=Mem.cell_of ht rfl;by_cases hm:zL∈yM
 · rw [yk hm] at cH;have hr:Qv zL yM jg=(0,K0 (fun n=>n==zL) yM,if (K0 (fun n=>n==zL) yM).length=0 then 0 else jg):=by unfold Qv;rw [zo hm]
   repeat' (first|((apply zA);(first|exact yN zd zd uz|exact Uu zd|exact zY zd htc|exact yp 0 zd zd zd zd|exact yp 1 zd zd zd KK|exact zj k zd zd rfl hk|exact KF zd|(refine uj (r:= .tuple #[.bool (true&&true), .bool (true&&(true&&(jg==2)))]) zd ?_;exact fun hd W hO hW=>cH hd W _ hO rfl rfl rfl));rfl)|refine vw ?_)
   refine yS (zO:= [.zC u 3 1 yM.length (ic yM)]) [2] zd zd xc (fun M' hM'=>WY u M' 189 #[.pointer (some ⟨t,0,none⟩)] (fun n=>n==zL) yM D8 (fun m _ W hW=>EN m t zL W M' hW (hM'.cell htc))) zd zd ?_;rintro v _ ⟨hv,rfl⟩;obtain ⟨Av,cv,rfl⟩:=hv.sl;by_cases hz:(K0 (fun n=>n==zL) yM).length=0
   · have q0:(((K0 (fun n=>n==zL) yM).length:Int)==0)=true:=by rw [hz];rfl
     rw [hr,zo hz];generalize hkp:K0 (fun n=>n==zL) yM=kp at*
     repeat' (first|refine Xl _ _ (Xn (Qr 1 zd zd zd zd (by (try simp only [xj]);omega) zd) zd) zd zd ?_|((apply zA);(first|exact Uu zd|exact yp 1 zd zd zd (by show (cs.set (0+k*2+0) _)[0+k*2+0]?=some _;rw [wC ze]));rfl)|refine vw ?_)
     refine ⟨_,[0,1,4],wH b g c n ((cs.set (k*2) (.slice Av kp.length cv)).set (k*2+1) (.int .i64 0)) (.slice Av kp.length cv) kp,zP,qR,rfl,⟨rfl,?_,rfl,trivial⟩,rfl,_,hv,rfl⟩;show some (Ob.zC _ _ 2 n ((cs.set (0+k*2+0) _).set (0+k*2+1) _))=_;rw [show 0+k*2+0=k*2 by omega,show 0+k*2+1=k*2+1 by omega]
   · have q0:(((K0 (fun n=>n==zL) yM).length:Int)==0)=false:=beq_eq_false_iff_ne.2 ze;rw [hr,zn hz];generalize hkp:K0 (fun n=>n==zL) yM=kp at*
     repeat' (first|refine Xl _ _ (Xn (Qr 1 zd zd zd zd (by (try simp only [xj]);omega) zd) zd) zd zd ?_|((apply zA);(first|exact Uu zd|exact yp 1 zd zd zd (by show (cs.set (0+k*2+0) _)[0+k*2+0]?=some _;rw [wC ze]));rfl)|refine vw ?_)
     refine ⟨_,[0,1,4],wH b g c n ((cs.set (k*2) (.slice Av kp.length cv)).set (k*2+1) (.int .i64 jg)) (.slice Av kp.length cv) kp,zP,qR,rfl,⟨rfl,?_,rfl,trivial⟩,rfl,_,hv,rfl⟩;show some (Ob.zC _ _ 2 n (cs.set (0+k*2+0) _))=_;rw [show 0+k*2+0=k*2 by omega,UV (i:=k*2+1) (x:= .int .i64 jg) (by rw [Zb ze];exact hh)]
 · rw [z6 hm] at cH;have hr:Qv zL yM jg=(8,yM,jg):=by unfold Qv;rw [zn hm]
   rw [hr]
   repeat' (first|((apply zA);(first|exact yN zd zd uz|exact zY zd htc|(refine uj (r:= .tuple #[.bool (true&&false), .bool (true&&(false&&(jg==2)))]) zd ?_;exact fun hd W hO hW=>cH hd W _ hO rfl rfl rfl));rfl)|refine vw ?_)
   exact ⟨_,[0,1,2],wH b g c n cs u yM,zP,qR,rfl,ka,rfl,u,AX,by rw [pY]⟩
end
section
open Go Go.RowKit
attribute [local irreducible] Calls
section
variable {P:Program} {w:World} {M0:Mem} {N:Nat}
theorem abE {c:Code} {s:St} {R:St->Prop} (h:VC P w M0 N c s (ay fun s=>R s\/ ∃i t cs,s.own[i]?=some (.qZ t cs)/\ ∀b,R ⟨s.M,s.own.set i (.zK (.pointer (some ⟨b,0,none⟩)) t cs),JV i (.pointer (some ⟨b,0,none⟩)) s.env⟩)):VC P w M0 N c s (ay R):= .mk fun hd a W hR=>by
 refine vZ (h.go hd a W hR) ?_;rintro e a' W' ⟨yE,s',uE,hq⟩
 have key:(R s'\/ ∃i t cs,s'.own[i]?=some (.qZ t cs)/\ ∀b,R ⟨s'.M,s'.own.set i (.zK (.pointer (some ⟨b,0,none⟩)) t cs),JV i (.pointer (some ⟨b,0,none⟩)) s'.env⟩)-> ∃Rs TJ,Rel w M0 N Rs TJ a' W'/\R TJ:=by
  rintro (hr|⟨i,t,cs,hi,hr⟩)
  · exact ⟨yE,s',uE,hr⟩
  · have hO:=uE.1.own i _ hi;obtain ⟨b,hb,_⟩:=id hO;have h2:=QX (i:=i) uE.2;rw [hb] at h2;exact ⟨yE,_,⟨uE.1.vD (o':= .zK (.pointer (some ⟨b,0,none⟩)) t cs) hi yx ⟨hb,hO⟩,h2⟩,hr b⟩
 cases e with
 |ret=>exact key hq
 |normal=>exact key hq
 |exit id=>exact hq.elim
 |goto l=>exact hq.elim
 |panic c=>exact hq.elim
 |outgrown=>exact hq.elim
end
def lD (n:Nat):List Value:=(List.range n).flatMap fun _=> [.slice none 0 0, .int .i64 0]
theorem Pv (n i j:Nat) (hi:i<n) (hj:j<2):(lD n)[i*2+j]?=([.slice none 0 0, .int .i64 0]:List Value)[j]?:=by
 have:=vm (k:=2) (cells:=fun _:Nat=>([.slice none 0 0, .int .i64 0]:List Value)) (List.range n) i j (by simpa using hi) (fun _ _=>rfl) hj;exact this
theorem Pu (n:Nat):(lD n).length=n*2:=by
 have h: ∀l:List Nat,(l.flatMap fun _=>([.slice none 0 0, .int .i64 0]:List Value)).length=l.length*2:=fun l=>by
  induction l with
  |nil=>rfl
  |cons a l ih=>rw [j6,yK,ih];show 2+l.length*2=(l.length+1)*2;omega
 unfold lD;rw [h,fm]
theorem Mk (n:Nat):(madeCells (Value.agg #[.slice none 0 0, .int .i64 0]).cells (n*2)).toList=lD n:=by
 apply AB;intro q;have hz:(Value.agg #[.slice none 0 0, .int .i64 0]).cells= #[.slice none 0 0, .int .i64 0]:=rfl;rcases yq q (n*2) with h|h
 · have h2:q=(q/2)*2+q % 2:=ze;have h3:=Pv n (q/2) (q % 2) ze ze;rw [<-h2] at h3;rw [h3,hz];have h4:q % 2=0\/q % 2=1:=ze;rcases h4 with h4|h4<;>simp [madeCells,h,h4]
 · rw [dq (by simp [madeCells];exact h),dq (by rw [Pu];exact h)]
def abN (n:Int) (v:Value) (zw:List Ob):Prop:=(∃m b g c:Nat,n=(m:Int)/\1<=m/\m<=4096/\v= .tuple #[.pointer (some ⟨b,0,none⟩), .int .i64 0]/\zw= [.zK (.pointer (some ⟨b,0,none⟩)) 180 (a9 g m c), .zC (.slice (some ⟨g,0,none⟩) m c) 259 2 m (lD m)])\/((n<1\/4096<n)/\v= .tuple #[.pointer none, .int .i64 2]/\zw= [])
theorem Mv (n:Int) (M:Mem):uC zf 76 [.int .i64 n] M [] (abN n):=by
 refine AD Tryz.func76 rfl Tryz.ntmps76 zd (fun w M0=>?_);by_cases h1:n<1
 · have d1:decide (n<1)=true:=yk h1
   repeat' (refine vw ?_)
   exact ⟨_,[],[],kH,zE,rfl,trivial, .inr ⟨.inl h1,rfl,rfl⟩⟩
 have d1:decide (n<1)=false:=z6 h1;by_cases h2:4096<n
 · have d2:decide (4096<n)=true:=yk h2
   repeat' (refine vw ?_)
   exact ⟨_,[],[],kH,zE,rfl,trivial, .inr ⟨.inr h2,rfl,rfl⟩⟩
 have d2:decide (4096<n)=false:=z6 h2;obtain ⟨m,rfl⟩: ∃m:Nat,n=(m:Int):=⟨n.toNat,ze⟩;refine abE ?_
 repeat' (refine vw ?_)
 refine Xl _ _ (AR m (lD m) zd zd rfl rfl (Mk m) (by unfold maxLen;omega) ze) zd zd ?_;refine Yt 0 zd (fun v hv=>?_);obtain ⟨g,cap,rfl⟩:=hv.some ze
 repeat' (refine vw ?_)
 refine .inr ⟨1,_,_,rfl,fun b=>⟨_,[1,0],[.zK (.pointer (some ⟨b,0,none⟩)) 180 (a9 g m cap), .zC (.slice (some ⟨g,0,none⟩) m cap) 259 2 m (lD m)],kH,zE,rfl,j4, .inl ⟨m,b,g,cap,rfl,ze,ze,rfl,rfl⟩⟩⟩
theorem f9 (b g c n:Nat) (zL slot hw:Int) (M:Mem) (h:slot<0\/(n:Int)<=slot):
 uC zf 150 [.pointer (some ⟨b,0,none⟩), .int .i64 zL, .int .i64 slot, .int .i64 hw] M [.zK (.pointer (some ⟨b,0,none⟩)) 180 (a9 g n c)] (fun v zw=>v= .int .i64 2/\zw= [.zK (.pointer (some ⟨b,0,none⟩)) 180 (a9 g n c)]):=by
 refine AD Tryz.func150 rfl Tryz.ntmps150 zd (fun w M0=>?_);have hnp:(some (⟨b,0,none⟩:Addr)).isNone=false:=rfl
 have hd:decide (slot<0)=true\/(decide (slot<0)=false/\decide ((n:Int)<=slot)=true):=by
  by_cases h0:slot<0
  · exact .inl (yk h0)
  · exact .inr ⟨z6 h0,yk ze⟩
 cases ht:decide (zL<0) with
 |true=>
  rcases hd with d1|⟨d1,d2⟩
  · repeat' (first|((apply zA);(exact yN zd zd uz);rfl)|refine vw ?_)
    exact ⟨_,[0],[.zK (.pointer (some ⟨b,0,none⟩)) 180 (a9 g n c)],zP,zE,rfl,xc,rfl,rfl⟩
  · repeat' (first|((apply zA);(exact yN zd zd uz);rfl)|refine vw ?_)
    exact ⟨_,[0],[.zK (.pointer (some ⟨b,0,none⟩)) 180 (a9 g n c)],zP,zE,rfl,xc,rfl,rfl⟩
 |false=>
  rcases hd with d1|⟨d1,d2⟩
  · repeat' (first|((apply zA);(exact yN zd zd uz);rfl)|refine vw ?_)
    exact ⟨_,[0],[.zK (.pointer (some ⟨b,0,none⟩)) 180 (a9 g n c)],zP,zE,rfl,xc,rfl,rfl⟩
  · repeat' (first|((apply zA);(first|exact yN zd zd uz|exact Uu zd|exact yp 0 zd zd zd zd);rfl)|refine vw ?_)
    exact ⟨_,[0],[.zK (.pointer (some ⟨b,0,none⟩)) 180 (a9 g n c)],zP,zE,rfl,xc,rfl,rfl⟩
theorem CD (b g c n:Nat) (zL slot:Int) (M:Mem) (h:slot<0\/(n:Int)<=slot):
 uC zf 130 [.pointer (some ⟨b,0,none⟩), .int .i64 zL, .int .i64 slot] M [.zK (.pointer (some ⟨b,0,none⟩)) 180 (a9 g n c)] (fun v zw=>v= .int .i64 2/\zw= [.zK (.pointer (some ⟨b,0,none⟩)) 180 (a9 g n c)]):=by
 refine AD Tryz.func130 rfl Tryz.ntmps130 zd (fun w M0=>?_)
 repeat' (refine vw ?_)
 refine yS (zO:= [.zK (.pointer (some ⟨b,0,none⟩)) 180 (a9 g n c)]) [0] zd zd xc (fun M' _=>f9 b g c n zL slot 1 M' h) zd zd ?_;rintro _ _ ⟨rfl,rfl⟩
 repeat' (refine vw ?_)
 exact ⟨_,[1],[.zK (.pointer (some ⟨b,0,none⟩)) 180 (a9 g n c)],zP,zE,rfl,xc,rfl,rfl⟩
theorem sR (b g c n:Nat) (zL slot:Int) (M:Mem) (h:slot<0\/(n:Int)<=slot):
 uC zf 131 [.pointer (some ⟨b,0,none⟩), .int .i64 zL, .int .i64 slot] M [.zK (.pointer (some ⟨b,0,none⟩)) 180 (a9 g n c)] (fun v zw=>v= .int .i64 2/\zw= [.zK (.pointer (some ⟨b,0,none⟩)) 180 (a9 g n c)]):=by
 refine AD Tryz.func131 rfl Tryz.ntmps131 zd (fun w M0=>?_)
 repeat' (refine vw ?_)
 refine yS (zO:= [.zK (.pointer (some ⟨b,0,none⟩)) 180 (a9 g n c)]) [0] zd zd xc (fun M' _=>f9 b g c n zL slot 2 M' h) zd zd ?_;rintro _ _ ⟨rfl,rfl⟩
 repeat' (refine vw ?_)
 exact ⟨_,[1],[.zK (.pointer (some ⟨b,0,none⟩)) 180 (a9 g n c)],zP,zE,rfl,xc,rfl,rfl⟩
end
section
open Go Go.RowKit
attribute [local irreducible] Calls
theorem aeM:Ht []:=fun i j hi=>by simp at hi
end
section
open Go Go.RowKit
attribute [local irreducible] Calls
theorem eh: ∀(ρ:List Nat) (own:List Ob) (i:Nat),i∉ρ->(y8 ρ own)[i]?=own[i]?
 | [],_,_,_=>rfl
 |j::ρ,own,i,h=>by
  unfold y8;rw [eh ρ _ i (fun h2=>h (by simp [h2])),Zb (fun e=>h (by simp [e]))]
theorem VW {n m:Nat} (h:n<=m): ∀ {e:Env},yR e n=true->yR e m=true
 | [],_=>rfl
 |(t,sv)::e,hb=>by
  unfold yR at hb⊢;cases hs:sv.okB n with
  |false=>rw [hs] at hb;cases hb
  |true=>
   rw [hs] at hb
   have h2:sv.okB m=true:=by
    cases sv with
    |v x=>rfl
    |p i off=>simp only [SV.okB,x9] at hs⊢;omega
    |r i=>simp only [SV.okB,x9] at hs⊢;omega
   rw [h2];exact VW h hb
theorem Nn {e:Env} {n:Nat} {dst:Option Tmp} {x:Value} (h:yR e n=true):yR (e.put dst (.v x)) n=true:=by
 cases dst with
 |none=>exact h
 |some t=>
  show yR ((t, .v x)::e) n=true;unfold yR;exact h
section
variable {P:Program} {w:World} {M0 M:Mem} {N:Nat} {hd:Nat->Value} {own zw pre tab:List Ob} {env:Env} {W:World}
theorem Wd.re (f:Nat->Nat) (h:Wd w M0 hd M own W) (hf: ∀i o,zw[i]?=some o->own[f i]?=some o) (oV: ∀i j,i<zw.length->j<zw.length->f i=f j->i=j):Wd w M0 (fun i=>hd (f i)) M zw W:=
 ⟨h.below,h.mem,h.wS,h.YW,fun i o hi=>h.own (f i) o (hf i o hi),fun i o b hi jt hb=>h.sep (f i) o b (hf i o hi) jt hb,fun i j oi oj b hi hj hni hnj iB Un=>oV i j (xI.1 hi).1 (xI.1 hj).1 (h.VX (f i) (f j) oi oj b (hf i oi hi) (hf j oj hj) hni hnj iB Un)⟩
theorem aiA {ops:Array Oper} {l:List Oper} {Q:zX} (f:Nat->Nat) (p:Nat) (hf: ∀i o,zw[i]?=some o->own[f i]?=some o) (oV: ∀i j,i<zw.length->j<zw.length->f i=f j->i=j) (alo: ∀i,i<p->f i=i) (zV:yR env p=true) (h:VL P w M0 N ops l ⟨M,zw,env⟩ Q):VL P w M0 N ops l ⟨M,own,env⟩ Q:= .mk fun hd a W hR=>
 h.go _ a W ⟨hR.1.re f hf oV,hR.2.KH fun t sv ht=>X6 (fun i hi=>by rw [alo i hi]) (vn zV t sv ht)⟩
theorem DH {ops:Array Oper} {l:List Oper} {Q:zX} {o:Ob} {dst:Option Tmp} {sv sv':SV} (hsv:(sv= .r (pre++tab).length/\sv'= .r pre.length)\/(∃off,sv= .p (pre++tab).length off/\sv'= .p pre.length off)) (zV:yR env pre.length=true)
 (h:VL P w M0 N ops l ⟨M,pre++o::tab,env.put dst sv'⟩ Q):VL P w M0 N ops l ⟨M,(pre++tab)++ [o],env.put dst sv⟩ Q:= .mk fun hd a W hR=>by
 let f:Nat->Nat:=fun i=>if i<pre.length then i else if i=pre.length then (pre++tab).length else i-1
 have hfp:f pre.length=(pre++tab).length:=by simp [f]
 have y7:(pre++tab).length=pre.length+tab.length:=yK;refine h.go (fun i=>hd (f i)) a W ⟨hR.1.re f (fun i x hi=>?_) (fun i j hi hj he=>?_),⟨fun t s hs=>?_,hR.2.size,hR.2.defers⟩⟩
 · by_cases h1:i<pre.length
   · have h2:f i=i:=by simp [f,h1]
     rw [h2];rw [wE h1] at hi;rw [xY,wE h1];exact hi
   · by_cases h2:i=pre.length
     · subst h2;rw [hfp,kF (zN _),qq];rw [kF (zN _),qq] at hi;exact hi
     · have h3:f i=i-1:=by simp [f,h1,h2]
       rw [h3];rw [kF ze,show i-pre.length=(i-1-pre.length)+1 by omega,List.getElem?_cons_succ] at hi;have z9:=(xI.1 hi).1;rw [wE ze,kF ze];exact hi
 · simp only [yK,xd] at hi hj;simp only [f] at he;rw [y7] at he;split at he<;>split at he<;>(try split at he)<;>(try split at he)<;>omega
 · have Ba: ∀i:Nat,i<pre.length->hd (f i)=hd i:=fun i hi=>by
    have:f i=i:=by simp [f,hi]
    rw [this]
   have key: ∀t s,env.get t=some s->s.den (fun i=>hd (f i))=s.den hd:=fun t s hs=>X6 Ba (vn zV t s hs)
   have hsd:sv'.den (fun i=>hd (f i))=sv.den hd:=by
    rcases hsv with ⟨rfl,rfl⟩|⟨off,rfl,rfl⟩
    · simp only [SV.den,hfp]
    · simp only [SV.den,hfp]
   cases dst with
   |none=>
    have:=hR.2.env t s hs;rw [this];exact z5 some (key t s hs).symm
   |some d=>
    have P6:Env.get ((d,sv')::env) t=some s:=hs;unfold Env.get at P6;cases hb:Nat.beq d t with
    |true=>
     rw [hb] at P6;obtain rfl:=qt P6;have:=hR.2.env t sv (by show Env.get ((d,sv)::env) t=_;unfold Env.get;rw [hb]);rw [this,hsd]
    |false=>
     rw [hb] at P6;have:=hR.2.env t s (by show Env.get ((d,sv)::env) t=_;unfold Env.get;rw [hb];exact P6);rw [this];exact z5 some (key t s P6).symm
variable {dst:Option Tmp} {ty:TypeId} {pos:String} {z7:Array Edge}
theorem NS {ops:Array Oper} {t:TypeId} {l:List Oper} {Q:zX} {z:Value} [hz:kM P t z] (pre tab:List Ob) (hk:yi N dst=true) (zV:yR env pre.length=true)
 (h:VL P w M0 N ops l ⟨M,pre++ .qZ t z.cells.toList::tab,env.put dst (.p pre.length 0)⟩ Q):VL P w M0 N ops (⟨dst, .alloc t,ty,pos,z7,none⟩::l) ⟨M,pre++tab,env⟩ Q:=
 DI hk (VW (by rw [yK];omega) zV) (DH (.inr ⟨0,rfl,rfl⟩) zV h)
theorem NQ {ops:Array Oper} {l:List Oper} {Q:zX} {f:FuncId} {xs:Array Operand} {qz:Array TypeId} {vs:List Value} {e:TypeId} {k n:Nat} {cs:List Value} [hf:zG P f] (hv:env.kP xs.toList=some vs)
 (hc: ∀hd W,Wd w M0 hd M own W->Calls P f vs.toArray W (uV e k n cs W)) (hk:yi N dst=true) (zV:yR env own.length=true) (h:VL P w M0 N ops l ⟨M,own++ [.row e k n cs],env.put dst (.r own.length)⟩ Q):
 VL P w M0 N ops (⟨dst, .call ⟨.value (.func f),xs,qz⟩,ty,pos,z7,none⟩::l) ⟨M,own,env⟩ Q:= .mk fun hd a W hR=>by
 refine v8 rfl fun K hK=>?_
 unfold Oper.wp;rw [ZP (s:=⟨M,own,env⟩) hR.2 hf.h hv];simp only [Oper.upon];refine (hc hd W hR.1).mono fun x W' lW=>?_
 obtain ⟨v,he,hb,w8⟩:=lW;subst he;have YC:=hR.1.below.size
 have ju:W'.ownsRow w.heap.size e k v n cs:=by
  refine ⟨w8.1,?_⟩;rcases w8.2 with h1|⟨g,cap,cur,h1,h2,h3⟩
  · exact .inl h1
  · exact .inr ⟨g,cap,cur,h1,ze,h3⟩
 have uM:=hR.1.new (o':= .row e k n cs) (v':=v) (uO hb) ju (fun b Za=>by
  rcases w8.2 with ⟨h1,_⟩|⟨g,cap,cur,h1,h2,h3⟩
  · rw [h1] at Za;cases Za
  · rw [h1] at Za;obtain rfl:g=b:=by simpa [yX] using Za
    exact h2)
 have ci:=(dd (own:=own) hR.2 zV v).put hk (.r own.length);have e1:SV.den (Ke hd own.length v) (.r own.length)=v:=by simp only [SV.den,j7]
 rw [e1] at ci;exact hK _ _ (h.go _ _ _ ⟨uM,ci⟩)
theorem NR {ops:Array Oper} {l:List Oper} {Q:zX} {f:FuncId} {xs:Array Operand} {qz:Array TypeId} {vs:List Value} {e:TypeId} {k n:Nat} {cs:List Value} [hf:zG P f] (pre tab:List Ob) (hv:env.kP xs.toList=some vs)
 (hc: ∀hd W,Wd w M0 hd M (pre++tab) W->Calls P f vs.toArray W (uV e k n cs W)) (hk:yi N dst=true) (zV:yR env pre.length=true) (h:VL P w M0 N ops l ⟨M,pre++ .row e k n cs::tab,env.put dst (.r pre.length)⟩ Q):
 VL P w M0 N ops (⟨dst, .call ⟨.value (.func f),xs,qz⟩,ty,pos,z7,none⟩::l) ⟨M,pre++tab,env⟩ Q:=
 NQ hv hc hk (VW (by rw [yK];omega) zV) (DH (.inl ⟨rfl,rfl⟩) zV h)
end
structure qf where
 u:Value
 yM:List Int
 jg:Int
abbrev wY (s:qf):List Value:= [s.u, .int .i64 s.jg]
def UL (s:qf):Ob:= .zC s.u 3 1 s.yM.length (ic s.yM)
def xo (b g c:Nat) (T:List qf):List Ob:= .zK (.pointer (some ⟨b,0,none⟩)) 180 (a9 g T.length c):: .zC (.slice (some ⟨g,0,none⟩) T.length c) 259 2 T.length (T.flatMap wY)::T.map UL
theorem Lt (b g c:Nat) (T:List qf):(xo b g c T).length=T.length+2:=by simp [xo]
theorem JZ {pre tab:List Ob} (j:Nat):(pre++tab)[pre.length+j]?=tab[j]?:=by
 rw [kF ze,JG]
theorem VU (T:List qf):(T.flatMap wY).length=T.length*2:=by
 induction T with
 |nil=>rfl
 |cons a T ih=>rw [j6,yK,ih];show 2+T.length*2=(T.length+1)*2;omega
theorem rj {T:List qf} {k:Nat} (h:k<T.length):(T.flatMap wY)[k*2]?=some T[k].u/\(T.flatMap wY)[k*2+1]?=some (.int .i64 T[k].jg):=
 ⟨by have:=vm (k:=2) (cells:=wY) T k 0 h (fun _ _=>rfl) ze;exact this,vm (k:=2) (cells:=wY) T k 1 h (fun _ _=>rfl) ze⟩
theorem ri (T:List qf) {k:Nat} (h:k<T.length) (s:qf):(T.set k s).flatMap wY=((T.flatMap wY).set (k*2) s.u).set (k*2+1) (.int .i64 s.jg):=by
 apply AB;intro q;rcases yq q (T.length*2) with hq|hq
 · have pZ:q/2<T.length:=ze;have e:=vm (k:=2) (cells:=wY) (T.set k s) (q/2) (q % 2) (by rw [xj];omega) (fun _ _=>rfl) ze;have e0:=vm (k:=2) (cells:=wY) T (q/2) (q % 2) ze (fun _ _=>rfl) ze;rw [show q/2*2+q % 2=q by omega] at e e0;rw [e,nH];have gT:=VU T;by_cases hk:k=q/2
   · subst hk;rw [zo rfl];have h2:q % 2=0\/q % 2=1:=ze;rcases h2 with h2|h2
     · rw [h2,Zb ze,show q/2*2=q by omega,wC ze];rfl
     · rw [h2,show q/2*2+1=q by omega,wC (by rw [xj];omega)];rfl
   · rw [zn hk,Zb ze,Zb ze];exact e0.symm
 · rw [dq (by rw [VU,xj];exact hq),dq (by rw [xj,xj,VU];exact hq)]
section
variable {P:Program} {w:World} {M0 M:Mem} {N:Nat} {env:Env} {dst:Option Tmp} {ty:TypeId} {pos:String} {z7:Array Edge}
theorem abx {ops:Array Oper} {l:List Oper} {Q:zX} {f:FuncId} {xs:Array Operand} {qz:Array TypeId} {vs:List Value} {b g c:Nat} {T:List qf} {r:Int×List Int×Int} (pre:List Ob) (k:Nat) (hk:k<T.length) [hf:zG P f] (hv:env.kP xs.toList=some vs)
 (hc: ∀M',M.le M'->uC P f vs M' (wH b g c T.length (T.flatMap wY) T[k].u T[k].yM) (nP b g c T.length k (T.flatMap wY) r)) (FT:yi N dst=true) (zV:yR env pre.length=true)
 (h: ∀u',j2 u' r.2.1.length->VL P w M0 N ops l ⟨M,pre++xo b g c (T.set k ⟨u',r.2.1,r.2.2⟩),env.put dst (.v (.int .i64 r.1))⟩ Q):
 VL P w M0 N ops (⟨dst, .call ⟨.value (.func f),xs,qz⟩,ty,pos,z7,none⟩::l) ⟨M,pre++xo b g c T,env⟩ Q:=by
 have hg0:(pre++xo b g c T)[pre.length]?=some (.zK (.pointer (some ⟨b,0,none⟩)) 180 (a9 g T.length c)):=JZ (pre:=pre) (tab:=xo b g c T) 0;have hg1:(pre++xo b g c T)[pre.length+1]?=some (.zC (.slice (some ⟨g,0,none⟩) T.length c) 259 2 T.length (T.flatMap wY)):=JZ (pre:=pre) (tab:=xo b g c T) 1
 have hgw: ∀(T:List qf) j (hj:j<T.length),(pre++xo b g c T)[pre.length+(j+2)]?=some (UL T[j]):=fun T j hj=>by
  rw [JZ];show (T.map UL)[j]?=_;rw [qd,jA hj];rfl
 have y7: ∀T:List qf,(pre++xo b g c T).length=pre.length+(T.length+2):=fun T=>by rw [yK,Lt]
 refine yS (zO:=wH b g c T.length (T.flatMap wY) T[k].u T[k].yM) [pre.length,pre.length+1,pre.length+(k+2)] hv (by simp [u9,aK (show pre.length≠pre.length+1 by omega),aK (show pre.length≠pre.length+(k+2) by omega),aK (show pre.length+1≠pre.length+(k+2) by omega)]) ⟨hg0,hg1,hgw T k hk,trivial⟩ hc FT (VW (by rw [y7];omega) zV) ?_;rintro _ _ ⟨rfl,u',h1,rfl⟩;have hL:(y8 [pre.length,pre.length+1,pre.length+(k+2)] (pre++xo b g c T)).length=pre.length+(T.length+2):=by rw [qp,y7]
 refine aiA (fun i=>if i<pre.length then i else if i=pre.length then pre.length+(T.length+2) else if i=pre.length+1 then pre.length+(T.length+2)+1 else if i=pre.length+(k+2) then pre.length+(T.length+2)+2 else i) pre.length (zw:=pre++xo b g c (T.set k ⟨u',r.2.1,r.2.2⟩)) (fun i o hi=>?_) (fun i j hi hj he=>?_) (fun i hi=>by simp [hi]) (Nn zV) (h u' h1)
 · try dsimp only
   by_cases c1:i<pre.length
   · rw [zo c1,wE ze,eh _ _ _ (by simp;omega),wE c1]
     rwa [wE c1] at hi
   rw [zn c1];by_cases c2:i=pre.length
   · subst c2;rw [zo rfl,<-hL,kF (zN _),qq];have:=JZ (pre:=pre) (tab:=xo b g c (T.set k ⟨u',r.2.1,r.2.2⟩)) 0;rw [Kt] at this;rw [this] at hi;rw [<-hi];show some (Ob.zK _ _ (a9 g T.length c))=some (Ob.zK _ _ (a9 g (T.set k _).length c));rw [xj]
   rw [zn c2];by_cases c3:i=pre.length+1
   · subst c3;rw [zo rfl,<-hL,kF ze,JG];rw [JZ] at hi;rw [<-hi];show some (Ob.zC (.slice _ T.length c) _ 2 T.length _)=some (Ob.zC (.slice _ (T.set k _).length c) _ 2 (T.set k _).length ((T.set k _).flatMap wY));rw [xj,ri T hk]
   rw [zn c3];have z9:=(xI.1 hi).1;rw [y7,xj] at z9;obtain ⟨j,rfl⟩: ∃j,i=pre.length+(j+2):=⟨i-pre.length-2,ze⟩;have hj:j<T.length:=ze;have hj2:j<(T.set k ⟨u',r.2.1,r.2.2⟩).length:=by rw [xj];exact hj
   rw [hgw _ j hj2,nH] at hi;by_cases c4:j=k
   · subst c4;rw [zo rfl,<-hL,kF ze,JG];rw [zo rfl] at hi;rw [<-hi];rfl
   · rw [zn ze,wE ze,eh _ _ _ (by simp;omega),hgw T j hj];rw [zn ze] at hi;exact hi
 · rw [y7,xj] at hi hj
   try dsimp only at he
   repeat' split at he
   all_goals omega
def NV (M:Mem) (b:Nat) (T:List qf):Prop:= ∃g c,M.cell b 0=some (.slice (some ⟨g,0,none⟩) T.length c)/\xt M 2 wY (.slice (some ⟨g,0,none⟩) T.length c) T/\ ∀s∈T,xt M 1 Fu s.u s.yM
theorem Ep {hd:Nat->Value} {W:World} {pre:List Ob} {b g c:Nat} {T:List qf} (h:Wd w M0 hd M (pre++xo b g c T) W):NV (Mem.of W) b T:=by
 have h0:=h.own pre.length _ (JZ (pre:=pre) (tab:=xo b g c T) 0);have h1:=h.own (pre.length+1) _ (JZ (pre:=pre) (tab:=xo b g c T) 1);refine ⟨g,c,?_,?_,fun s hs=>?_⟩
 · have:=ku h0 (off:=0) (u:= .slice (some ⟨g,0,none⟩) T.length c) rfl;rw [h0.1] at this;rw [Mem.Z7];exact this
 · have h2:=h1.2;rw [h1.1] at h2;exact (wR.sl (base:=w.heap.size) (e:=259) (n:=T.length) (cs:=T.flatMap wY) T h2 rfl (fun _ _=>rfl) rfl).KI
 · obtain ⟨j,hj,rfl⟩:=R7 hs
   have h3:=h.own (pre.length+(j+2)) (UL T[j]) (by
    rw [JZ];show (T.map UL)[j]?=_;rw [qd,jA hj];rfl)
   have h4:=h3.2;rw [h3.1] at h4;exact (CN h4).KI
end
theorem iR: ∀(own pre:List Ob),ZF own (List.range' pre.length own.length) (pre++own)
 | [],_=>trivial
 |o::own,pre=>by
  rw [xd,fg];refine ⟨?_,?_⟩
  · rw [kF (zN _),qq];rfl
  · have:=iR own (pre++ [o]);rw [yK,xY] at this;exact this
theorem QH: ∀(n s:Nat),u9 (List.range' s n)=true
 |0,_=>rfl
 |n+1,s=>by
  rw [fg];unfold u9
  have:(List.range' (s+1) n).all (fun y=>!Nat.beq s y)=true:=yw.2 fun y hy=>by
   have:=AA.1 hy;rw [aK ze];rfl
  rw [this];exact QH n (s+1)
theorem Sub.tab {M:Mem} {own pre:List Ob} {env QZ:Env} (h:Vw (List.range' pre.length own.length) QZ env):Sub (List.range' pre.length own.length) ⟨M,pre++own,env⟩ ⟨M,own,QZ⟩:=⟨rfl,QH _ _,iR own pre,h⟩
end
end Go.Proofs.YtaibdpjjojihmaaGreat
