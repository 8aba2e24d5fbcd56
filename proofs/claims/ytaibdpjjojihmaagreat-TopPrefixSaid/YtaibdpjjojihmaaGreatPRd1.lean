/- A part of the proof of TopPrefix; no conditions. -/
import Derived.Test.YtaibdpjjojihmaaGreatPHo5
set_option linter.unusedVariables false
set_option linter.unusedSimpArgs false
set_option maxRecDepth 20000
set_option maxHeartbeats 4000000
namespace Go.Proofs.YtaibdpjjojihmaaGreat
section
open Go Go.RowKit
attribute [local irreducible] Calls
theorem Mg (v u:Value) (l:List y6) (k:ByteArray) (ms:List xi) (w:World) (hl:Sl w 2 zi v l) (hm:Sl w 6 zR u ms) (hr:qw l) (hn:l.length<=100000000) (WC: ∀m∈ms,YA m) (hmn:ms.length<=1000000000):
 Calls zf 191 #[v, .string k,u] w fun e w'=>e= .returned (.tuple #[.string (bQ l k ms).1, .bool (bQ l k ms).2])/\Below w.heap.size w w':=by
 have hlM:=hl.KI;have hmM:=hm.KI;have cG:=fun W hW=>Me v l k W (hlM.xS hW) hn (XP hr.up)
 have cO:=fun W hW=>ND u ms k W (hmM.xS hW) (fun m hx=>⟨by have:=(WC m hx).key;omega,by have:=(WC m hx).val;omega⟩) hmn
 have hf:(Jw ms k).val.size<=3000:=by
  have:=ep (n:=3000) ze ms k gc (fun m hx=>by have:=(WC m hx).val;omega) Kq;exact this
 have cA:=fun W (_:(Mem.of w).le (Mem.of W))=>Ye (Jw ms k) (vl l k) (QF l k) W hf (by have:=pQ hr k;omega)
 unfold bQ;cases ha:uP (Jw ms k) (vl l k) with
 |true=>
  rw [zo rfl];rw [ha] at cA;refine zQ Tryz.func191 rfl Tryz.ntmps191 zd (zE) ?_
  repeat' (first|((apply zA);(first|exact zm zd cG|exact zm zd cO|exact zm zd cA);rfl)|refine vw ?_)
  show yH _ _ _ _;refine yH.two zd (zy zd ?_) (zy zd ?_)
  · rfl
  · rfl
 |false=>
  rw [zn yx];rw [ha] at cA;refine zQ Tryz.func191 rfl Tryz.ntmps191 zd (zE) ?_
  repeat' (first|((apply zA);(first|exact zm zd cG|exact zm zd cO|exact zm zd cA);rfl)|refine vw ?_)
  show yH _ _ _ _;refine yH.two zd (zy zd ?_) (zy zd ?_)
  · rfl
  · rfl
theorem Ml (v u:Value) (l:List y6) (k:ByteArray) (ms:List xi) (w:World) (hl:Sl w 2 zi v l) (hm:Sl w 6 zR u ms) (hr:qw l) (hn:l.length<=100000000) (WC: ∀m∈ms,YA m) (hmn:ms.length<=1000000000):
 Calls zf 160 #[v, .string k,u] w fun e w'=>e= .returned (.tuple #[.string (bQ l k ms).1, .bool (bQ l k ms).2])/\Below w.heap.size w w':=by
 have hlM:=hl.KI;have hmM:=hm.KI;have cG:=fun W hW=>Mg v u l k ms W (hlM.xS hW) (hmM.xS hW) hr hn WC hmn
 refine zQ Tryz.func160 rfl Tryz.ntmps160 zd (zE) ?_
 repeat' (first|((apply zA);(exact zm zd cG);rfl)|refine vw ?_)
 show yH _ _ _ _;refine yH.two zd (zy zd ?_) (zy zd ?_)
 · rfl
 · rfl
theorem V6 (u:Value) (M:Mem) (f:FuncId) [hf:zG zf f] (k8:Array Value) (p:xi->Bool) (l:List xi) (hn:l.length<=1000000000)
 (hp: ∀m∈l,∀W,M.le (Mem.of W)->Calls zf f (#[m.av]++k8) W fun e w'=>e= .returned (.bool (p m))/\Below W.heap.size W w'):
 zu zf 222 [u, .func (.func f) #[] k8] M [.zC u 200 6 l.length (l.flatMap zR)] (fun v M' o=>M'=M/\j2 v (kx p l).length/\o= [.zC v 200 6 (kx p l).length ((kx p l).flatMap zR)]):=by
 have hk: ∀a:xi,(zR a).length=6:=fun _=>rfl
 have cn:=fun (W:World) (v:Value) (hs:Sl W 6 zR v l) (hM:M.le (Mem.of W))=>JY f k8 p v l W hs ze (fun m hm W' C9=>hp m hm W' (hM.trans C9))
 refine xy Tryz.func222 rfl Tryz.ntmps222 zd (fun F w M0 hF=>zz ?_);cases uD:l.all (fun m=>!p m) with
 |true=>
  have hi:=iu uD;rw [hi] at cn;refine JK (u:=u) (e:=200) (k:=6) (n:=l.length) (cs:=l.flatMap zR) zh fun hu=>?_
  repeat' (first|((apply zA);((refine uj (r:= .int .i64 (-1)) zd ?_;exact fun hd W hO hW=>cn W _ ((hO 0 _ rfl).nsl l rfl (fun _ _=>rfl) rfl) hW));rfl)|refine nw ?_)
  rw [VN uD];exact ⟨_,[.zC u 200 6 l.length (l.flatMap zR)],zP,zE,zh,zq,rfl,hu,rfl⟩
 |false=>
  obtain ⟨i,kg,h1,h2⟩:=rk uD;rw [bX kg h1 h2] at cn;have g1:((i:Int)== -1)=false:=beq_eq_false_iff_ne.2 ze;have CX:kx p (l.take (i+1))=l.take i:=by rw [QN kg,h2,VN h1];simp
  have CW:(kx p (l.take (i+1))).length=i:=by rw [CX,yC];omega
  refine JK (u:=u) (e:=200) (k:=6) (n:=l.length) (cs:=l.flatMap zR) zh fun hu=>?_
  obtain ⟨B,C,rfl,Ry,hC2⟩:=xB hu ze
  repeat' (first|((apply zA);((refine uj (r:= .int .i64 i) zd ?_;exact fun hd W hO hW=>cn W _ ((hO 0 _ rfl).nsl l rfl (fun _ _=>rfl) rfl) hW));rfl)|refine nw ?_)
  refine jv (fun x:Nat×List xi=>⟨M, .zC (.slice (some ⟨B,0,none⟩) l.length C) 200 6 l.length (x.2.flatMap zR)::F,[(0, .v (.slice (some ⟨B,0,none⟩) l.length C)),(1, .v (.func (.func f) #[] k8)),(5, .v (.int .i64 (kx p (l.take x.1)).length)),(6, .v (.int .i64 x.1))]⟩) (fun x=>i<x.1/\x.1<=l.length/\x.2.length=l.length/\x.2.take (kx p (l.take x.1)).length=kx p (l.take x.1)/\x.2.drop x.1=l.drop x.1/\(kx p (l.take x.1)).length<x.1) (fun x=>l.length-x.1) (i+1,l) ⟨rfl,ji.refl _,⟨rfl,rfl,by dsimp only;rw [CW];rfl,rfl,trivial⟩,rfl⟩ ⟨fh i,kg,rfl,by dsimp only;rw [CW,CX],rfl,by dsimp only;omega⟩ ?_;rintro ⟨j,L⟩ ⟨gf,hj,Ee,Da,Rx,hqj⟩;dsimp only at gf hj Ee Da Rx hqj⊢;rcases yq j l.length with z9|ql
  · have hd:=Xp z9;have To:j<L.length:=ze
    have Gg:L[j]=l[j]:=by
     have e1:=Zc To;have e2:=Zc z9;rw [Rx,e2] at e1;injection e1 with e1 _;exact e1.symm
    have p4:=hp l[j] (yD z9);rw [<-Gg] at p4;have yE:L.drop (j+1)=l.drop (j+1):=by rw [<-Q8 (i:=1) (j:=j),Rx,Q8]
    have kt:=QN z9 p;have a1:=Iv hk L To;have a2:=gp hk L To;have hqL:(kx p (l.take j)).length<L.length:=ze;have a3:=mr hk L hqL L[j];have a4:=gp hk L hqL;have a5:(kx p (l.take j)).length<l.length:=ze;cases iw:p l[j] with
    |true=>
     rw [Gg,iw] at p4;rw [iw,zo rfl,xR] at kt;rw [<-Gg] at p4
     repeat' (first|refine yh zh fun b=>?_|((apply zA);(first|exact zj j zd zd rfl z9|exact Oi zd a1 a2|exact kA zd zd (fun W hW=>p4 W hW));rfl)|refine nw ?_)
     exact yG (Q:=fun _ _=>True) (j+1,L) (xZ ⟨rfl,rfl,by dsimp only;rw [kt];rfl,rfl,trivial⟩) ⟨by dsimp only;omega,z9,Ee,by dsimp only;rw [kt];exact Da,yE,by dsimp only;rw [kt];omega⟩ (by dsimp only;omega)
    |false=>
     rw [Gg,iw] at p4;rw [iw,zn yx] at kt;rw [<-Gg] at p4;have ge:(kx p (l.take (j+1))).length=(kx p (l.take j)).length+1:=by rw [kt];simp
     generalize hq:(kx p (l.take j)).length=q at*
     repeat' (first|refine yh zh fun b=>?_|refine krN zd a4 a3 ?_|((apply zA);(first|exact zj j zd zd rfl z9|exact zj q zd zd rfl a5|exact Oi zd a1 a2|exact kA zd zd (fun W hW=>p4 W hW));rfl)|refine nw ?_)
     exact yG (Q:=fun _ _=>True) (j+1,L.set q L[j]) (xZ ⟨rfl,rfl,by dsimp only;rw [ge];rfl,rfl,trivial⟩) ⟨by dsimp only;omega,z9,by simp only [xj];exact Ee,by
      dsimp only;rw [ge,kt,Q7,vF hqL,Da,YF _ _ (by rw [hq];exact zN _),hq,Gg];simp,by dsimp only;rw [rJ ze];exact yE,by dsimp only;omega⟩ (by dsimp only;omega)
  · have hd:=Xq ql;obtain rfl:j=l.length:=ze;rw [xk] at Da hqj;generalize hq:kx p l=K at*
    repeat' (first|((apply zA);(exact xG (x6 B K.length l.length C 6 ze) (yg K.length l.length C zd (by simp only [xk,hq];rfl) zd zd ze ze ze ze));rfl)|refine nw ?_)
    refine dw (uw.one _ _) fun cur kW gU _ _=>?_
    have nW:K.length*6<=l.length*6:=uB _ ze;have hnk:l.length*6<=C*6:=uB _ Ry;have JR:(l.length-K.length)*6=l.length*6-K.length*6:=Nat.sub_mul ..;refine Hc (e:=200) ?_ zd (Kd.here B (K.length*6) _ cur _ F ?_) ?_ ze zd zd
    · refine Qm (n:=K.length) (cap:=C) (uw.one _ _) (by rw [xA];exact kW) ze hC2 ?_
      have uA: ∀zs:List Value,zs.length=(l.length-K.length)*6->(jT cur (K.length*6) zs).take (K.length*6)=K.flatMap zR:=fun zs hz=>by
       rw [u7 _ _ _ (by rw [hz];omega),xY,GF (by rw [yC];omega),wD (by rw [yC];omega)];have h1:=z5 (List.take (K.length*6)) gU;rw [wO,jn nW,ve hk,Da] at h1;exact h1
      rw [uA _ (by rw [KN];rfl)]
      repeat' (first|((apply zA);(exact xG (Z1 B K.length C 6) (yg 0 K.length C zd zd (by simp only [xk,hq];rfl) zd ze ze ze ze));rfl)|refine nw ?_)
      exact ⟨_,[.zC (.slice (some ⟨B,0,none⟩) K.length C) 200 6 K.length (K.flatMap zR)],zP,zE,zh,zq,rfl, .inr ⟨B,C,rfl,ze,hC2⟩,rfl⟩
    · rw [KN];show K.length*6+(l.length-K.length)*6<=_;omega
    · exact mK 6 _ _ rfl rfl ze
theorem oM (m:xi) (s:yW) (seen:Int) (b1 b2:Nat) (M:Mem) (hk:m.key.size<=1000000) (h1:M b1=some (.cells (Value.int .i64 seen).cells 3 (0,0))) (h2:M b2=some (.cells (s.av:Value).cells 118 (0,0))) (w:World) (hM:M.le (Mem.of w)):
 Calls zf 221 #[m.av,ptr b1,ptr b2] w fun e w'=>e= .returned (.bool (decide (m.xD<=seen)&&fQ (ZM m) s))/\Below w.heap.size w w':=by
 have cT:=fun W=>Uj m s W hk
 have vK:M.cell b1 0=some (.int .i64 seen):=Mem.cell_of h1 rfl;have hc: ∀(j:Nat) u,(s.av:Value).cells.toList[j]?=some u->M.cell b2 (0+j)=some u:=fun j u hu=>Mem.cell_of h2 (by rw [xu];exact hu)
 rcases XK (decide (m.xD<=seen)) with d1|d1<;>rw [d1]
 all_goals
  refine zQ Tryz.func221 rfl Tryz.ntmps221 zd (hM) ?_
  repeat' (first|((apply zA);(first|exact zY zd vK|exact zZ _ zd hc _ zd|exact zm zd (fun W _=>cT W));rfl)|refine vw ?_)
  exact zP
theorem Ct (v:Value) (ms:List xi) (s:yW) (seen:Int) (M:Mem) (hl:xt M 6 zR v ms) (hn:ms.length<=1000000000) (hk: ∀m∈ms,m.key.size<=1000000):
 zu zf 195 [v,s.av, .int .i64 seen] M [] (fun r M' o=>M.le M'/\j2 r (Jv ms s seen).length/\o= [.zC r 200 6 (Jv ms s seen).length ((Jv ms s seen).flatMap zR)]):=by
 unfold Jv;obtain ⟨A,c,rfl,vK,qD,_⟩:=id hl;refine xy Tryz.func195 rfl Tryz.ntmps195 zd (fun F w M0 hF=>zz ?_)
 repeat' (first|(refine yZ (t:=118) zd zh fun b2=>?_;refine Ha (uw.one _ _) fun M1 qR Zk=>?_)|(refine yZ (t:=3) zd zh fun b1=>?_;refine Ha (uw.one _ _) fun M2 zD kJ=>?_)|((apply zA);(exact KF zd);rfl)|refine nv ?_)
 have hle:=qR.trans zD;have c2:=zu.iq fun W hW=>vp _ ms W ((hl.mono hle).xS hW) ze
 have c3:=fun r=>V6 r M2 221 #[ptr b1,ptr b2] (fun m=>decide (m.xD<=seen)&&fQ (ZM m) s) ms ze (fun m hm W hW=>oM m s seen b1 b2 M2 (hk m hm) kJ (zD _ _ Zk) W hW)
 repeat' (first|refine pW c2 fun r hr=>?_|refine pW (c3 _) fun r2 KL=>?_|refine nv ?_)
 exact ⟨_,[.zC r2 200 6 (kx (fun m=>decide (m.xD<=seen)&&fQ (ZM m) s) ms).length ((kx (fun m=>decide (m.xD<=seen)&&fQ (ZM m) s) ms).flatMap zR)],zP,hle,zh,zq,hle,KL,rfl⟩
end
section
open Go Go.RowKit
attribute [local irreducible] Calls
structure gE where
 th:Int
 wy:Int
 to:Int
 key:ByteArray
 look:Bool
 ls:List (List xi)
 yd:Bool
 done:Bool
 has:Bool
 val:ByteArray
def YS (p:jf) (r:gE):jf×gE×Bool:=
 if (kC p.T r.th r.to false).2=true then ({p with T:=V7 (kC p.T r.th r.to false).1 r.th r.wy},{r with yd:=r.wy== -1,look:=true},true)
 else ({p with T:=(kC p.T r.th r.to false).1},r,false)
def Jg (p:jf) (r:gE):jf×gE×Bool:=
 if tf (p.q.get r.to) r.key=false then (p,{r with wy:=r.to,look:=false,to:=(p.q.get r.to).right},true)
 else if 0<(p.q.get r.to).level then (p,{r with wy:=r.to,look:=false,ls:=r.ls++ [(p.q.get r.to).ms],to:=(p.q.get r.to).ks.getD (jq (p.q.get r.to).ps r.key) 0},true)
 else ({p with T:=Qf p.T r.th},{r with wy:=r.to,look:=false,done:=true,val:=(bQ (p.q.get r.to).rs r.key (J0 (yd r.key) r.ls)).1,has:=(bQ (p.q.get r.to).rs r.key (J0 (yd r.key) r.ls)).2},true)
def jj (p:jf) (r:gE):jf×gE×Bool:=
 if r.done=true then (p,r,false) else if r.look=true then Jg p {r with yd:=false} else YS p {r with yd:=false}
structure Rd where
 rb:Nat
 hb:Nat
 v:Value
 ls:List Lm
def lc (look:Bool):Value:= .func (.func (if look=true then 139 else 119)) #[] #[]
def gI (cb:Nat) (x:Rd) (r:gE):Ob:= .zK (ptr x.rb) 217 [.int .i64 r.wy, .int .i64 r.to,ptr cb,ptr x.hb, .string r.key,lc r.look,x.v, .bool r.yd, .bool r.done, .int .i64 0, .bool r.has, .string r.val, .slice none 0 0]
def Jf (x:Rd):Ob:= .zC x.v 141 1 x.ls.length (x.ls.flatMap ke)
def vi (cb:Nat) (x:Rd) (r:gE):List Ob:=if r.done=true then [gI cb x r] else [gI cb x r,Jf x]
theorem adr (cb:Nat) (x:Rd) (r:gE):jI (vi cb x r):=by
 unfold vi;split
 · unfold gI;infer_instance
 · unfold gI Jf;infer_instance
instance (cb:Nat) (x:Rd) (r:gE):jI (vi cb x r):=adr cb x r
structure Wf (cb:Nat) (H:List (Int×Nat)) (M:Mem) (r:gE) (x:Rd):Prop where
 hand:yU H r.th=some x.hb
 v:r.done=false->j2 x.v x.ls.length
 one:xK x.v
 ls:r.done=false->x.ls.map Lm.l=r.ls
 ok:r.done=false->DU M x.ls
 th:r.th<1000
theorem Wf.mono {cb:Nat} {H H':List (Int×Nat)} {M M':Mem} {r:gE} {x:Rd} (h:Wf cb H M r x) (hH: ∀t y,yU H t=some y->yU H' t=some y) (hM:M.le M'):Wf cb H' M' r x:=⟨hH _ _ h.hand,h.v,h.one,h.ls,fun e=>(h.ok e).mono hM,h.th⟩
variable {cb sb:Nat} {b:Int} {p:jf} {H:List (Int×Nat)} {M:Mem} {c:Co}
theorem B5 (h:yO cb sb b p H M c) {r:gE} {x:Rd} (hr:Wf cb H M r x) (hd:r.done=false):zu zf 119 [ptr x.rb] M (vi cb x r++c.ob) (fun u M' o=>M'=M/\u= .bool (YS p r).2.2/\ ∃c':Co,o=vi cb x (YS p r).2.1++c'.ob/\yO cb sb b (YS p r).1 H M c'/\Wf cb H M (YS p r).2.1 x):=by
 have cT:=Y9 h hr.hand hr.th r.to false;have ov:=hr.one;have uN:(YS p r).2.1.done=false:=by unfold YS;split<;>exact hd
 unfold vi;rw [zn (by rw [hd];simp),zn (by rw [uN];simp)];clear uN;unfold gI Jf YS;generalize hq:kC p.T r.th r.to false=tq at*;obtain ⟨T1,ok⟩:=tq;obtain ⟨rb,hb,v,ls⟩:=x;dsimp only at*;generalize hlf:lc r.look=lf;have olf:xK lf:=⟨by rw [<-hlf];rfl⟩;refine xy (args:= [ptr rb]) (zO:= [.zK (ptr rb) 217 [.int .i64 r.wy, .int .i64 r.to,ptr cb,ptr hb, .string r.key,lf,v, .bool r.yd, .bool r.done, .int .i64 0, .bool r.has, .string r.val, .slice none 0 0], .zC v 141 1 ls.length (ls.flatMap ke)]++c.ob) Tryz.func119 rfl Tryz.ntmps119 zd (fun F w M0 hF=>zz ?_)
 repeat' (first|refine zU [.l c.ob] [9,10] [9] 1 yI zd zd ?_|refine nv ?_)
 repeat' (refine nu ?_)
 refine xF cT rfl ?_ zx;rintro _ M2 _- -⟨hM,rfl,c1,rfl,h1⟩;subst hM;refine yJ ?_
 repeat' (first|refine nu ?_|exact zx|refine nz ?_ ?_)
 cases ok with
 |false=>
  rw [zn yx];subst hlf
  repeat' (refine nv ?_)
  exact ⟨_,[.zK (ptr rb) 217 [.int .i64 r.wy, .int .i64 r.to,ptr cb,ptr hb, .string r.key,lc r.look,v, .bool r.yd, .bool r.done, .int .i64 0, .bool r.has, .string r.val, .slice none 0 0], .zC v 141 1 ls.length (ls.flatMap ke)]++c1.ob,zP,zE,zh,zq,rfl,rfl,c1,rfl,h1,hr⟩
 |true=>
  rw [zo rfl];have cL:=eA h1 hr.hand r.wy;dsimp only at cL
  repeat' (first|refine zU [.l c1.ob] [9] [9] 1 yI zd zd ?_|refine nv ?_)
  repeat' (refine nu ?_)
  refine xF cL rfl ?_ zx;rintro _ M3 _- -⟨hM,-,c2,rfl,h2⟩;subst hM;refine yJ ?_
  repeat' (refine nu ?_)
  subst hlf
  repeat' (refine nv ?_)
  exact ⟨_,[.zK (ptr rb) 217 [.int .i64 r.wy, .int .i64 r.to,ptr cb,ptr hb, .string r.key, .func (.func 139) #[] #[],v, .bool (r.wy== -1), .bool r.done, .int .i64 0, .bool r.has, .string r.val, .slice none 0 0], .zC v 141 1 ls.length (ls.flatMap ke)]++c2.ob,zP,zE,zh,zq,rfl,rfl,c2,rfl,h2,⟨hr.hand,hr.v,hr.one,hr.ls,hr.ok,hr.th⟩⟩
theorem EO (h:yO cb sb b p H M c) {th:Int} (h0:0<=th) (ht:th<1000) (k:ByteArray):zu zf 104 [ptr cb, .int .i64 th, .string k] M c.ob (fun u M' o=>M'=M/\ ∃(x:Rd) (H':List (Int×Nat)) (c':Co),u=ptr x.rb/\(∀t y,yU H t=some y->yU H' t=some y)/\o=vi cb x ⟨th,-1,0,k,false,[],false,false,false,em⟩++c'.ob/\yO cb sb b p H' M c'/\Wf cb H' M ⟨th,-1,0,k,false,[],false,false,false,em⟩ x):=by
 have cH:=dg h h0;refine xy Tryz.func104 rfl Tryz.ntmps104 zd (fun F w M0 hF=>zz ?_);refine uU 141 1 ?_
 repeat' (refine nv ?_)
 refine xQ cH ?_;rintro _ M2 _- -⟨hM,hb,H',c',rfl,hl,hH,rfl,vk⟩;subst hM;refine zJ ?_
 repeat' (first|refine yZ zd zh fun rb=>?_|refine nv ?_)
 refine ⟨_,[.zK (ptr rb) 217 [.int .i64 (-1), .int .i64 0,ptr cb,ptr hb, .string k, .func (.func 119) #[] #[], .slice none 0 0, .bool false, .bool false, .int .i64 0, .bool false, .string em, .slice none 0 0], .zC (.slice none 0 0) 141 1 0 []]++c'.ob,zP,zE,zh,?_,rfl,⟨rb,hb, .slice none 0 0,[]⟩,H',c',rfl,hH,rfl,vk,⟨hl,fun _=> .inl ⟨rfl,rfl⟩,⟨rfl⟩,fun _=>rfl,fun _ x hx=>(nomatch hx),ht⟩⟩;change ji (.zK (ptr rb) 217 [.int .i64 (-1), .int .i64 0,ptr cb,ptr hb, .string k, .func (.func 119) #[] #[], .slice none 0 0, .bool false, .bool false, .int .i64 0, .bool false, .string em, .slice none 0 0]::(c'.ob++ .zC (.slice none 0 0) 141 1 0 []::F)) _;exact zq
end
end Go.Proofs.YtaibdpjjojihmaaGreat
