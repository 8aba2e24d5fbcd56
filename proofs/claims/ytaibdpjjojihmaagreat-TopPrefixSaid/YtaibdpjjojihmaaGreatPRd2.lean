/- A part of the proof of TopPrefix; no conditions. -/
import Derived.Test.YtaibdpjjojihmaaGreatPRo2
import Derived.Test.YtaibdpjjojihmaaGreatPRd1
set_option linter.unusedVariables false
set_option linter.unusedSimpArgs false
set_option maxRecDepth 20000
set_option maxHeartbeats 4000000
namespace Go.Proofs.YtaibdpjjojihmaaGreat
section
open Go Go.RowKit
attribute [local irreducible] Calls
theorem iQ (v u:Value) (l:List y6) (s:yW) (ms:List xi) (k:ByteArray) (left:Int) (M:Mem) (hl:xt M 2 zi v l) (hm:xt M 6 zR u ms) (hr:qw l) (WC: ∀m∈ms,YA m) (hs:jB 100 s) (hn:l.length+ms.length<=100000000) (h0: -1000000000<=left) (h1:left<=1000000000):
 zu zf 92 [v,s.av,u, .string k, .int .i64 left] M [] (fun r M' o=>M.le M'/\o= []/\ ∃w,r= .tuple #[w, .string (ww l s ms k left).2.1, .bool (ww l s ms k left).2.2]/\xt M' 2 zi w (ww l s ms k left).1):=by
 have cE:=fun W=>YN s W
 unfold ww;cases he:empty s with
 |true=>
  rw [he] at cE;rw [zo rfl];refine KC Tryz.func92 rfl Tryz.ntmps92 zd (fun F w M0 hF=>zz ?_)
  repeat' (first|refine yZ zd zh fun bx=>?_|((apply zA);(exact zm zd (fun W _=>cE W));rfl)|refine nv ?_)
  exact ⟨_,[],kB.three rfl (RV.tmp zd) (RV.tmp zd) (RV.tmp zd),zE,zh,zq,zE,rfl,_,rfl,xt.nil _ _ _⟩
 |false=>
  rw [he] at cE;rw [zn yx];have cV:=Fa v u l s ms M hl hm hr WC hs hn
  have P2:(fN l s ms).length<=100000000:=by
   have:=(er (jR ms s) (hr.sub (IQ (p:=fun p=>has s p.key))) fun m hx=>⟨(dh WC hs m hx).k,(dh WC hs m hx).val⟩).2;have h3:=aH ms s;have h4:(l.filter fun p=>has s p.key).length<=l.length:=Ql _ _;unfold fN Zg;omega
  generalize fN l s ms=vw at*;obtain ⟨t,ht⟩: ∃t:Nat,(min (vw.length:Int) left).toNat=t:=⟨_,rfl⟩;have MF:t<=vw.length:=ze
  have sX:(if (if left<(vw.length:Int) then left else (vw.length:Int))>0 then (if left<(vw.length:Int) then left else (vw.length:Int)) else (0:Int))=(t:Int):=by
   split<;>split<;>omega
  rw [ht]
  (try unfold yW.av)
  cases hop:s.vx with
  |true=>
   (try unfold yW.av at cE)
   (try unfold yW.av at cV)
   rw [hop] at cE cV;refine KC Tryz.func92 rfl Tryz.ntmps92 zd (fun F w M0 hF=>zz ?_)
   repeat' (first|refine yZ zd zh fun bx=>?_|((apply zA);(exact zm zd (fun W _=>cE W));rfl)|refine nv ?_)
   refine xQ cV ?_;rintro w1 M2 _ zD-⟨-,rfl,hw⟩;refine zJ ?_;obtain ⟨A,c,rfl,vK,qD,_⟩:=id hw;have sV:=UR hw rfl MF;have z9:(vw.take t).length=t:=by rw [yC];omega
   have cC:=(zu.iq (M:=M2) fun W hW=>jU _ (vw.take t) W (sV.xS hW) (by rw [z9];omega)).le.sl (fun _ _=>rfl)
   repeat' (first|refine zU [] [7,11] [] 1 yI zd zd ?_|refine nv ?_)
   repeat' (first|refine X0 zd (by exact Y4 (by first|exact fC zd zd (fun W=>eL W _ _ _ _ _ _)|exact xG (z5 (Value.int .i64) sX) (fE zd zd (fun W=>eM W _ _ _ _ _ _))|exact yg 0 t c zd rfl zd rfl ze ze ze ze)) zd ?_|refine nu ?_)
   refine xF cC rfl ?_ zx;rintro w2 M3 _ yc-⟨-,rfl,V9⟩;refine yJ ?_
   repeat' (first|refine nu ?_|exact zx|refine nz ?_ ?_)
   repeat' (refine nv ?_)
   have hle:=zD.trans yc
   all_goals exact ⟨_,[],kB.three rfl (RV.tmp zd) (RV.tmp zd) (RV.tmp zd),hle,zh,zq,hle,rfl,w2,rfl,V9⟩
  |false=>
   (try unfold yW.av at cE)
   (try unfold yW.av at cV)
   rw [hop] at cE cV;refine KC Tryz.func92 rfl Tryz.ntmps92 zd (fun F w M0 hF=>zz ?_)
   repeat' (first|refine yZ zd zh fun bx=>?_|((apply zA);(exact zm zd (fun W _=>cE W));rfl)|refine nv ?_)
   refine xQ cV ?_;rintro w1 M2 _ zD-⟨-,rfl,hw⟩;refine zJ ?_;obtain ⟨A,c,rfl,vK,qD,_⟩:=id hw;have sV:=UR hw rfl MF;have z9:(vw.take t).length=t:=by rw [yC];omega
   have cC:=(zu.iq (M:=M2) fun W hW=>jU _ (vw.take t) W (sV.xS hW) (by rw [z9];omega)).le.sl (fun _ _=>rfl)
   repeat' (first|refine zU [] [7,11] [] 1 yI zd zd ?_|refine nv ?_)
   repeat' (first|refine X0 zd (by exact Y4 (by first|exact fC zd zd (fun W=>eL W _ _ _ _ _ _)|exact xG (z5 (Value.int .i64) sX) (fE zd zd (fun W=>eM W _ _ _ _ _ _))|exact yg 0 t c zd rfl zd rfl ze ze ze ze)) zd ?_|refine nu ?_)
   refine xF cC rfl ?_ zx;rintro w2 M3 _ yc-⟨-,rfl,V9⟩;refine yJ ?_
   repeat' (first|refine nu ?_|exact zx|refine nz ?_ ?_)
   repeat' (refine nv ?_)
   have hle:=zD.trans yc
   all_goals exact ⟨_,[],kB.three rfl (RV.tmp zd) (RV.tmp zd) (RV.tmp zd),hle,zh,zq,hle,rfl,w2,rfl,V9⟩
end
section
open Go Go.RowKit
theorem U6 {p:xi->Prop} {ls:List (List xi)} (h: ∀l∈ls,∀m∈l,p m): ∀k,∀x∈uh ls k,∀m∈x.l,p m
 |0,x,hx=>nomatch hx
 |k+1,x,hx=>by
  unfold uh at hx;split at hx
  · rcases jH.1 ((Zq ZN _ _).mem_iff.1 hx) with h1|h1
    · exact U6 h k x h1
    · rw [jx.1 h1];show ∀m∈ls.getD k [],p m;rw [dv];cases hk:ls[k]? with
      |none=>exact fun m hm=>(nomatch hm)
      |some l=>exact h l (Xj hk)
  · exact U6 h k x hx
theorem lG {p:xi->Prop} (h0:p QI): ∀(f:Nat) (L:List qx),(∀x∈L,∀m∈x.l,p m)-> ∀m∈YU f L,p m
 |0,_,_,m,hm=>nomatch hm
 |f+1,L,h,m,hm=>by
  unfold YU at hm;split at hm
  · cases hm
  · rename_i x hx
    have hxL:x∈L:=(ue ZN L).mem_iff.1 (Sa hx);rcases jm.1 hm with rfl|hm
    · rw [dv];cases hk:x.l[0]? with
      |none=>exact h0
      |some y=>exact h x hxL y (Xj hk)
    · refine lG h0 f _ (fun y hy=>?_) m hm;have hd: ∀y∈(j8 ZN L).dropLast,∀m∈y.l,p m:=fun y hy=>h y ((ue ZN L).mem_iff.1 (IT _ hy))
      unfold lw at hy;split at hy
      · rcases jH.1 ((Zq ZN _ _).mem_iff.1 hy) with h1|h1
        · exact hd y h1
        · rw [jx.1 h1];exact fun m hm=>h x hxL m (List.drop_subset _ _ hm)
      · exact hd y hy
theorem lM {p:xi->Prop} (h0:p QI) {ls:List (List xi)} (h: ∀l∈ls,∀m∈l,p m): ∀m∈wJ ls,p m:=lG h0 _ _ (U6 h _)
theorem Pq:YA QI:=⟨by decide,by decide,by decide,fun _=>by decide⟩
theorem HT {s:yW} {ls:List (List xi)} (hs:jB 100 s) (h: ∀l∈ls,∀m∈l,YA m): ∀m∈J0 s ls,YA m:=lM Pq fun l hl=>by
 obtain ⟨l0,h0,rfl⟩:=uT.1 hl;exact dh (h l0 h0) hs
theorem pN (s:yW) (ls:List (List xi)):(J0 s ls).length<=X8 ls:=jZ (ag _ _) (mL ls s)
def Oe (P:List ByteArray) (s:yW):Prop:=s.vx=true\/s.hi∈P
theorem H4 {P:List ByteArray} (he:em∈P) {s:yW} (h:Oe P s):Oe P (Kj s):=by
 unfold Kj;split
 · exact .inr he
 · split
   · exact .inl rfl
   · exact h
theorem H6 {P:List ByteArray} (he:em∈P) {a b:yW} (ha:Oe P a) (hb:Oe P b):Oe P (vT a b):=by
 refine H4 he ?_;unfold sE Oe lH;dsimp only;cases h1:a.vx with
 |true=>
  cases h2:b.vx with
  |true=>exact .inl rfl
  |false=>exact .inr (hb.resolve_left (by rw [h2];simp))
 |false=>
  have h3:=ha.resolve_left (by rw [h1];simp);refine .inr ?_;rw [zn yx];cases h2:b.vx with
  |true=>exact h3
  |false=>
   rw [zn yx];unfold mn;split
   · exact hb.resolve_left (by rw [h2];simp)
   · exact h3
theorem OX {P:List ByteArray} (he:em∈P) {ps:List ByteArray} (hp: ∀p∈ps,p∈P) (i:Int):Oe P (xL ps i):=by
 unfold xL;split
 · exact .inr he
 · refine H4 he ?_;unfold Oe;dsimp only;by_cases h:i.toNat<ps.length
   · refine .inr ?_;rw [zo h];unfold wi
     first
      |(rw [dv,jA h];exact hp _ (yD h))
      |(rw [jA h];exact hp _ (yD h))
   · exact .inl (by simp [h])
def kY.mH (q:kY):List ByteArray:=em::q.ns.flatMap (·.ps)
theorem kY.RK (q:kY) (i:Int): ∀p∈(q.get i).ps,p∈q.mH:=fun p hp=>by
 unfold kY.get JU at hp;split at hp
 · rw [dv] at hp;cases hk:q.ns[i.toNat]? with
   |none=>rw [hk] at hp;exact (nomatch hp)
   |some n=>
    rw [hk] at hp;exact XJ _ (KA.2 ⟨n,Xj hk,hp⟩)
 · exact (nomatch hp)
theorem abc {b:Int} {q:kY} (h:Yz b q): ∀p∈q.mH,p.size<=16:=fun p hp=>by
 rcases jm.1 hp with rfl|hp
 · exact zW _
 · obtain ⟨n,hn,hp⟩:=KA.1 hp;exact (h.nd n hn).ps.2 p hp
theorem Hw (q:kY) (k:ByteArray): ∀(f:Nat) (i lv:Int) (x:yW),Oe q.mH x-> ∀y∈WU q k f i lv x,Oe q.mH y.2
 |0,_,_,_,_,y,h=>nomatch h
 |f+1,i,lv,x,hx,y,h=>by
  have he:em∈q.mH:=Yq;unfold WU at h;split at h
  · cases h
  · rcases jm.1 h with rfl|h
    · exact hx
    · split at h
      · cases h
      · exact Hw q k f _ _ _ (H6 he hx (OX he (q.RK i) _)) y h
theorem sd {b:Int} {q:kY} (hq:Yz b q) (k:ByteArray): ∀(f:Nat) (i lv:Int) (x:yW),jB 16 x-> ∀y∈WU q k f i lv x,jB 16 y.2
 |0,_,_,_,_,y,h=>nomatch h
 |f+1,i,lv,x,hx,y,h=>by
  unfold WU at h;split at h
  · cases h
  · rcases jm.1 h with rfl|h
    · exact hx
    · split at h
      · cases h
      · exact sd hq k f _ _ _ (QL hx (Jh (hq.get i).ps.2 _)) y h
theorem jB.mono {n m:Nat} {s:yW} (h:jB n s) (hn:n<=m):jB m s:=⟨jZ h.1 hn,jZ h.2 hn⟩
theorem OM:jB 16 ab0:=⟨zW _,zW _⟩
theorem Mu {b:Int} {q:kY} (h:Yz b q) (k:ByteArray):yB q.c b (kL q k).1/\jB 16 (kL q k).2.1/\Oe q.mH (kL q k).2.1:=by
 have he:em∈q.mH:=Yq;unfold kL;cases hw:(JQ q k).getLast? with
 |none=>exact ⟨UY h.c h.b0,OM, .inr he⟩
 |some y=>
  obtain ⟨n,x⟩:=y;have hm:=Sa hw;exact ⟨iM h k _ hm,sd h k _ _ _ _ ⟨zW _,zW _⟩ _ hm,Hw q k _ _ _ _ (.inl rfl) _ hm⟩
theorem aal {b:Int} {q:kY} (h:Yz b q) (k:ByteArray):(∀m∈XG q k,YA m)/\((XG q k).length:Int)<=1024*(b+1):=by
 unfold XG;cases hw:(JQ q k).getLast? with
 |none=>exact ⟨fun m hm=>(nomatch hm),by have:=h.b0;simp only [Aj];omega⟩
 |some y=>
  obtain ⟨n,x⟩:=y;have hm:=Sa hw;have YC:jB 16 x:=sd h k _ _ _ _ ⟨zW _,zW _⟩ _ hm
  have hl: ∀l∈(JQ q k).map (fun y=>y.1.ms),(∀m∈l,YA m)/\l.length<=1024:=fun l hl=>by
   obtain ⟨y,hy,rfl⟩:=uT.1 hl;have hi:=iM h k y hy;exact ⟨fun m hm=>(hi.ms m hm).t,hi.bP h.c⟩
  refine ⟨HT (YC.mono Kq) fun l h1=>(hl l h1).1,?_⟩;have h1:=pN x ((JQ q k).map (fun y=>y.1.ms));have h2:=g8 1024 _ fun l h1=>(hl l h1).2
  rw [yo] at h2;have h3:=Bt h k;show ((J0 x ((JQ q k).map (fun y=>y.1.ms))).length:Int)<=_;omega
def gv (P:List ByteArray) (k:ByteArray):Nat:=(P.filter fun p=>lt k p).length
theorem R5 {P:List ByteArray} {k c:ByteArray} (hc:c∈P) (h:lt k c=true):gv P c<gv P k:=by
 induction P with
 |nil=>cases hc
 |cons p P ih=>
  have hle: ∀P:List ByteArray,gv P c<=gv P k:=fun P=>by
   induction P with
   |nil=>exact zN _
   |cons q P ih=>
    unfold gv at ih⊢;rw [ff,ff];by_cases h1:lt c q=true
    · rw [zo h1,zo (KX h h1),xd,xd];omega
    · rw [zn h1];split
      · rw [xd];omega
      · exact ih
  unfold gv at ih hle⊢;rw [ff,ff];rcases jm.1 hc with rfl|hc
  · rw [zn (by rw [d7];simp),zo h,xd];have:=hle P;omega
  · have:=ih hc;by_cases h1:lt c p=true
    · rw [zo h1,zo (KX h h1),xd,xd];omega
    · rw [zn h1];split
      · rw [xd];omega
      · exact this
theorem R6 (P:List ByteArray) (k:ByteArray):gv P k<=P.length:=Ql _ _
def sO (q:kY):List y6:=BS q 17039360 (q.mH.length+1) all []
theorem rf {k c:ByteArray} (h:lt k c=true):Qb ⟨k,em,true⟩ c=⟨c,em,true⟩:=by
 unfold Qb vT sE Pw lH mx;dsimp only;rw [zo h];rfl
end
section
open Go Go.RowKit
attribute [local irreducible] Calls
structure WN (n:Nat) (r:gE):Prop where
 len:r.ls.length<=n
 ms: ∀l∈r.ls,(∀m∈l,YA m)/\l.length<=1024
 key:r.key.size<=90
variable {cb sb:Nat} {b:Int} {p:jf} {H:List (Int×Nat)} {M:Mem} {c:Co}
theorem B6 (h:yO cb sb b p H M c) (hb:b<=1000000000) {r:gE} {x:Rd} (hr:Wf cb H M r x) (hd:r.done=false) {n:Nat} (hi:WN n r) (hn:n<=900000):zu zf 139 [ptr x.rb] M (vi cb x r++c.ob) (fun u M' o=>M.le M'/\u= .bool (Jg p r).2.2/\ ∃(x':Rd) (c':Co),x'.rb=x.rb/\o=vi cb x' (Jg p r).2.1++c'.ob/\yO cb sb b (Jg p r).1 H M' c'/\Wf cb H M' (Jg p r).2.1 x'):=by
 have cS:=Xi h;have cN:=XV (c:=c) (uI h.st r.to);have ig:=h.st.inv.get r.to;have hc:=h.st.inv.c;have ov:=hr.one;have hv:=hr.v hd;have Ux:=hr.ls hd;have Qw:=hr.ok hd;unfold vi;rw [zn (show ¬ r.done=true by rw [hd];simp)];unfold gI Jf Jg;obtain ⟨rb,Za,v,ls⟩:=x;dsimp only at*;generalize hlf:lc r.look=lf;have olf:xK lf:=⟨by rw [<-hlf];rfl⟩;refine xy (args:= [ptr rb]) (zO:= [.zK (ptr rb) 217 [.int .i64 r.wy, .int .i64 r.to,ptr cb,ptr Za, .string r.key,lf,v, .bool r.yd, .bool r.done, .int .i64 0, .bool r.has, .string r.val, .slice none 0 0], .zC v 141 1 ls.length (ls.flatMap ke)]++c.ob) Tryz.func139 rfl Tryz.ntmps139 zd (fun F w M0 hF=>zz ?_)
 repeat' (first|refine kV (x:= .region 1 _ _) (fun s'=> ∃(M2:Mem) (b3:Nat) (z:Nd),M.le M2/\z.Ok M2/\bare z=p.q.get r.to/\vo s' ⟨M2, .zK (ptr b3) 143 (yr z):: .zK (ptr rb) 217 [.int .i64 r.wy, .int .i64 r.to,ptr cb,ptr Za, .string r.key,lf,v, .bool r.yd, .bool r.done, .int .i64 0, .bool r.has, .string r.val, .slice none 0 0]:: .zC v 141 1 ls.length (ls.flatMap ke)::(c.ob++F),[(0, .v (ptr rb)),(3, .v (ptr b3))]⟩) ?_ ?_|refine zU [] [4,10,11,12,13,14,15,16] [] 1 yI zd zd ?_|refine nv ?_)
 · repeat' (first|refine YG cS rfl ?_ ?_|refine G9 rfl (fun b3=>?_) ?_|(refine xF cN rfl ?_ ?_;rintro _ M2 _ zD-⟨-,rfl,z,rfl,hz,jL⟩;refine yJ ?_;have oz:=zI hz)|refine nu ?_|exact zx|refine nz ?_ ?_)
   all_goals
    exact ⟨rfl,_,_,z,zD,hz,jL,xZ j4⟩
 · rintro s' ⟨M2,b3,z,zD,hz,jL,hs⟩;refine x8 _ hs ?_;have oz:=zI hz;have h2:=h.mono zD;have FE:z.right=(p.q.get r.to).right:=by rw [<-jL];rfl
   have K3:z.level=(p.q.get r.to).level:=by rw [<-jL];rfl
   have hzh:tf z r.key=tf (p.q.get r.to) r.key:=by rw [<-jL];rfl
   have cH:=fun W=>Cn z r.key W
   dsimp only [yr] at oz⊢;rw [<-hzh,<-FE,<-K3];cases hh:tf z r.key with
   |false=>
    rw [hh] at cH;rw [zo rfl]
    repeat' (first|refine zU [] [] [] 1 yI zd zd ?_|refine nv ?_)
    repeat' (first|refine X0 zd (by exact Y4 (by exact zm zd (fun W _=>cH W))) zd ?_|refine nu ?_)
    repeat' (refine nv ?_)
    exact ⟨_,[.zK (ptr rb) 217 [.int .i64 r.to, .int .i64 z.right,ptr cb,ptr Za, .string r.key, .func (.func 119) #[] #[],v, .bool r.yd, .bool r.done, .int .i64 0, .bool r.has, .string r.val, .slice none 0 0], .zC v 141 1 ls.length (ls.flatMap ke)]++c.ob,zP,zD,zh,zq,zD,rfl,⟨rb,Za,v,ls⟩,c,rfl,by show _=(if r.done=true then _ else _)++_;rw [zn (by rw [hd];simp)];rfl,h2,⟨hr.hand,hr.v,hr.one,hr.ls,fun e=>(hr.ok e).mono zD,hr.th⟩⟩
   |true=>
    rw [hh] at cH;rw [zn (show ¬ (true=false) by simp)];have CS:=ig.pn;have gQ:=ig.kn;have aee:=hc.f64;have y7:ls.length<=n:=by have:=z5 List.length Ux;rw [yo] at this;rw [this];exact hi.len
    cases d1:decide ((0:Int)<z.level) with
    |true=>
     have oU:=qc d1;rw [zo oU];have Rk:=ig.kids ze;have Td:z.ps=(p.q.get r.to).ps:=by rw [<-jL];rfl
     have Ig:z.ks=(p.q.get r.to).ks:=by rw [<-jL];rfl
     have CO:z.ms=(p.q.get r.to).ms:=by rw [<-jL];rfl
     have aaw:=ig.ps.1;rw [<-Td,<-Ig] at Rk;rw [<-Td] at CS aaw;rw [<-Td,<-Ig,<-CO];have cRo:=fun (W:World) (hW:M2.le (Mem.of W))=>ZR z.pv z.ps r.key W (hz.1.xS hW) ze (XP aaw)
     have Tj:=X3 z.ps r.key;generalize jq z.ps r.key=ro at*;have CR:ro<z.ks.length:=ze;rw [show z.ks.getD ro 0=z.ks[ro] by simp [List.getD,CR]];have UF:=hz.2.1;have hz3:=hz.2.2.1;obtain ⟨Ak,ck,X4,_⟩:=id UF;obtain ⟨Am,cm,A0,_⟩:=id hz3;rw [X4] at UF;obtain ⟨ba,off,rfl,jk⟩:=UF.get CR;have ZA:=jk 0 _ rfl;have e1:(ls++ [(⟨z.mv,z.ms⟩:Lm)]).length=ls.length+1:=by simp
     have e2:(ls++ [(⟨z.mv,z.ms⟩:Lm)]).flatMap ke=ls.flatMap ke++ [z.mv]:=by simp
     have ahr:DU M2 (ls++ [(⟨z.mv,z.ms⟩:Lm)]):=fun y hy=>by
      rcases jH.1 hy with h3|h3
      · exact (Qw y h3).mono zD
      · rw [jx.1 h3];exact hz.2.2.1
     have ahp:(ls++ [(⟨z.mv,z.ms⟩:Lm)]).map Lm.l=r.ls++ [z.ms]:=by rw [jo,Ux];rfl
     rw [A0] at e1 e2 ahr ahp
     (try unfold Nd.av at cH)
     rw [X4,A0] at cH
     (try unfold Nd.av)
     rw [X4,A0]
     repeat' (first|refine zU [] [] [] 1 yI zd zd ?_|refine nv ?_)
     repeat' (first|refine X0 zd (by exact Y4 (by exact zm zd (fun W _=>cH W))) zd ?_|refine nu ?_)
     repeat' (first|refine zU [.v (ptr rb), .v v] [7,8,11] [8] 4 yI zd zd ?_|refine nv ?_)
     repeat' (first|(refine Uc rfl rfl (fun w1 be=>?_) ?_;obtain ⟨bb1,cc1,rfl,MV,MU⟩:=xB be ze)|refine V2 rfl rfl rfl (fun w2 V9=>have ow2:=j2.yf V9;?_) ?_|refine nu ?_|exact zx|refine nz ?_ ?_)
     repeat' (first|refine zU [.v (ptr rb)] [15] [15] 5 yI zd zd ?_|refine nv ?_)
     repeat' (first|refine X0 zd (by exact Y4 (by first|exact zm zd cRo|exact zj ro zd zd rfl CR|exact hY zd ZA)) zd ?_|refine nu ?_|exact zx|refine nz ?_ ?_)
     repeat' (refine nv ?_)
     refine ⟨_,[.zK (ptr rb) 217 [.int .i64 r.to, .int .i64 z.ks[ro],ptr cb,ptr Za, .string r.key, .func (.func 119) #[] #[],w2, .bool r.yd, .bool r.done, .int .i64 0, .bool r.has, .string r.val, .slice none 0 0], .zC w2 141 1 (ls++ [(⟨.slice Am z.ms.length cm,z.ms⟩:Lm)]).length ((ls++ [(⟨.slice Am z.ms.length cm,z.ms⟩:Lm)]).flatMap ke)]++c.ob,zP,zD,zh,?_,zD,rfl,⟨rb,Za,w2,ls++ [(⟨.slice Am z.ms.length cm,z.ms⟩:Lm)]⟩,c,rfl,by show _=(if r.done=true then _ else _)++_;rw [zn (by rw [hd];simp)];rfl,h2,⟨hr.hand,fun _=>by dsimp only;rw [e1];exact V9,ow2,fun _=>ahp,fun _=>ahr,hr.th⟩⟩;rw [e1,e2];exact zq
    |false=>
     have oU:=wc d1;rw [zn oU];have agL:z.rs=(p.q.get r.to).rs:=by rw [<-jL];rfl
     have acf:=ig.rows;have hrn:=ig.rn;have Ri:=hc.l64;rw [<-agL] at acf hrn;rw [<-agL];have hmt: ∀l∈r.ls,(∀m∈l,YA m)/\l.length<=1024:=hi.ms
     have MF:X8 r.ls<=1000000000:=by
      have:=g8 1024 r.ls fun l hl=>(hmt l hl).2
      have:=hi.len;omega
     have hpt:jB 100 (yd r.key):=⟨by show r.key.size<=100;have:=hi.key;omega,by show (nx r.key).size<=100;have:=hi.key;have:=HE r.key;omega⟩;have hmp:=HT hpt fun l hl=>(hmt l hl).1
     have WD:=jZ (pN (yd r.key) r.ls) MF;have cPo:=fun W=>WV r.key (by have:=hi.key;omega) W
     refine wG (zh:uw _ (.zC v 141 1 ls.length (ls.flatMap ke)) _) fun M3 yc aq=>?_
     have MH:xt M3 1 ke v ls:=aq.YB (fun _ _=>rfl);have l3:=zD.trans yc
     have cP:=(lF (yd r.key) v ls M3 MH (Qw.mono l3) ze (by rw [Ux];exact MF) (fun y hy m hm=>by
      have:y.l∈r.ls:=by rw [<-Ux];exact m5 hy
      have:=((hmt _ this).1 m hm).key;omega)).sl (fun _ _=>rfl)
     rw [Ux] at cP;generalize J0 (yd r.key) r.ls=pl at*;have arj: ∀W,Calls zf 75 #[.string r.key] W fun e w'=>e= .returned ((yd r.key).av)/\Below W.heap.size W w':=cPo
     generalize yd r.key=pk at*
     repeat' (first|refine zU [] [] [] 1 yI zd zd ?_|refine nv ?_)
     repeat' (first|refine X0 zd (by exact Y4 (by exact zm zd (fun W _=>cH W))) zd ?_|refine nu ?_)
     repeat' (first|refine zU [.v (ptr rb)] [17,18,19,20,21,25,29] [25] 9 yI zd zd ?_|refine nv ?_)
     repeat' (first|refine X0 zd (by exact Y4 (by exact zm zd (fun W _=>cPo W))) zd ?_|refine nu ?_)
     refine xF cP rfl ?_ zx;rintro u M4 _ yQ-⟨-,rfl,hu⟩;refine yJ ?_;have l4:=l3.trans yQ;have cO:=fun (W:World) (hW:M4.le (Mem.of W))=>Ml z.rv u z.rs r.key pl W ((hz.2.2.2.mono (yc.trans yQ)).xS hW) (hu.xS hW) acf ze hmp WD
     have h4:=h.mono l4;have cL:=V0 h4 hr.hand
     repeat' (first|refine Vt zd (by exact Y4 (by exact zm zd cO)) zd ?_ ?_|refine nu ?_|exact zx|refine nz ?_ ?_)
     all_goals
      repeat' (refine nv ?_)
      refine xQ cL ?_;rintro _ M5 _- -⟨hM,-,c5,rfl,h5⟩;subst hM;refine zJ ?_
      repeat' (refine nv ?_)
      exact ⟨_,[.zK (ptr rb) 217 [.int .i64 r.to, .int .i64 r.to,ptr cb,ptr Za, .string r.key, .func (.func 119) #[] #[],v, .bool r.yd, .bool true, .int .i64 0, .bool (bQ z.rs r.key pl).2, .string (bQ z.rs r.key pl).1, .slice none 0 0]]++c5.ob,zP,l4,zh,zq,l4,rfl,⟨rb,Za,v,ls⟩,c5,rfl,rfl,h5,⟨hr.hand,fun e=>(by cases e),hr.one,fun e=>(by cases e),fun e=>(by cases e),hr.th⟩⟩
end
end Go.Proofs.YtaibdpjjojihmaaGreat
