/- A part of the proof of TopPrefix; no conditions. -/
import Derived.Test.YtaibdpjjojihmaaGreatPDl
set_option linter.unusedVariables false
set_option linter.unusedSimpArgs false
set_option maxRecDepth 20000
set_option maxHeartbeats 4000000
namespace Go.Proofs.YtaibdpjjojihmaaGreat
section
open Go Go.RowKit
attribute [local irreducible] Calls
theorem MA (cur:List Value) (o:Nat) (b:List Value) (h:o+b.length<=cur.length):jT cur o b=cur.take o++(b++cur.drop (o+b.length)):=by rw [u7 b o cur h,xY]
theorem adK (cur a b c:List Value) (ha:cur.take a.length=a) (hl:a.length+b.length+c.length<=cur.length):(jT (jT cur a.length b) (a.length+b.length) c).take (a.length+b.length+c.length)=a++b++c:=by
 have h1:=MA cur a.length b ze;rw [ha] at h1;rw [MA _ (a.length+b.length) c (by rw [xA];omega),h1];rw [<-xY a b,<-yK,ua,<-xY (a++b) c,<-yK,ua]
theorem adJ (cur a b c:List Value) (ha:cur.take a.length=a) (hl:a.length+b.length+c.length<=cur.length):(jT (jT cur (a.length+b.length) c) a.length b).take (a.length+b.length+c.length)=a++b++c:=by
 have h1:=MA cur (a.length+b.length) c ze
 have h2:(jT cur (a.length+b.length) c).take a.length=a:=by
  rw [h1,GF (by rw [yC];omega),wO,jn ze,ha]
 have h3:(jT cur (a.length+b.length) c).drop (a.length+b.length)=c++cur.drop (a.length+b.length+c.length):=by
  rw [h1,GL (by rw [yC];omega)]
 rw [MA _ a.length b (by rw [xA];omega),h2,h3];rw [<-xY a b,<-xY (a++b) c,<-yK,<-yK,ua]
theorem iV (u vv:Value) (l:List y6) (x:y6) (i:Nat) (M:Mem) (hi:i<=l.length) (hn:l.length<=1000000000) (Jr:(zi x).all (·.oneCell')=true) (WA:(l.flatMap zi).all (·.oneCell')=true):
 zu zf 204 [u, .int .i64 i,vv] M [.zC u 54 2 l.length (l.flatMap zi), .zC vv 54 2 1 (zi x)] (fun r M' o=>M'=M/\j2 r (l.length+1)/\o= [.zC r 54 2 (l.length+1) ((l.take i++x::l.drop i).flatMap zi)]):=by
 have hk: ∀a:y6,(zi a).length=2:=fun _=>rfl
 have hoT: ∀m,((l.take m).flatMap zi).all (·.oneCell')=true:=fun m=>by
  rw [<-ve hk,yw];exact fun v hv=>yw.1 WA v (wB hv)
 have Tl: ∀m,((l.drop m).flatMap zi).all (·.oneCell')=true:=fun m=>by
  rw [<-vf hk,yw];exact fun v hv=>yw.1 WA v (dp hv)
 refine xy Tryz.func204 rfl Tryz.ntmps204 zd (fun F w M0 hF=>zz ?_);refine JK (u:=u) (e:=54) (k:=2) (n:=l.length) (cs:=l.flatMap zi) zh fun hu=>?_
 refine JK (u:=vv) (e:=54) (k:=2) (n:=1) (cs:=zi x) zh fun hv=>?_
 obtain ⟨VB,VC,rfl,hV1,hV2⟩:=xB hv ze;have g0:((1:Int)==0)=false:=rfl;have cg: ∀own M,Y1 M (.zC (.slice (some ⟨VB,0,none⟩) 1 VC) 54 2 1 (zi x)::own) VB 0 (zi x):=fun own M=> .inl ⟨0,_,rfl,rfl,fun j v hj=>by rw [xu];exact hj⟩
 rcases yq i l.length with z9|ql
 · obtain ⟨B,C,rfl,Ry,hC2⟩:=xB hu ze;have g1:((i:Int)==(l.length:Int))=false:=beq_eq_false_iff_ne.2 ze;rcases yq C (l.length+1) with hC|hC
   · have g2:decide ((C:Int)<(l.length:Int)+(1:Nat))=true:=yk ze
     have zV:Y1 M (.zC (.slice (some ⟨B,0,none⟩) l.length C) 54 2 l.length (l.flatMap zi):: .zC (.slice (some ⟨VB,0,none⟩) 1 VC) 54 2 1 (zi x)::F) B 0 ((l.take i).flatMap zi):= .inl ⟨0,_,rfl,rfl,fun j v hj=>by
      rw [xu];rw [<-ve hk] at hj;rw [wA] at hj;split at hj
      · exact hj
      · cases hj⟩
     repeat' (first|((apply zA);(first|exact xG (x6 B i l.length C 2 ze) (yg i l.length C zd zd zd zd ze ze ze ze)|exact xG (Z1 B i C 2) (yg 0 i C zd zd zd zd ze ze ze ze)|exact LV zd|exact xG (z5 (Value.int .i64) (show (l.length:Int)+((1:Nat):Int)-(i:Int)=((l.length+1-i:Nat):Int) by omega)) (yN zd zd (Qs ze ze)));rfl)|refine nw ?_)
     refine adF (n:=l.length+1-i) zd zd ze ze (by rw [ki hk,yC,jn hi]) zV (by unfold maxLen;omega) ze zd zd fun r hr=>?_
     rw [show i+(l.length+1-i)=l.length+1 by omega] at hr⊢;obtain ⟨B2,C2,rfl,hD1,hD2⟩:=xB hr ze;refine dw (uw.one _ _) fun cur kW gU _ _=>?_
     have hnk:(l.length+1)*2<=C2*2:=uB _ hD1
     have AY:cur.take ((l.take i).flatMap zi).length=(l.take i).flatMap zi:=by
      have h1:=z5 (List.take ((l.take i).flatMap zi).length) gU;rw [wO,ua,jn (by rw [ki hk,yC];exact uB _ ze)] at h1;exact h1
     have iy:((l.take i).flatMap zi).length=i*2:=by rw [ki hk,yC,jn hi]
     have am:(zi x).length=2:=hk x;have UH:((l.drop i).flatMap zi).length=(l.length-i)*2:=by rw [ki hk,kI]
     have ak:i*2+2+(l.length-i)*2=(l.length+1)*2:=by
      rw [<-uq,<-um];congr 1;omega
     have ao:(i+1)*2=i*2+2:=uq ..;have w9:=adK cur ((l.take i).flatMap zi) (zi x) ((l.drop i).flatMap zi) AY (by rw [iy,am,UH,kW];omega);rw [iy,am,UH,ak] at w9;have FY:(l.take i++x::l.drop i).flatMap zi=(l.take i).flatMap zi++zi x++(l.drop i).flatMap zi:=by simp
     rw [FY,<-w9]
     repeat' (first|((apply zA);(exact xG (x6 B2 i (l.length+1) C2 2 ze) (yg i (l.length+1) C2 zd zd zd zd ze ze ze ze));rfl)|refine nw ?_)
     refine fv (m:=1) (us:=zi x) ?_ zd zd (by show Nat.min 1 (l.length+1-i)=1;exact jn ze) zd (.inl ⟨2,_,rfl,rfl,fun j v hj=>by rw [xu];exact hj⟩) Jr (Kd.here B2 (i*2) _ cur _ _ (by rw [am,kW];omega)) zd zd
     repeat' (first|refine qW [0] [8] yI zd zd ?_|refine nw ?_)
     repeat' (first|refine YH zd _ (by exact Y4 (by first|exact xG (x6 B2 (i+1) (l.length+1) C2 2 ze) (yg (i+1) (l.length+1) C2 zd zd zd zd ze ze ze ze)|exact xG (x6 B i l.length C 2 ze) (yg i l.length C zd zd zd zd ze ze ze ze))) zd zd ?_|refine wF zd _ _ (by exact gm (by exact fG (m:=l.length-i) (us:=(l.drop i).flatMap zi) zd zd (by show Nat.min (l.length-i) (l.length+1-(i+1))=l.length-i;exact jn ze) UH (.inl ⟨1,_,rfl,rfl,fun j v hj=>by rw [<-vf hk,Vk] at hj;exact hj⟩) (Tl i) (Kd.here B2 ((i+1)*2) _ _ _ _ (by rw [UH,xA,kW,ao];omega)))) zd zd ?_ ?_|refine nf ?_|exact kz)
     rw [ao];refine dx (b:=B2) (e:=54) (k:=2) (n:=l.length+1) (cap:=C2) (cur:=jT (jT cur (i*2) (zi x)) (i*2+2) ((l.drop i).flatMap zi)) (uw.one _ _) (by rw [xA,xA,kW]) ze ze ?_
     repeat' (refine nw ?_)
     exact ⟨_,[.zC (.slice (some ⟨B2,0,none⟩) (l.length+1) C2) 54 2 (l.length+1) _],zP,zE,zh,zq,rfl,hr,rfl⟩
   · have g2:decide ((C:Int)<(l.length:Int)+(1:Nat))=false:=z6 ze;refine Ud (uw.one _ _) fun cur kW gU _ _=>?_
     have hnk:(l.length+1)*2<=C*2:=uB _ hC;have iy:((l.take i).flatMap zi).length=i*2:=by rw [ki hk,yC,jn hi]
     have am:(zi x).length=2:=hk x;have UH:((l.drop i).flatMap zi).length=(l.length-i)*2:=by rw [ki hk,kI]
     have ao:(i+1)*2=i*2+2:=uq ..
     have ak:i*2+2+(l.length-i)*2=(l.length+1)*2:=by
      rw [<-uq,<-um];congr 1;omega
     have AY:cur.take ((l.take i).flatMap zi).length=(l.take i).flatMap zi:=by
      have h1:=z5 (List.take (i*2)) gU;rw [wO,jn (uB _ hi),ve hk] at h1;rw [iy];exact h1
     have hcd: ∀(j:Nat) v,((l.drop i).flatMap zi)[j]?=some v->cur[i*2+j]?=some v:=fun j v hj=>by
      rw [<-vf hk,Vk,<-gU,wA] at hj;split at hj
      · exact hj
      · cases hj
     have w9:=adJ cur ((l.take i).flatMap zi) (zi x) ((l.drop i).flatMap zi) AY (by rw [iy,am,UH,kW];omega);rw [iy,am,UH,ak] at w9;have FY:(l.take i++x::l.drop i).flatMap zi=(l.take i).flatMap zi++zi x++(l.drop i).flatMap zi:=by simp
     rw [FY,<-w9]
     repeat' (first|refine qW [0] [8] yI zd zd ?_|((apply zA);(first|exact LV zd|exact xG (x6 B i l.length C 2 ze) (yg i l.length C zd zd zd zd ze ze ze ze)|exact xG (Z1 B (l.length+1) C 2) (yg 0 (l.length+1) C zd zd zd zd ze ze ze ze)|exact xG (x6 B (i+1) (l.length+1) C 2 ze) (yg (i+1) (l.length+1) C zd zd zd zd ze ze ze ze)|exact Hg (i:=1) (j:=0) zd zd zd zd ze zd zd (by show 0<cur.length;omega));rfl)|refine nw ?_)
     repeat' (first|refine YH zd _ (by exact Y4 (by first|exact xG (x6 B (i+1) (l.length+1) C 2 ze) (yg (i+1) (l.length+1) C zd zd zd zd ze ze ze ze)|exact xG (x6 B i (l.length+1) C 2 ze) (yg i (l.length+1) C zd zd zd zd ze ze ze ze))) zd zd ?_|refine wF zd _ _ (by exact gm (by exact fG (m:=l.length-i) (us:=(l.drop i).flatMap zi) zd zd (by show Nat.min (l.length+1-i) (l.length+1-(i+1))=l.length-i;exact (GS ze).trans ze) UH (.inl ⟨0,_,rfl,rfl,hcd⟩) (Tl i) (Kd.here B ((i+1)*2) _ _ _ _ (by rw [UH,kW,ao];omega)))) zd zd ?_ ?_|refine nf ?_|exact kz)
     rw [ao]
     repeat' (first|((apply zA);(exact xG (x6 B i (l.length+1) C 2 ze) (yg i (l.length+1) C zd zd zd zd ze ze ze ze));rfl)|refine nw ?_)
     refine fv (m:=1) (us:=zi x) ?_ zd zd (by show Nat.min 1 (l.length+1-i)=1;exact jn ze) zd (.inl ⟨1,_,rfl,rfl,fun j v hj=>by rw [xu];exact hj⟩) Jr (Kd.here B (i*2) _ _ _ _ (by rw [am,xA,kW];omega)) zd zd;refine Qm (b:=B) (e:=54) (k:=2) (n:=l.length+1) (cap:=C) (uw.one _ _) (by rw [xA,xA,kW]) ze ze ?_
     repeat' (refine nw ?_)
     exact ⟨_,[.zC (.slice (some ⟨B,0,none⟩) (l.length+1) C) 54 2 (l.length+1) _],zP,zE,zh,zq,rfl, .inr ⟨B,C,rfl,hC,ze⟩,rfl⟩
 · obtain rfl:i=l.length:=ze;have g1:((l.length:Int)==(l.length:Int))=true:=YZ _;rw [xk,nG]
   obtain ⟨A,C,rfl,Ry⟩: ∃A C,u= .slice A l.length C/\l.length<=C:=by
    rcases hu with ⟨rfl,h⟩|⟨b,c,rfl,h,_⟩
    · exact ⟨none,0,by rw [h],ze⟩
    · exact ⟨_,c,rfl,h⟩
   refine gC (.zC (.slice (some ⟨VB,0,none⟩) 1 VC) 54 2 1 (zi x):: .zC (.slice A l.length C) 54 2 l.length (l.flatMap zi)::F) ?_
   repeat' (first|refine ft (u:= .slice A l.length C) (e:=54) (k:=2) (n:=l.length) (xs:=l.flatMap zi) zd zd zh zd (cg _ _) Jr ze (by unfold maxLen;omega) ze zd zd (fun r hr=>?_)|((apply zA);(exact yg l.length l.length C zd zd zd zd ze ze ze ze);rfl)|refine nw ?_)
   have e:(l++ [x]).flatMap zi=l.flatMap zi++zi x:=by simp
   rw [e];exact ⟨_,[.zC r 54 2 (l.length+1) (l.flatMap zi++zi x)],zP,zE,zh,zq,rfl,hr,rfl⟩
theorem iU (u vv:Value) (l:List ByteArray) (x:ByteArray) (i:Nat) (M:Mem) (hi:i<=l.length) (hn:l.length<=1000000000) (Jr:(zM x).all (·.oneCell')=true) (WA:(l.flatMap zM).all (·.oneCell')=true):
 zu zf 251 [u, .int .i64 i,vv] M [.zC u 9 1 l.length (l.flatMap zM), .zC vv 9 1 1 (zM x)] (fun r M' o=>M'=M/\j2 r (l.length+1)/\o= [.zC r 9 1 (l.length+1) ((l.take i++x::l.drop i).flatMap zM)]):=by
 have hk: ∀a:ByteArray,(zM a).length=1:=fun _=>rfl
 have hoT: ∀m,((l.take m).flatMap zM).all (·.oneCell')=true:=fun m=>by
  rw [<-ve hk,yw];exact fun v hv=>yw.1 WA v (wB hv)
 have Tl: ∀m,((l.drop m).flatMap zM).all (·.oneCell')=true:=fun m=>by
  rw [<-vf hk,yw];exact fun v hv=>yw.1 WA v (dp hv)
 refine xy Tryz.func251 rfl Tryz.ntmps251 zd (fun F w M0 hF=>zz ?_);refine JK (u:=u) (e:=9) (k:=1) (n:=l.length) (cs:=l.flatMap zM) zh fun hu=>?_
 refine JK (u:=vv) (e:=9) (k:=1) (n:=1) (cs:=zM x) zh fun hv=>?_
 obtain ⟨VB,VC,rfl,hV1,hV2⟩:=xB hv ze;have g0:((1:Int)==0)=false:=rfl;have cg: ∀own M,Y1 M (.zC (.slice (some ⟨VB,0,none⟩) 1 VC) 9 1 1 (zM x)::own) VB 0 (zM x):=fun own M=> .inl ⟨0,_,rfl,rfl,fun j v hj=>by rw [xu];exact hj⟩
 rcases yq i l.length with z9|ql
 · obtain ⟨B,C,rfl,Ry,hC2⟩:=xB hu ze;have g1:((i:Int)==(l.length:Int))=false:=beq_eq_false_iff_ne.2 ze;rcases yq C (l.length+1) with hC|hC
   · have g2:decide ((C:Int)<(l.length:Int)+(1:Nat))=true:=yk ze
     have zV:Y1 M (.zC (.slice (some ⟨B,0,none⟩) l.length C) 9 1 l.length (l.flatMap zM):: .zC (.slice (some ⟨VB,0,none⟩) 1 VC) 9 1 1 (zM x)::F) B 0 ((l.take i).flatMap zM):= .inl ⟨0,_,rfl,rfl,fun j v hj=>by
      rw [xu];rw [<-ve hk] at hj;rw [wA] at hj;split at hj
      · exact hj
      · cases hj⟩
     repeat' (first|((apply zA);(first|exact xG (x6 B i l.length C 1 ze) (yg i l.length C zd zd zd zd ze ze ze ze)|exact xG (Z1 B i C 1) (yg 0 i C zd zd zd zd ze ze ze ze)|exact LV zd|exact xG (z5 (Value.int .i64) (show (l.length:Int)+((1:Nat):Int)-(i:Int)=((l.length+1-i:Nat):Int) by omega)) (yN zd zd (Qs ze ze)));rfl)|refine nw ?_)
     refine adF (n:=l.length+1-i) zd zd ze ze (by rw [ki hk,yC,jn hi]) zV (by unfold maxLen;omega) ze zd zd fun r hr=>?_
     rw [show i+(l.length+1-i)=l.length+1 by omega] at hr⊢;obtain ⟨B2,C2,rfl,hD1,hD2⟩:=xB hr ze;refine dw (uw.one _ _) fun cur kW gU _ _=>?_
     have hnk:(l.length+1)*1<=C2*1:=uB _ hD1
     have AY:cur.take ((l.take i).flatMap zM).length=(l.take i).flatMap zM:=by
      have h1:=z5 (List.take ((l.take i).flatMap zM).length) gU;rw [wO,ua,jn (by rw [ki hk,yC];exact uB _ ze)] at h1;exact h1
     have iy:((l.take i).flatMap zM).length=i*1:=by rw [ki hk,yC,jn hi]
     have am:(zM x).length=1:=hk x;have UH:((l.drop i).flatMap zM).length=(l.length-i)*1:=by rw [ki hk,kI]
     have ak:i*1+1+(l.length-i)*1=(l.length+1)*1:=by
      rw [<-uq,<-um];congr 1;omega
     have ao:(i+1)*1=i*1+1:=uq ..;have w9:=adK cur ((l.take i).flatMap zM) (zM x) ((l.drop i).flatMap zM) AY (by rw [iy,am,UH,kW];omega);rw [iy,am,UH,ak] at w9;have FY:(l.take i++x::l.drop i).flatMap zM=(l.take i).flatMap zM++zM x++(l.drop i).flatMap zM:=by simp
     rw [FY,<-w9]
     repeat' (first|((apply zA);(exact xG (x6 B2 i (l.length+1) C2 1 ze) (yg i (l.length+1) C2 zd zd zd zd ze ze ze ze));rfl)|refine nw ?_)
     refine fv (m:=1) (us:=zM x) ?_ zd zd (by show Nat.min 1 (l.length+1-i)=1;exact jn ze) zd (.inl ⟨2,_,rfl,rfl,fun j v hj=>by rw [xu];exact hj⟩) Jr (Kd.here B2 (i*1) _ cur _ _ (by rw [am,kW];omega)) zd zd
     repeat' (first|refine qW [0] [8] yI zd zd ?_|refine nw ?_)
     repeat' (first|refine YH zd _ (by exact Y4 (by first|exact xG (x6 B2 (i+1) (l.length+1) C2 1 ze) (yg (i+1) (l.length+1) C2 zd zd zd zd ze ze ze ze)|exact xG (x6 B i l.length C 1 ze) (yg i l.length C zd zd zd zd ze ze ze ze))) zd zd ?_|refine wF zd _ _ (by exact gm (by exact fG (m:=l.length-i) (us:=(l.drop i).flatMap zM) zd zd (by show Nat.min (l.length-i) (l.length+1-(i+1))=l.length-i;exact jn ze) UH (.inl ⟨1,_,rfl,rfl,fun j v hj=>by rw [<-vf hk,Vk] at hj;exact hj⟩) (Tl i) (Kd.here B2 ((i+1)*1) _ _ _ _ (by rw [UH,xA,kW,ao];omega)))) zd zd ?_ ?_|refine nf ?_|exact kz)
     rw [ao];refine dx (b:=B2) (e:=9) (k:=1) (n:=l.length+1) (cap:=C2) (cur:=jT (jT cur (i*1) (zM x)) (i*1+1) ((l.drop i).flatMap zM)) (uw.one _ _) (by rw [xA,xA,kW]) ze ze ?_
     repeat' (refine nw ?_)
     exact ⟨_,[.zC (.slice (some ⟨B2,0,none⟩) (l.length+1) C2) 9 1 (l.length+1) _],zP,zE,zh,zq,rfl,hr,rfl⟩
   · have g2:decide ((C:Int)<(l.length:Int)+(1:Nat))=false:=z6 ze;refine Ud (uw.one _ _) fun cur kW gU _ _=>?_
     have hnk:(l.length+1)*1<=C*1:=uB _ hC;have iy:((l.take i).flatMap zM).length=i*1:=by rw [ki hk,yC,jn hi]
     have am:(zM x).length=1:=hk x;have UH:((l.drop i).flatMap zM).length=(l.length-i)*1:=by rw [ki hk,kI]
     have ao:(i+1)*1=i*1+1:=uq ..
     have ak:i*1+1+(l.length-i)*1=(l.length+1)*1:=by
      rw [<-uq,<-um];congr 1;omega
     have AY:cur.take ((l.take i).flatMap zM).length=(l.take i).flatMap zM:=by
      have h1:=z5 (List.take (i*1)) gU;rw [wO,jn (uB _ hi),ve hk] at h1;rw [iy];exact h1
     have hcd: ∀(j:Nat) v,((l.drop i).flatMap zM)[j]?=some v->cur[i*1+j]?=some v:=fun j v hj=>by
      rw [<-vf hk,Vk,<-gU,wA] at hj;split at hj
      · exact hj
      · cases hj
     have w9:=adJ cur ((l.take i).flatMap zM) (zM x) ((l.drop i).flatMap zM) AY (by rw [iy,am,UH,kW];omega);rw [iy,am,UH,ak] at w9;have FY:(l.take i++x::l.drop i).flatMap zM=(l.take i).flatMap zM++zM x++(l.drop i).flatMap zM:=by simp
     rw [FY,<-w9]
     repeat' (first|refine qW [0] [8] yI zd zd ?_|((apply zA);(first|exact LV zd|exact xG (x6 B i l.length C 1 ze) (yg i l.length C zd zd zd zd ze ze ze ze)|exact xG (Z1 B (l.length+1) C 1) (yg 0 (l.length+1) C zd zd zd zd ze ze ze ze)|exact xG (x6 B (i+1) (l.length+1) C 1 ze) (yg (i+1) (l.length+1) C zd zd zd zd ze ze ze ze)|exact Hg (i:=1) (j:=0) zd zd zd zd ze zd zd (by show 0<cur.length;omega));rfl)|refine nw ?_)
     repeat' (first|refine YH zd _ (by exact Y4 (by first|exact xG (x6 B (i+1) (l.length+1) C 1 ze) (yg (i+1) (l.length+1) C zd zd zd zd ze ze ze ze)|exact xG (x6 B i (l.length+1) C 1 ze) (yg i (l.length+1) C zd zd zd zd ze ze ze ze))) zd zd ?_|refine wF zd _ _ (by exact gm (by exact fG (m:=l.length-i) (us:=(l.drop i).flatMap zM) zd zd (by show Nat.min (l.length+1-i) (l.length+1-(i+1))=l.length-i;exact (GS ze).trans ze) UH (.inl ⟨0,_,rfl,rfl,hcd⟩) (Tl i) (Kd.here B ((i+1)*1) _ _ _ _ (by rw [UH,kW,ao];omega)))) zd zd ?_ ?_|refine nf ?_|exact kz)
     rw [ao]
     repeat' (first|((apply zA);(exact xG (x6 B i (l.length+1) C 1 ze) (yg i (l.length+1) C zd zd zd zd ze ze ze ze));rfl)|refine nw ?_)
     refine fv (m:=1) (us:=zM x) ?_ zd zd (by show Nat.min 1 (l.length+1-i)=1;exact jn ze) zd (.inl ⟨1,_,rfl,rfl,fun j v hj=>by rw [xu];exact hj⟩) Jr (Kd.here B (i*1) _ _ _ _ (by rw [am,xA,kW];omega)) zd zd;refine Qm (b:=B) (e:=9) (k:=1) (n:=l.length+1) (cap:=C) (uw.one _ _) (by rw [xA,xA,kW]) ze ze ?_
     repeat' (refine nw ?_)
     exact ⟨_,[.zC (.slice (some ⟨B,0,none⟩) (l.length+1) C) 9 1 (l.length+1) _],zP,zE,zh,zq,rfl, .inr ⟨B,C,rfl,hC,ze⟩,rfl⟩
 · obtain rfl:i=l.length:=ze;have g1:((l.length:Int)==(l.length:Int))=true:=YZ _;rw [xk,nG]
   obtain ⟨A,C,rfl,Ry⟩: ∃A C,u= .slice A l.length C/\l.length<=C:=by
    rcases hu with ⟨rfl,h⟩|⟨b,c,rfl,h,_⟩
    · exact ⟨none,0,by rw [h],ze⟩
    · exact ⟨_,c,rfl,h⟩
   refine gC (.zC (.slice (some ⟨VB,0,none⟩) 1 VC) 9 1 1 (zM x):: .zC (.slice A l.length C) 9 1 l.length (l.flatMap zM)::F) ?_
   repeat' (first|refine ft (u:= .slice A l.length C) (e:=9) (k:=1) (n:=l.length) (xs:=l.flatMap zM) zd zd zh zd (cg _ _) Jr ze (by unfold maxLen;omega) ze zd zd (fun r hr=>?_)|((apply zA);(exact yg l.length l.length C zd zd zd zd ze ze ze ze);rfl)|refine nw ?_)
   have e:(l++ [x]).flatMap zM=l.flatMap zM++zM x:=by simp
   rw [e];exact ⟨_,[.zC r 9 1 (l.length+1) (l.flatMap zM++zM x)],zP,zE,zh,zq,rfl,hr,rfl⟩
end
section
open Go Go.RowKit
attribute [local irreducible] Calls
variable {P:Program} {w:World} {M0:Mem} {N:Nat} {M:Mem} {own zw:List Ob} {env:Env} {dst:Option Tmp} {ty:TypeId} {pos:String} {z7:Array Edge} {g:Option (Nat×Bool)}
theorem Ld {x y:Operand} {t e:TypeId} {b o1 n1 c1 b2 o2 n2 c2 k bytes nn:Nat} {us:List Value} [hE:kr P t e k bytes] (hx:env.op x=some (.v (.slice (some ⟨b,o1,none⟩) n1 c1))) (hy:env.op y=some (.v (.slice (some ⟨b2,o2,none⟩) n2 c2)))
 (K4:n1+n2<=c1) (hl:us.length=n2*k) (hs:Y1 M own b2 o2 us) (hu:us.all (·.oneCell')=true) (hn:Kd own b (o1+n1*k) us zw) (hN:n1+n2=nn):
 EF P w M0 N ⟨dst, .call ⟨.builtin .append, #[x,y], #[t,t]⟩,ty,pos,z7,g⟩ ⟨M,own,env⟩ zw (.v (.slice (some ⟨b,o1,none⟩) nn c1)):=hN▸afj hx hy K4 hl hs hu hn
theorem TF (b q n c k:Nat) (h:q<=c):sliced (some ⟨b,0,none⟩) q n c k= .slice (some ⟨b,if q=c then 0 else q*k,none⟩) (n-q) (c-q):=by
 rcases yq q c with h1|h1
 · rw [x6 b q n c k h1,zn ze]
 · obtain rfl:q=c:=ze;unfold sliced;rw [zo rfl];simp
theorem amb (cur a b zs:List Value) (ha:cur.take a.length=a) (hl:a.length+b.length+zs.length<=cur.length):(jT (jT cur a.length b) (a.length+b.length) zs).take (a.length+b.length)=a++b:=by
 have h1:=MA cur a.length b ze;rw [ha] at h1;rw [MA _ (a.length+b.length) zs (by rw [xA];omega),h1];rw [<-xY a b,<-yK,ua,ua]
theorem iX (u:Value) (l:List y6) (i:Nat) (M:Mem) (hi:i<l.length) (hn:l.length<=1000000000) (WA:(l.flatMap zi).all (·.oneCell')=true):
 zu zf 205 [u, .int .i64 i, .int .i64 ((i+1:Nat):Int)] M [.zC u 54 2 l.length (l.flatMap zi)] (fun r M' o=>M'=M/\j2 r (l.length-1)/\o= [.zC r 54 2 (l.length-1) ((l.take i++l.drop (i+1)).flatMap zi)]):=by
 have hk: ∀a:y6,(zi a).length=2:=fun _=>rfl
 have Tl: ∀m,((l.drop m).flatMap zi).all (·.oneCell')=true:=fun m=>by
  rw [<-vf hk,yw];exact fun v hv=>yw.1 WA v (dp hv)
 have iy:((l.take i).flatMap zi).length=i*2:=by rw [ki hk,yC,jn ze]
 have UH:((l.drop (i+1)).flatMap zi).length=(l.length-(i+1))*2:=by rw [ki hk,kI]
 have FY:(l.take i++l.drop (i+1)).flatMap zi=(l.take i).flatMap zi++(l.drop (i+1)).flatMap zi:=by simp
 refine xy Tryz.func205 rfl Tryz.ntmps205 zd (fun F w M0 hF=>zz ?_);refine JK (u:=u) (e:=54) (k:=2) (n:=l.length) (cs:=l.flatMap zi) zh fun hu=>?_
 obtain ⟨B,C,rfl,Ry,hC2⟩:=xB hu ze;have g0:((i:Int)==((i+1:Nat):Int))=false:=beq_eq_false_iff_ne.2 ze;refine Ud (uw.one _ _) fun cur kW gU _ _=>?_
 have hnk:l.length*2<=C*2:=uB _ Ry
 have ak:i*2+(l.length-(i+1))*2=(l.length-1)*2:=by
  rw [<-um];congr 1;omega
 have hs1:(l.length-1)*2+2=l.length*2:=by
  rw [<-uq];congr 1;omega
 have AY:cur.take ((l.take i).flatMap zi).length=(l.take i).flatMap zi:=by
  have h1:=z5 (List.take (i*2)) gU;rw [wO,jn (uB _ ze),ve hk] at h1;rw [iy];exact h1
 have hcd: ∀(j:Nat) v,((l.drop (i+1)).flatMap zi)[j]?=some v->cur[(if i+1=C then 0 else (i+1)*2)+j]?=some v:=fun j v hj=>by
  have hj0:=hj;rw [<-vf hk,Vk,<-gU,wA] at hj;split at hj
  · split
    · exfalso;have:l.drop (i+1)= []:=Ut ze;rw [this] at hj0;cases hj0
    · exact hj
  · cases hj
 have w9:=fun zs h=>amb cur ((l.take i).flatMap zi) ((l.drop (i+1)).flatMap zi) zs AY h
 rw [iy,UH,ak,<-FY] at w9
 repeat' (first|refine qW [0] [6,7] yI zd zd ?_|((apply zA);(exact xG (x6 B i (i+1) l.length 2 ze) (yg i (i+1) l.length zd zd zd zd ze ze ze ze));rfl)|refine nw ?_)
 repeat' (first|refine YH zd _ (by exact Y4 (by first|exact xG (Z1 B i C 2) (yg 0 i C zd zd zd zd ze ze ze ze)|exact xG (TF B (i+1) l.length C 2 ze) (yg (i+1) l.length C zd zd zd zd ze ze ze ze))) zd zd ?_|refine wF zd _ _ (by exact gm (by exact Ld (us:=(l.drop (i+1)).flatMap zi) (nn:=l.length-1) zd zd ze UH (.inl ⟨0,_,rfl,rfl,hcd⟩) (Tl _) (Kd.here B (0+i*2) _ _ _ _ (by rw [UH,kW,xu];omega)) ze)) zd zd ?_ ?_|refine nf ?_|exact kz|refine ng ?_ ?_)
 rw [xu]
 repeat' (first|((apply zA);(exact xG (x6 B (l.length-1) l.length C 2 ze) (yg (l.length-1) l.length C zd zd zd zd ze ze ze ze));rfl)|refine nw ?_)
 have an:l.length-(l.length-1)=1:=ze;refine Hc (e:=54) ?_ zd (Kd.here B ((l.length-1)*2) _ _ _ F ?_) ?_ ze zd zd
 · refine Qm (b:=B) (e:=54) (k:=2) (n:=l.length-1) (cap:=C) (uw.one _ _) (by rw [xA,xA,kW]) ze ze ?_;rw [w9 _ (by rw [KN,kW];show (l.length-1)*2+(l.length-(l.length-1))*2<=C*2;rw [an,tZ];omega)]
   repeat' (refine nw ?_)
   exact ⟨_,[.zC (.slice (some ⟨B,0,none⟩) (l.length-1) C) 54 2 (l.length-1) _],zP,zE,zh,zq,rfl, .inr ⟨B,C,rfl,ze,ze⟩,rfl⟩
 · rw [KN];rw [xA,kW];show (l.length-1)*2+(l.length-(l.length-1))*2<=C*2;rw [an,tZ];omega
 · exact mK 2 _ _ rfl rfl ze
end
end Go.Proofs.YtaibdpjjojihmaaGreat
