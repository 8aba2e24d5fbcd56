/- A part of the proof of TopPrefix; no conditions. -/
import Derived.Test.YtaibdpjjojihmaaGreatPCl1
set_option linter.unusedVariables false
set_option linter.unusedSimpArgs false
set_option maxRecDepth 20000
set_option maxHeartbeats 4000000
namespace Go.Proofs.YtaibdpjjojihmaaGreat
section
open Go Go.RowKit
attribute [local irreducible] Calls
section
variable {P:Program} {w:World} {M0:Mem} {N:Nat} {M:Mem} {own zw:List Ob} {env:Env} {dst:Option Tmp} {ty:TypeId} {pos:String} {z7:Array Edge}
theorem kbn {t e:TypeId} {len k bytes:Nat} {parts:Array (Nat×Operand)} {vs us:List Value} {ops:Array Oper} {l:List Oper} {Q:zX} [hE:kr P t e k bytes] (UG:env.kP (parts.toList.map (·.2))=some vs) [hu:FlC vs us] (h: ∀u,j2 u len->VL P w M0 N ops l ⟨M, .zC u e k len us::own,env.put dst (.v u)⟩ Q) (dC:parts.toList.map (·.1)=List.range' 0 vs.length:=by rfl) (y7:vs.length=len:=by rfl) (qG:Nat.ble (len*k) 1000000=true:=by rfl) (h1:(vs.all fun v=>v.cells.size==k)=true:=by rfl) (hk:yi N dst=true:=by rfl) (zV:yR env 0=true:=by rfl):
 VL P w M0 N ops (⟨dst, .buildSlice t len parts,ty,pos,z7,none⟩::l) ⟨M,own,env⟩ Q:=by
 obtain rfl:=hu.h;refine Xl _ (.r own.length) (elK UG dC y7 qG h1) hk (vg zV) ?_;refine Yt own.length (by rw [kF (zN _),qq];rfl) fun v hv=>?_
 rw [Qa zV];refine wd _ (h v hv) (ji.perm ?_) (kS zV);rw [YF _ _ (zN _),qq];exact uQ
theorem kci {f:FuncId} {t:TypeId} {name:String} {v:Value} {vs:List Value} {zO F:List Ob} {R:Value->Mem->List Ob->Prop} {ops:Array Oper} {l:List Oper} {Q:zX} {x:Operand} {xs:Array Operand} {qz:Array TypeId} [hm:JW P t name f] [hf:zG P f] (hc:zu P f (v::vs) M zO R)
 (hk: ∀u M' o,M.le M'->jI o->R u M' o->VL P w M0 N ops l ⟨M',o++F,env.put dst (.v u)⟩ Q) (hx:env.op x=some (.v (.iface t v)):=by rfl) (hv:env.kP xs.toList=some vs:=by rfl) (ht:uu own zO F:=by infer_instance) (hn:jI own:=by infer_instance) (hd:yi N dst=true:=by rfl) (zV:yR env 0=true:=by rfl):
 VL P w M0 N ops (⟨dst, .call ⟨.invoke x name,xs,qz⟩,ty,pos,z7,none⟩::l) ⟨M,own,env⟩ Q:=nL (iE hx hv) hc ht hn hd zV hk
end
abbrev heV (hb:Nat):Value:= .iface 251 (.pointer (some ⟨hb,0,none⟩))
def QT (hb b c:Nat) (L:List qx):List Ob:= [ma hb b c L.length,Js b c L]
def AQ (M:Mem) (L:List qx):Prop:= ∀h∈L,h.Ok M
theorem C4 (hb b c:Nat) (M:Mem):Hp M (heV hb) (QT hb b c) ZN (AQ M) where
 Jk L:=by unfold QT;infer_instance
 perm L L' h ju:=fun x hx=>ju x (h.mem_iff.1 hx)
 less L i j a b' ha Za hi hj _ ju:=Wg.mk (fun w M0 N M env dst ty pos z7 x xs qz F hx hv=>Qd hx hv (by unfold QT;infer_instance) rfl) (fun M' hM=>F5 b c L i j a b' ha Za hi hj M' (fun h hh=>⟨(ju h hh).1.mono hM,(ju h hh).2⟩)) (by unfold QT;infer_instance) (ji.perm (.swap _ _ _))
 swap L i j a b' ha Za hi hj _ ju:=Wg.mk (fun w M0 N M env dst ty pos z7 x xs qz F hx hv=>Qd hx hv (by unfold QT;infer_instance) rfl) (fun M' hM=>F2 b c L i j a b' ha Za hi hj M' (fun h hh=>⟨(ju h hh).1.mono hM,(ju h hh).2⟩)) (by unfold QT;infer_instance) (by unfold QT ma;rw [ZI];exact ji.perm (.swap _ _ _))
 len L _:=Wg.mk (fun w M0 N M env dst ty pos z7 x xs qz F hx hv=>Qd hx hv (by unfold QT;infer_instance) rfl) (fun M' _=>p6 _ c L.length M') zh (ji.refl _)
theorem TY {α:Type} {lt:α->α->Bool} {L:List α} (h0:0<L.length): ∃x,x∈L/\j8 lt L=(j8 lt L).dropLast++ [x]:=by
 have hp:=ue lt L;have jt:j8 lt L≠ []:=fun e=>by rw [e] at hp;rw [hp.symm.eq_nil] at h0;simp at h0
 exact ⟨_,hp.mem_iff.1 (GW jt),(acQ jt).symm⟩
theorem F6 (hb b c:Nat) (L:List qx) (x:qx) (M:Mem) (h0:0<L.length) (hL:L.length<=1000000) (ju:AQ M L) (hx:j8 ZN L=(j8 ZN L).dropLast++ [x]) (ho:x.v.oneCell'=true):
 zu zf 115 [heV hb] M (QT hb b c L) (fun u M' o=>u= .iface 256 (.agg #[x.v, .int .i64 x.n])/\M'=M/\o=QT hb b c (j8 ZN L).dropLast):=
 C1 (C4 hb b c M) L x _ M h0 hL ju (zE) hx (Wg.mk (fun w M0 N M env dst ty pos z7 x xs qz F hx hv=>iE hx hv) (fun M' _=>MT hb b c _ x (by rw [rO,(ue ZN L).length_eq];omega) M' ho) (by unfold QT;infer_instance) (ji.perm (by rw [xR];exact .refl _)))
theorem gg (hb:Nat) (u:Value) (L:List qx) (x:qx) (hL:L.length<1000000) (M:Mem) (ju:AQ M L) (hx:x.Ok M):zu zf 147 [heV hb, .iface 256 (.agg #[x.v, .int .i64 x.n])] M [.zK (.pointer (some ⟨hb,0,none⟩)) 253 [u], .zC u 256 2 L.length (L.flatMap yT)] (fun r M' o=>r= .tuple #[]/\M'=M/\ ∃b c,o=QT hb b c (wX ZN L x)):=by
 have ho:x.v.oneCell'=true:=WZ hx.1;have c1:=F4 hb u L x ze M ho;have hl:(L++ [x]).length=L.length+1:=by simp
 have gP:AQ M (L++ [x]):=fun h hh=>by
  rcases jH.1 hh with h1|h1
  · exact ju h h1
  · rw [jx.1 h1];exact hx
 refine xy Tryz.func147 rfl Tryz.ntmps147 zd (fun F w M0 hF=>zz ?_)
 repeat' (refine nw ?_)
 refine kci c1 ?_;rintro _ M2 o- -⟨rfl,h0,u2,hu2,rfl⟩;have h0:=h0.symm;subst h0;obtain ⟨b,c,rfl,kJ,Zk⟩:=xB hu2 ze;have hp:=C4 hb b c M;have c2:=hp.len (L++ [x]) ze;have c3:=aaL hp (L++ [x]) L.length M ze ze gP (zE);have e1:([.zK (.pointer (some ⟨hb,0,none⟩)) 253 [.slice (some ⟨b,0,none⟩) (L.length+1) c], .zC (.slice (some ⟨b,0,none⟩) (L.length+1) c) 256 2 (L.length+1) ((L++ [x]).flatMap yT)]:List Ob)=QT hb b c (L++ [x]):=by unfold QT ma Js;rw [hl]
 rw [e1,hl] at*;have hn: ∀L,jI (QT hb b c L):=hp.Jk;have hMM:M.le M:=zE
 repeat' (first|refine c2.use ?_|refine uK c3 ?_|((apply zA);(exact xG (z5 (Value.int .i64) (show ((L.length+1:Nat):Int)-1=(L.length:Int) by omega)) (yN zd zd (Qs ze ze)));rfl)|refine nw ?_)
 exact ⟨_,QT hb b c (D5 ZN (L.length+1) (L++ [x]) L.length),yH.nil rfl,zE,hn _,zq,rfl,rfl,b,c,rfl⟩
end
section
open Go Go.RowKit
attribute [local irreducible] Calls
structure Lm where
 v:Value
 l:List xi
abbrev ke (x:Lm):List Value:= [x.v]
def DU (M:Mem) (ls:List Lm):Prop:= ∀x∈ls,xt M 6 zR x.v x.l
theorem DU.mono {M M':Mem} {ls:List Lm} (h:DU M ls) (hle:M.le M'):DU M' ls:=fun x hx=>(h x hx).mono hle
theorem Ty {ls:List (List xi)} {l:List xi} (h:l∈ls):l.length<=X8 ls:=by
 induction ls with
 |nil=>cases h
 |cons a ls ih=>
  show l.length<=a.length+X8 ls;rcases jm.1 h with rfl|h
  · omega
  · have:=ih h;omega
theorem gh (ls:List (List xi)): ∀k,(uh ls k).length<=k
 |0=>zN _
 |k+1=>by
  have ih:=gh ls k;rw [show uh ls (k+1)=if 0<(ls.getD k []).length then wX ZN (uh ls k) ⟨qY,ls.getD k [],(k:Nat)⟩ else uh ls k from rfl];split
  · rw [(Zq ZN _ _).length_eq,yK];exact GV ih
  · omega
theorem f7 (v:Value) (ls:List Lm) (M:Mem) (hl:xt M 1 ke v ls) (Ux:DU M ls) (hn:ls.length<1000000) (ht:X8 (ls.map Lm.l)<=10000000000):
 zu zf 128 [v] M [] (fun u M' o=>M'=M/\j2 u (wJ (ls.map Lm.l)).length/\o= [.zC u 200 6 (wJ (ls.map Lm.l)).length ((wJ (ls.map Lm.l)).flatMap zR)]):=by
 obtain ⟨A,c,rfl,vK,qD,_⟩:=id hl;unfold maxLen at qD;have FR:(ls.map Lm.l).length=ls.length:=yo _;refine xy Tryz.func128 rfl Tryz.ntmps128 zd (fun F w M0 hF=>zz ?_)
 repeat' (first|refine kbn rfl (fun u0 hu0=>?_)|refine yZ zd ⟨VI hu0.one⟩ fun hb=>?_|refine nv ?_)
 refine jv (fun x:Value×List qx×Nat=>⟨M, .zK (.pointer (some ⟨hb,0,none⟩)) 253 [x.1]:: .zC x.1 256 2 x.2.1.length (x.2.1.flatMap yT)::F,[(3, .v (.pointer (some ⟨hb,0,none⟩))),(10, .v (.slice A ls.length c)),(11, .v (.int .i64 ls.length)),(12, .v (.int .i64 x.2.2))]⟩)
  (fun x=>x.2.2<=ls.length/\j2 x.1 x.2.1.length/\AQ M x.2.1/\x.2.1.map ZU=uh (ls.map Lm.l) x.2.2) (fun x=>ls.length-x.2.2) (u0,[],0) ⟨rfl,ji.refl _,jY,rfl⟩ ⟨zW _,hu0,fun h hh=>(nomatch hh),rfl⟩ ?_
 rintro ⟨u,L,k⟩ ⟨hk,hu,ju,hL⟩;dsimp only at hk hu ju hL⊢;have hLk:L.length<=k:=by have:=gh (ls.map Lm.l) k;rw [<-hL,yo] at this;exact this
 rcases yq k ls.length with z9|ql
 · have hd:=Xp z9;obtain ⟨b,off,rfl,jk⟩:=hl.get z9;have hx:=Ux _ (yD z9);have hg:(ls.map Lm.l).getD k []=ls[k].l:=by simp [List.getD,z9]
   have kt:uh (ls.map Lm.l) (k+1)=if 0<ls[k].l.length then wX ZN (uh (ls.map Lm.l) k) ⟨qY,ls[k].l,(k:Nat)⟩ else uh (ls.map Lm.l) k:=by rw [<-hg];rfl
   generalize ls[k]=y at*;obtain ⟨yv,yl⟩:=y;dsimp only at*;obtain ⟨A2,c2,rfl,P1,MC,_⟩:=id hx;by_cases h0:0<yl.length
   · have g1:decide ((0:Int)<(yl.length:Int))=true:=yk ze;rw [zo h0] at kt;have cP:=gg hb u L ⟨.slice A2 yl.length c2,yl,k⟩ ze M ju ⟨hx,h0⟩
     repeat' (first|((apply zA);(first|exact zj (k) zd zd ze ze|exact zY zd (jk 0 _ zd));rfl)|refine nv ?_)
     refine xQ cP ?_;rintro _ M2 _- -⟨rfl,h1,b2,c3,rfl⟩;have h1:=h1.symm;subst h1
     have gP:AQ M (wX ZN L ⟨.slice A2 yl.length c2,yl,k⟩):=fun h hh=>by
      rcases jH.1 ((Zq ZN _ _).mem_iff.1 hh) with h1|h1
      · exact ju h h1
      · rw [jx.1 h1];exact ⟨hx,h0⟩
     unfold QT ma Js;refine zJ ?_;refine Sw b2 fun eg=>?_
     have hcb:=VK eg
     repeat' (refine nv ?_)
     exact yG (Q:=fun _ _=>True) (.slice (some ⟨b2,0,none⟩) (wX ZN L ⟨.slice A2 yl.length c2,yl,k⟩).length c3,wX ZN L ⟨.slice A2 yl.length c2,yl,k⟩,k+1) (xZ jY) ⟨z9, .inr ⟨b2,c3,rfl,hcb.1,hcb.2⟩,fun h hh=>gP h hh,by dsimp only;rw [kt,<-hL];exact (pL ZU bS L ⟨.slice A2 yl.length c2,yl,k⟩).symm⟩ (by dsimp only;omega)
   · have g1:decide ((0:Int)<(yl.length:Int))=false:=z6 ze;rw [zn h0] at kt
     repeat' (first|((apply zA);(first|exact zj (k) zd zd ze ze|exact zY zd (jk 0 _ zd));rfl)|refine nv ?_)
     exact yG (Q:=fun _ _=>True) (u,L,k+1) (xZ jY) ⟨z9,hu,ju,by dsimp only;rw [kt];exact hL⟩ (by dsimp only;omega)
 · have hd:=Xq ql;obtain rfl:k=ls.length:=ze
   have P4:XM L=X8 (ls.map Lm.l):=by
    rw [<-dM,hL,Hz,<-FR,xk]
   have hF0:wJ (ls.map Lm.l)=YU (XM L) (L.map ZU):=by unfold wJ;rw [P4,hL,FR]
   repeat' (refine nv ?_)
   refine uU 200 6 ?_
   refine jv (fun x:Value×List qx×Value×List xi=>⟨M, .zC x.2.2.1 200 6 x.2.2.2.length (x.2.2.2.flatMap zR):: .zK (.pointer (some ⟨hb,0,none⟩)) 253 [x.1]:: .zC x.1 256 2 x.2.1.length (x.2.1.flatMap yT)::F,[(3, .v (.pointer (some ⟨hb,0,none⟩))),(6, .v x.2.2.1)]⟩)
    (fun x=>j2 x.1 x.2.1.length/\AQ M x.2.1/\x.2.1.length<=ls.length/\j2 x.2.2.1 x.2.2.2.length/\x.2.2.2++YU (XM x.2.1) (x.2.1.map ZU)=wJ (ls.map Lm.l)/\x.2.2.2.length+XM x.2.1=X8 (ls.map Lm.l)) (fun x=>XM x.2.1) (u,L, .slice none 0 0,[]) ⟨rfl,ji.refl _,j4,rfl⟩ ⟨hu,ju,hLk, .inl ⟨rfl,rfl⟩,hF0.symm,by dsimp only;rw [P4];exact xu _⟩ ?_
   clear hF0 P4 ju hu hLk hL;clear L u;rintro ⟨u,L,v,out⟩ ⟨hu,ju,hLn,hv,ML,P4⟩;dsimp only at hu ju hLn hv ML P4⊢;obtain ⟨A5,c5,rfl⟩:=hu.sl;have cL:=p6 A5 c5 L.length M;rcases Vr L.length with h0|h0
   · obtain rfl:L= []:=dm h0;have g1:decide ((0:Int)<(([]:List qx).length:Int))=false:=rfl
     repeat' (first|refine uK cL ?_|refine nv ?_)
     rw [show List.map ZU []= [] from rfl,Fc,xR] at ML;rw [<-ML];exact ⟨_,[.zC v 200 6 out.length (out.flatMap zR)],zP,zE,zh,zq,rfl,hv,rfl⟩
   · have g1:decide ((0:Int)<(L.length:Int))=true:=yk ze
     obtain ⟨b5,rfl⟩: ∃b,A5=some ⟨b,0,none⟩:=by
      obtain ⟨b,c,e,_⟩:=xB hu h0;injection e with e;exact ⟨b,e⟩
     obtain ⟨x,hxL,hx⟩:=TY (lt:=ZN) h0;have hxo:=ju x hxL;have cP:=F6 hb b5 c5 L x M h0 ze ju hx (WZ hxo.1);have gP:AQ M (j8 ZN L).dropLast:=fun h hh=>ju h ((ue ZN L).mem_iff.1 (IT _ hh))
     have J5:(j8 ZN L).dropLast.length<L.length:=by rw [rO,(ue ZN L).length_eq];omega
     have htp:=By hx;have hxb:=L1 hx;obtain ⟨fu,gS⟩: ∃f,XM L=f+1:=⟨XM L-1,by have:=hxo.2;omega⟩;have WC:=Cu fu hxb;unfold QT ma Js at cP;obtain ⟨D,hD⟩: ∃D,D=(j8 ZN L).dropLast:=⟨_,rfl⟩;rw [<-hD] at hx cP htp gP J5;obtain ⟨xv,xl,xn⟩:=x;obtain ⟨oR,Te⟩:=hxo;dsimp only at oR Te cP htp;have hg0:(⟨xv,xl,xn⟩:qx).l.getD 0 QI=xl[0]:=by simp [List.getD,Te]
     obtain ⟨A6,c6,rfl,P1,MC,_⟩:=id oR;unfold maxLen at MC;obtain ⟨b6,agq,rfl,hc6⟩:=oR.get Te;have hpt:=oR.part (p:=1) (q:=xl.length) (m:=c6) ze ze ze ze;rw [xk] at hpt;obtain ⟨A7,c7,hs7,_⟩:=id hpt;have hl7:(xl.drop 1).length=xl.length-1:=kI;rw [hl7] at hs7;have e1:(out++ [xl[0]]).length=out.length+1:=by simp
     have e2:(out++ [xl[0]]).flatMap zR=out.flatMap zR++zR xl[0]:=by simp
     have hle:XM L<=10000000000:=ze;rw [<-gS] at WC;rw [WC] at ML;have WB:=E4 L ⟨.slice (some ⟨b6,agq,none⟩) xl.length c6,xl,xn⟩ (.slice A7 (xl.length-1) c7);have hto:=Lo (L:=L.map ZU) (x:=ZU ⟨.slice (some ⟨b6,agq,none⟩) xl.length c6,xl,xn⟩) Te hxb;rw [dM,WB] at hto
     have CT:(out++ [xl[0]])++YU fu ((if 1<xl.length then wX ZN (j8 ZN L).dropLast ⟨.slice A7 (xl.length-1) c7,xl.drop 1,xn⟩ else (j8 ZN L).dropLast).map ZU)=wJ (ls.map Lm.l):=by
      rw [<-WB,<-ML,xY];show out++([xl[0]]++_)=out++(xl.getD 0 QI::_);rw [show xl.getD 0 QI=xl[0] by simp [List.getD,Te]];rfl
     rw [hx,List.dropLast_concat] at hto CT;rw [dM] at hto;dsimp only at hto;by_cases h17:1<xl.length
     · have g2:decide ((0:Int)<((xl.length-1:Nat):Int))=true:=yk ze;rw [zo h17] at hto CT;have cQ:=gg hb (.slice (some ⟨b5,0,none⟩) D.length c5) D ⟨.slice A7 (xl.length-1) c7,xl.drop 1,xn⟩ ze M gP ⟨hs7▸hpt,by rw [hl7];omega⟩
       repeat' (first|refine uK cL ?_|refine uK cP ?_|refine yh zh fun b8=>?_|refine gM zd (fun _=>rfl) (fun b9 c9 v9 Tg=>?_)|((apply zA);(first|exact zj (0) zd zd ze ze|exact zZ _ zd hc6 _ zd|exact xG hs7 (yg 1 xl.length c6 zd zd zd zd ze ze ze ze));rfl)|refine nv ?_)
       refine xQ cQ ?_;rintro _ M2 _- -⟨rfl,h1,b2,c3,rfl⟩;have h1:=h1.symm;subst h1;unfold QT ma Js;refine zJ ?_;refine Sw b2 fun eg=>?_
       have hcb:=VK eg
       repeat' (refine nv ?_)
       have akX:AQ M (wX ZN D ⟨.slice A7 (xl.length-1) c7,xl.drop 1,xn⟩):=fun h hh=>by
        rcases jH.1 ((Zq ZN _ _).mem_iff.1 hh) with h1|h1
        · exact gP h h1
        · rw [jx.1 h1];exact ⟨hs7▸hpt,by show 0<(xl.drop 1).length;rw [hl7];omega⟩
       have FM:(wX ZN D ⟨.slice A7 (xl.length-1) c7,xl.drop 1,xn⟩).length=D.length+1:=by rw [(Zq ZN _ _).length_eq];simp
       exact yG (Q:=fun _ _=>True) (.slice (some ⟨b2,0,none⟩) (wX ZN D ⟨.slice A7 (xl.length-1) c7,xl.drop 1,xn⟩).length c3,wX ZN D ⟨.slice A7 (xl.length-1) c7,xl.drop 1,xn⟩,v9,out++ [xl[0]]) ⟨rfl,by dsimp only;rw [e1,e2];exact zq (zw:= [_,_,_]) (F:=F),j4,rfl⟩ ⟨.inr ⟨b2,c3,rfl,hcb.1,hcb.2⟩,akX,by dsimp only;rw [FM];omega,by dsimp only;rw [e1];exact Tg,by dsimp only;rw [show XM (wX ZN D ⟨.slice A7 (xl.length-1) c7,xl.drop 1,xn⟩)=fu by omega];exact CT,by dsimp only;rw [e1];omega⟩ (by dsimp only;omega)
     · have g2:decide ((0:Int)<((xl.length-1:Nat):Int))=false:=z6 ze;rw [zn h17] at hto CT
       repeat' (first|refine uK cL ?_|refine uK cP ?_|refine yh zh fun b8=>?_|refine gM zd (fun _=>rfl) (fun b9 c9 v9 Tg=>?_)|((apply zA);(first|exact zj (0) zd zd ze ze|exact zZ _ zd hc6 _ zd|exact xG hs7 (yg 1 xl.length c6 zd zd zd zd ze ze ze ze));rfl)|refine nv ?_)
       exact yG (Q:=fun _ _=>True) (.slice (some ⟨b5,0,none⟩) D.length c5,D,v9,out++ [xl[0]]) ⟨rfl,by dsimp only;rw [e1,e2];exact zq (zw:= [_,_,_]) (F:=F),j4,rfl⟩ ⟨.inr ⟨b5,c5,rfl,by have:=(VK hu).1;dsimp only;omega,(VK hu).2⟩,gP,by dsimp only;omega,by dsimp only;rw [e1];exact Tg,by dsimp only;rw [show XM D=fu by omega];exact CT,by dsimp only;rw [e1];omega⟩ (by dsimp only;omega)
end
section
open Go Go.RowKit
attribute [local irreducible] Calls
theorem dL (a:List xi) (ls:List (List xi)):X8 (a::ls)=a.length+X8 ls:=by unfold X8;rw [xw,List.sum_cons]
theorem mL (ls:List (List xi)) (s:yW):X8 (ls.map fun l=>jR l s)<=X8 ls:=by
 induction ls with
 |nil=>exact zN _
 |cons a ls ih=>rw [xw,dL,dL];have:=aH a s;omega
section
variable {P:Program} {M:Mem} {zO:List Ob}
theorem zu.frz {f:FuncId} {vs:List Value} {e:TypeId} {k n:Nat} {cs:List Value} (h:zu P f vs M zO (fun u M' o=>M.le M'/\j2 u n/\o= [.zC u e k n cs])):zu P f vs M zO (fun u M' o=>M.le M'/\o= []/\ud M' k n cs u):=fun F hF w M0 hd W hW=>by
 refine (h F hF w M0 hd W hW).mono ?_;rintro e W' ⟨v,yE,zw,M',he,hle,wK,Zl,-,-,rfl⟩;obtain ⟨M1,Zy,l1,r1,w1⟩:=Zl.fz;exact ⟨v,Zy,[],M1,he,hle.trans l1,zh,w1,hle.trans l1,rfl,r1⟩
theorem zu.le {f:FuncId} {vs:List Value} {R:Value->List Ob->Prop} (h:zu P f vs M zO (fun u M' o=>M'=M/\R u o)):zu P f vs M zO (fun u M' o=>M.le M'/\R u o):=h.mono fun u M' o hle hr=>⟨hle,hr.2⟩
theorem zu.sl {α:Type} {f:FuncId} {vs:List Value} {e:TypeId} {k:Nat} {cells:α->List Value} {l:List α} (h:zu P f vs M zO (fun u M' o=>M.le M'/\j2 u l.length/\o= [.zC u e k l.length (l.flatMap cells)])) (hk: ∀a∈l,(cells a).length=k):zu P f vs M zO (fun u M' o=>M.le M'/\o= []/\xt M' k cells u l):=h.frz.mono fun u M' o _ hr=>⟨hr.1,hr.2.1,hr.2.2.YB hk⟩
end
theorem lF (s:yW) (v:Value) (ls:List Lm) (M:Mem) (hl:xt M 1 ke v ls) (Ux:DU M ls) (hn:ls.length<1000000) (ht:X8 (ls.map Lm.l)<=1000000000) (hz: ∀x∈ls,∀m∈x.l,m.key.size<=1000000):
 zu zf 113 [s.av,v] M [] (fun u M' o=>M.le M'/\j2 u (J0 s (ls.map Lm.l)).length/\o= [.zC u 200 6 (J0 s (ls.map Lm.l)).length ((J0 s (ls.map Lm.l)).flatMap zR)]):=by
 obtain ⟨A,c,rfl,vK,qD,_⟩:=id hl;unfold maxLen at qD;refine xy Tryz.func113 rfl Tryz.ntmps113 zd (fun F w M0 hF=>zz ?_);refine uU 141 1 ?_
 repeat' (first|refine yZ zd zh fun b=>?_|refine nv ?_)
 refine jv (fun x:Nat×Mem×Value×List Lm=>⟨x.2.1, .zC x.2.2.1 141 1 x.2.2.2.length (x.2.2.2.flatMap ke):: .zK (ptr b) 118 [.string s.lo, .string s.hi, .bool s.vx]::F,[(2, .v (ptr b)),(5, .v x.2.2.1),(8, .v (.slice A ls.length c)),(9, .v (.int .i64 ls.length)),(10, .v (.int .i64 x.1))]⟩)
  (fun x=>x.1<=ls.length/\M.le x.2.1/\j2 x.2.2.1 x.2.2.2.length/\DU x.2.1 x.2.2.2/\x.2.2.2.length=x.1/\x.2.2.2.map Lm.l=((ls.take x.1).map Lm.l).map fun l=>jR l s) (fun x=>ls.length-x.1) (0,M, .slice none 0 0,[]) ⟨rfl,ji.perm (List.Perm.swap _ _ _),kX,rfl⟩ ⟨zW _,zE, .inl ⟨rfl,rfl⟩,fun x hx=>(nomatch hx),rfl,rfl⟩ ?_
 rintro ⟨k,M1,v,cl⟩ ⟨hk,qR,hv,kW,hck,bj⟩;dsimp only at hk qR hv kW hck bj⊢;rcases yq k ls.length with z9|ql
 · have hd:=Xp z9;obtain ⟨b2,off,rfl,jk⟩:=(hl.mono qR).get z9;have hx:=(Ux _ (yD z9)).mono qR;have hzx:=hz _ (yD z9);have WB:ls[k].l.length<=1000000000:=by have:=Ty (m5 (f:=Lm.l) (yD z9));omega
   have aaM:cl.map Lm.l++ [jR ls[k].l s]=((ls.take (k+1)).map Lm.l).map fun l=>jR l s:=by rw [vF z9,jo,jo,bj];rfl
   generalize ls[k]=y at*;obtain ⟨yv,yl⟩:=y;dsimp only at*;have cC:=zu.iq fun W hW=>Kb _ yl s W (hx.xS hW) hzx WB
   obtain ⟨A2,c2,rfl,P1,MC,_⟩:=id hx
   repeat' (first|((apply zA);(first|exact zj (k) zd zd ze ze|exact zY zd (jk 0 _ zd));rfl)|refine nv ?_)
   refine pW cC fun r hr=>?_
   obtain ⟨A3,c3,rfl⟩:=hr.sl;refine Yu (uw.one _ _) fun M2 zD JP=>?_
   have gd:=JP.YB (cells:=zR) (fun _ _=>rfl);have e1:(cl++ [(⟨.slice A3 (jR yl s).length c3,jR yl s⟩:Lm)]).length=cl.length+1:=by simp
   have e2:(cl++ [(⟨.slice A3 (jR yl s).length c3,jR yl s⟩:Lm)]).flatMap ke=cl.flatMap ke++ [.slice A3 (jR yl s).length c3]:=by simp
   repeat' (first|refine gM zd (fun _=>rfl) (fun b9 c9 v9 Tg=>?_)|refine nv ?_)
   exact yG (Q:=fun _ _=>True) (k+1,M2,v9,cl++ [(⟨.slice A3 (jR yl s).length c3,jR yl s⟩:Lm)]) ⟨rfl,by dsimp only;rw [e1,e2];exact zq (zw:= [_,_]) (F:=F),kX,rfl⟩ ⟨z9,qR.trans zD,by dsimp only;rw [e1];exact Tg,fun x hx=>by
    rcases jH.1 hx with h1|h1
    · exact (kW x h1).mono zD
    · rw [jx.1 h1];exact gd,by dsimp only;rw [e1,hck],by dsimp only;rw [jo,<-aaM];rfl⟩ (by dsimp only;omega)
 · have hd:=Xq ql;obtain rfl:k=ls.length:=ze;rw [xk] at bj
   repeat' (refine nv ?_)
   refine Yu (uw.one _ _) fun M2 zD JP=>?_
   have gd:=JP.YB (cells:=ke) (fun _ _=>rfl);have cL:=f7 v cl M2 gd (kW.mono zD) ze (by rw [bj];have:=mL (ls.map Lm.l) s;omega);rw [bj] at cL;rw [show wJ ((ls.map Lm.l).map fun l=>jR l s)=J0 s (ls.map Lm.l) from rfl] at cL
   repeat' (first|refine pW cL fun r hr=>?_|refine nv ?_)
   exact ⟨_,[.zC r 200 6 (J0 s (ls.map Lm.l)).length ((J0 s (ls.map Lm.l)).flatMap zR)],zP,qR.trans zD,zh,zq,qR.trans zD,hr,rfl⟩
theorem It {l:List y6} {ms:List xi} (h:qw l) (hm: ∀m∈ms,YA m) (hn:l.length+ms.length<=100000000): ∀i,i<=ms.length->a7 (YD l (ms.take i)):=fun i hi=>by
 obtain ⟨h1,h2⟩:=er (ms.take i) h fun m hx=>⟨(hm m (wB hx)).k,(hm m (wB hx)).val⟩
 rw [yC] at h2;exact h1.ok ze
theorem Fa (v u:Value) (l:List y6) (s:yW) (ms:List xi) (M:Mem) (hl:xt M 2 zi v l) (hm:xt M 6 zR u ms) (hr:qw l) (WC: ∀m∈ms,YA m) (hs:jB 100 s) (hn:l.length+ms.length<=100000000):
 zu zf 112 [v,s.av,u] M [] (fun r M' o=>M.le M'/\o= []/\xt M' 2 zi r (fN l s ms)):=by
 have cW:=(BU v l s M hl ze).le.sl (fun _ _=>rfl);have kW:=aH ms s;have MD:(Zg l s).length<=l.length:=Ql _ _;refine xy Tryz.func112 rfl Tryz.ntmps112 zd (fun F w M0 hF=>zz ?_)
 repeat' (first|refine yZ zd zh fun b=>?_|refine zU [] [2,5,6,7] [] 1 yI zd zd ?_|refine nv ?_)
 repeat' (refine nu ?_)
 refine xF cW rfl ?_ zx;rintro w1 M1 _- -⟨qR,rfl,hs1⟩;refine yJ ?_;have cC:=(zu.iq (M:=M1) fun W hW=>Kb u ms s W ((hm.mono qR).xS hW) (fun m hx=>by have:=(WC m hx).key;omega) ze).le.sl (fun _ _=>rfl)
 repeat' (refine nu ?_)
 refine xF cC rfl ?_ zx;rintro w2 M2 _- -⟨zD,rfl,gd⟩;refine yJ ?_;have cF:=E9 w1 w2 _ _ M2 (hs1.mono zD) gd ze (fun m hx=>(dh WC hs m hx).ok) (It (hr.sub IQ) (dh WC hs) ze)
 repeat' (refine nu ?_)
 refine xF cF rfl ?_ zx;rintro w3 M3 _- -⟨yc,MH,rfl⟩;refine yJ ?_
 repeat' (first|refine nu ?_|exact zx|refine nz ?_ ?_)
 repeat' (refine nv ?_)
 have hle:=(qR.trans zD).trans yc;exact ⟨_,[],zP,hle,zh,zq,hle,rfl,MH⟩
end
section
open Go Go.RowKit
attribute [local irreducible] Calls
theorem ti (n:Nd) (M:Mem) (c:qn) (b:Int) (hc:uk c) (hn:n.Ok M) (hi:yB c b n) (h0:n.level=0) (h2:2<=n.rs.length):
 zu zf 212 [n.av] M [] (fun r M' o=>M.le M'/\o= []/\ ∃x y:Nd,r= .tuple #[x.av,y.av, .string (mh n.rs), .bool true]/\x.Ok M'/\y.Ok M'/\bare x= {bare n with rs:=n.rs.take (XH n.rs)}/\bare y= {bare n with rs:=n.rs.drop (XH n.rs)}):=by
 have Ri:=hc.l64;have hrn:=hi.rn;have cH:=EJ n.rv n.rs M hn.2.2.2 (hi.rows.ok ze) (fun p hp=>by have:=(hi.rows.sz p hp).1;omega) h2;have o1:=hn.1.yf;have o2:=hn.2.1.yf;have o3:=hn.2.2.1.yf;have o4:=hn.2.2.2.yf;have g1:(n.level==0)=true:=by rw [h0];rfl
 generalize mh n.rs=hk at*;generalize n.rs.take (XH n.rs)=l1 at*;generalize n.rs.drop (XH n.rs)=l2 at*;obtain ⟨slot,level,pv,ps,kv,ks,high,top,right,seen,mv,ms,rv,rs⟩:=n;dsimp only [Nd.Ok] at*;refine KC (args:= [_]) (zO:= []) nj rfl ny zd (fun F w M0 hF=>zz ?_)
 repeat' (first|refine yZ zd zh fun b1=>?_|refine yh (dst:=some 2) zh fun b2=>?_|refine yh (dst:=some 3) zh fun b3=>?_|refine zU [.v (ptr b2), .v (ptr b3)] [2,3] [2,3] 1 yI zd zd ?_|refine nv ?_)
 repeat' (first|refine nu ?_|exact zx|refine nz ?_ ?_)
 repeat' (refine nv ?_)
 refine xQ cH ?_;rintro _ M2 _ hle-⟨-,rfl,u,v,rfl,hu,hv⟩;refine zJ ?_;have ou:=hu.yf;have ov:=hv.yf
 repeat' (first|refine zU [] [4,5] [] 1 yI zd zd ?_|refine nv ?_)
 repeat' (first|refine nu ?_|exact zx|refine nz ?_ ?_)
 repeat' (refine nv ?_)
 all_goals exact ⟨_,[],kB.four rfl (RV.agg zd) (RV.agg zd) (RV.tmp zd) (RV.tmp zd),hle,zh,zq,hle,rfl,⟨slot,level,pv,ps,kv,ks,high,top,right,seen,mv,ms,u,l1⟩,⟨slot,level,pv,ps,kv,ks,high,top,right,seen,mv,ms,v,l2⟩,rfl,⟨hn.1.mono hle,hn.2.1.mono hle,hn.2.2.1.mono hle,hu⟩,⟨hn.1.mono hle,hn.2.1.mono hle,hn.2.2.1.mono hle,hv⟩,rfl,rfl⟩
theorem tj (n:Nd) (M:Mem) (hn:n.Ok M) (h0:n.level=0) (h2:n.rs.length<2):
 zu zf 212 [n.av] M [] (fun r M' o=>M.le M'/\o= []/\ ∃x y:Nd,r= .tuple #[x.av,y.av, .string em, .bool false]/\x.Ok M'/\y.Ok M'):=by
 have cH:=BV n.rv n.rs M hn.2.2.2 h2;have o1:=hn.1.yf;have o2:=hn.2.1.yf;have o3:=hn.2.2.1.yf;have o4:=hn.2.2.2.yf;have g1:(n.level==0)=true:=by rw [h0];rfl
 obtain ⟨slot,level,pv,ps,kv,ks,high,top,right,seen,mv,ms,rv,rs⟩:=n;dsimp only [Nd.Ok] at*;refine KC (args:= [_]) (zO:= []) nj rfl ny zd (fun F w M0 hF=>zz ?_)
 repeat' (first|refine yZ zd zh fun b1=>?_|refine yh (dst:=some 2) zh fun b2=>?_|refine yh (dst:=some 3) zh fun b3=>?_|refine zU [.v (ptr b2), .v (ptr b3)] [2,3] [2,3] 1 yI zd zd ?_|refine nv ?_)
 repeat' (first|refine nu ?_|exact zx|refine nz ?_ ?_)
 repeat' (first|refine uK cH ?_|refine zU [] [4,5] [] 1 yI zd zd ?_|refine nv ?_)
 repeat' (first|refine nu ?_|exact zx|refine nz ?_ ?_)
 repeat' (refine nv ?_)
 all_goals exact ⟨_,[],kB.four rfl (RV.agg zd) (RV.agg zd) (RV.tmp zd) (RV.tmp zd),zE,zh,zq,zE,rfl,⟨slot,level,pv,ps,kv,ks,high,top,right,seen,mv,ms,qY,[]⟩,⟨slot,level,pv,ps,kv,ks,high,top,right,seen,mv,ms,qY,[]⟩,rfl,⟨hn.1,hn.2.1,hn.2.2.1,xt.nil _ _ _⟩,⟨hn.1,hn.2.1,hn.2.2.1,xt.nil _ _ _⟩⟩
theorem Ge (n:Nd) (M:Mem) (hn:n.Ok M) (h0:n.level≠0) (oT:n.ps.length<=1000) (h2:vC n.ps n.ks=false):
 zu zf 212 [n.av] M [] (fun r M' o=>M.le M'/\o= []/\ ∃x y:Nd,r= .tuple #[x.av,y.av, .string em, .bool false]/\x.Ok M'/\y.Ok M'):=by
 have cR:=fun W hW=>XY n.pv n.kv n.ps n.ks W (hn.1.xS hW) (hn.2.1.xS hW) ze
 rw [h2] at cR;have o1:=hn.1.yf;have o2:=hn.2.1.yf;have o3:=hn.2.2.1.yf;have o4:=hn.2.2.2.yf;have g1:(n.level==0)=false:=beq_eq_false_iff_ne.2 h0;have hn':=hn;obtain ⟨slot,level,pv,ps,kv,ks,high,top,right,seen,mv,ms,rv,rs⟩:=n;dsimp only at*;refine KC (args:= [_]) (zO:= []) nj rfl ny zd (fun F w M0 hF=>zz ?_)
 repeat' (first|refine yZ zd zh fun b1=>?_|refine yh (dst:=some 2) zh fun b2=>?_|refine yh (dst:=some 3) zh fun b3=>?_|refine zU [.v (ptr b2), .v (ptr b3)] [2,3] [2,3] 1 yI zd zd ?_|refine nv ?_)
 repeat' (first|refine nu ?_|exact zx|refine nz ?_ ?_)
 repeat' (first|refine zU [] [2,3] [] 1 yI zd zd ?_|((apply zA);(exact zm zd cR);rfl)|refine nv ?_)
 repeat' (first|refine nu ?_|exact zx|refine nz ?_ ?_)
 repeat' (refine nv ?_)
 all_goals exact ⟨_,[],kB.four rfl (RV.agg zd) (RV.agg zd) (RV.tmp zd) (RV.tmp zd),zE,zh,zq,zE,rfl,⟨slot,level,pv,ps,kv,ks,high,top,right,seen,mv,ms,rv,rs⟩,⟨slot,level,pv,ps,kv,ks,high,top,right,seen,mv,ms,rv,rs⟩,rfl,hn',hn'⟩
end
end Go.Proofs.YtaibdpjjojihmaaGreat
