/- A part of the proof of TopPrefix; no conditions. -/
import Derived.Test.YtaibdpjjojihmaaGreatPWo5
import Derived.ArgAppend
set_option linter.unusedVariables false
set_option linter.unusedSimpArgs false
set_option maxRecDepth 20000
set_option maxHeartbeats 4000000
namespace Go.Proofs.YtaibdpjjojihmaaGreat
section
open Go Go.RowKit
attribute [local irreducible] Calls
section
variable {P:Program} {w:World} {M0:Mem} {N:Nat} {xJ U:List Ob} {e2:List Nat} {l:List Oper} {n i:Nat} {xz ks:List Nat} {M:Mem} {own zw:List Ob} {env:Env} {Q:St->Prop} {dst:Option Tmp} {ty:TypeId} {pos:String} {z7:Array Edge} {g:Option (Nat×Bool)}
theorem afk {x y:Operand} {t e:TypeId} {b o1 n1 c1 b2 o2 n2 c2 k bytes:Nat} {wS us:List Value} [hE:kr P t e k bytes] (hx:env.op x=some (.v (.slice (some ⟨b,o1,none⟩) n1 c1))) (hy:env.op y=some (.v (.slice (some ⟨b2,o2,none⟩) n2 c2)))
 (wK:c1<n1+n2) (hl:wS.length=n1*k) (hs:Y1 M own b o1 wS) (J5:us.length=n2*k) (gd:Y1 M own b2 o2 us) (hm:n1+n2<=maxLen) (hb:(n1+n2)*bytes<=140737488355328):
 EF P w M0 N ⟨dst, .call ⟨.builtin .append, #[x,y], #[t,t]⟩,ty,pos,z7,g⟩ ⟨M,own,env⟩ (own++ [.row e k (n1+n2) (wS++us)]) (.r own.length):=
 nS (.row e k (n1+n2) _) (fun hd a W hR=>by
  have J7:=uy.mk' hE.h;obtain ⟨i,z',hi,Ol,YC,Ed,pX⟩:=J7.hi;have e1:=hR.2.eval hx;have e2:=hR.2.eval hy;simp only [SV.den] at e1 e2;obtain ⟨v',W',r1,r2,r3⟩:=run_append_arg_grows (P:=P) W t ty e i z' k bytes J7.ht hi Ol YC Ed pX J7.hk ⟨b,o1,none⟩ n1 c1 wS hl (fun j v hv=>by rw [vG];exact hs.cell hR.1 j v hv) ⟨b2,o2,none⟩ n2 c2 us J5 (fun j v hv=>by rw [vG];exact gd.cell hR.1 j v hv) wK hm hb;have Uo:=hR.1.below.size
  have w7:W'.ownsRow w.heap.size e k v' (n1+n2) (wS++us)/\ ∀b,yX v'=some b->W.heap.size<=b:=by
   rcases r2.2 with ⟨h,h0⟩|⟨g,cap,cur,h2,h3,h4⟩
   · exact ⟨⟨r2.1, .inl ⟨h,h0⟩⟩,fun b hb=>by rw [h] at hb;cases hb⟩
   · exact ⟨⟨r2.1, .inr ⟨g,cap,cur,h2,ze,h4⟩⟩,fun b hb=>by rw [h2] at hb;obtain rfl:g=b:=(by simpa [yX] using hb);exact h3⟩
  refine ⟨v',W',?_,r3,w7.1,w7.2⟩;rw [ZQ e1 e2,r1];rfl)
theorem abw {x y:Operand} {t e:TypeId} {b o1 n1 c1 b2 o2 n2 c2 k bytes:Nat} {wS us:List Value} (ho:l[i]?=some ⟨dst, .call ⟨.builtin .append, #[x,y], #[t,t]⟩,ty,pos,z7,none⟩) [hE:kr P t e k bytes] (hx:env.op x=some (.v (.slice (some ⟨b,o1,none⟩) n1 c1))) (hy:env.op y=some (.v (.slice (some ⟨b2,o2,none⟩) n2 c2)))
 (wK:c1<n1+n2) (hl:wS.length=n1*k) (hs:Y1 M own b o1 wS) (J5:us.length=n2*k) (gd:Y1 M own b2 o2 us) (hm:n1+n2<=maxLen) (hb:(n1+n2)*bytes<=140737488355328)
 (h: ∀v,j2 v (n1+n2)->gA P w M0 N xJ U e2 l n (xz.erase i) ⟨M, .zC v e k (n1+n2) (wS++us)::own,env.put dst (.v v)⟩ Q) (h2:WL P w M0 N xJ U e2 l n xz ks ⟨M,own,env⟩ Q) (hS:ji own (Kp e2 xJ U (xz.erase i)):=by first|exact Yc zd zh|exact Jm zh zh) (hk:yi N dst=true:=by rfl):WL P w M0 N xJ U e2 l n xz (i::ks) ⟨M,own,env⟩ Q:=by
 have hx:=XU.ex (Ho (P:=P) (w:=w) (M0:=M0) (N:=N) (ops:=l.toArray) (o:=⟨dst, .call ⟨.builtin .append, #[x,y], #[t,t]⟩,ty,pos,z7,none⟩) (c:=fun u=>own++ [.zC u e k (n1+n2) (wS++us)]) rfl (afk (t:=t) (w:=w) (M0:=M0) (N:=N) (dst:=dst) (ty:=ty) (pos:=pos) (z7:=z7) (g:=none) hx hy wK hl hs J5 gd hm hb) (fun u=>⟨rfl⟩));exact Vs {u:Value//j2 u (n1+n2)} (fun _=>M) (fun u=> .zC u.1 e k (n1+n2) (wS++us)::own) (fun u=>u.1) ho (hx.KJ fun u=>ji.perm uQ) hk (fun u=>⟨zE,KU hS,h u.1 u.2⟩) h2
theorem abv {x y:Operand} {t e:TypeId} {b o1 n1 c1 b2 c2 k bytes:Nat} {us:List Value} {o2:Ob} (ho:l[i]?=some ⟨dst, .call ⟨.builtin .append, #[x,y], #[t,t]⟩,ty,pos,z7,none⟩) [hE:kr P t e k bytes] (hx:env.op x=some (.v (.slice (some ⟨b,o1,none⟩) n1 c1))) (hy:env.op y=some (.v (.slice (some ⟨b2,0,none⟩) 1 c2)))
 (K4:n1+1<=c1) (h:gA P w M0 N xJ U e2 l n (xz.erase i) ⟨M,zw,env.put dst (.v (.slice (some ⟨b,o1,none⟩) (n1+1) c1))⟩ Q) (h2:WL P w M0 N xJ U e2 l n xz ks ⟨M,own,env⟩ Q) (hs:Lc own b2 o2:=by infer_instance) (hc:afl o2 us:=by infer_instance) (hl:us.length=1*k:=by rfl) (hu:us.all (·.oneCell')=true:=by first|rfl|assumption) (hn:Kd own b (o1+n1*k) us zw:=by infer_instance)
 (hS:ji zw (Kp e2 xJ U (xz.erase i)):=by first|exact Yc zd zh|exact Jm zh zh) (hk:yi N dst=true:=by rfl):WL P w M0 N xJ U e2 l n xz (i::ks) ⟨M,own,env⟩ Q:=
 I2 ho (gm (Ld (nn:=n1+1) hx hy K4 hl (Y1.nft hc.h) hu hn rfl)) hk h h2 hS
end
theorem Zf.room {b off cap:Nat} {cur:List Value} {q:List Op} (h0:q.length+1<=cap) (h2:cap<=maxLen) (h3:off+cap*6<=cur.length) (h4:(cur.drop off).take (q.length*6)=q.flatMap kZ) (o:Op):
 off+q.length*6+6<=cur.length/\Zf ⟨.slice (some ⟨b,off,none⟩) (q.length+1) cap,[.zK (ptr b) 31 (jT cur (off+q.length*6) (kZ o))]⟩ (q++ [o]):=by
 have hle:off+q.length*6+6<=cur.length:=ze;refine ⟨hle,?_⟩;have e1:(q++ [o]).length=q.length+1:=by simp
 rw [<-e1];refine .qZ b off cap _ _ ze h2 (by rw [xA];exact h3) ?_;have hA:(q++ [o]).flatMap kZ=q.flatMap kZ++kZ o:=by simp
 rw [e1,hA,u7 _ _ _ (by rw [VD];exact hle),<-h4];have an:(cur.take (off+q.length*6)).length=off+q.length*6:=by rw [yC];omega
 rw [Sm (by rw [yK,an];omega),Sm ze,GH];have J5:((cur.drop off).take (off+q.length*6-off)).length=q.length*6:=by rw [yC,kI];omega
 rw [xY,show (q.length+1)*6=((cur.drop off).take (off+q.length*6-off)).length+6 by rw [J5];omega,Sk,<-VD o,ua];congr 2;omega
theorem Zf.fresh {b cap:Nat} {cur:List Value} {q:List Op} (h0:q.length<=cap) (h2:cap<=maxLen) (h3:cur.length=cap*6) (h4:cur.take (q.length*6)=q.flatMap kZ):Zf ⟨.slice (some ⟨b,0,none⟩) q.length cap,[.zK (ptr b) 31 cur]⟩ q:=
 .qZ b 0 cap cur q h0 h2 ze (by rw [JJ];exact h4)
variable {wb cb sb kb:Nat} {b:Int} {p:jf} {H:List (Int×Nat)} {M:Mem} {c:Co}
theorem Ek {cf:qn} {jX jK jh mv:Value} {clock ev:Int} {vz:List Nat} {i:Nat} {x:Qu} {q:List Op} (o:Op) (hi:i<vz.length) (Tm:vz[i]=kb) (kW:xt M 1 qF jX vz) [xK jK] [xK jh] [xK mv] (hq:Zf x q) (On:q.length<=1024):
 zu zf 43 [ptr wb, .int .i64 i,o.av] M (jC wb cb cf jX jK clock jh::qH kb x.qv mv ev::x.qo) (fun u M' o'=>M'=M/\ ∃x':Qu,Zf x' (if 1024<=q.length then q else q++ [o])/\o'=jC wb cb cf jX jK clock jh::qH kb x'.qv mv ev::x'.qo):=by
 obtain ⟨Ac,cc,rfl,_⟩:=id kW;obtain ⟨ba,o6,rfl,jk⟩:=kW.get hi;have ZA:=jk 0 _ rfl;rw [Tm] at ZA;have g1:decide ((i:Int)<0)=false:=z6 ze;have g2:decide ((vz.length:Int)<=(i:Int))=false:=z6 ze;by_cases hf:1024<=q.length
 · rw [zo hf];cases hq with
   |nil=>exact absurd hf yx
   |qZ qb off cap cur _ h1 h2 h3 h4=>
   have g3:decide ((1024:Int)<=(q.length:Int))=true:=yk ze;have ee:=Zf.qZ qb off cap cur q h1 h2 h3 h4;generalize q.length=ln at*;refine xy Tryz.func43 rfl Tryz.ntmps43 zd (fun F w M0 hF=>zz ?_)
   repeat' (first|refine yZ zd zh fun b5=>?_|((apply zA);(first|exact zj i zd zd rfl hi|exact hY zd ZA);rfl)|refine nv ?_)
   exact ⟨_,[jC wb cb cf (.slice (some ⟨ba,o6,none⟩) vz.length cc) jK clock jh,qH kb (.slice (some ⟨qb,off,none⟩) ln cap) mv ev, .zK (ptr qb) 31 cur],zP,zE,zh,zq,rfl,_,ee,rfl⟩
 · rw [zn hf];have e1:(q++ [o]).length=q.length+1:=by simp
   have e2:(q++ [o]).flatMap kZ=q.flatMap kZ++kZ o:=by simp
   have fin: ∀ {v:Value} {F:List Ob} {w:World} {M0:Mem},True:=fun {_ _ _ _}=>trivial
   cases hq with
   |nil=>
    refine xy Tryz.func43 rfl Tryz.ntmps43 zd (fun F w M0 hF=>zz ?_);refine uU 31 6 ?_
    repeat' (first|refine yZ zd zh fun b5=>?_|refine zU [.v (ptr kb), .v (.slice none 0 0)] [6,7,10] [7] 4 yI zd zd ?_|((apply zA);(first|exact zj i zd zd rfl hi|exact hY zd ZA);rfl)|refine nv ?_)
    repeat' (first|(refine Uc rfl rfl (fun w1 be=>?_) ?_;obtain ⟨bb1,cc1,rfl,MV,MU⟩:=xB be ze)|refine V2 rfl rfl rfl (fun w2 V9=>have ow2:=j2.yf V9;?_) ?_|refine nu ?_|exact zx|refine nz ?_ ?_)
    obtain ⟨b9,c9,rfl,h91,h92⟩:=xB V9 ze;refine Ud (uw.one _ _) fun cur C5 gU _ _=>?_
    repeat' (refine nv ?_)
    exact ⟨_,[jC wb cb cf (.slice (some ⟨ba,o6,none⟩) vz.length cc) jK clock jh,qH kb (.slice (some ⟨b9,0,none⟩) (0+1) c9) mv ev, .zK (ptr b9) 31 cur],zP,zE,zh,zq,rfl,⟨.slice (some ⟨b9,0,none⟩) 1 c9,[.zK (ptr b9) 31 cur]⟩,Zf.fresh (q:= [o]) h91 h92 C5 gU,rfl⟩
   |qZ qb off cap cur _ h1 h2 h3 h4=>
   have g3:decide ((1024:Int)<=(q.length:Int))=false:=z6 ze;rcases yq q.length cap with hr|hr
   · obtain ⟨hr1,KL⟩:=Zf.room (b:=qb) hr h2 h3 h4 o;haveI:DN cur (off+q.length*6) (kZ o) (jT cur (off+q.length*6) (kZ o)):=⟨hr1,rfl⟩;generalize jT cur (off+q.length*6) (kZ o)=RL at*;generalize nX:q.length=ln at*;refine xy Tryz.func43 rfl Tryz.ntmps43 zd (fun F w M0 hF=>zz ?_)
     repeat' (first|refine yZ zd zh fun b5=>?_|refine zU [.v (ptr kb), .v (ptr qb)] [6,7,10] [7] 4 yI zd zd ?_|((apply zA);(first|exact zj i zd zd rfl hi|exact hY zd ZA);rfl)|refine nv ?_)
     repeat' (first|(refine Uc rfl rfl (fun w1 be=>?_) ?_;obtain ⟨bb1,cc1,rfl,MV,MU⟩:=xB be ze)|refine abv rfl rfl rfl ze ?_ ?_|refine nu ?_|exact zx|refine nz ?_ ?_)
     repeat' (refine nv ?_)
     exact ⟨_,[jC wb cb cf (.slice (some ⟨ba,o6,none⟩) vz.length cc) jK clock jh,qH kb (.slice (some ⟨qb,off,none⟩) (ln+1) cap) mv ev, .zK (ptr qb) 31 RL],zP,zE,zh,zq,rfl,_,KL,rfl⟩
   · have cg: ∀(own:List Ob) (j:Nat),own[j]?=some (.zK (ptr qb) 31 cur)->Y1 M own qb off (q.flatMap kZ):=fun own j hj=> .inl ⟨j,_,hj,rfl,fun m u hu=>by
      show cur[off+m]?=some u;rw [<-h4,wA,Vk] at hu;split at hu
      · exact hu
      · cases hu⟩
     have gT:(q.flatMap kZ).length=q.length*6:=ki VD q;generalize nX:q.length=ln at*;refine xy Tryz.func43 rfl Tryz.ntmps43 zd (fun F w M0 hF=>zz ?_)
     repeat' (first|refine yZ zd zh fun b5=>?_|refine zU [.v (ptr kb)] [6,7,10] [10] 4 yI zd zd ?_|((apply zA);(first|exact zj i zd zd rfl hi|exact hY zd ZA);rfl)|refine nv ?_)
     repeat' (first|(refine Uc rfl rfl (fun w1 be=>?_) ?_;obtain ⟨bb1,cc1,rfl,MV,MU⟩:=xB be ze)|refine abw (n2:=1) rfl rfl rfl ze gT (cg _ 4 rfl) rfl (Y1.nft zd) (by unfold maxLen;omega) ze (fun w2 V9=>have ow2:=j2.yf V9;?_) ?_|refine nu ?_|exact zx|refine nz ?_ ?_)
     obtain ⟨b9,c9,rfl,h91,h92⟩:=xB V9 ze;refine Ud (uw.one _ _) fun RL C5 gU _ _=>?_
     repeat' (refine nv ?_)
     exact ⟨_,[jC wb cb cf (.slice (some ⟨ba,o6,none⟩) vz.length cc) jK clock jh,qH kb (.slice (some ⟨b9,0,none⟩) (ln+1) c9) mv ev, .zK (ptr b9) 31 RL],zP,zE,zh,zq,rfl,⟨.slice (some ⟨b9,0,none⟩) (ln+1) c9,[.zK (ptr b9) 31 RL]⟩,by
      have:=Zf.fresh (b:=b9) (cap:=c9) (cur:=RL) (q:=q++ [o]) (by rw [e1];exact h91) h92 C5 (by rw [e1,e2];exact gU);rw [e1] at this;exact this,rfl⟩
end
section
open Go Go.RowKit
attribute [local irreducible] Calls
variable {wb cb sb kb:Nat} {b:Int} {p:jf} {H:List (Int×Nat)} {M:Mem} {c:Co}
theorem Y3 {cf:qn} {Ac Aw:Option Addr} {nc nw cc cw:Nat} {clock:Int} {jh:Value} [xK jh] (h1:nc<=1000) (h2:nw<=1000):zu zf 42 [ptr wb] M [jC wb cb cf (.slice Ac nc cc) (.slice Aw nw cw) clock jh] (fun u M' o=>u= .int .i64 ((nc:Int)+(nw:Int))/\M'=M/\o= [jC wb cb cf (.slice Ac nc cc) (.slice Aw nw cw) clock jh]):=by
 refine xy Tryz.func42 rfl Tryz.ntmps42 zd (fun F w M0 hF=>zz ?_)
 repeat' (first|refine zU [] [] [] 1 yI zd zd ?_|refine nv ?_)
 repeat' (refine nu ?_)
 repeat' (refine nv ?_)
 exact ⟨_,[jC wb cb cf (.slice Ac nc cc) (.slice Aw nw cw) clock jh],zP,zE,zh,zq,rfl,rfl,rfl⟩
theorem Bn {cf:qn} {jX jK jh:Value} [xK jX] [xK jK] [xK jh] {clock:Int}:zu zf 28 [ptr wb] M [jC wb cb cf jX jK clock jh] (fun u M' o=>u= .int .i64 clock/\M'=M/\o= [jC wb cb cf jX jK clock jh]):=by
 refine xy Tryz.func28 rfl Tryz.ntmps28 zd (fun F w M0 hF=>zz ?_)
 repeat' (refine nv ?_)
 exact ⟨_,[jC wb cb cf jX jK clock jh],zP,zE,zh,zq,rfl,rfl,rfl⟩
theorem TZ (h:yO cb sb b p H M c) (hb:b<=999999990) {cf:qn} {jX jK jh:Value} [xK jh] {clock:Int} {vz pu:List Nat} {j:Nat} (kW:xt M 1 qF jX vz) (MD:xt M 1 qF jK pu) (vK:vz.length<=1000) (be:pu.length<=1000) (CX:0<=clock) (gR:clock<=1000000000)
 (hj:j<pu.length) {k:dG} {x:Wk} (hx:o9 H k x) (hxb:pu[j]=x.wb) (hi: ∀y,k.cy=some y->dA p y) (h0:0<=p.ch) (h1:p.ch<=999999990):
 zu zf 44 [ptr wb, .int .i64 ((vz.length+j:Nat):Int)] M (jC wb cb cf jX jK clock jh::(WT cb x k++c.ob)) (fun u M' o=>M.le M'/\ ∃(x':Wk) (H':List (Int×Nat)) (c':Co),x'.wb=x.wb/\(∀t z,yU H t=some z->yU H' t=some z)/\o=jC wb cb cf jX jK (clock+1) jh::(WT cb x' (kO p k).2.1++c'.ob)/\yO cb sb (b+1) (kO p k).1 H' M' c'/\o9 H' (kO p k).2.1 x'):=by
 have cS:=Bq h ze hx hi h0 ze;obtain ⟨Ac,cc,rfl,_⟩:=id kW;obtain ⟨Aw,cw,rfl,_⟩:=id MD;obtain ⟨ba,off,rfl,jk⟩:=MD.get hj;have ZA:=jk 0 _ rfl;rw [hxb] at ZA;have cT:=Y3 (wb:=wb) (cb:=cb) (cf:=cf) (M:=M) (Ac:=Ac) (Aw:=some ⟨ba,off,none⟩) (nc:=vz.length) (nw:=pu.length) (cc:=cc) (cw:=cw) (clock:=clock) (jh:=jh) vK be;obtain ⟨tt,htt⟩: ∃tt:Int,((vz.length+j:Nat):Int)=tt:=⟨_,rfl⟩;rw [htt];have g1:decide (tt<0)=false:=z6 ze;have g2:decide ((vz.length:Int)+(pu.length:Int)<=tt)=false:=z6 ze;have g3:decide ((vz.length:Int)<=tt)=true:=yk ze;have gf:tt-(vz.length:Int)=(j:Int):=ze;generalize kO p k=ZV at*;refine xy Tryz.func44 rfl Tryz.ntmps44 zd (fun F w M0 hF=>zz ?_)
 repeat' (first|refine uK cT ?_|refine zU [.l (WT cb x k), .l c.ob] [13,14] [13] 2 yI zd zd ?_|refine nv ?_)
 repeat' (first|refine X0 zd (by exact Y4 (by first|exact zj j zd zd gf hj|exact hY zd ZA)) zd ?_|refine nu ?_)
 refine xF cS rfl ?_ zx;rintro _ M2 _ zD-⟨-,rfl,x',H',c',U3,hH,rfl,vk,hw'⟩;refine yJ ?_
 repeat' (first|refine nu ?_|exact zx|refine nz ?_ ?_)
 repeat' (refine nv ?_)
 exact ⟨_,jC wb cb cf (.slice Ac vz.length cc) (.slice (some ⟨ba,off,none⟩) pu.length cw) (clock+1) jh::(WT cb x' ZV.2.1++c'.ob),zP,zD,zh,zq,zD,x',H',c',U3,hH,rfl,vk,hw'⟩
end
section
open Go Go.RowKit
attribute [local irreducible] Calls
def agI (P:Program) (t:TypeId):Bool:=match P.underlying t with|some (.interface _)=>true|_=>false
class Hm (P:Program) (t:TypeId):Prop where
 h:agI P t=true
instance:Hm zf 98:=zp
section
variable {P:Program} {w:World} {M0:Mem} {N:Nat} {dst:Option Tmp} {ty:TypeId} {pos:String} {z7:Array Edge} {g:Option (Nat×Bool)} {s:St} {t:TypeId} {x y:Operand}
theorem Hm.parts [h:Hm P t]: ∃ms,P.underlying t=some (.interface ms):=by
 have h1:=h.h;unfold agI at h1;split at h1
 · rename_i ms hu;exact ⟨ms,hu⟩
 · cases h1
theorem i8 (W:World) (d:Nat) {ms:Array (String×TypeId)} (hp:P.underlying t=some (.interface ms)):(Op.equalIn (d+1) t .nilIface .nilIface).run P W= .ok true W:=by
 simp [Op.equalIn,jG hp]
theorem i7 (W:World) (d:Nat) {ms:Array (String×TypeId)} (hp:P.underlying t=some (.interface ms)) (tx:TypeId) (v:Value):(Op.equalIn (d+1) t (.iface tx v) .nilIface).run P W= .ok false W:=by
 simp [Op.equalIn,jG hp]
theorem RB (c:Value) (W:World):(eqGuard .neq t x (.const c) .nilIface .nilIface).run P W= .ok () W:=by
 have:eqGuard .neq t x (.const c) .nilIface .nilIface=(pure ():Sem Unit):=by
  unfold eqGuard;cases x<;>rfl
 rw [this];rfl
theorem RA (tx:TypeId) (v:Value) (W:World):(eqGuard .neq t x y (.iface tx v) .nilIface).run P W= .ok () W:=rfl
theorem ai3 [h:Hm P t] {c:Value}:Wh P .neq t x (.const c) .nilIface .nilIface (.bool false):= .mk fun W=>by
 obtain ⟨ms,hp⟩:=h.parts;have:=i8 (P:=P) W 9999 hp
 have h2:(binOp .neq t .nilIface .nilIface).run P W= .ok (.bool false) W:=by
  simp only [binOp];simp [Op.equal,Op.maxDepth,this]
 rw [yz,RB];exact h2
theorem ai2 [h:Hm P t] {tx:TypeId} {v:Value}:Wh P .neq t x y (.iface tx v) .nilIface (.bool true):= .mk fun W=>by
 obtain ⟨ms,hp⟩:=h.parts;have:=i7 (P:=P) W 9999 hp tx v
 have h2:(binOp .neq t (.iface tx v) .nilIface).run P W= .ok (.bool true) W:=by
  simp only [binOp];simp [Op.equal,Op.maxDepth,this]
 rw [yz,RA];exact h2
theorem qin {t2:TypeId} [h:Hm P t] (hx:s.env.op x=some (.v .nilIface)):QS P w M0 N ⟨dst, .binOp .neq t x (.const .nilIface) t2,ty,pos,z7,g⟩ s (.v (.bool false)):=yN hx rfl ai3
theorem qiy {t2 tx:TypeId} {v:Value} [h:Hm P t] (hx:s.env.op x=some (.v (.iface tx v))):QS P w M0 N ⟨dst, .binOp .neq t x (.const .nilIface) t2,ty,pos,z7,g⟩ s (.v (.bool true)):=yN hx rfl ai2
end
variable {wb cb sb kb:Nat} {b:Int} {p:jf} {H:List (Int×Nat)} {M:Mem} {c:Co}
theorem L2 {cf:qn} {jX jK jh qv v:Value} {t:TypeId} [xK jh] [xK qv] {clock ev:Int} {vz pu:List Nat} {i:Nat} {G:List Ob} [jI G] {R:Value->Mem->List Ob->Prop} (kW:xt M 1 qF jX vz) (MD:xt M 1 qF jK pu) (vK:vz.length<=1000) (be:pu.length<=1000) (CX:0<=clock) (gR:clock<=1000000000)
 (hi:i<vz.length) (Tm:vz[i]=kb) [ho:xK (.iface t v)] (cS:zu zf 68 [ptr wb,ptr kb] M (jC wb cb cf jX jK (clock+1) jh::qH kb qv (.iface t v) ev::G) R):
 zu zf 44 [ptr wb, .int .i64 i] M (jC wb cb cf jX jK clock jh::qH kb qv (.iface t v) ev::G) R:=by
 obtain ⟨Aw,cw,rfl,_⟩:=id MD;obtain ⟨Ac,cc,rfl,_⟩:=id kW;obtain ⟨ba,off,rfl,jk⟩:=kW.get hi;have ZA:=jk 0 _ rfl;rw [Tm] at ZA;have cT:=Y3 (wb:=wb) (cb:=cb) (cf:=cf) (M:=M) (Ac:=some ⟨ba,off,none⟩) (Aw:=Aw) (nc:=vz.length) (nw:=pu.length) (cc:=cc) (cw:=cw) (clock:=clock) (jh:=jh) vK be;have g1:decide ((i:Int)<0)=false:=z6 ze;have g2:decide ((vz.length:Int)+(pu.length:Int)<=(i:Int))=false:=z6 ze;have g3:decide ((vz.length:Int)<=(i:Int))=false:=z6 ze;refine xy Tryz.func44 rfl Tryz.ntmps44 zd (fun F w M0 hF=>zz ?_)
 repeat' (first|refine uK cT ?_|((apply zA);(first|exact zj i zd zd rfl hi|exact hY zd ZA|exact qiy zd);rfl)|refine nv ?_)
 refine xQ cS ?_;rintro u M2 o zD wK hr;refine zJ ?_
 repeat' (refine nv ?_)
 exact ⟨_,o,zP,zD,wK,zq,hr⟩
theorem lg {cf:qn} {jX jK jh qv:Value} [xK jh] [xK qv] {clock ev:Int} {vz pu:List Nat} {i:Nat} {G:List Ob} [jI G] {R:Value->Mem->List Ob->Prop} (kW:xt M 1 qF jX vz) (MD:xt M 1 qF jK pu) (vK:vz.length<=1000) (be:pu.length<=1000) (CX:0<=clock) (gR:clock<=1000000000)
 (hi:i<vz.length) (Tm:vz[i]=kb) (cS:zu zf 69 [ptr wb, .int .i64 i] M (jC wb cb cf jX jK (clock+1) jh::qH kb qv .nilIface ev::G) R):
 zu zf 44 [ptr wb, .int .i64 i] M (jC wb cb cf jX jK clock jh::qH kb qv .nilIface ev::G) R:=by
 obtain ⟨Aw,cw,rfl,_⟩:=id MD;obtain ⟨Ac,cc,rfl,_⟩:=id kW;obtain ⟨ba,off,rfl,jk⟩:=kW.get hi;have ZA:=jk 0 _ rfl;rw [Tm] at ZA;have cT:=Y3 (wb:=wb) (cb:=cb) (cf:=cf) (M:=M) (Ac:=some ⟨ba,off,none⟩) (Aw:=Aw) (nc:=vz.length) (nw:=pu.length) (cc:=cc) (cw:=cw) (clock:=clock) (jh:=jh) vK be;have g1:decide ((i:Int)<0)=false:=z6 ze;have g2:decide ((vz.length:Int)+(pu.length:Int)<=(i:Int))=false:=z6 ze;have g3:decide ((vz.length:Int)<=(i:Int))=false:=z6 ze;refine xy Tryz.func44 rfl Tryz.ntmps44 zd (fun F w M0 hF=>zz ?_)
 repeat' (first|refine uK cT ?_|((apply zA);(first|exact zj i zd zd rfl hi|exact hY zd ZA|exact qin zd);rfl)|refine nv ?_)
 refine xQ cS ?_;rintro u M2 o zD wK hr;refine zJ ?_
 repeat' (refine nv ?_)
 exact ⟨_,o,zP,zD,wK,zq,hr⟩
end
section
open Go Go.RowKit
attribute [local irreducible] Calls
variable {wb cb sb kb:Nat} {b:Int} {p:jf} {H:List (Int×Nat)} {M:Mem} {c:Co}
theorem TD (h:yO cb sb b p H M c) (hb:b<=999999990) (h0:0<=p.ch) (h1:p.ch<=999999990) {m:Qp} {x:Mc} (hm:pg cb H M m x) {n:Nat} (hn:n<=80000) (hi:WP n p m) {cf:qn} {jX jK qv:Value} {cap eb:Nat} {clock:Int} {xq:List ZY} (i:Nat) [xK jX] [xK jK] [xK qv] (dD:Qq M xq) (kg:i<xq.length) (F1:xq.length<=100000000):
 zu zf 68 [ptr wb,ptr kb] M (jC wb cb cf jX jK clock (.slice (some ⟨eb,0,none⟩) xq.length cap)::qT (.slice (some ⟨eb,0,none⟩) xq.length cap) xq::qH kb qv (mcV x) i::(sL cb x m++c.ob))
  (fun u M' o=>M.le M'/\ ∃(m':Option (Qp×Mc)) (H':List (Int×Nat)) (c':Co) (uF:List ZY),(∀t y,yU H t=some y->yU H' t=some y)/\uF.length=xq.length/\Qq M' uF/\uF.map ZY.e=(xq.map ZY.e).modify i (Yd clock (kQ p m).2.2 (kQ p m).2.1)/\yO cb sb (b+2) (kQ p m).1 H' M' c'/\
   m'.map (·.1)=(if Z9 (kQ p m).2.1=true then none else some (kQ p m).2.1)/\(∀y,m'=some y->pg cb H' M' y.1 y.2)/\
   o=jC wb cb cf jX jK clock (.slice (some ⟨eb,0,none⟩) xq.length cap)::qT (.slice (some ⟨eb,0,none⟩) xq.length cap) uF::qH kb qv (pS m') i::(D7 cb m'++c'.ob)):=by
 have hef: ∀(m2:Qp) (ok:Bool),Bd clock ok (VM m2) (Z9 m2) (lJ m2)=Yd clock ok m2:=fun m2 ok=>rfl
 cases m with
 |rd r=>
  cases x with
  |kn x=>exact hm.elim
  |wr x=>exact hm.elim
  |rd x=>
   have hr:Wf cb H M r x:=hm;have hir:WN n r:=hi;have cS:=B7 h ze hr hir ze
   have key:=WS (wb:=wb) (cb:=cb) (sb:=sb) (kb:=kb) (mb:=x.rb) (b':=b) (t:=190) (fS:=289) (fP:=288) (fD:=287) (fA:=286) (cf:=cf) (jX:=jX) (jK:=jK) (qv:=qv) (cap:=cap) (eb:=eb) (clock:=clock) (mo:=vi cb x r) (c:=c) (H:=H) (A:=none)
    (ok:=(jj p r).2.2) (pt:=(jj p r).2.1.yd) (dn:=(jj p r).2.1.done) (a:=lJ (.rd (jj p r).2.1)) (p':=(jj p r).1) (X:=fun Uv H' M'=> ∃x':Rd,x'.rb=x.rb/\Uv=vi cb x' (jj p r).2.1/\Wf cb H' M' (jj p r).2.1 x') i dD kg F1
    (cS.mono fun u M' o _ ⟨q1,q2,x',c',q3,q4,q5,q6⟩=>⟨q1,q2,vi cb x' (jj p r).2.1,H,c',zh,fun _ _ e=>e,q4,q5,x',q3,rfl,q6⟩)
    (by rintro Uv H' M' ⟨x',e,rfl,q⟩;rw [<-e];exact sD x' _)
    (by rintro Uv H' M' ⟨x',e,rfl,q⟩;rw [<-e];exact f5 x' _)
    (by
     rintro hd Uv H' M' ⟨x',e,rfl,q⟩;rw [<-e];refine (oI x' _).mono ?_;rintro u M2 o hle ⟨rfl,rfl,rfl⟩;exact ⟨zE, .slice none 0 0,rfl,xt.nil _ _ _,rfl⟩)
   refine key.mono ?_;rintro u M' o hle ⟨q1,-,Uv,H',c',uF,q2,q3,q4,q5,q6,q7,q8,rfl⟩;have yE:Z9 (kQ p (.rd r)).2.1=(jj p r).2.1.done:=rfl;rw [yE];cases hd:(jj p r).2.1.done with
   |true=>
    rw [hd] at q6;exact ⟨q1,none,H',c',uF,q3,q4,q5,by rw [q6,<-hef];congr 1;show Bd _ _ _ true _=Bd _ _ _ (jj p r).2.1.done _;rw [hd];rfl,q7.up ze,rfl,fun y e=>(nomatch e),rfl⟩
   |false=>
    obtain ⟨x',e,rfl,qr⟩:=q8 hd;rw [hd] at q6;exact ⟨q1,some (.rd (jj p r).2.1, .rd x'),H',c',uF,q3,q4,q5,by rw [q6,<-hef];congr 1;show Bd _ _ _ false _=Bd _ _ _ (jj p r).2.1.done _;rw [hd];rfl,q7.up ze,rfl,fun y e=>(by cases e;exact qr),by show _=_::_::qH kb qv (.iface 190 (ptr x'.rb)) i::_;rw [e];rfl⟩
 |kn s=>
  cases x with
  |rd x=>exact hm.elim
  |wr x=>exact hm.elim
  |kn x=>
   have hr:uX cb H M s x:=hm;obtain ⟨hir,ap6,ap5⟩:=(hi:kN n s/\_/\_);have cS:=sx h ze hr hir hn ze;have ahz:=lS (p:=p) h.st.inv hir
   have key:=WS (wb:=wb) (cb:=cb) (sb:=sb) (kb:=kb) (mb:=x.kb) (b':=b) (t:=192) (fS:=293) (fP:=292) (fD:=291) (fA:=290) (cf:=cf) (jX:=jX) (jK:=jK) (qv:=qv) (cap:=cap) (eb:=eb) (clock:=clock) (mo:=wq cb x s) (c:=c) (H:=H) (A:=none)
    (ok:=(jF p s).2.2) (pt:=(jF p s).2.1.yd) (dn:=(jF p s).2.1.done) (a:=lJ (.kn (jF p s).2.1)) (p':=(jF p s).1) (X:=fun Uv H' M'=> ∃x':Kn,x'.kb=x.kb/\Uv=wq cb x' (jF p s).2.1/\uX cb H' M' (jF p s).2.1 x') i dD kg F1
    (cS.mono fun u M' o _ ⟨q1,q2,x',c',q3,q4,q5,q6⟩=>⟨q1,q2,wq cb x' (jF p s).2.1,H,c',zh,fun _ _ e=>e,q4,q5,x',q3,rfl,q6⟩)
    (by rintro Uv H' M' ⟨x',e,rfl,q⟩;haveI:=q.ms.yf;haveI:=q.one;rw [<-e];exact oE x' _)
    (by rintro Uv H' M' ⟨x',e,rfl,q⟩;haveI:=q.ms.yf;haveI:=q.one;rw [<-e];exact bH x' _)
    (by
     rintro hd Uv H' M' ⟨x',e,rfl,q⟩;haveI:=q.ms.yf;rw [<-e];refine (iZ x' _ hd (q.fin hd) (by have:=ahz.out;have:=ahz.lN;omega)).mono ?_;rintro u M2 o hle ⟨hl,w,rfl,hw,rfl⟩;exact ⟨hl,w,rfl,hw,rfl⟩)
   refine key.mono ?_;rintro u M' o hle ⟨q1,-,Uv,H',c',uF,q2,q3,q4,q5,q6,q7,q8,rfl⟩;have yE:Z9 (kQ p (.kn s)).2.1=(jF p s).2.1.done:=rfl;rw [yE];cases hd:(jF p s).2.1.done with
   |true=>
    rw [hd] at q6;exact ⟨q1,none,H',c',uF,q3,q4,q5,by rw [q6,<-hef];congr 1;show Bd _ _ _ true _=Bd _ _ _ (jF p s).2.1.done _;rw [hd];rfl,q7.up ze,rfl,fun y e=>(nomatch e),rfl⟩
   |false=>
    obtain ⟨x',e,rfl,qr⟩:=q8 hd;rw [hd] at q6;exact ⟨q1,some (.kn (jF p s).2.1, .kn x'),H',c',uF,q3,q4,q5,by rw [q6,<-hef];congr 1;show Bd _ _ _ false _=Bd _ _ _ (jF p s).2.1.done _;rw [hd];rfl,q7.up ze,rfl,fun y e=>(by cases e;exact qr),by show _=_::_::qH kb qv (.iface 192 (ptr x'.kb)) i::_;rw [e];rfl⟩
 |wr r=>
  cases x with
  |rd x=>exact hm.elim
  |kn x=>exact hm.elim
  |wr x=>
   have hr:UD H r x:=hm;obtain ⟨i1,i2,i3,i4⟩:=(hi:_/\_/\_/\_);have cS:=Bh h hb hr ⟨h0,h1,i1,i2,ze,fun y e=>⟨(i4 y e).1,by have:=(i4 y e).2;omega⟩⟩
   have key:=WS (wb:=wb) (cb:=cb) (sb:=sb) (kb:=kb) (mb:=x.rb) (b':=b+2) (t:=194) (fS:=297) (fP:=296) (fD:=295) (fA:=294) (cf:=cf) (jX:=jX) (jK:=jK) (qv:=qv) (cap:=cap) (eb:=eb) (clock:=clock) (mo:=u6 cb x r) (c:=c) (H:=H) (A:=none)
    (ok:=(jE p r).2.2) (pt:=(jE p r).2.1.yd) (dn:=(jE p r).2.1.done) (a:=lJ (.wr (jE p r).2.1)) (p':=(jE p r).1) (X:=fun Uv H' M'=> ∃x':Wr,x'.rb=x.rb/\Uv=u6 cb x' (jE p r).2.1/\UD H' (jE p r).2.1 x') i dD kg F1
    (cS.mono fun u M' o _ ⟨q1,q2,x',H',c',q3,q7,q4,q5,q6⟩=>⟨q1,q2,u6 cb x' (jE p r).2.1,H',c',zh,q7,q4,q5,x',q3,rfl,q6⟩)
    (by rintro Uv H' M' ⟨x',e,rfl,q⟩;haveI:=q.one;rw [<-e];exact r7 x' _)
    (by rintro Uv H' M' ⟨x',e,rfl,q⟩;haveI:=q.one;rw [<-e];exact fI x' _)
    (by
     rintro hd Uv H' M' ⟨x',e,rfl,q⟩;haveI:=q.one;rw [<-e];refine (n4 x' _ hd).mono ?_;rintro u M2 o hle ⟨rfl,rfl,rfl⟩;exact ⟨zE, .slice none 0 0,rfl,xt.nil _ _ _,rfl⟩)
   refine key.mono ?_;rintro u M' o hle ⟨q1,-,Uv,H',c',uF,q2,q3,q4,q5,q6,q7,q8,rfl⟩;have yE:Z9 (kQ p (.wr r)).2.1=(jE p r).2.1.done:=rfl;rw [yE];cases hd:(jE p r).2.1.done with
   |true=>
    rw [hd] at q6;exact ⟨q1,none,H',c',uF,q3,q4,q5,by rw [q6,<-hef];congr 1;show Bd _ _ _ true _=Bd _ _ _ (jE p r).2.1.done _;rw [hd];rfl,q7,rfl,fun y e=>(nomatch e),rfl⟩
   |false=>
    obtain ⟨x',e,rfl,qr⟩:=q8 hd;rw [hd] at q6;exact ⟨q1,some (.wr (jE p r).2.1, .wr x'),H',c',uF,q3,q4,q5,by rw [q6,<-hef];congr 1;show Bd _ _ _ false _=Bd _ _ _ (jE p r).2.1.done _;rw [hd];rfl,q7,rfl,fun y e=>(by cases e;exact qr),by show _=_::_::qH kb qv (.iface 194 (ptr x'.rb)) i::_;rw [e];rfl⟩
end
section
open Go Go.RowKit
attribute [local irreducible] Calls
structure Cl where
 kb:Nat
 x:Qu
 q:List Op
 m:Option (Qp×Mc)
 ev:Int
def Cl.pure (y:Cl):S0:=⟨y.q,y.m.map (·.1),y.ev⟩
structure Wo where
 wb:Nat
 cb:Nat
 sb:Nat
 c:Co
 H:List (Int×Nat)
 jX:Value
 jK:Value
 jh:Value
 cls:List Cl
 qg:List (Wk×dG)
 xq:List ZY
def ZX (cb:Nat) (y:Cl):List Ob:=di cb y.kb y.x y.m y.ev
def fM (cb:Nat) (y:Wk×dG):List Ob:=WT cb y.1 y.2
def Wo.ob (w:Wo) (cf:qn) (clock:Int):List Ob:=jC w.wb w.cb cf w.jX w.jK clock w.jh::qT w.jh w.xq::(w.cls.flatMap (ZX w.cb)++(w.qg.flatMap (fM w.cb)++w.c.ob))
structure ut (b:Int) (q:YI) (M:Mem) (w:Wo):Prop where
 co:yO w.cb w.sb b q.p w.H M w.c
 cls:w.cls.map Cl.pure=q.cls
 qg:w.qg.map (·.2)=q.qg
 xq:w.xq.map ZY.e=q.xq
 jX:xt M 1 qF w.jX (w.cls.map Cl.kb)
 jK:xt M 1 qF w.jK (w.qg.map fun y=>y.1.wb)
 jh:j2 w.jh w.xq.length
 Dk:Qq M w.xq
 qu: ∀y∈w.cls,Zf y.x y.q
 mc: ∀y∈w.cls,∀m,y.m=some m->pg w.cb w.H M m.1 m.2
 wk: ∀y∈w.qg,o9 w.H y.2 y.1
theorem ut.mono {b:Int} {q:YI} {M M':Mem} {w:Wo} (h:ut b q M w) (hM:M.le M'):ut b q M' w:=⟨h.co.mono hM,h.cls,h.qg,h.xq,h.jX.mono hM,h.jK.mono hM,h.jh,h.Dk.mono hM,h.qu,fun y hy m hm=>(h.mc y hy m hm).mono (fun _ _ e=>e) hM,h.wk⟩
theorem UZ {α:Type} (f:α->List Ob) (l:List α) (h: ∀x∈l,jI (f x)):jI (l.flatMap f):=⟨fun o ho=>by
 obtain ⟨x,hx,ho⟩:=KA.1 ho;exact (h x hx).h o ho⟩
theorem ut.Jk {b:Int} {q:YI} {M:Mem} {w:Wo} (h:ut b q M w) (cf:qn) (clock:Int):jI (w.ob cf clock):=by
 haveI:jI (w.cls.flatMap (ZX w.cb)):=UZ _ _ fun y hy=>by
  haveI:=(h.qu y hy).Jk;unfold ZX di
  infer_instance
 haveI:jI (w.qg.flatMap (fM w.cb)):=UZ _ _ fun y hy=>by unfold fM;infer_instance
 unfold Wo.ob
 infer_instance
structure Zd (n:Nat) (q:YI):Prop where
 nV:q.cls.length<=255
 AW:q.qg.length<=255
 c0:0<=q.clock
 c1:q.clock<=n
 ev:q.xq.length<=n
 h0:0<=q.p.ch
 h1:q.p.ch<=2*n
 mc: ∀k∈q.cls,∀m,k.m=some m->WP n q.p m/\0<=k.ev/\k.ev<q.xq.length
 qs: ∀k∈q.cls,k.q.length<=1024/\ ∀o∈k.q,o.key.size<=1000000
 wk: ∀k∈q.qg,∀y,k.cy=some y->0<=y.Qx/\y.Qx<=n
theorem il {α:Type} (W E K:α) (A B X MO C D:List α):(W::E::(A++((K::(X++MO))++B)++(D++C))).Perm ((W::K::E::(MO++C))++(X++(A++(B++D)))):=by
 haveI:DecidableEq α:=fun a b=>Classical.propDecidable (a=b)
 rw [Kc];intro z;simp only [Yo,Ym];omega
theorem HN {α:Type} (W E:α) (A B X C D:List α):(W::E::(D++((A++(X++B))++C))).Perm ((W::(X++C))++(E::(A++(B++D)))):=by
 haveI:DecidableEq α:=fun a b=>Classical.propDecidable (a=b)
 rw [Kc];intro z;simp only [Yo,Ym];omega
theorem vW {α β:Type} (f:α->List β) (l1 l2:List α) (x:α):(l1++x::l2).flatMap f=l1.flatMap f++(f x++l2.flatMap f):=by rw [JF,j6]
theorem HF {α:Type} (l1 l2:List α) (x y:α):(l1++x::l2).set l1.length y=l1++y::l2:=by
 rw [YF _ _ (zN _),qq];rfl
theorem lE {α:Type} (l:List α) {i:Nat} (h:i<l.length): ∃l1 x l2,l=l1++x::l2/\l1.length=i/\l[i]=x:=⟨l.take i,l[i],l.drop (i+1),by rw [<-Zc h,Us],by rw [yC];omega,rfl⟩
variable {b:Int} {q:YI} {M:Mem} {w:Wo}
theorem abK (h:ut b q M w) {n:Nat} (hi:Zd n q) (hn:n<=80000) (hb:b<=999999990) {j:Nat} (hj:j<w.qg.length):
 zu zf 44 [ptr w.wb, .int .i64 ((w.cls.length+j:Nat):Int)] M (w.ob q.p.q.c q.clock) (fun u M' o=>M.le M'/\ ∃w':Wo,w'.wb=w.wb/\o=w'.ob q.p.q.c (q.clock+1)/\ut (b+2) (qE {q with clock:=q.clock+1} (w.cls.length+j)) M' w'):=by
 obtain ⟨l1,⟨x,k⟩,l2,hl,an,hlx⟩:=lE w.qg hj;have K6:(x,k)∈w.qg:=by rw [hl];simp
 have nW:q.qg[j]?=some k:=by rw [<-h.qg,qd,jA hj,hlx];rfl
 have On:q.cls.length=w.cls.length:=by rw [<-h.cls,yo]
 have hqw:q.qg.length=w.qg.length:=by rw [<-h.qg,yo]
 have A9:k∈q.qg:=Xj nW;have h1:=hi.h1;have c1:=hi.c1;have n1:=hi.nV;have n2:=hi.AW;haveI:=h.jh.yf;have cP:=TZ (wb:=w.wb) h.co hb (cf:=q.p.q.c) (jh:=w.jh) (clock:=q.clock) h.jX h.jK (by rw [yo];omega) (by rw [yo];omega) hi.c0 ze (j:=j) (by rw [yo];exact hj) (h.wk _ K6) (by rw [XD,hlx]) (fun y e=>⟨hi.h0,ze,(hi.wk k A9 y e).1,by have:=(hi.wk k A9 y e).2;omega⟩) hi.h0 ze;rw [yo] at cP
 have hp:qE {q with clock:=q.clock+1} (w.cls.length+j)= {q with clock:=q.clock+1,p:=(kO q.p k).1,qg:=q.qg.set j (kO q.p k).2.1}:=by
  unfold qE;dsimp only;rw [dq ze,On,JG,nW]
 rw [hp];refine cP.wide (G:=qT w.jh w.xq::(l1.flatMap (fM w.cb)++(l2.flatMap (fM w.cb)++w.cls.flatMap (ZX w.cb)))) ⟨?_⟩ (h.Jk _ _) ?_
 · unfold Wo.ob;rw [hl,vW];exact HN _ _ _ _ _ _ _
 · rintro u M' o hle ⟨-,x',H',c',U3,hH,rfl,vk,hw'⟩
   have uM:ut (b+2) {q with clock:=q.clock+1,p:=(kO q.p k).1,qg:=q.qg.set j (kO q.p k).2.1} M' {w with c:=c',H:=H',qg:=l1++(x',(kO q.p k).2.1)::l2}:=by
    have e0:w.qg.map (fun y=>y.1.wb)=(l1++(x',(kO q.p k).2.1)::l2).map fun y=>y.1.wb:=by rw [hl];simp [U3]
    refine ⟨vk.up ze,h.cls,?_,h.xq,h.jX.mono hle,by dsimp only;rw [<-e0];exact h.jK.mono hle,h.jh,h.Dk.mono hle,h.qu,fun y hy m hm=>(h.mc y hy m hm).mono hH hle,fun y hy=>?_⟩
    · dsimp only;rw [<-h.qg,hl,<-an,jo,jo,xw,xw];rw [show l1.length=(l1.map (·.2)).length by simp,HF]
    · rcases jH.1 hy with h3|h3
      · exact (h.wk y (by rw [hl];exact rN _ h3)).mono hH
      · rcases jm.1 h3 with rfl|h3
        · exact hw'
        · exact (h.wk y (by rw [hl];exact rP _ (XJ _ h3))).mono hH
   refine ⟨({w with c:=c',H:=H',qg:=l1++(x',(kO q.p k).2.1)::l2}:Wo).ob q.p.q.c (q.clock+1),ji.perm (nD ?_),uM.Jk _ _,hle,{w with c:=c',H:=H',qg:=l1++(x',(kO q.p k).2.1)::l2},rfl,rfl,uM⟩;unfold Wo.ob;dsimp only;rw [vW];exact HN _ _ _ _ _ _ _
end
end Go.Proofs.YtaibdpjjojihmaaGreat
