/- A part of the proof of TopPrefix; no conditions. -/
import Derived.Test.YtaibdpjjojihmaaGreatPRd2
set_option linter.unusedVariables false
set_option linter.unusedSimpArgs false
set_option maxRecDepth 20000
set_option maxHeartbeats 4000000
namespace Go.Proofs.YtaibdpjjojihmaaGreat
section
open Go Go.RowKit
attribute [local irreducible] Calls
section
variable {P:Program} {w:World} {M0:Mem} {N:Nat} {dst:Option Tmp} {ty:TypeId} {pos:String} {z7:Array Edge} {g:Option (Nat×Bool)} {M:Mem} {own zO F:List Ob} {env:Env} {s:St}
theorem aeA {f:FuncId} {x:Operand} {xs:Array Operand} {qz:Array TypeId} {vs:List Value} [hf:zG P f] (hx:s.env.op x=some (.v (.func (.func f) #[] #[]))) (hv:s.env.kP xs.toList=some vs):Ent P w M0 N ⟨dst, .call ⟨.value x,xs,qz⟩,ty,pos,z7,g⟩ s f vs:=fun hd a W hR=>by
 have:=az (P:=P) (dst:=dst) (ty:=ty) (pos:=pos) (z7:=z7) (g:=g) (qz:=qz) (W:=W) hR.2 hf.h hx hv;rw [Array.append_empty] at this;exact this
theorem kcv {f:FuncId} {vs:List Value} {R:Value->Mem->List Ob->Prop} {ops:Array Oper} {l:List Oper} {Q:zX} {x:Operand} {xs:Array Operand} {qz:Array TypeId} [hf:zG P f] (hc:zu P f vs M zO R) (hx:env.op x=some (.v (.func (.func f) #[] #[])))
 (hk: ∀v M' o,M.le M'->jI o->R v M' o->VL P w M0 N ops l ⟨M',o++F,env.put dst (.v v)⟩ Q) (hv:env.kP xs.toList=some vs:=by rfl) (ht:uu own zO F:=by infer_instance) (hn:jI own:=by infer_instance) (hd:yi N dst=true:=by rfl) (zV:yR env 0=true:=by rfl):
 VL P w M0 N ops (⟨dst, .call ⟨.value x,xs,qz⟩,ty,pos,z7,none⟩::l) ⟨M,own,env⟩ Q:=nL (aeA (s:=⟨M,own,env⟩) hx hv) hc ht hn hd zV hk
end
variable {cb sb:Nat} {b:Int} {p:jf} {H:List (Int×Nat)} {M:Mem} {c:Co}
theorem B7 (h:yO cb sb b p H M c) (hb:b<=1000000000) {r:gE} {x:Rd} (hr:Wf cb H M r x) {n:Nat} (hi:WN n r) (hn:n<=900000):zu zf 289 [ptr x.rb] M (vi cb x r++c.ob) (fun u M' o=>M.le M'/\u= .bool (jj p r).2.2/\ ∃(x':Rd) (c':Co),x'.rb=x.rb/\o=vi cb x' (jj p r).2.1++c'.ob/\yO cb sb b (jj p r).1 H M' c'/\Wf cb H M' (jj p r).2.1 x'):=by
 have ov:=hr.one;obtain ⟨th,wy,to,key,look,ls,yd,done,has,val⟩:=r;cases done with
 |true=>
  rw [show jj p ⟨th,wy,to,key,look,ls,yd,true,has,val⟩=(p,⟨th,wy,to,key,look,ls,yd,true,has,val⟩,false) from rfl];dsimp only;rw [show vi cb x ⟨th,wy,to,key,look,ls,yd,true,has,val⟩= [.zK (ptr x.rb) 217 [.int .i64 wy, .int .i64 to,ptr cb,ptr x.hb, .string key,lc look,x.v, .bool yd, .bool true, .int .i64 0, .bool has, .string val, .slice none 0 0]] from rfl];refine xy (args:= [ptr x.rb]) (zO:= [.zK (ptr x.rb) 217 [.int .i64 wy, .int .i64 to,ptr cb,ptr x.hb, .string key,lc look,x.v, .bool yd, .bool true, .int .i64 0, .bool has, .string val, .slice none 0 0]]++c.ob) Tryz.func289 rfl Tryz.ntmps289 zd (fun F w M0 hF=>zz ?_)
  repeat' (refine nv ?_)
  exact ⟨_,[.zK (ptr x.rb) 217 [.int .i64 wy, .int .i64 to,ptr cb,ptr x.hb, .string key,lc look,x.v, .bool yd, .bool true, .int .i64 0, .bool has, .string val, .slice none 0 0]]++c.ob,zP,zE,zh,zq,zE,rfl,x,c,rfl,rfl,h,hr⟩
 |false=>
  cases look with
  |true=>
   have iv:Wf cb H M ⟨th,wy,to,key,true,ls,false,false,has,val⟩ x:=⟨hr.hand,hr.v,hr.one,hr.ls,hr.ok,hr.th⟩;have cL:=B6 h hb iv rfl ⟨hi.len,hi.ms,hi.key⟩ hn;rw [show vi cb x ⟨th,wy,to,key,true,ls,false,false,has,val⟩= [.zK (ptr x.rb) 217 [.int .i64 wy, .int .i64 to,ptr cb,ptr x.hb, .string key, .func (.func 139) #[] #[],x.v, .bool false, .bool false, .int .i64 0, .bool has, .string val, .slice none 0 0],Jf x] from rfl,wQ,wQ,Yn] at cL;rw [show vi cb x ⟨th,wy,to,key,true,ls,yd,false,has,val⟩= [.zK (ptr x.rb) 217 [.int .i64 wy, .int .i64 to,ptr cb,ptr x.hb, .string key, .func (.func 139) #[] #[],x.v, .bool yd, .bool false, .int .i64 0, .bool has, .string val, .slice none 0 0],Jf x] from rfl];rw [show jj p ⟨th,wy,to,key,true,ls,yd,false,has,val⟩=Jg p ⟨th,wy,to,key,true,ls,false,false,has,val⟩ from rfl];generalize Jg p ⟨th,wy,to,key,true,ls,false,false,has,val⟩=ZV at*;haveI:jI [Jf x]:=by unfold Jf;infer_instance
   unfold Jf at*;refine xy (args:= [ptr x.rb]) (zO:= [.zK (ptr x.rb) 217 [.int .i64 wy, .int .i64 to,ptr cb,ptr x.hb, .string key, .func (.func 139) #[] #[],x.v, .bool yd, .bool false, .int .i64 0, .bool has, .string val, .slice none 0 0], .zC x.v 141 1 x.ls.length (x.ls.flatMap ke)]++c.ob) Tryz.func289 rfl Tryz.ntmps289 zd (fun F w M0 hF=>zz ?_)
   repeat' (refine nv ?_)
   refine kcv cL zd ?_;rintro _ M2 _ zD-⟨-,rfl,x',c',U3,rfl,vk,D9⟩;refine zJ ?_
   repeat' (refine nv ?_)
   exact ⟨_,vi cb x' ZV.2.1++c'.ob,zP,zD,zh,zq,zD,rfl,x',c',U3,rfl,vk,D9⟩
  |false=>
   have iv:Wf cb H M ⟨th,wy,to,key,false,ls,false,false,has,val⟩ x:=⟨hr.hand,hr.v,hr.one,hr.ls,hr.ok,hr.th⟩;have cL:=B5 h iv rfl;rw [show vi cb x ⟨th,wy,to,key,false,ls,false,false,has,val⟩= [.zK (ptr x.rb) 217 [.int .i64 wy, .int .i64 to,ptr cb,ptr x.hb, .string key, .func (.func 119) #[] #[],x.v, .bool false, .bool false, .int .i64 0, .bool has, .string val, .slice none 0 0],Jf x] from rfl,wQ,wQ,Yn] at cL;rw [show vi cb x ⟨th,wy,to,key,false,ls,yd,false,has,val⟩= [.zK (ptr x.rb) 217 [.int .i64 wy, .int .i64 to,ptr cb,ptr x.hb, .string key, .func (.func 119) #[] #[],x.v, .bool yd, .bool false, .int .i64 0, .bool has, .string val, .slice none 0 0],Jf x] from rfl];rw [show jj p ⟨th,wy,to,key,false,ls,yd,false,has,val⟩=YS p ⟨th,wy,to,key,false,ls,false,false,has,val⟩ from rfl];generalize YS p ⟨th,wy,to,key,false,ls,false,false,has,val⟩=ZV at*;haveI:jI [Jf x]:=by unfold Jf;infer_instance
   unfold Jf at*;refine xy (args:= [ptr x.rb]) (zO:= [.zK (ptr x.rb) 217 [.int .i64 wy, .int .i64 to,ptr cb,ptr x.hb, .string key, .func (.func 119) #[] #[],x.v, .bool yd, .bool false, .int .i64 0, .bool has, .string val, .slice none 0 0], .zC x.v 141 1 x.ls.length (x.ls.flatMap ke)]++c.ob) Tryz.func289 rfl Tryz.ntmps289 zd (fun F w M0 hF=>zz ?_)
   repeat' (refine nv ?_)
   refine kcv cL zd ?_;rintro _ M2 _ zD-⟨hM,rfl,c',rfl,vk,D9⟩;refine zJ ?_
   repeat' (refine nv ?_)
   exact ⟨_,vi cb x ZV.2.1++c'.ob,zP,zD,zh,zq,zD,rfl,x,c',rfl,rfl,hM▸vk,hM▸D9⟩
end
section
open Go Go.RowKit
attribute [local irreducible] Calls
variable {cb:Nat} {M:Mem}
theorem TR (x:Rd) (r:gE): ∃G,uu (vi cb x r) [gI cb x r] G:=by
 unfold vi;split
 · exact ⟨[],⟨.refl _⟩⟩
 · exact ⟨[Jf x],⟨.refl _⟩⟩
theorem HJ {f:FuncId} {vs:List Value} {v:Value} {x:Rd} {r:gE} (h:zu zf f vs M [gI cb x r] (fun u M' o=>u=v/\M'=M/\o= [gI cb x r])):zu zf f vs M (vi cb x r) (fun u M' o=>u=v/\M'=M/\o=vi cb x r):=by
 obtain ⟨G,ht⟩:=TR (cb:=cb) x r;refine h.wide ht zh ?_;rintro u M' o-⟨rfl,rfl,rfl⟩;exact ⟨vi cb x r,ji.perm ht.h.symm,zh,rfl,rfl,rfl⟩
theorem f5 (x:Rd) (r:gE):zu zf 287 [ptr x.rb] M (vi cb x r) (fun u M' o=>u= .bool r.done/\M'=M/\o=vi cb x r):=by
 refine HJ ?_;unfold gI;refine xy Tryz.func287 rfl Tryz.ntmps287 zd (fun F w M0 hF=>zz ?_)
 repeat' (refine nv ?_)
 exact ⟨_,[.zK (ptr x.rb) 217 [.int .i64 r.wy, .int .i64 r.to,ptr cb,ptr x.hb, .string r.key,lc r.look,x.v, .bool r.yd, .bool r.done, .int .i64 0, .bool r.has, .string r.val, .slice none 0 0]],zP,zE,zh,zq,rfl,rfl,rfl⟩
theorem sD (x:Rd) (r:gE):zu zf 288 [ptr x.rb] M (vi cb x r) (fun u M' o=>u= .bool r.yd/\M'=M/\o=vi cb x r):=by
 refine HJ ?_;unfold gI;refine xy Tryz.func288 rfl Tryz.ntmps288 zd (fun F w M0 hF=>zz ?_)
 repeat' (refine nv ?_)
 exact ⟨_,[.zK (ptr x.rb) 217 [.int .i64 r.wy, .int .i64 r.to,ptr cb,ptr x.hb, .string r.key,lc r.look,x.v, .bool r.yd, .bool r.done, .int .i64 0, .bool r.has, .string r.val, .slice none 0 0]],zP,zE,zh,zq,rfl,rfl,rfl⟩
def B9 (r:gE):Bool×ByteArray:=if r.done=true then (r.has,r.val) else (false,em)
theorem oI (x:Rd) (r:gE):zu zf 286 [ptr x.rb] M (vi cb x r) (fun u M' o=>u= .agg #[.int .i64 0, .bool (B9 r).1, .string (B9 r).2, .slice none 0 0]/\M'=M/\o=vi cb x r):=by
 have cD:=f5 (cb:=cb) (M:=M) x r;unfold B9;cases hd:r.done with
 |false=>
  rw [hd] at cD;rw [zn yx];refine KC Tryz.func286 rfl Tryz.ntmps286 zd (fun F w M0 hF=>zz ?_)
  repeat' (first|refine yh (dst:=some 2) zh fun b2=>?_|refine uK cD ?_|refine nv ?_)
  exact ⟨_,vi cb x r,kB.one rfl (RV.agg zd),zE,zh,zq,rfl,rfl,rfl⟩
 |true=>
  rw [hd] at cD;rw [zo rfl];have e:vi cb x r= [.zK (ptr x.rb) 217 [.int .i64 r.wy, .int .i64 r.to,ptr cb,ptr x.hb, .string r.key,lc r.look,x.v, .bool r.yd, .bool true, .int .i64 0, .bool r.has, .string r.val, .slice none 0 0]]:=by unfold vi gI;rw [hd,zo rfl]
  rw [e] at cD⊢;refine KC Tryz.func286 rfl Tryz.ntmps286 zd (fun F w M0 hF=>zz ?_)
  repeat' (first|refine yh (dst:=some 2) zh fun b2=>?_|refine uK cD ?_|refine nv ?_)
  exact ⟨_,[.zK (ptr x.rb) 217 [.int .i64 r.wy, .int .i64 r.to,ptr cb,ptr x.hb, .string r.key,lc r.look,x.v, .bool r.yd, .bool true, .int .i64 0, .bool r.has, .string r.val, .slice none 0 0]],kB.one rfl (RV.agg zd),zE,zh,zq,rfl,rfl,rfl⟩
end
section
open Go Go.RowKit
inductive KnN where
 |top
 |take
 |look
 |last
 |check
structure qM where
 th:Int
 x:yW
 rest:yW
 sub:yW
 yt:Int
 left:Int
 seen:Int
 first:Bool
 fixed:Bool
 nx:KnN
 wy:Int
 to:Int
 ms:List xi
 out:List y6
 yd:Bool
 done:Bool
def Zj (p:jf) (s:qM):jf×qM:=({p with T:=Qf p.T s.th},{s with out:= [],rest:=s.x,first:=true,nx:= .top})
def uH (p:jf) (s:qM):jf×qM:=Zj p {s with fixed:=s.fixed||decide (s.left<=0),left:=s.left-1}
def Jn (p:jf) (s:qM):jf×qM×Bool:=
 if (kC p.T s.th 0 false).2=true then ({p with T:=(kC p.T s.th 0 false).1},{s with wy:= -1,to:=0,sub:=s.rest,ms:= [],nx:= .look},true)
 else ({p with T:=(kC p.T s.th 0 false).1},s,false)
def CJ (T:List qf) (s:qM):List qf:=if (s.fixed&&s.wy !=0)=true then V7 T s.th s.wy else T
def Zu (p:jf) (s:qM):jf×qM×Bool:=
 if (kC (CJ p.T s) s.th s.to false).2=true then ({p with T:=if s.fixed=true then (kC (CJ p.T s) s.th s.to false).1 else V7 (kC (CJ p.T s) s.th s.to false).1 s.th s.wy},{s with nx:= .look},true)
 else ({p with T:=(kC (CJ p.T s) s.th s.to false).1},s,false)
def xb (s:qM) (seen:Int):qM:=if s.first=true then {s with first:=false,seen:=seen} else s
def J3 (s:qM) (seen:Int):Bool:=seen !=(xb s seen).seen
def U2 (p:jf) (s:qM):jf×qM:=({p with T:=Qf p.T s.th},{s with yd:=true,done:=true})
def Zw (p:jf) (s:qM) (n:Nd):jf×qM:=
 let q:=ww n.rs s.sub s.ms s.rest.lo (s.yt-s.out.length);let s1:= {s with out:=s.out++q.1,rest:=Qb s.rest q.2.1};let agn:=q.2.2||empty s1.rest
 if s.fixed=true then (if agn=true then U2 p s1 else ({p with T:=if s.to=0 then p.T else V7 p.T s.th s.to},{s1 with nx:= .top}))
 else ({p with T:=Qf p.T s.th},{s1 with nx:=if agn=true then .last else .top})
def ai (p:jf) (s:qM) (n:Nd):jf×qM:=
 let s2:= {s with wy:=s.to,nx:=KnN.take}
 if tf n s.rest.lo=false then (p,{s2 with to:=n.right}) else
 let sub:=vT s.sub (Jc n);let ms:=if s.fixed=true then Jv s.ms sub n.seen else s.ms
 if n.level=0 then Zw p {s2 with sub:=sub,ms:=ms} n else
 (p,{s2 with ms:=wJ [ms,n.ms],sub:=vT sub (xL n.ps (jq n.ps s.rest.lo:Nat)),to:=n.ks.getD (jq n.ps s.rest.lo) 0})
def Zv (p:jf) (s:qM):jf×qM:=
 if s.to=0 then (if J3 s (p.q.get 0).seen=true then uH p (xb s (p.q.get 0).seen) else ai p (xb s (p.q.get 0).seen) (p.q.get 0))
 else ai p s (p.q.get s.to)
def Zx (p:jf) (s:qM):jf×qM×Bool:=
 if (kC p.T s.th 0 false).2=true then ({p with T:=(kC p.T s.th 0 false).1},{s with nx:= .check},true) else ({p with T:=(kC p.T s.th 0 false).1},s,false)
def vJ (p:jf) (s:qM):jf×qM:=if J3 s (p.q.get 0).seen=true then uH p (xb s (p.q.get 0).seen) else U2 p (xb s (p.q.get 0).seen)
def Fw (p:jf) (s:qM):jf×qM×Bool:=match s.nx with
 | .top=>Jn p s
 | .take=>Zu p s
 | .look=>((Zv p s).1,(Zv p s).2,true)
 | .last=>Zx p s
 | .check=>((vJ p s).1,(vJ p s).2,true)
def jF (p:jf) (s:qM):jf×qM×Bool:=if s.done=true then (p,s,false) else Fw p {s with yd:=false}
def Jo (p:jf) (th:Int) (x:yW) (yt yu:Int):jf×qM:=Zj p ⟨th,Kj x,EA,EA,yt,yu,0,false,decide (yu<0), .top,0,0,[],[],false,false⟩
end
section
open Go Go.RowKit
attribute [local irreducible] Calls
structure Kn where
 kb:Nat
 hb:Nat
 mv:Value
 ov:Value
def Fx:KnN->Value
 | .top=> .func (.func 141) #[] #[]
 | .take=> .func (.func 194) #[] #[]
 | .look=> .func (.func 162) #[] #[]
 | .last=> .func (.func 224) #[] #[]
 | .check=> .func (.func 242) #[] #[]
instance (n:KnN):xK (Fx n):=⟨by cases n<;>rfl⟩
abbrev kR (cb:Nat) (x:Kn) (s:qM):Ob:= .zK (ptr x.kb) 220 [ptr cb,ptr x.hb, .string s.x.lo, .string s.x.hi, .bool s.x.vx, .string s.rest.lo, .string s.rest.hi, .bool s.rest.vx, .string s.sub.lo, .string s.sub.hi, .bool s.sub.vx, .int .i64 s.yt, .int .i64 s.left, .int .i64 s.seen, .bool s.first, .bool s.fixed,Fx s.nx, .int .i64 s.wy, .int .i64 s.to,x.mv,x.ov, .bool s.yd, .bool s.done]
abbrev gL (cb:Nat) (x:Kn) (s:qM) (fn mv ov:Value):Ob:= .zK (ptr x.kb) 220 [ptr cb,ptr x.hb, .string s.x.lo, .string s.x.hi, .bool s.x.vx, .string s.rest.lo, .string s.rest.hi, .bool s.rest.vx, .string s.sub.lo, .string s.sub.hi, .bool s.sub.vx, .int .i64 s.yt, .int .i64 s.left, .int .i64 s.seen, .bool s.first, .bool s.fixed,fn, .int .i64 s.wy, .int .i64 s.to,mv,ov, .bool s.yd, .bool s.done]
abbrev xO (x:Kn) (s:qM):Ob:= .zC x.ov 54 2 s.out.length (s.out.flatMap zi)
def wq (cb:Nat) (x:Kn) (s:qM):List Ob:=if s.done=true then [kR cb x s] else [kR cb x s,xO x s]
theorem adu (cb:Nat) (x:Kn) (s:qM):jI (wq cb x s):=by unfold wq;split<;>infer_instance
instance (cb:Nat) (x:Kn) (s:qM):jI (wq cb x s):=adu cb x s
structure uX (cb:Nat) (H:List (Int×Nat)) (M:Mem) (s:qM) (x:Kn):Prop where
 hand:yU H s.th=some x.hb
 th:s.th<1000
 ms:xt M 6 zR x.mv s.ms
 out:s.done=false->j2 x.ov s.out.length
 fin:s.done=true->xt M 2 zi x.ov s.out
 one:xK x.ov
theorem uX.mono {cb:Nat} {H H':List (Int×Nat)} {M M':Mem} {s:qM} {x:Kn} (h:uX cb H M s x) (hH: ∀t y,yU H t=some y->yU H' t=some y) (hM:M.le M'):uX cb H' M' s x:=⟨hH _ _ h.hand,h.th,h.ms.mono hM,h.out,fun e=>(h.fin e).mono hM,h.one⟩
variable {cb sb:Nat} {b:Int} {p:jf} {H:List (Int×Nat)} {M:Mem} {c:Co}
theorem Kf (h:yO cb sb b p H M c) {s:qM} {x:Kn} (hr:uX cb H M s x) (hd:s.done=false) (fn:Value) [of:xK fn]:zu zf 120 [ptr x.kb] M (gL cb x s fn x.mv x.ov::xO x s::c.ob) (fun u M' o=>M'=M/\ ∃(x':Kn) (c':Co),x'.kb=x.kb/\o=kR cb x' (Zj p s).2::xO x' (Zj p s).2::c'.ob/\yO cb sb b (Zj p s).1 H M c'/\uX cb H M (Zj p s).2 x'):=by
 have cL:=V0 h hr.hand;have om:=hr.ms.yf;have oo:=hr.one;unfold Zj;dsimp only;refine xy Tryz.func120 rfl Tryz.ntmps120 zd (fun F w M0 hF=>zz ?_);refine uU 54 2 ?_
 repeat' (refine nv ?_)
 refine xQ cL ?_;rintro _ M2 _- -⟨hM,-,c1,rfl,h1⟩;subst hM;refine zJ ?_
 repeat' (refine nv ?_)
 exact ⟨_,gL cb x {s with out:= [],rest:=s.x,first:=true,nx:= .top} (.func (.func 141) #[] #[]) x.mv (.slice none 0 0):: .zC (.slice none 0 0) 54 2 0 []::c1.ob,yH.nil rfl,zE,zh,zq,rfl,⟨x.kb,x.hb,x.mv, .slice none 0 0⟩,c1,rfl,rfl,h1,⟨hr.hand,hr.th,hr.ms,fun _=> .inl ⟨rfl,rfl⟩,fun e=>(by rw [show ({s with out:= [],rest:=s.x,first:=true,nx:=KnN.top}:qM).done=s.done from rfl,hd] at e;cases e),⟨rfl⟩⟩⟩
theorem Ws (h:yO cb sb b p H M c) {s:qM} {x:Kn} (hr:uX cb H M s x) (hd:s.done=false) (hl: -1000000000000<=s.left/\s.left<=1000000000000):zu zf 193 [ptr x.kb] M (kR cb x s::xO x s::c.ob) (fun u M' o=>M'=M/\u= .bool true/\ ∃(x':Kn) (c':Co),x'.kb=x.kb/\o=kR cb x' (uH p s).2::xO x' (uH p s).2::c'.ob/\yO cb sb b (uH p s).1 H M c'/\uX cb H M (uH p s).2 x'):=by
 have om:=hr.ms.yf;have oo:=hr.one;unfold uH;cases d1:decide (s.left<=0) with
 |true=>
  rw [Bool.or_true];have cB:=Kf h (s:= {s with fixed:=true,left:=s.left-1}) (x:=x) ⟨hr.hand,hr.th,hr.ms,hr.out,hr.fin,hr.one⟩ hd (Fx s.nx);generalize Zj p {s with fixed:=true,left:=s.left-1}=ZV at*;refine xy Tryz.func193 rfl Tryz.ntmps193 zd (fun F w M0 hF=>zz ?_)
  repeat' (refine nv ?_)
  refine xQ cB ?_;rintro _ M2 _- -⟨hM,x',c',U3,rfl,vk,U5⟩;subst hM;refine zJ ?_
  repeat' (refine nv ?_)
  exact ⟨_,kR cb x' ZV.2::xO x' ZV.2::c'.ob,zP,zE,zh,zq,rfl,rfl,x',c',U3,rfl,vk,U5⟩
 |false=>
  rw [Bool.or_false];have cB:=Kf h (s:= {s with fixed:=s.fixed,left:=s.left-1}) (x:=x) ⟨hr.hand,hr.th,hr.ms,hr.out,hr.fin,hr.one⟩ hd (Fx s.nx);generalize Zj p {s with fixed:=s.fixed,left:=s.left-1}=ZV at*;refine xy Tryz.func193 rfl Tryz.ntmps193 zd (fun F w M0 hF=>zz ?_)
  repeat' (refine nv ?_)
  refine xQ cB ?_;rintro _ M2 _- -⟨hM,x',c',U3,rfl,vk,U5⟩;subst hM;refine zJ ?_
  repeat' (refine nv ?_)
  exact ⟨_,kR cb x' ZV.2::xO x' ZV.2::c'.ob,zP,zE,zh,zq,rfl,rfl,x',c',U3,rfl,vk,U5⟩
theorem BQ (h:yO cb sb b p H M c) {s:qM} {x:Kn} (hr:uX cb H M s x) (hd:s.done=false):zu zf 141 [ptr x.kb] M (kR cb x s::xO x s::c.ob) (fun u M' o=>M'=M/\u= .bool (Jn p s).2.2/\ ∃(x':Kn) (c':Co),x'.kb=x.kb/\o=kR cb x' (Jn p s).2.1::xO x' (Jn p s).2.1::c'.ob/\yO cb sb b (Jn p s).1 H M c'/\uX cb H M (Jn p s).2.1 x'):=by
 have om:=hr.ms.yf;have oo:=hr.one;have cT:=Y9 h hr.hand hr.th 0 false;unfold Jn;generalize kC p.T s.th 0 false=tq at*;obtain ⟨T1,ok⟩:=tq;dsimp only at*;cases ok with
 |false=>
  rw [zn yx];refine xy Tryz.func141 rfl Tryz.ntmps141 zd (fun F w M0 hF=>zz ?_)
  repeat' (refine nv ?_)
  refine xQ cT ?_;rintro _ M2 _- -⟨hM,rfl,c1,rfl,h1⟩;subst hM;refine zJ ?_
  repeat' (refine nv ?_)
  exact ⟨_,kR cb x s::xO x s::c1.ob,zP,zE,zh,zq,rfl,rfl,x,c1,rfl,rfl,h1,hr⟩
 |true=>
  rw [zo rfl];refine xy Tryz.func141 rfl Tryz.ntmps141 zd (fun F w M0 hF=>zz ?_)
  repeat' (refine nv ?_)
  refine xQ cT ?_;rintro _ M2 _- -⟨hM,rfl,c1,rfl,h1⟩;subst hM;refine zJ ?_
  repeat' (refine nv ?_)
  exact ⟨_,gL cb x {s with wy:= -1,to:=0,sub:=s.rest,ms:= [],nx:= .look} (.func (.func 162) #[] #[]) (.slice none 0 0) x.ov::xO x s::c1.ob,zP,zE,zh,zq,rfl,rfl,⟨x.kb,x.hb, .slice none 0 0,x.ov⟩,c1,rfl,rfl,h1,⟨hr.hand,hr.th,xt.nil _ _ _,hr.out,hr.fin,hr.one⟩⟩
end
section
open Go Go.RowKit
attribute [local irreducible] Calls
variable {cb sb:Nat} {b:Int} {p:jf} {H:List (Int×Nat)} {M:Mem} {c:Co}
theorem fT (h:yO cb sb b p H M c) {s:qM} {x:Kn} (hr:uX cb H M s x) (hd:s.done=false):zu zf 223 [ptr x.kb] M (kR cb x s::xO x s::c.ob) (fun u M' o=>M.le M'/\ ∃c':Co,o=kR cb x (U2 p s).2::c'.ob/\yO cb sb b (U2 p s).1 H M' c'/\uX cb H M' (U2 p s).2 x):=by
 have om:=hr.ms.yf;have oo:=hr.one;unfold U2;refine xy Tryz.func223 rfl Tryz.ntmps223 zd (fun F w M0 hF=>zz ?_);refine wG (zh:uw _ (.zC x.ov 54 2 s.out.length (s.out.flatMap zi)) _) fun M2 zD JP=>?_
 have gd:xt M2 2 zi x.ov s.out:=JP.YB (fun _ _=>rfl);have cL:=V0 (h.mono zD) hr.hand
 repeat' (refine nv ?_)
 refine xQ cL ?_;rintro _ M3 _- -⟨hM,-,c1,rfl,h1⟩;subst hM;refine zJ ?_
 repeat' (refine nv ?_)
 exact ⟨_,kR cb x {s with yd:=true,done:=true}::c1.ob,yH.nil rfl,zD,zh,zq,zD,c1,rfl,h1,⟨hr.hand,hr.th,hr.ms.mono zD,fun e=>(by cases e),fun _=>gd,hr.one⟩⟩
theorem sw (h:yO cb sb b p H M c) {s:qM} {x:Kn} (hr:uX cb H M s x) (hd:s.done=false):zu zf 224 [ptr x.kb] M (kR cb x s::xO x s::c.ob) (fun u M' o=>M'=M/\u= .bool (Zx p s).2.2/\ ∃c':Co,o=kR cb x (Zx p s).2.1::xO x (Zx p s).2.1::c'.ob/\yO cb sb b (Zx p s).1 H M c'/\uX cb H M (Zx p s).2.1 x):=by
 have om:=hr.ms.yf;have oo:=hr.one;have cT:=Y9 h hr.hand hr.th 0 false;unfold Zx;generalize kC p.T s.th 0 false=tq at*;obtain ⟨T1,ok⟩:=tq;dsimp only at*;cases ok with
 |false=>
  rw [zn yx];refine xy Tryz.func224 rfl Tryz.ntmps224 zd (fun F w M0 hF=>zz ?_)
  repeat' (refine nv ?_)
  refine xQ cT ?_;rintro _ M2 _- -⟨hM,rfl,c1,rfl,h1⟩;subst hM;refine zJ ?_
  repeat' (refine nv ?_)
  exact ⟨_,kR cb x s::xO x s::c1.ob,zP,zE,zh,zq,rfl,rfl,c1,rfl,h1,hr⟩
 |true=>
  rw [zo rfl];refine xy Tryz.func224 rfl Tryz.ntmps224 zd (fun F w M0 hF=>zz ?_)
  repeat' (refine nv ?_)
  refine xQ cT ?_;rintro _ M2 _- -⟨hM,rfl,c1,rfl,h1⟩;subst hM;refine zJ ?_
  repeat' (refine nv ?_)
  exact ⟨_,gL cb x s (.func (.func 242) #[] #[]) x.mv x.ov::xO x s::c1.ob,zP,zE,zh,zq,rfl,rfl,c1,rfl,h1,⟨hr.hand,hr.th,hr.ms,hr.out,hr.fin,hr.one⟩⟩
theorem Wq {s:qM} {x:Kn} (om:xK x.mv) (oo:xK x.ov) (n:Nd) (on:Hj (yr n)):zu zf 192 [ptr x.kb,n.av] M [kR cb x s] (fun u M' o=>u= .bool (J3 s n.seen)/\M'=M/\o= [kR cb x (xb s n.seen)]):=by
 unfold J3 xb;cases hf:s.first with
 |false=>
  rw [zn yx];refine xy Tryz.func192 rfl Tryz.ntmps192 zd (fun F w M0 hF=>zz ?_)
  repeat' (first|refine yZ zd zh fun bx=>?_|refine zU [] [] [] 1 yI zd zd ?_|refine nv ?_)
  repeat' (refine nu ?_)
  repeat' (refine nv ?_)
  exact ⟨_,[kR cb x s],zP,zE,zh,zq,rfl,rfl,rfl⟩
 |true=>
  rw [zo rfl];refine xy Tryz.func192 rfl Tryz.ntmps192 zd (fun F w M0 hF=>zz ?_)
  repeat' (first|refine yZ zd zh fun bx=>?_|refine zU [.v (ptr x.kb)] [6,9] [6] 1 yI zd zd ?_|refine nv ?_)
  repeat' (first|refine nu ?_|exact zx|refine nz ?_ ?_)
  repeat' (first|refine zU [] [] [] 1 yI zd zd ?_|refine nv ?_)
  repeat' (refine nu ?_)
  repeat' (refine nv ?_)
  exact ⟨_,[kR cb x {s with first:=false,seen:=n.seen}],zP,zE,zh,zq,rfl,rfl,rfl⟩
end
section
open Go Go.RowKit
attribute [local irreducible] Calls
variable {cb sb:Nat} {b:Int} {p:jf} {H:List (Int×Nat)} {M:Mem} {c:Co}
theorem ug {x:Kn} {s:qM} (hd:s.done=false):wq cb x s= [kR cb x s,xO x s]:=by unfold wq;rw [zn (by rw [hd];simp)]
theorem K1 {x:Kn} {s:qM} (hd:s.done=true):wq cb x s= [kR cb x s]:=by unfold wq;rw [zo hd]
theorem bT (s:qM) (v:Int):(xb s v).done=s.done/\(xb s v).th=s.th/\(xb s v).ms=s.ms/\(xb s v).out=s.out/\(xb s v).left=s.left:=by unfold xb;split<;>exact ⟨rfl,rfl,rfl,rfl,rfl⟩
theorem uX.meets {s:qM} {x:Kn} (h:uX cb H M s x) (v:Int):uX cb H M (xb s v) x:=by
 unfold xb;split
 · exact ⟨h.hand,h.th,h.ms,h.out,h.fin,h.one⟩
 · exact h
theorem oD (h:yO cb sb b p H M c) {s:qM} {x:Kn} (hr:uX cb H M s x) (hd:s.done=false) (hl: -1000000000000<=s.left/\s.left<=1000000000000):zu zf 242 [ptr x.kb] M (kR cb x s::xO x s::c.ob) (fun u M' o=>M.le M'/\u= .bool true/\ ∃(x':Kn) (c':Co),x'.kb=x.kb/\o=wq cb x' (vJ p s).2++c'.ob/\yO cb sb b (vJ p s).1 H M' c'/\uX cb H M' (vJ p s).2 x'):=by
 have om:=hr.ms.yf;have oo:=hr.one;have cS:=Xi h;have cN:=XV (c:=c) (uI h.st 0);unfold vJ;refine xy Tryz.func242 rfl Tryz.ntmps242 zd (fun F w M0 hF=>zz ?_)
 repeat' (first|refine uK cS ?_|refine nv ?_)
 refine xQ cN ?_;rintro _ M2 _ zD-⟨-,rfl,z,rfl,hz,jL⟩;refine zJ ?_;have oz:=zI hz;have h2:=h.mono zD;have pX:z.seen=(p.q.get 0).seen:=by rw [<-jL];rfl
 have KL:=(hr.mono (fun _ _ e=>e) zD).meets z.seen;have Tq:=Wq (cb:=cb) (M:=M2) (s:=s) (x:=x) om oo z oz;rw [<-pX];obtain ⟨q1,q2,q3,q4,q5⟩:=bT s z.seen;have e1:(xb s z.seen).out=s.out:=q4;cases kt:J3 s z.seen with
 |true=>
  rw [kt] at Tq;rw [zo rfl];have cA:=Ws h2 KL (q1.trans hd) (by rw [q5];exact hl);have Wc:(uH p (xb s z.seen)).2.done=false:=q1.trans hd;generalize uH p (xb s z.seen)=ZV at*;generalize xb s z.seen=s1 at*;have e2:xO x s1=xO x s:=by dsimp only [xO];rw [e1]
  rw [e2] at cA
  repeat' (first|refine yh (dst:=some 3) zh fun b3=>?_|refine uK Tq ?_|refine nv ?_)
  refine xQ cA ?_;rintro _ M3 _- -⟨hM,rfl,x',c',U3,rfl,vk,U5⟩;subst hM;refine zJ ?_
  repeat' (refine nv ?_)
  exact ⟨_,kR cb x' ZV.2::xO x' ZV.2::c'.ob,zP,zD,zh,zq,zD,rfl,x',c',U3,by rw [ug Wc];rfl,vk,U5⟩
 |false=>
  rw [kt] at Tq;rw [zn yx];have cE:=fT h2 KL (q1.trans hd);have Wc:(U2 p (xb s z.seen)).2.done=true:=rfl;generalize U2 p (xb s z.seen)=ZV at*;generalize xb s z.seen=s1 at*;have e2:xO x s1=xO x s:=by dsimp only [xO];rw [e1]
  rw [e2] at cE
  repeat' (first|refine yh (dst:=some 3) zh fun b3=>?_|refine uK Tq ?_|refine nv ?_)
  refine xQ cE ?_;rintro _ M3 _ yc-⟨-,c',rfl,vk,U5⟩;refine zJ ?_
  repeat' (refine nv ?_)
  have l3:=zD.trans yc;exact ⟨_,kR cb x ZV.2::c'.ob,zP,l3,zh,zq,l3,rfl,x,c',rfl,by rw [K1 Wc];rfl,vk,U5⟩
theorem sr (h:yO cb sb b p H M c) {s:qM} {x:Kn} (hr:uX cb H M s x) (hd:s.done=false):zu zf 194 [ptr x.kb] M (kR cb x s::xO x s::c.ob) (fun u M' o=>M'=M/\u= .bool (Zu p s).2.2/\ ∃c':Co,o=kR cb x (Zu p s).2.1::xO x (Zu p s).2.1::c'.ob/\yO cb sb b (Zu p s).1 H M c'/\uX cb H M (Zu p s).2.1 x):=by
 have om:=hr.ms.yf;have oo:=hr.one;unfold Zu CJ;cases hf:s.fixed with
 |true=>
  rw [XC];have C0:(!s.fixed)=false:=by rw [hf];rfl
  cases hn:(s.wy !=0) with
  |true=>
   rw [zo rfl];have cL:=eA h hr.hand s.wy;cases ju:(kC (V7 p.T s.th s.wy) s.th s.to false).2 with
   |true=>
    rw [zo rfl,zo rfl];refine xy eQ rfl eV zd (fun F w M0 hF=>zz ?_)
    repeat' (first|refine zU [.l c.ob] [8] [8] 1 yI zd zd ?_|refine nv ?_)
    repeat' (refine nu ?_)
    refine xF cL rfl ?_ zx;rintro _ M2 _- -⟨hM2,-,c1,rfl,Gf⟩;subst hM2;refine yJ ?_
    repeat' (refine nu ?_)
    have cT:=Y9 Gf hr.hand hr.th s.to false;dsimp only at cT;rw [ju] at cT
    repeat' (first|refine zU [.l c1.ob] [8,9] [8] 1 yI zd zd ?_|refine nv ?_)
    repeat' (refine nu ?_)
    refine xF cT rfl ?_ zx;rintro _ M3 _- -⟨tr,rfl,c2,rfl,tm⟩;subst tr;refine yJ ?_
    repeat' (first|refine nu ?_|exact zx|refine nz ?_ ?_)
    repeat' (refine nv ?_)
    exact ⟨_,gL cb x s (.func (.func 162) #[] #[]) x.mv x.ov::xO x s::c2.ob,zP,zE,zh,zq,rfl,rfl,c2,(by dsimp only [gL,kR];rw [hf];rfl),tm,⟨hr.hand,hr.th,hr.ms,hr.out,hr.fin,hr.one⟩⟩
   |false=>
    rw [zn yx];refine xy eQ rfl eV zd (fun F w M0 hF=>zz ?_)
    repeat' (first|refine zU [.l c.ob] [8] [8] 1 yI zd zd ?_|refine nv ?_)
    repeat' (refine nu ?_)
    refine xF cL rfl ?_ zx;rintro _ M2 _- -⟨hM2,-,c1,rfl,Gf⟩;subst hM2;refine yJ ?_
    repeat' (refine nu ?_)
    have cT:=Y9 Gf hr.hand hr.th s.to false;dsimp only at cT;rw [ju] at cT
    repeat' (first|refine zU [.l c1.ob] [8,9] [8] 1 yI zd zd ?_|refine nv ?_)
    repeat' (refine nu ?_)
    refine xF cT rfl ?_ zx;rintro _ M3 _- -⟨tr,rfl,c2,rfl,tm⟩;subst tr;refine yJ ?_
    repeat' (first|refine nu ?_|exact zx|refine nz ?_ ?_)
    repeat' (refine nv ?_)
    exact ⟨_,kR cb x s::xO x s::c2.ob,zP,zE,zh,zq,rfl,rfl,c2,rfl,tm,hr⟩
  |false=>
   rw [show (if (false:Bool)=true then V7 p.T s.th s.wy else p.T)=p.T from rfl];have cT:=Y9 h hr.hand hr.th s.to false;cases ju:(kC p.T s.th s.to false).2 with
   |true=>
    rw [ju] at cT;rw [zo rfl,zo rfl];refine xy eQ rfl eV zd (fun F w M0 hF=>zz ?_)
    repeat' (first|refine zU [.l c.ob] [8,9] [8] 1 yI zd zd ?_|refine nv ?_)
    repeat' (refine nu ?_)
    refine xF cT rfl ?_ zx;rintro _ M3 _- -⟨tr,rfl,c2,rfl,tm⟩;subst tr;refine yJ ?_
    repeat' (first|refine nu ?_|exact zx|refine nz ?_ ?_)
    repeat' (refine nv ?_)
    exact ⟨_,gL cb x s (.func (.func 162) #[] #[]) x.mv x.ov::xO x s::c2.ob,zP,zE,zh,zq,rfl,rfl,c2,(by dsimp only [gL,kR];rw [hf];rfl),tm,⟨hr.hand,hr.th,hr.ms,hr.out,hr.fin,hr.one⟩⟩
   |false=>
    rw [ju] at cT;rw [zn yx];refine xy eQ rfl eV zd (fun F w M0 hF=>zz ?_)
    repeat' (first|refine zU [.l c.ob] [8,9] [8] 1 yI zd zd ?_|refine nv ?_)
    repeat' (refine nu ?_)
    refine xF cT rfl ?_ zx;rintro _ M3 _- -⟨tr,rfl,c2,rfl,tm⟩;subst tr;refine yJ ?_
    repeat' (first|refine nu ?_|exact zx|refine nz ?_ ?_)
    repeat' (refine nv ?_)
    exact ⟨_,kR cb x s::xO x s::c2.ob,zP,zE,zh,zq,rfl,rfl,c2,rfl,tm,hr⟩
 |false=>
  rw [Ah,show (if (false:Bool)=true then V7 p.T s.th s.wy else p.T)=p.T from rfl];have C0:(!s.fixed)=true:=by rw [hf];rfl
  have cT:=Y9 h hr.hand hr.th s.to false;cases ju:(kC p.T s.th s.to false).2 with
  |true=>
   rw [ju] at cT;rw [zo rfl,zn (show ¬ (false=true) by simp)];refine xy eQ rfl eV zd (fun F w M0 hF=>zz ?_)
   repeat' (first|refine zU [.l c.ob] [8,9] [8] 1 yI zd zd ?_|refine nv ?_)
   repeat' (refine nu ?_)
   refine xF cT rfl ?_ zx;rintro _ M3 _- -⟨tr,rfl,c1,rfl,Gf⟩;subst tr;refine yJ ?_
   repeat' (first|refine nu ?_|exact zx|refine nz ?_ ?_)
   have cL:=eA Gf hr.hand s.wy;dsimp only at cL
   repeat' (first|refine zU [.l c1.ob] [8] [8] 1 yI zd zd ?_|refine nv ?_)
   repeat' (refine nu ?_)
   refine xF cL rfl ?_ zx;rintro _ M2 _- -⟨hM2,-,c2,rfl,tm⟩;subst hM2;refine yJ ?_
   repeat' (refine nu ?_)
   repeat' (refine nv ?_)
   exact ⟨_,gL cb x s (.func (.func 162) #[] #[]) x.mv x.ov::xO x s::c2.ob,zP,zE,zh,zq,rfl,rfl,c2,(by dsimp only [gL,kR];rw [hf];rfl),tm,⟨hr.hand,hr.th,hr.ms,hr.out,hr.fin,hr.one⟩⟩
  |false=>
   rw [ju] at cT;rw [zn (show ¬ (false=true) by simp)];refine xy eQ rfl eV zd (fun F w M0 hF=>zz ?_)
   repeat' (first|refine zU [.l c.ob] [8,9] [8] 1 yI zd zd ?_|refine nv ?_)
   repeat' (refine nu ?_)
   refine xF cT rfl ?_ zx;rintro _ M3 _- -⟨tr,rfl,c1,rfl,Gf⟩;subst tr;refine yJ ?_
   repeat' (first|refine nu ?_|exact zx|refine nz ?_ ?_)
   repeat' (refine nv ?_)
   exact ⟨_,kR cb x s::xO x s::c1.ob,zP,zE,zh,zq,rfl,rfl,c1,rfl,Gf,hr⟩
end
end Go.Proofs.YtaibdpjjojihmaaGreat
