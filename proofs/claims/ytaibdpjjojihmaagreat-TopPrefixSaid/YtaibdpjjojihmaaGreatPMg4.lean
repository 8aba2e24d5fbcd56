/- A part of the proof of TopPrefix; no conditions. -/
import Derived.Test.YtaibdpjjojihmaaGreatPDw
set_option linter.unusedVariables false
set_option linter.unusedSimpArgs false
set_option maxRecDepth 20000
set_option maxHeartbeats 4000000
namespace Go.Proofs.YtaibdpjjojihmaaGreat
section
open Go Go.RowKit
attribute [local irreducible] Calls
section
variable {P:Program} {w:World} {M0:Mem} {N:Nat} {M:Mem} {own zw xJ U K:List Ob} {env:Env} {dst:Option Tmp} {ty:TypeId} {pos:String} {z7:Array Edge} {l:List Oper} {Q:St->Prop} {n i:Nat} {xz ks e2:List Nat}
theorem Yc (h:(e2.all fun e=>xz.contains e)=false) (hs:gZ own U):ji own (Kp e2 xJ U xz):=by
 unfold Kp;rw [h];exact hs.h
theorem Jm (h:gZ own xJ) (hs:gZ xJ U):ji own (Kp e2 xJ U xz):=by
 unfold Kp;split
 · exact h.h
 · exact h.h.trans hs.h
theorem SB (h:Q ⟨M,own,env⟩):gA P w M0 N xJ U e2 l n [] ⟨M,own,env⟩ Q:=by
 cases n with
 |zero=>exact fun _=>h
 |succ n=>exact ⟨fun _=>h,fun i hi=>by simp at hi⟩
structure WL (P:Program) (w:World) (M0:Mem) (N:Nat) (xJ U:List Ob) (e2:List Nat) (l:List Oper) (n:Nat) (xz ks:List Nat) (s:St) (Q:St->Prop):Prop where
 go: ∀i∈ks,∀o,l[i]?=some o-> ∃(ι:Type) (M':ι->Mem) (zw:ι->List Ob) (v:ι->Value),XU P w M0 N l.toArray o s ι M' zw v/\yi N o.dst=true/\ ∀x,s.M.le (M' x)/\ji (zw x) (Kp e2 xJ U (xz.erase i))/\gA P w M0 N xJ U e2 l n (xz.erase i) ⟨M' x,zw x,s.env.put o.dst (.v (v x))⟩ Q
theorem zx {s:St}:WL P w M0 N xJ U e2 l n xz [] s Q:=⟨fun i hi=>by simp at hi⟩
theorem Vs {s:St} {o:Oper} (ι:Type) (M':ι->Mem) (zw:ι->List Ob) (v:ι->Value) (ho:l[i]?=some o) (he:XU P w M0 N l.toArray o s ι M' zw v) (hk:yi N o.dst=true)
 (h: ∀x,s.M.le (M' x)/\ji (zw x) (Kp e2 xJ U (xz.erase i))/\gA P w M0 N xJ U e2 l n (xz.erase i) ⟨M' x,zw x,s.env.put o.dst (.v (v x))⟩ Q) (h2:WL P w M0 N xJ U e2 l n xz ks s Q):WL P w M0 N xJ U e2 l n xz (i::ks) s Q:=⟨fun j hj p hp=>by
 rcases jm.1 hj with rfl|hj
 · rw [ho] at hp;obtain rfl:=qt hp;exact ⟨ι,M',zw,v,he,hk,h⟩
 · exact h2.go j hj p hp⟩
theorem Vu (d:Nat) {s:St} {k:Nat} (h:WL P w M0 N xJ U e2 l n (k::xz) ((k::xz).filter (TP d l (k::xz))) s Q) (hd:d<=4:=by decide):gA P w M0 N xJ U e2 l (n+1) (k::xz) s Q:=⟨fun e=>(by cases e),fun i hi o ho=>h.go i (ZE.2 ⟨(ZE.1 hi).1,by
 have h2:=(ZE.1 hi).2;unfold TQ at h2;unfold TP;refine yw.2 fun j hj=>?_
 have h3:=yw.1 h2 j hj;cases hb:Be l d i j with
 |false=>rfl
 |true=>rw [mX l d 4 i j hd hb] at h3;cases h3⟩) o ho⟩
theorem Vt {o:Oper} {v:Value} (ho:l[i]?=some o) (he:QW P w M0 N l.toArray o ⟨M,own,env⟩ (.v v)) (hk:yi N o.dst=true) (h:gA P w M0 N xJ U e2 l n (xz.erase i) ⟨M,own,env.put o.dst (.v v)⟩ Q) (h2:WL P w M0 N xJ U e2 l n xz ks ⟨M,own,env⟩ Q) (hs:ji own (Kp e2 xJ U (xz.erase i)):=by first|exact Yc zd zh|exact Jm zh zh):WL P w M0 N xJ U e2 l n xz (i::ks) ⟨M,own,env⟩ Q:=
 Vs _ _ _ _ ho (XU.q he) hk (fun _=>⟨zE,hs,h⟩) h2
theorem I2 {o:Oper} {v:Value} (ho:l[i]?=some o) (he:EW P w M0 N l.toArray o ⟨M,own,env⟩ zw (.v v)) (hk:yi N o.dst=true) (h:gA P w M0 N xJ U e2 l n (xz.erase i) ⟨M,zw,env.put o.dst (.v v)⟩ Q) (h2:WL P w M0 N xJ U e2 l n xz ks ⟨M,own,env⟩ Q) (hs:ji zw (Kp e2 xJ U (xz.erase i)):=by first|exact Yc zd zh|exact Jm zh zh):WL P w M0 N xJ U e2 l n xz (i::ks) ⟨M,own,env⟩ Q:=
 Vs _ _ _ _ ho (XU.ew he) hk (fun _=>⟨zE,hs,h⟩) h2
def VWn (P:Program) (w:World) (M0:Mem) (N:Nat) (xJ U:List Ob) (e2:List Nat) (l:List Oper) (n:Nat) (xz:List Nat) (s:St) (Q:St->Prop):Prop:=ji s.own (Kp e2 xJ U xz)/\gA P w M0 N xJ U e2 l n xz s Q
theorem yJ {zO F c:List Ob} [a:JO zO F c] (h:gA P w M0 N xJ U e2 l n xz ⟨M,c,env⟩ Q) (hs:ji c (Kp e2 xJ U xz):=by first|exact Yc zd zh|exact Jm zh zh):VWn P w M0 N xJ U e2 l n xz ⟨M,zO++F,env⟩ Q:=by
 rw [a.h];exact ⟨hs,h⟩
theorem xF {f:FuncId} {vs:List Value} {zO F:List Ob} {R:Value->Mem->List Ob->Prop} {xs:Array Operand} {qz:Array TypeId} [hf:zG P f] (hc:zu P f vs M zO R) (ho:l[i]?=some ⟨dst, .call ⟨.value (.func f),xs,qz⟩,ty,pos,z7,none⟩)
 (h: ∀v M' o,M.le M'->jI o->R v M' o->VWn P w M0 N xJ U e2 l n (xz.erase i) ⟨M',o++F,env.put dst (.v v)⟩ Q) (h2:WL P w M0 N xJ U e2 l n xz ks ⟨M,own,env⟩ Q) (hv:env.kP xs.toList=some vs:=by rfl) (ht:uu own zO F:=by infer_instance) (hn:jI own:=by infer_instance) (hk:yi N dst=true:=by rfl) (zV:yR env 0=true:=by rfl):WL P w M0 N xJ U e2 l n xz (i::ks) ⟨M,own,env⟩ Q:=by
 refine Vs {x:Value×Mem×List Ob//M.le x.2.1/\jI x.2.2/\R x.1 x.2.1 x.2.2} (fun x=>x.1.2.1) (fun x=>x.1.2.2++F) (fun x=>x.1.1) ho ⟨fun hd a W hR=>?_⟩ hk (fun x=>⟨x.2.1,(h _ _ _ x.2.1 x.2.2.1 x.2.2.2).1,(h _ _ _ x.2.1 x.2.2.1 x.2.2.2).2⟩) h2;rw [zo (by simp [Region.wanted])];rw [Va (P:=P) (w:=w) (M0:=M0) (N:=N) (s:=⟨M,own,env⟩) hv hd a W hR];simp only [kj];obtain ⟨Zy,h1⟩:=hR.1.KJ (zw:=zO++F) (ji.perm ht.h);exact (hc F (hn.J1 ht.h).right w M0 Zy W h1).mono fun e W' ⟨v,yE,o,M',he,hle,wK,Zl,hp⟩=>⟨v,he,⟨⟨v,M',o⟩,hle,wK,hp⟩,yE,Zl,rfl⟩
theorem YG {f:FuncId} {vs:List Value} {zO F post c:List Ob} {r:Value} {xs:Array Operand} {qz:Array TypeId} [hf:zG P f] (hc:zu P f vs M zO (fun u M' o=>u=r/\M'=M/\o=post)) (ho:l[i]?=some ⟨dst, .call ⟨.value (.func f),xs,qz⟩,ty,pos,z7,none⟩)
 (h:gA P w M0 N xJ U e2 l n (xz.erase i) ⟨M,c,env.put dst (.v r)⟩ Q) (h2:WL P w M0 N xJ U e2 l n xz ks ⟨M,own,env⟩ Q) (hv:env.kP xs.toList=some vs:=by rfl) (ht:uu own zO F:=by infer_instance) (ha:JO post F c:=by infer_instance) (hs:ji c (Kp e2 xJ U (xz.erase i)):=by first|exact Yc zd zh|exact Jm zh zh) (hn:jI own:=by infer_instance) (hk:yi N dst=true:=by rfl) (zV:yR env 0=true:=by rfl):WL P w M0 N xJ U e2 l n xz (i::ks) ⟨M,own,env⟩ Q:=
 xF hc ho (by rintro _ _ _- -⟨rfl,rfl,rfl⟩;rw [ha.h];exact ⟨hs,h⟩) h2 hv ht hn hk zV
theorem G9 {t:TypeId} {zs:List Value} (ho:l[i]?=some ⟨dst, .alloc t,ty,pos,z7,none⟩) [hz:aeO P t zs] (h: ∀b,gA P w M0 N xJ U e2 l n (xz.erase i) ⟨M, .zK (.pointer (some ⟨b,0,none⟩)) t zs::own,env.put dst (.v (.pointer (some ⟨b,0,none⟩)))⟩ Q) (h2:WL P w M0 N xJ U e2 l n xz ks ⟨M,own,env⟩ Q) (hs:ji own (Kp e2 xJ U (xz.erase i)):=by first|exact Yc zd zh|exact Jm zh zh) (hk:yi N dst=true:=by rfl):WL P w M0 N xJ U e2 l n xz (i::ks) ⟨M,own,env⟩ Q:=by
 obtain ⟨z,h1,h3⟩:=hz.h;exact Vs Nat (fun _=>M) (fun b=> .zK (.pointer (some ⟨b,0,none⟩)) t zs::own) (fun b=> .pointer (some ⟨b,0,none⟩)) ho ((XU.ex (xal (c:=fun b=>own++ [.zK (.pointer (some ⟨b,0,none⟩)) t zs]) h3 (fun b=>⟨rfl⟩))).KJ fun b=>ji.perm uQ) hk (fun b=>⟨zE,KU hs,h b⟩) h2
theorem aeS {t:TypeId} {x:Operand} {u:Value} {us:List Value} (ho:l[i]?=some ⟨dst, .box t x,ty,pos,z7,none⟩) (hx:env.op x=some (.v u)) (h: ∀b,gA P w M0 N xJ U e2 l n (xz.erase i) ⟨M, .zK (.pointer (some ⟨b,0,none⟩)) t us::own,env.put dst (.v (.pointer (some ⟨b,0,none⟩)))⟩ Q) (h2:WL P w M0 N xJ U e2 l n xz ks ⟨M,own,env⟩ Q) (hc:Le u us:=by infer_instance) (hs:ji own (Kp e2 xJ U (xz.erase i)):=by first|exact Yc zd zh|exact Jm zh zh) (hk:yi N dst=true:=by rfl):WL P w M0 N xJ U e2 l n xz (i::ks) ⟨M,own,env⟩ Q:=by
 refine Vs Nat (fun _=>M) (fun b=> .zK (.pointer (some ⟨b,0,none⟩)) t us::own) (fun b=> .pointer (some ⟨b,0,none⟩)) ho ⟨fun hd a W hR=>?_⟩ hk (fun b=>⟨zE,KU hs,h b⟩) h2;rw [zo (by simp [Region.wanted])];have h2:=hR.2.eval hx;simp only [SV.den] at h2
 have h1:(execOp a.eval ⟨dst, .box t x,ty,pos,z7,none⟩).run P W= .ok (.value (.pointer (some ⟨W.heap.size,0,none⟩))) (W.alloc (.cells u.cells t)):=by
  simp [execOp,Instr.box,h2,newVar,newRow]
 rw [h1]
 have hW:=hR.1.new (o':= .zK (.pointer (some ⟨W.heap.size,0,none⟩)) t us) (v':= .pointer (some ⟨W.heap.size,0,none⟩)) (rI W (.cells u.cells t) none) ⟨rfl,W.heap.size,rfl,hR.1.below.size,by rw [<-hc.h];simpa using JI W _⟩ (fun b hb=>by
  obtain rfl:W.heap.size=b:=by simpa [yX] using hb
  exact zN _)
 obtain ⟨uN,hW2⟩:=hW.KJ (zw:= .zK (.pointer (some ⟨W.heap.size,0,none⟩)) t us::own) (ji.perm uQ);exact ⟨W.heap.size,uN,hW2,rfl⟩
theorem Uc {t e:TypeId} {parts:Array (Nat×Operand)} {len k bytes:Nat} {vs us:List Value} (ho:l[i]?=some ⟨dst, .buildSlice t len parts,ty,pos,z7,none⟩) [hE:kr P t e k bytes] [hu:FlC vs us] (UG:env.kP (parts.toList.map (·.2))=some vs) (h: ∀u,j2 u len->gA P w M0 N xJ U e2 l n (xz.erase i) ⟨M, .zC u e k len us::own,env.put dst (.v u)⟩ Q) (h2:WL P w M0 N xJ U e2 l n xz ks ⟨M,own,env⟩ Q)
 (dC:parts.toList.map (·.1)=List.range' 0 vs.length:=by rfl) (y7:vs.length=len:=by rfl) (qG:Nat.ble (len*k) 1000000=true:=by rfl) (h1:(vs.all fun v=>v.cells.size==k)=true:=by rfl) (hs:ji own (Kp e2 xJ U (xz.erase i)):=by first|exact Yc zd zh|exact Jm zh zh) (hk:yi N dst=true:=by rfl):WL P w M0 N xJ U e2 l n xz (i::ks) ⟨M,own,env⟩ Q:=by
 obtain rfl:=hu.h;have hx:=XU.ex (Ho (P:=P) (w:=w) (M0:=M0) (N:=N) (ops:=l.toArray) (c:=fun u=>own++ [.zC u e k len (vs.flatMap fun v=>v.cells.toList)]) rfl (elK (P:=P) (w:=w) (M0:=M0) (N:=N) (dst:=dst) (ty:=ty) (pos:=pos) (z7:=z7) (g:=none) (M:=M) (own:=own) (env:=env) (t:=t) (parts:=parts) UG dC y7 qG h1) (fun u=>⟨rfl⟩));exact Vs {u:Value//j2 u len} (fun _=>M) (fun u=> .zC u.1 e k len (vs.flatMap fun v=>v.cells.toList)::own) (fun u=>u.1) ho (hx.KJ fun u=>ji.perm uQ) hk (fun u=>⟨zE,KU hs,h u.1 u.2⟩) h2
theorem aeT {t e:TypeId} {x y:Operand} {u:Value} {b2 o2 k n1 m c bytes:Nat} {xs us:List Value} {zw:List Ob} (ho:l[i]?=some ⟨dst, .call ⟨.builtin .append, #[x,y], #[t,t]⟩,ty,pos,z7,none⟩) [hE:kr P t e k bytes] (hx:env.op x=some (.v u)) (hy:env.op y=some (.v (.slice (some ⟨b2,o2,none⟩) m c)))
 (h: ∀v,j2 v (n1+m)->gA P w M0 N xJ U e2 l n (xz.erase i) ⟨M, .zC v e k (n1+m) (xs++us)::zw,env.put dst (.v v)⟩ Q) (h2:WL P w M0 N xJ U e2 l n xz ks ⟨M,own,env⟩ Q) (hr:nQ own u e k n1 xs zw) (hs:Y1 M own b2 o2 us) (hl:us.length=m*k) (hu:us.all (·.oneCell')=true) (h0:0<m) (gW:n1+m<=maxLen) (va:(n1+m)*bytes<=140737488355328) (hS:ji zw (Kp e2 xJ U (xz.erase i))) (hk:yi N dst=true:=by rfl) (zV:yR env 0=true:=by rfl):WL P w M0 N xJ U e2 l n xz (i::ks) ⟨M,own,env⟩ Q:=by
 refine Vs {v:Value//j2 v (n1+m)} (fun _=>M) (fun v=> .zC v.1 e k (n1+m) (xs++us)::zw) (fun v=>v.1) ho ⟨fun hd a W hR=>?_⟩ hk (fun v=>⟨zE,KU hS,h v.1 v.2⟩) h2;rw [zo (by simp [Region.wanted])];obtain ⟨v,W',uN,h1,h3,h4⟩:=HH (P:=P) (t:=t) (dst:=dst) (ty:=ty) (pos:=pos) (z7:=z7) (g:=none) hx hy hr.h hl hs hu h0 gW va zV hR;rw [h1];exact ⟨⟨v,h3⟩,uN,h4,rfl⟩
theorem V2 {t e:TypeId} {x y:Operand} {u:Value} {b2 k n1 c bytes:Nat} {xs us:List Value} {zw:List Ob} {o2:Ob} (ho:l[i]?=some ⟨dst, .call ⟨.builtin .append, #[x,y], #[t,t]⟩,ty,pos,z7,none⟩) [hE:kr P t e k bytes] (hx:env.op x=some (.v u)) (hy:env.op y=some (.v (.slice (some ⟨b2,0,none⟩) 1 c)))
 (h: ∀v,j2 v (n1+1)->gA P w M0 N xJ U e2 l n (xz.erase i) ⟨M, .zC v e k (n1+1) (xs++us)::zw,env.put dst (.v v)⟩ Q) (h2:WL P w M0 N xJ U e2 l n xz ks ⟨M,own,env⟩ Q) (hr:nQ own u e k n1 xs zw:=by infer_instance) (hs:Lc own b2 o2:=by infer_instance) (hc:afl o2 us:=by infer_instance) (hl:us.length=1*k:=by rfl) (hu:us.all (·.oneCell')=true:=by first|rfl|assumption) (gW:n1+1<=maxLen:=by unfold maxLen;omega) (va:(n1+1)*bytes<=140737488355328:=by omega) (hS:ji zw (Kp e2 xJ U (xz.erase i)):=by first|exact Yc zd zh|exact Jm zh zh) (hk:yi N dst=true:=by rfl) (zV:yR env 0=true:=by rfl):WL P w M0 N xJ U e2 l n xz (i::ks) ⟨M,own,env⟩ Q:=
 aeT ho hx hy h h2 hr (Y1.nft hc.h) hl hu ze gW va hS hk zV
theorem aeQ {ops:Array Oper} {ow:Nat->List Ob} {k:Nat} {es:List Nat} {Kx:Env->Prop} (h:Kx env):Ov P w M0 N ops ow k (bc es k []) M env Kx:=h
theorem amx {ops:Array Oper} {ow:Nat->List Ob} {k:Nat} {es:List Nat} {Kx:Env->Prop} {o:Oper} (hf:es.contains k=true) (h:Ov P w M0 N ops ow (k+1) (bc es (k+1) l) M env Kx):Ov P w M0 N ops ow k (bc es k (o::l)) M env Kx:=by
 unfold bc;rw [hf];exact h
theorem QW.KJ {ops:Array Oper} {o:Oper} {v:Value} (hs:ji own U) (hv:yR env 0=true) (h:QW P w M0 N ops o ⟨M,U,env⟩ (.v v)):QW P w M0 N ops o ⟨M,own,env⟩ (.v v):=⟨fun hd a W hR=>by
 obtain ⟨yE,hW⟩:=hR.1.KJ hs;exact h.go yE a W ⟨hW,hR.2.any hv yE⟩⟩
theorem X0 {ops:Array Oper} {d k:Nat} {ls:List Oper} {es:List Nat} {Kx:Env->Prop} {o:Oper} {v:Value} (hf:es.contains k=false) (hq:QW P w M0 N ops o ⟨M,U,env⟩ (.v v)) (hk:yi N o.dst=true) (h:Ov P w M0 N ops (Tc d ls e2 own U) (k+1) (bc es (k+1) l) M (env.put o.dst (.v v)) Kx) (hs:gZ own U:=by infer_instance) (hv:yR env 0=true:=by rfl):Ov P w M0 N ops (Tc d ls e2 own U) k (bc es k (o::l)) M env Kx:=by
 unfold bc;rw [hf];refine ⟨v,?_,hk,h⟩;unfold Tc;split
 · exact hq.KJ hs.h hv
 · exact hq
theorem amw {ops:Array Oper} {d k:Nat} {ls:List Oper} {es:List Nat} {Kx:Env->Prop} {o:Oper} {v:Value} (hf:es.contains k=false) (hE:(e2.all fun e=>Be ls d e k)=true) (hq:QW P w M0 N ops o ⟨M,own,env⟩ (.v v)) (hk:yi N o.dst=true) (h:Ov P w M0 N ops (Tc d ls e2 own U) (k+1) (bc es (k+1) l) M (env.put o.dst (.v v)) Kx):Ov P w M0 N ops (Tc d ls e2 own U) k (bc es k (o::l)) M env Kx:=by
 unfold bc;rw [hf];refine ⟨v,?_,hk,h⟩;unfold Tc;rw [zo hE];exact hq
theorem zU {id:Nat} {Q:zX} (bs:List Chg) (es e2:List Nat) (d:Nat) [hm:Oa P] [ht:rX own bs U] (hB:efB l (bc es 0 l)=true) (oW:Qe 0 (bc es 0 l)=es) (p7:(e2.all fun e=>es.contains e)=true) (hV:Ov P w M0 N l.toArray (Tc d l e2 own U) 0 (bc es 0 l) M env (fun tB=>gA P w M0 N own U e2 l l.length es ⟨M,own,tB⟩ (fun s=>Q .normal s)))
 (hn:jI own:=by infer_instance) (zV:yR env 0=true:=by rfl):VC P w M0 N (.region id l.toArray true) ⟨M,own,env⟩ Q:=by
 obtain ⟨C,h⟩:=ht.h;exact SI d _ es e2 (C:=C) ⟨h⟩ hn (sK es l 0) hB oW p7 zV hV
end
end
section
open Go Go.RowKit
attribute [local irreducible] Calls
theorem F2 (b c:Nat) (L:List qx) (i j:Nat) (x y:Int) (hx:x=i) (hy:y=j) (hi:i<L.length) (hj:j<L.length) (M:Mem) (ju: ∀h∈L,h.Ok M):zu zf 301 [.slice (some ⟨b,0,none⟩) L.length c, .int .i64 x, .int .i64 y] M [Js b c L] (fun u M' o=>u= .tuple #[]/\M'=M/\o= [Js b c (vQ L i j)]):=by
 subst hx hy;unfold Js;rw [ZI];have hk: ∀h:qx,(yT h).length=2:=fun _=>rfl
 have e1:=da hk L hi;have e2:=da hk L hj;have n1:=Di hk L hi;have n2:=Di hk L hj;have o1:L[i].v.oneCell'=true:=WZ (ju _ (yD hi)).1;have o2:L[j].v.oneCell'=true:=WZ (ju _ (yD hj)).1;have q1:(yT L[i]).all (·.oneCell')=true:=by show (L[i].v.oneCell'&&_)=true;rw [o1];rfl
 have q2:(yT L[j]).all (·.oneCell')=true:=by show (L[j].v.oneCell'&&_)=true;rw [o2];rfl
 have p1:=mr (cells:=yT) hk L hi L[j];have p2:=mr (cells:=yT) hk (L.set i L[j]) (j:=j) (by rw [xj];exact hj) L[i];rw [<-p1] at p2;have e3:(L.set i L[j]).set j L[i]=vQ L i j:=BF hi hj▸rfl;rw [e3] at p2;rw [<-p2];have n3:0+j*2+2<=(jT (L.flatMap yT) (0+i*2) (yT L[j])).length:=by rw [xA];exact n2
 clear p1 p2 e3;refine xy Tryz.func301 rfl Tryz.ntmps301 zd (fun F w M0 hF=>zz ?_);generalize L.flatMap yT=cs0 at*;have z1:(yT L[i]).length=2:=rfl;have z2:(yT L[j]).length=2:=rfl;generalize yT L[i]=h1 at*;generalize yT L[j]=h2 at*;refine qW [0] [7,11,13,15] yI zd zd ?_
 repeat' (first|refine YH zd _ (by exact Y4 (by first|exact zj i zd zd rfl hi|exact zj j zd zd rfl hj)) zd zd ?_|refine wF zd _ _ (by exact gm (by first|exact ah6 0 zd n1 (hu:=q2) (hz:=z2)|exact ah6 0 zd n3 (hu:=q1) (hz:=z1))) zd zd ?_ ?_|refine wF zd _ _ (by exact gm (fq (by first|exact Oi zd e1 n1|exact Oi zd e2 n2))) zd zd ?_ ?_|refine nf ?_|exact kz)
 all_goals exact ⟨_,[.zC (.slice (some ⟨b,0,none⟩) L.length c) 256 2 L.length (jT (jT cs0 (0+i*2) h2) (0+j*2) h1)],yH.nil rfl,zE,zh,ji.refl _,rfl,rfl,rfl⟩
abbrev ma (hb b c n:Nat):Ob:= .zK (.pointer (some ⟨hb,0,none⟩)) 253 [.slice (some ⟨b,0,none⟩) n c]
theorem MT (hb b c:Nat) (L:List qx) (x:qx) (hL:L.length<=1000000) (M:Mem) (ho:x.v.oneCell'=true):zu zf 299 [.pointer (some ⟨hb,0,none⟩)] M [ma hb b c (L++ [x]).length,Js b c (L++ [x])] (fun u M' o=>u= .iface 256 (.agg #[x.v, .int .i64 x.n])/\M'=M/\o= [ma hb b c L.length,Js b c L]):=by
 have hl:(L++ [x]).length=L.length+1:=by simp
 have hk: ∀h:qx,(yT h).length=2:=fun _=>rfl
 have e1:=da hk (L++ [x]) (i:=L.length) ze;have n1:=Di hk (L++ [x]) (i:=L.length) ze;rw [show (L++ [x])[L.length]'(by omega)=x from acP rfl _] at e1
 have ht:((L++ [x]).flatMap yT).take (L.length*2)=L.flatMap yT:=by
  rw [ve hk,ua]
 have q1:(yT x).all (·.oneCell')=true:=by show (x.v.oneCell'&&_)=true;rw [ho];rfl
 unfold Js ma;rw [hl];obtain ⟨xv,xl,xn⟩:=x;dsimp only [yT] at e1 q1 ho⊢;refine xy Tryz.func299 rfl Tryz.ntmps299 zd (fun F w M0 hF=>zz ?_);refine SN b fun eg=>?_
 have hcp:=(VK eg).1
 repeat' (first|refine kV (x:= .region 3 _ _) (fun s'=> ∃b2,vo s' ⟨M, .zC (.slice (some ⟨b,0,none⟩) (L.length+1) c) 256 2 (L.length+1) ((L++ [(⟨xv,xl,xn⟩:qx)]).flatMap yT):: .zK (.pointer (some ⟨b2,0,none⟩)) 256 [xv, .int .i64 xn]::ma hb b c L.length::F,[(4, .v (.pointer (some ⟨b2,0,none⟩)))]⟩) ?_ ?_|refine yh zh fun b2=>?_|((apply zA);(first|exact xG (z5 (Value.int .i64) (show ((L.length+1:Nat):Int)-1=(L.length:Int) by omega)) (yN zd zd (Qs ze ze))|exact zj L.length zd zd rfl ze|exact Oi zd e1 n1|exact xG (Z1 b L.length c 2) (yg 0 L.length c zd zd zd zd ze ze ze ze));rfl)|refine nw ?_)
 · exact ⟨rfl,_,xZ xc⟩
 · rintro s' ⟨b2,hs⟩;refine x8 _ hs ?_;refine nN (m:=L.length) ze ?_;rw [ht]
   repeat' (refine nw ?_)
   exact ⟨_,[ma hb b c L.length,Js b c L],zP,zE,zh,zq,rfl,rfl,rfl⟩
theorem F4 (hb:Nat) (u:Value) (L:List qx) (x:qx) (hL:L.length<=1000000) (M:Mem) (ho:x.v.oneCell'=true):zu zf 300 [.pointer (some ⟨hb,0,none⟩), .iface 256 (.agg #[x.v, .int .i64 x.n])] M [.zK (.pointer (some ⟨hb,0,none⟩)) 253 [u], .zC u 256 2 L.length (L.flatMap yT)] (fun r M' o=>r= .tuple #[]/\M'=M/\ ∃u2,j2 u2 (L.length+1)/\o= [.zK (.pointer (some ⟨hb,0,none⟩)) 253 [u2], .zC u2 256 2 (L.length+1) ((L++ [x]).flatMap yT)]):=by
 have q1:(yT x).all (·.oneCell')=true:=by show (x.v.oneCell'&&_)=true;rw [ho];rfl
 have e2:(L++ [x]).flatMap yT=L.flatMap yT++yT x:=by simp
 rw [e2];obtain ⟨xv,xl,xn⟩:=x;dsimp only [yT] at q1 ho⊢;generalize L.flatMap yT=cs0 at*;refine xy Tryz.func300 rfl Tryz.ntmps300 zd (fun F w M0 hF=>zz ?_)
 repeat' (refine zU [.v (ptr hb), .v u] [6,7,9] [7] 1 yI zd zd ?_)
 repeat' (first|(refine Uc rfl rfl (fun v1 P3=>?_) ?_;obtain ⟨b1,c1,rfl,kJ,Zk⟩:=xB P3 ze)|refine V2 rfl rfl rfl (fun v2 Th=>have o2:=j2.one Th;?_) ?_|refine nu ?_|exact zx|refine nz ?_ ?_)
 all_goals exact ⟨_,[.zK (.pointer (some ⟨hb,0,none⟩)) 253 [v2], .zC v2 256 2 (L.length+1) (cs0++ [xv, .int .i64 xn])],yH.nil rfl,zE,zh,zq,rfl,rfl,v2,Th,rfl⟩
end
section
open Go Go.RowKit
attribute [local irreducible] Calls
abbrev qY:Value:= .slice none 0 0
def bare (n:Nd):Nd:=⟨n.slot,n.level,qY,n.ps,qY,n.ks,n.high,n.top,n.right,n.seen,qY,n.ms,qY,n.rs⟩
def wZ:Nd:=⟨0,0,qY,[],qY,[],em,false,0,0,qY,[],qY,[]⟩
theorem vI (M:Mem):wZ.Ok M:=⟨xt.nil _ _ _,xt.nil _ _ _,xt.nil _ _ _,xt.nil _ _ _⟩
theorem Wd.fz {w:World} {M0 M:Mem} {hd:Nat->Value} {W:World} {v:Value} {e:TypeId} {k n:Nat} {cs:List Value} {own:List Ob} (h:Wd w M0 hd M (.zC v e k n cs::own) W): ∃M' yE,M.le M'/\ud M' k n cs v/\Wd w M0 yE M' own W:=by
 have hO:=h.own 0 _ rfl;obtain ⟨M',h1,h2,h3⟩:=X5 (i:=0) (e:=e) (k:=k) (n:=n) (cs:=cs) (h.vD (i:=0) (o':= .row e k n cs) rfl yx hO.2) rfl;rw [hO.1] at h2;obtain ⟨yE,h4⟩:=h3.KJ (zw:=own) ⟨[.gone],uQ (l₁:= [Ob.gone])⟩;exact ⟨M',yE,h1,h2,h4⟩
theorem qP (n:Nd) (M:Mem) (hn:n.Ok M) (hz:n.Tt):zu zf 89 [n.av] M [] (fun v M' o=>o= []/\ ∃m:Nd,v=m.av/\m.Ok M'/\bare m=bare n):=fun F hF w M0 hd W hW=>by
 have h:=zu.ofX (zO:= []) (zX:=D3 n) (fun M' hM'=>Md n M' (hn.mono hM') hz) (fun v o hp=>by
  obtain ⟨pv,kv,mv,rv,_,_,_,_,_,rfl⟩:=hp;infer_instance)
 refine (h F hF w M0 hd W hW).mono ?_;rintro e W' ⟨v,yE,zw,M',he,hle,wK,Zl,pv,kv,mv,rv,h1,h2,h3,h4,rfl,rfl⟩;obtain ⟨M1,Zy,l1,r1,w1⟩:=Zl.fz;obtain ⟨M2,uN,l2,r2,w2⟩:=w1.fz;obtain ⟨M3,hd3,l3,r3,w3⟩:=w2.fz;obtain ⟨M4,hd4,l4,r4,w4⟩:=w3.fz;refine ⟨_,hd4,[],M4,he,((hle.trans l1).trans l2).trans (l3.trans l4),zh,w4,rfl,⟨n.slot,n.level,pv,n.ps,kv,n.ks,n.high,n.top,n.right,n.seen,mv,n.ms,rv,n.rs⟩,rfl,⟨?_,?_,?_,?_⟩,rfl⟩
 · exact (ud.YB (cells:=zM) (fun _ _=>rfl) r1).mono ((l2.trans l3).trans l4)
 · exact (ud.YB (cells:=zF) (fun _ _=>rfl) r2).mono (l3.trans l4)
 · exact (ud.YB (cells:=zR) (fun _ _=>rfl) r3).mono l4
 · exact ud.YB (fun _ _=>rfl) r4
end
section
open Go Go.RowKit
section
variable {α β:Type} (f:α->β) {lt:α->α->Bool} {lt':β->β->Bool} (hf: ∀a b,lt' (f a) (f b)=lt a b)
theorem dP (L:List α) (i j:Nat):vQ (L.map f) i j=(vQ L i j).map f:=by
 unfold vQ;rw [qd,qd];cases L[i]?<;>cases L[j]?<;>simp [aR]
include hf
theorem sP (L:List α) (i j:Nat):Cv lt' (L.map f) i j=Cv lt L i j:=by
 unfold Cv;rw [qd,qd];cases L[i]?<;>cases L[j]?<;>simp [hf]
theorem PS (n:Nat) (L:List α) (i:Nat):bU lt' n (L.map f) i=bU lt n L i:=by unfold bU;rw [sP f hf]
theorem rr (n:Nat): ∀(g:Nat) (L:List α) (i:Nat),(Yf lt' n g (L.map f) i).1=(Yf lt n g L i).1.map f
 |0,L,i=>rfl
 |g+1,L,i=>by
  unfold Yf;rw [PS f hf,sP f hf,dP];split
  · rfl
  · split
    · exact rr n g _ _
    · rfl
theorem Hy: ∀(g:Nat) (L:List α) (i:Nat),D5 lt' g (L.map f) i=(D5 lt g L i).map f
 |0,L,i=>rfl
 |g+1,L,i=>by
  unfold D5;rw [sP f hf,dP];split
  · rfl
  · split
    · exact Hy g _ _
    · rfl
theorem Cd (L:List α):j8 lt' (L.map f)=(j8 lt L).map f:=by
 unfold j8;rw [yo,dP,rr f hf]
theorem pL (L:List α) (x:α):wX lt' (L.map f) (f x)=(wX lt L x).map f:=by
 unfold wX;rw [yo,<-Hy f hf,jo];rfl
end
def ZU (h:qx):qx:=⟨qY,h.l,h.n⟩
theorem bS (a b:qx):ZN (ZU a) (ZU b)=ZN a b:=rfl
def uh (ls:List (List xi)):Nat->List qx
 |0=> []
 |k+1=>if 0<(ls.getD k []).length then wX ZN (uh ls k) ⟨qY,ls.getD k [],(k:Nat)⟩ else uh ls k
def lw (L:List qx) (x:qx):List qx:=if 1<x.l.length then wX ZN (j8 ZN L).dropLast ⟨qY,x.l.drop 1,x.n⟩ else (j8 ZN L).dropLast
def YU:Nat->List qx->List xi
 |0,_=> []
 |f+1,L=>match (j8 ZN L).getLast? with
  |none=> []
  |some x=>x.l.getD 0 QI::YU f (lw L x)
def XM (L:List qx):Nat:=(L.map fun h=>h.l.length).sum
def X8 (ls:List (List xi)):Nat:=(ls.map List.length).sum
def wJ (ls:List (List xi)):List xi:=YU (X8 ls) (uh ls ls.length)
theorem py {a b:List qx} (h:a.Perm b):XM a=XM b:=(h.map _).sum_nat
theorem px (L:List qx) (x:qx):XM (wX ZN L x)=XM L+x.l.length:=by
 rw [py (Zq ZN L x)];unfold XM;simp
theorem dM (L:List qx):XM (L.map ZU)=XM L:=by unfold XM;rw [XB];rfl
theorem By {L:List qx} {x:qx} (hx:j8 ZN L=(j8 ZN L).dropLast++ [x]):XM L=XM (j8 ZN L).dropLast+x.l.length:=by
 rw [<-py (ue ZN L)]
 conv=>lhs;rw [hx]
 unfold XM;simp
theorem Hz (ls:List (List xi)): ∀k,XM (uh ls k)=X8 (ls.take k)
 |0=>rfl
 |k+1=>by
  have ih:=Hz ls k
  have e:X8 (ls.take (k+1))=X8 (ls.take k)+(ls.getD k []).length:=by
   rcases yq k ls.length with h|h
   · rw [vF h,dv,jA h];unfold X8;rw [jo,xw,uo,GN,List.sum_cons,List.sum_nil];rfl
   · rw [wD ze,wD ze,dv,dq ze];rfl
  rw [e,<-ih,show uh ls (k+1)=if 0<(ls.getD k []).length then wX ZN (uh ls k) ⟨qY,ls.getD k [],(k:Nat)⟩ else uh ls k from rfl];split
  · rw [px]
  · rename_i h;omega
theorem Lo {L:List qx} {x:qx} (h0:0<x.l.length) (hx:j8 ZN L=(j8 ZN L).dropLast++ [x]):XM L=XM (lw L x)+1:=by
 rw [By hx];unfold lw;split
 · rw [px];show _=_+(x.l.drop 1).length+1;rw [kI];omega
 · omega
theorem Cu {L:List qx} {x:qx} (f:Nat) (hx:j8 ZN L=(j8 ZN L).dropLast++ [x]):YU (f+1) L=x.l.getD 0 QI::YU f (lw L x):=by
 conv=>lhs;unfold YU
 rw [hx,List.getLast?_append];rfl
theorem Fc (f:Nat):YU f []= []:=by cases f<;>rfl
theorem df {α β:Type} (f:α->β) (l:List α):(l.map f).dropLast=l.dropLast.map f:=by
 rw [List.dropLast_eq_take,List.dropLast_eq_take,yo,eX]
theorem L1 {L:List qx} {x:qx} (hx:j8 ZN L=(j8 ZN L).dropLast++ [x]):j8 ZN (L.map ZU)=(j8 ZN (L.map ZU)).dropLast++ [ZU x]:=by
 rw [Cd ZU bS,df]
 conv=>lhs;rw [hx]
 rw [jo];rfl
theorem E4 (L:List qx) (x:qx) (v:Value):lw (L.map ZU) (ZU x)=(if 1<x.l.length then wX ZN (j8 ZN L).dropLast ⟨v,x.l.drop 1,x.n⟩ else (j8 ZN L).dropLast).map ZU:=by
 unfold lw;rw [Cd ZU bS,df];show (if 1<x.l.length then _ else _)=_;split
 · exact pL ZU bS _ ⟨v,x.l.drop 1,x.n⟩
 · rfl
theorem ag: ∀(f:Nat) (L:List qx),(YU f L).length<=f
 |0,_=>zN _
 |f+1,L=>by
  unfold YU;split
  · exact zW _
  · have:=ag f;rw [xd];exact GV (this _)
end
end Go.Proofs.YtaibdpjjojihmaaGreat
