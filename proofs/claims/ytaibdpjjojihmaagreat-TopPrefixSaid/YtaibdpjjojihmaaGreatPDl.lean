/- A part of the proof of TopPrefix; no conditions. -/
import Derived.Test.YtaibdpjjojihmaaGreatPFr
import Derived.Test.YtaibdpjjojihmaaGreatPIn1
set_option linter.unusedVariables false
set_option linter.unusedSimpArgs false
set_option maxRecDepth 20000
set_option maxHeartbeats 4000000
namespace Go.Proofs.YtaibdpjjojihmaaGreat
section
open Go Go.RowKit
attribute [local irreducible] Calls
abbrev zF (n:Int):List Value:= [.int .i64 n]
theorem LP (v u:Value) (l m:List y6) (w:World) (hl:Sl w 2 zi v l) (hm:Sl w 2 zi u m):
 Calls zf 30 #[v,u] w fun e w'=>e= .returned (.bool (decide (l=m)))/\Below w.heap.size w w':=by
 obtain ⟨A,c,rfl,vK,qD,_⟩:=id hl;obtain ⟨B,c',rfl,Zy,uN,_⟩:=id hm;have hM:=hl.KI;have hN:=hm.KI;unfold maxLen at qD uN;by_cases y7:l.length=m.length
 · have jt:((l.length:Int) !=(m.length:Int))=false:=by rw [y7];simp
   refine zQ Tryz.func30 rfl Tryz.ntmps30 zd (zE) ?_
   repeat' (refine vw ?_)
   refine kU (fun k:Nat=>⟨Mem.of w,[],[(0, .v (.slice A l.length c)),(1, .v (.slice B m.length c')),(5, .v (.int .i64 k))]⟩) (fun k=>k<=l.length/\l.take k=m.take k) (fun k=>l.length-k) [] 0 ⟨rfl,rfl,trivial,ka⟩ ⟨ze,rfl⟩ ?_;rintro k ⟨hk,he⟩;rcases yq k l.length with z9|ql
   · have hd:=Xp z9;have Re:k<m.length:=ze;obtain ⟨b,off,rfl,jk⟩:=hM.get z9;obtain ⟨b',aaf,rfl,iA⟩:=hN.get Re;by_cases hq:l[k]=m[k]
     · have ee:(!eqv l[k] m[k])=false:=by rw [hq];first|(unfold eqv;simp)|simp
       repeat' (first|((first|apply zA|apply Ze);(first|exact zj (k) zd zd ze ze|exact zZ _ zd jk _ zd|exact zZ _ zd iA _ zd);rfl)|refine vw ?_)
       exact yL (Q:=fun _ _=>True) [] (k+1) ⟨rfl,rfl,trivial,ka⟩ ⟨ze,by rw [vF z9,vF Re,he,hq]⟩ ze
     · have ee:(!eqv l[k] m[k])=true:=by first|(unfold eqv;simp [hq])|simp [hq]
       repeat' (first|((first|apply zA|apply Ze);(first|exact zj (k) zd zd ze ze|exact zZ _ zd jk _ zd|exact zZ _ zd iA _ zd);rfl)|refine vw ?_)
       show yH _ _ _ _;refine yH.one zd (zy zd ?_);refine z5 Value.bool ?_;refine (z6 fun e=>?_).symm;subst e;exact hq rfl
   · have hd:=Xq ql;have h1:k=l.length:=ze
     repeat' (refine vw ?_)
     show yH _ _ _ _;refine yH.one zd (zy zd ?_);refine z5 Value.bool ?_;refine (yk ?_).symm;rw [h1,xk,y7,xk] at he;exact he
 · have jt:((l.length:Int) !=(m.length:Int))=true:=by
    rw [bne_iff_ne];omega
   refine zQ Tryz.func30 rfl Tryz.ntmps30 zd (zE) ?_
   repeat' (refine vw ?_)
   show yH _ _ _ _;refine yH.one zd (zy zd ?_);refine z5 Value.bool ?_;exact (z6 fun e=>y7 (by rw [e])).symm
theorem oA (v u:Value) (l m:List y6) (w:World) (hl:Sl w 2 zi v l) (hm:Sl w 2 zi u m):
 Calls zf 31 #[v,u] w fun e w'=>e= .returned (.bool (decide (l=m)))/\Below w.heap.size w w':=by
 obtain ⟨A,c,rfl,vK,qD,_⟩:=id hl;obtain ⟨B,c',rfl,Zy,uN,_⟩:=id hm;have hM:=hl.KI;have hN:=hm.KI;unfold maxLen at qD uN;by_cases y7:l.length=m.length
 · have jt:((l.length:Int) !=(m.length:Int))=false:=by rw [y7];simp
   refine zQ Tryz.func31 rfl Tryz.ntmps31 zd (zE) ?_
   repeat' (refine vw ?_)
   refine kU (fun k:Nat=>⟨Mem.of w,[],[(0, .v (.slice A l.length c)),(1, .v (.slice B m.length c')),(12, .v (.int .i64 l.length)),(13, .v (.int .i64 k))]⟩) (fun k=>k<=l.length/\l.take k=m.take k) (fun k=>l.length-k) [] 0 ⟨rfl,rfl,trivial,jY⟩ ⟨ze,rfl⟩ ?_;rintro k ⟨hk,he⟩;rcases yq k l.length with z9|ql
   · have hd:=Xp z9;have Re:k<m.length:=ze;obtain ⟨b,off,rfl,jk⟩:=hM.get z9;obtain ⟨b',aaf,rfl,iA⟩:=hN.get Re;by_cases hq:l[k]=m[k]
     · have ee:(!eqv l[k] m[k])=false:=by rw [hq];first|(unfold eqv;simp)|simp
       repeat' (first|((first|apply zA|apply Ze);(first|exact zj (k) zd zd ze ze|exact zZ _ zd jk _ zd|exact zZ _ zd iA _ zd);rfl)|refine vw ?_)
       exact yL (Q:=fun _ _=>True) [] (k+1) ⟨rfl,rfl,trivial,jY⟩ ⟨ze,by rw [vF z9,vF Re,he,hq]⟩ ze
     · have ee:(!eqv l[k] m[k])=true:=by first|(unfold eqv;simp [hq])|simp [hq]
       repeat' (first|((first|apply zA|apply Ze);(first|exact zj (k) zd zd ze ze|exact zZ _ zd jk _ zd|exact zZ _ zd iA _ zd);rfl)|refine vw ?_)
       show yH _ _ _ _;refine yH.one zd (zy zd ?_);refine z5 Value.bool ?_;refine (z6 fun e=>?_).symm;subst e;exact hq rfl
   · have hd:=Xq ql;have h1:k=l.length:=ze
     repeat' (refine vw ?_)
     show yH _ _ _ _;refine yH.one zd (zy zd ?_);refine z5 Value.bool ?_;refine (yk ?_).symm;rw [h1,xk,y7,xk] at he;exact he
 · have jt:((l.length:Int) !=(m.length:Int))=true:=by
    rw [bne_iff_ne];omega
   refine zQ Tryz.func31 rfl Tryz.ntmps31 zd (zE) ?_
   repeat' (refine vw ?_)
   show yH _ _ _ _;refine yH.one zd (zy zd ?_);refine z5 Value.bool ?_;exact (z6 fun e=>y7 (by rw [e])).symm
theorem Cs (v u:Value) (l m:List y6) (w:World) (hl:Sl w 2 zi v l) (hm:Sl w 2 zi u m):
 Calls zf 12 #[v,u] w fun e w'=>e= .returned (.bool (decide (l=m)))/\Below w.heap.size w w':=by
 have hM:=hl.KI;have hN:=hm.KI;have c1:=fun W hW=>oA v u l m W (hM.xS hW) (hN.xS hW)
 refine zQ Tryz.func12 rfl Tryz.ntmps12 zd (zE) ?_
 repeat' (first|((apply zA);(exact zm zd c1);rfl)|refine vw ?_)
 show yH _ _ _ _;refine yH.one zd (zy zd ?_);rfl
structure Nd where
 slot:Int
 level:Int
 pv:Value
 ps:List ByteArray
 kv:Value
 ks:List Int
 high:ByteArray
 top:Bool
 right:Int
 seen:Int
 mv:Value
 ms:List xi
 rv:Value
 rs:List y6
abbrev Nd.av (s:Nd):Value:= .agg #[.int .i64 s.slot, .int .i64 s.level,s.pv,s.kv, .string s.high, .bool s.top, .int .i64 s.right, .int .i64 s.seen,s.mv,s.rv]
def Nd.Ok (M:Mem) (n:Nd):Prop:=xt M 1 zM n.pv n.ps/\xt M 1 zF n.kv n.ks/\xt M 6 zR n.mv n.ms/\xt M 2 zi n.rv n.rs
theorem Nd.Ok.mono {M M':Mem} {n:Nd} (h:n.Ok M) (hle:M.le M'):n.Ok M':=⟨h.1.mono hle,h.2.1.mono hle,h.2.2.1.mono hle,h.2.2.2.mono hle⟩
def Jc (n:Nd):yW:=if n.top=true then all else Kj ⟨em,n.high,false⟩
def tf (n:Nd) (k:ByteArray):Bool:=n.top||lt k n.high
theorem MW (n:Nd) (k:ByteArray):has (Jc n) k=tf n k:=by
 unfold Jc tf;cases n.top with
 |true=>rw [zo rfl,aaO];rfl
 |false=>
  rw [zn yx,C7];unfold has;rw [PB];rfl
theorem pR (n:Nd) (w:World):Calls zf 190 #[n.av] w fun e w'=>e= .returned ((Jc n).av)/\Below w.heap.size w w':=by
 have cA:=fun W=>bD W
 have cN:=fun W=>ZK ⟨em,n.high,false⟩ W
 unfold Jc;rcases XK n.top with ht|ht
 · rw [zo ht];refine zQ Tryz.func190 rfl Tryz.ntmps190 zd (Mem.xE _) ?_
   repeat' (first|((apply zA);(exact zm zd (fun W _=>cA W));rfl)|refine vw ?_)
   show yH _ _ _ _;refine yH.one zd (xr zd zd _ zd ?_);rfl
 · rw [zn (by rw [ht];simp)];refine zQ Tryz.func190 rfl Tryz.ntmps190 zd (Mem.xE _) ?_
   repeat' (first|((apply zA);(exact zm zd (fun W _=>cN W));rfl)|refine vw ?_)
   show yH _ _ _ _;refine yH.one zd (xr zd zd _ zd ?_);rfl
theorem Cn (n:Nd) (k:ByteArray) (w:World):Calls zf 159 #[n.av, .string k] w fun e w'=>e= .returned (.bool (tf n k))/\Below w.heap.size w w':=by
 have c1:=fun W=>pR n W
 have c2:=fun W=>KP (Jc n) k W
 refine zQ Tryz.func159 rfl Tryz.ntmps159 zd (Mem.xE _) ?_
 repeat' (first|((apply zA);(first|exact zm zd (fun W _=>c1 W)|exact zm zd (fun W _=>c2 W));rfl)|refine vw ?_)
 show yH _ _ _ _;refine yH.one zd (zy zd ?_);rw [MW]
def kE (c:qn) (n:Nd):Bool:=if (n.level==0)=true then decide (c.leaf<=(n.rs.length:Int)) else decide (c.jz<=(n.ks.length:Int))
theorem wo (c:qn) (n:Nd) (w:World) (hn:n.Ok (Mem.of w)):Calls zf 152 #[c.av,n.av] w fun e w'=>e= .returned (.bool (kE c n))/\Below w.heap.size w w':=by
 obtain ⟨slot,level,pv,ps,kv,ks,high,top,right,seen,mv,ms,rv,rs⟩:=n;dsimp only [Nd.Ok,kE] at hn⊢;obtain ⟨_,⟨B,d,rfl,_⟩,_,⟨A,c',rfl,_⟩⟩:=hn;cases hl:(level==0) with
 |true=>
  refine zQ Tryz.func152 rfl Tryz.ntmps152 zd (Mem.xE _) ?_
  repeat' (refine vw ?_)
  show yH _ _ _ _;refine yH.one zd (zy zd ?_);rfl
 |false=>
  refine zQ Tryz.func152 rfl Tryz.ntmps152 zd (Mem.xE _) ?_
  repeat' (refine vw ?_)
  show yH _ _ _ _;refine yH.one zd (zy zd ?_);rfl
theorem Mb (slot:Int) (w:World):Calls zf 81 #[.int .i64 slot] w fun e w'=>e= .returned (.agg #[.int .i64 slot, .int .i64 0, .slice none 0 0, .slice none 0 0, .string em, .bool true, .int .i64 (-1), .int .i64 0, .slice none 0 0, .slice none 0 0])/\Below w.heap.size w w':=by
 refine zQ Tryz.func81 rfl Tryz.ntmps81 zd (Mem.xE _) ?_
 repeat' (refine vw ?_)
 show yH _ _ _ _;refine yH.one zd (xr zd zd _ zd ?_);rfl
end
section
open Go Go.RowKit
attribute [local irreducible] Calls
section
variable {α:Type}
theorem eG {l:List α} {k:Nat} (h:k<l.length) (p:α->Bool):(l.take (k+1)).all p=((l.take k).all p&&p l[k]):=by
 rw [vF h,Al];simp
def lU (p:α->Bool) (l:List α):Int:=match l.findIdx? p with|some i=>i|none=> -1
theorem bY {p:α->Bool} {l:List α} {k:Nat} (h:k<l.length) (h1:(l.take k).all (fun m=>!p m)=true) (h2:p l[k]=true):lU p l=k:=by
 have:l.findIdx? p=some k:=by
  rw [Sn];refine ⟨h,h2,fun j hj=>?_⟩
  have:=yw.1 h1 l[j] (by
   rw [gz];exact ⟨j,ze,rfl⟩)
  simpa using this
 unfold lU;rw [this]
theorem VP {p:α->Bool} {l:List α} (h1:l.all (fun m=>!p m)=true):lU p l= -1:=by
 have:l.findIdx? p=none:=by
  rw [rQ];intro x hx;have:=yw.1 h1 x hx;simpa using this
 unfold lU;rw [this]
theorem PY (p:α->Bool) (l:List α):decide (0<=lU p l)=l.any p:=by
 cases h:l.any p with
 |false=>
  rw [VP (by
   refine yw.2 fun x hx=>?_
   have:=List.any_eq_false.1 h x hx;simpa using this)]
  rfl
 |true=>
  unfold lU;cases hf:l.findIdx? p with
  |none=>
   rw [rQ] at hf;obtain ⟨x,hx,hp⟩:=Aq.1 h;rw [hf x hx] at hp;cases hp
  |some i=>simp
end
def vC (ps:List ByteArray) (ks:List Int):Bool:=Xv ps&&((ks.length:Int)==(ps.length:Int)+1)
theorem XY (v u:Value) (ps:List ByteArray) (ks:List Int) (w:World) (hl:SlS w v ps) (hk:Sl w 1 zF u ks) (hn:ps.length<=1000000000):
 Calls zf 122 #[v,u] w fun e w'=>e= .returned (.bool (vC ps ks))/\Below w.heap.size w w':=by
 obtain ⟨A,c,rfl,vK,qD,_⟩:=id hl;obtain ⟨B,d,rfl,Zy,uN,_⟩:=id hk;have hM:=hl.KI;unfold maxLen at qD uN;refine zQ Tryz.func122 rfl Tryz.ntmps122 zd (zE) ?_
 repeat' (refine vw ?_)
 refine kU (fun k:Nat=>⟨Mem.of w,[],[(0, .v (.slice A ps.length c)),(1, .v (.slice B ks.length d)),(5, .v (.int .i64 k))]⟩) (fun k=>1<=k/\(k<=ps.length\/k=1)/\WK (EM ps) k=true) (fun k=>ps.length+1-k) [] 1 ⟨rfl,rfl,trivial,ka⟩ ⟨ze,ze,rfl⟩ ?_;rintro k ⟨gR,Ul,hr⟩;rcases yq k ps.length with z9|ql
 · obtain ⟨b,off,rfl,jk⟩:=hM.get z9;have MQ:k-1<ps.length:=ze;obtain ⟨b',aaf,he,iA⟩:=hM.get MQ;injection he with he;injection he with Iq p7;subst Iq p7;have hd:=Xp z9;have hp:EM ps k=lt ps[k-1] ps[k]:=by unfold EM;rw [qO z9,qO MQ,z6 ze,nC]
   cases hc:lt ps[k-1] ps[k] with
   |false=>
    rw [hc] at hp;have vk:(!lt ps[k-1] ps[k])=true:=by rw [hc];rfl
    repeat' (first|((first|apply zA|apply Ze);(first|exact zj (k) zd zd ze ze|exact zj (k-1) zd zd ze ze|exact zY zd (jk 0 _ zd)|exact zY zd (iA 0 _ zd));rfl)|refine vw ?_)
    show yH _ _ _ _;refine yH.one zd (zy zd ?_);refine z5 Value.bool ?_;unfold vC Xv;rw [GC hp z9];rfl
   |true=>
    rw [hc] at hp;have vk:(!lt ps[k-1] ps[k])=false:=by rw [hc];rfl
    repeat' (first|((first|apply zA|apply Ze);(first|exact zj (k) zd zd ze ze|exact zj (k-1) zd zd ze ze|exact zY zd (jk 0 _ zd)|exact zY zd (iA 0 _ zd));rfl)|refine vw ?_)
    refine yL (Q:=fun _ _=>True) [] (k+1) ⟨rfl,rfl,trivial,ka⟩ ⟨ze,ze,?_⟩ ze;rw [GB,hr,hp];rfl
 · have hd:=Xq ql
   have uL:Xv ps=true:=by
    rcases Ul with Ul|Ul
    · have:k=ps.length:=ze;have hh:WK (EM ps) ps.length=true:=this▸hr;exact hh
    · subst Ul;unfold Xv;have:ps.length=0\/ps.length=1:=ze;rcases this with h|h<;>rw [h]<;>rfl
   cases hg:decide ((0:Int)<(ks.length:Int)) with
   |true=>
    repeat' (refine vw ?_)
    show yH _ _ _ _;refine yH.one zd (zy zd ?_);refine z5 Value.bool ?_;unfold vC;rw [uL];rfl
   |false=>
    repeat' (refine vw ?_)
    show yH _ _ _ _;refine yH.one zd (zy zd ?_);refine z5 Value.bool ?_;unfold vC;simp only [gx] at hg;have:((ks.length:Int)==(ps.length:Int)+1)=false:=beq_eq_false_iff_ne.2 ze;rw [this,Bool.and_false]
end
section
open Go Go.RowKit
attribute [local irreducible] Calls
section
variable {α:Type}
def kx (p:α->Bool) (l:List α):List α:=l.filter fun x=>!p x
theorem QN {l:List α} {k:Nat} (h:k<l.length) (p:α->Bool):kx p (l.take (k+1))=kx p (l.take k)++if p l[k]=true then [] else [l[k]]:=by
 unfold kx;rw [vF h,aX];cases hc:p l[k]<;>simp [hc]
theorem VN {p:α->Bool} {l:List α} (h:l.all (fun m=>!p m)=true):kx p l=l:=by
 unfold kx;rw [List.filter_eq_self];exact fun a ha=>yw.1 h a ha
theorem rk {p:α->Bool} {l:List α} (uD:l.all (fun m=>!p m)=false): ∃i,∃h:i<l.length,(l.take i).all (fun m=>!p m)=true/\p l[i]=true:=by
 cases Ba:l.findIdx? p with
 |none=>
  rw [rQ] at Ba;have:l.all (fun m=>!p m)=true:=yw.2 fun x hx=>by rw [Ba x hx];rfl
  rw [this] at uD;cases uD
 |some i=>
  obtain ⟨h,h1,h2⟩:=Sn.1 Ba;refine ⟨i,h,yw.2 fun x hx=>?_,h1⟩;obtain ⟨j,hj,rfl⟩:=gz.1 hx;have:=h2 j ze;simpa using this
end
theorem wR.nsl {α:Type} {base:Nat} {W:World} {v u:Value} {e:TypeId} {k n:Nat} {cs:List Value} {cells:α->List Value} (l:List α) (h:wR base W v (.zC u e k n cs)) (hn:n=l.length) (hk: ∀a∈l,(cells a).length=k) (hc:cs=l.flatMap cells):Sl W k cells u l:=by
 obtain ⟨rfl,h⟩:=h;exact wR.sl (base:=base) (e:=e) l h hn hk hc
theorem mK (k n:Nat) (z:Array Value) (hz:z.size=k) (h1:z.toList.all (·.oneCell')=true) (hk:0<k):((Builtin.zeroCells z n).toList.all (·.oneCell'))=true:=by
 unfold Builtin.zeroCells;rw [fi,t7,yw];intro i _;have h2:i % z.size<z.size:=tW _ ze;simp only [Function.comp,getElem!_pos z (i % z.size) h2];exact yw.1 h1 _ (by simp [Array.getElem_mem])
theorem JK {P:Program} {w:World} {M0:Mem} {N:Nat} {M:Mem} {own zw:List Ob} {env:Env} {u:Value} {e:TypeId} {k n:Nat} {cs:List Value} {c:Code} {Q:zX} (hr:uw own (.zC u e k n cs) zw) (h:j2 u n->VC P w M0 N c ⟨M,own,env⟩ Q):VC P w M0 N c ⟨M,own,env⟩ Q:= .mk fun hd a W hR=>by
 obtain ⟨f,h1,h2⟩:=(ji.perm hr.h).ix;have hO:=hR.1.own _ _ (h1 0 _ rfl);have:=uJ hO.2;rw [hO.1] at this;exact (h this).go hd a W hR
theorem WW (f:FuncId) [hf:zG zf f] (k8:Array Value) (p:y6->Bool) (v:Value) (l:List y6) (w:World) (hl:Sl w 2 zi v l) (hn:l.length<=1000000000)
 (hp: ∀m∈l,∀W,(Mem.of w).le (Mem.of W)->Calls zf f (#[m.av]++k8) W fun e w'=>e= .returned (.bool (p m))/\Below W.heap.size W w'):
 Calls zf 228 #[v, .func (.func f) #[] k8] w fun e w'=>e= .returned (.int .i64 (lU p l))/\Below w.heap.size w w':=by
 obtain ⟨A,c,rfl,vK,qD,_⟩:=id hl;have hM:=hl.KI;unfold maxLen at qD;refine zQ Tryz.func228 rfl Tryz.ntmps228 zd (zE) ?_
 repeat' (refine vw ?_)
 refine kU (fun k:Nat=>⟨Mem.of w,[],[(0, .v (.slice A l.length c)),(1, .v (.func (.func f) #[] k8)),(7, .v (.int .i64 l.length)),(8, .v (.int .i64 k))]⟩) (fun k=>k<=l.length/\(l.take k).all (fun m=>!p m)=true) (fun k=>l.length-k) [] 0 ⟨rfl,rfl,trivial,jY⟩ ⟨ze,rfl⟩ ?_;rintro k ⟨hk,hr⟩;rcases yq k l.length with z9|ql
 · have hd:=Xp z9;obtain ⟨b,off,rfl,jk⟩:=hM.get z9;have Uk:=hp l[k] (yD z9);cases hq:p l[k] with
   |true=>
    rw [hq] at Uk
    repeat' (first|((apply zA);(first|exact zj (k) zd zd ze ze|exact zZ _ zd jk _ zd|exact kA zd zd (fun W hW=>Uk W hW));rfl)|refine vw ?_)
    show yH _ _ _ _;refine yH.one zd (zy zd ?_);refine z5 (Value.int .i64) ?_;exact (bY z9 hr hq).symm
   |false=>
    rw [hq] at Uk
    repeat' (first|((apply zA);(first|exact zj (k) zd zd ze ze|exact zZ _ zd jk _ zd|exact kA zd zd (fun W hW=>Uk W hW));rfl)|refine vw ?_)
    refine yL (Q:=fun _ _=>True) [] (k+1) ⟨rfl,rfl,trivial,jY⟩ ⟨ze,?_⟩ ze;rw [eG z9 (fun m=>!p m),hr,hq];rfl
 · have hd:=Xq ql;obtain rfl:k=l.length:=ze;rw [xk] at hr
   repeat' (refine vw ?_)
   show yH _ _ _ _;refine yH.one zd (zy zd ?_);rw [VP hr]
theorem WX (u:Value) (M:Mem) (f:FuncId) [hf:zG zf f] (k8:Array Value) (p:y6->Bool) (l:List y6) (hn:l.length<=1000000000)
 (hp: ∀m∈l,∀W,M.le (Mem.of W)->Calls zf f (#[m.av]++k8) W fun e w'=>e= .returned (.bool (p m))/\Below W.heap.size W w'):
 zu zf 200 [u, .func (.func f) #[] k8] M [.zC u 54 2 l.length (l.flatMap zi)] (fun v M' o=>M'=M/\j2 v (kx p l).length/\o= [.zC v 54 2 (kx p l).length ((kx p l).flatMap zi)]):=by
 have hk: ∀a:y6,(zi a).length=2:=fun _=>rfl
 have cn:=fun (W:World) (v:Value) (hs:Sl W 2 zi v l) (hM:M.le (Mem.of W))=>WW f k8 p v l W hs ze (fun m hm W' C9=>hp m hm W' (hM.trans C9))
 refine xy Tryz.func200 rfl Tryz.ntmps200 zd (fun F w M0 hF=>zz ?_);cases uD:l.all (fun m=>!p m) with
 |true=>
  have hi:=VP uD;rw [hi] at cn;refine JK (u:=u) (e:=54) (k:=2) (n:=l.length) (cs:=l.flatMap zi) zh fun hu=>?_
  repeat' (first|((apply zA);((refine uj (r:= .int .i64 (-1)) zd ?_;exact fun hd W hO hW=>cn W _ ((hO 0 _ rfl).nsl l rfl (fun _ _=>rfl) rfl) hW));rfl)|refine nw ?_)
  rw [VN uD];exact ⟨_,[.zC u 54 2 l.length (l.flatMap zi)],zP,zE,zh,zq,rfl,hu,rfl⟩
 |false=>
  obtain ⟨i,kg,h1,h2⟩:=rk uD;rw [bY kg h1 h2] at cn;have g1:((i:Int)== -1)=false:=beq_eq_false_iff_ne.2 ze;have CX:kx p (l.take (i+1))=l.take i:=by rw [QN kg,h2,VN h1];simp
  have CW:(kx p (l.take (i+1))).length=i:=by rw [CX,yC];omega
  refine JK (u:=u) (e:=54) (k:=2) (n:=l.length) (cs:=l.flatMap zi) zh fun hu=>?_
  obtain ⟨B,C,rfl,Ry,hC2⟩:=xB hu ze
  repeat' (first|((apply zA);((refine uj (r:= .int .i64 i) zd ?_;exact fun hd W hO hW=>cn W _ ((hO 0 _ rfl).nsl l rfl (fun _ _=>rfl) rfl) hW));rfl)|refine nw ?_)
  refine jv (fun x:Nat×List y6=>⟨M, .zC (.slice (some ⟨B,0,none⟩) l.length C) 54 2 l.length (x.2.flatMap zi)::F,[(0, .v (.slice (some ⟨B,0,none⟩) l.length C)),(1, .v (.func (.func f) #[] k8)),(5, .v (.int .i64 (kx p (l.take x.1)).length)),(6, .v (.int .i64 x.1))]⟩) (fun x=>i<x.1/\x.1<=l.length/\x.2.length=l.length/\x.2.take (kx p (l.take x.1)).length=kx p (l.take x.1)/\x.2.drop x.1=l.drop x.1/\(kx p (l.take x.1)).length<x.1) (fun x=>l.length-x.1) (i+1,l) ⟨rfl,ji.refl _,⟨rfl,rfl,by dsimp only;rw [CW];rfl,rfl,trivial⟩,rfl⟩ ⟨fh i,kg,rfl,by dsimp only;rw [CW,CX],rfl,by dsimp only;omega⟩ ?_;rintro ⟨j,L⟩ ⟨gf,hj,Ee,Da,Rx,hqj⟩;dsimp only at gf hj Ee Da Rx hqj⊢;rcases yq j l.length with z9|ql
  · have hd:=Xp z9;have To:j<L.length:=ze
    have Gg:L[j]=l[j]:=by
     have e1:=Zc To;have e2:=Zc z9;rw [Rx,e2] at e1;injection e1 with e1 _;exact e1.symm
    have p4:=hp l[j] (yD z9);rw [<-Gg] at p4;have yE:L.drop (j+1)=l.drop (j+1):=by rw [<-Q8 (i:=1) (j:=j),Rx,Q8]
    have kt:=QN z9 p;have a1:=Iv hk L To;have a2:=gp hk L To;have hqL:(kx p (l.take j)).length<L.length:=ze;have a3:=mr hk L hqL L[j];have a4:=gp hk L hqL;have a5:(kx p (l.take j)).length<l.length:=ze;cases iw:p l[j] with
    |true=>
     rw [Gg,iw] at p4;rw [iw,zo rfl,xR] at kt;rw [<-Gg] at p4
     repeat' (first|refine yh zh fun b=>?_|((apply zA);(first|exact zj j zd zd rfl z9|exact Oi zd a1 a2|exact kA zd zd (fun W hW=>p4 W hW));rfl)|refine nw ?_)
     exact yG (Q:=fun _ _=>True) (j+1,L) (xZ ⟨rfl,rfl,by dsimp only;rw [kt];rfl,rfl,trivial⟩) ⟨by dsimp only;omega,z9,Ee,by dsimp only;rw [kt];exact Da,yE,by dsimp only;rw [kt];omega⟩ (by dsimp only;omega)
    |false=>
     rw [Gg,iw] at p4;rw [iw,zn yx] at kt;rw [<-Gg] at p4;have ge:(kx p (l.take (j+1))).length=(kx p (l.take j)).length+1:=by rw [kt];simp
     generalize hq:(kx p (l.take j)).length=q at*
     repeat' (first|refine yh zh fun b=>?_|refine krN zd a4 a3 ?_|((apply zA);(first|exact zj j zd zd rfl z9|exact zj q zd zd rfl a5|exact Oi zd a1 a2|exact kA zd zd (fun W hW=>p4 W hW));rfl)|refine nw ?_)
     exact yG (Q:=fun _ _=>True) (j+1,L.set q L[j]) (xZ ⟨rfl,rfl,by dsimp only;rw [ge];rfl,rfl,trivial⟩) ⟨by dsimp only;omega,z9,by simp only [xj];exact Ee,by
      dsimp only;rw [ge,kt,Q7,vF hqL,Da,YF _ _ (by rw [hq];exact zN _),hq,Gg];simp,by dsimp only;rw [rJ ze];exact yE,by dsimp only;omega⟩ (by dsimp only;omega)
  · have hd:=Xq ql;obtain rfl:j=l.length:=ze;rw [xk] at Da hqj;generalize hq:kx p l=K at*
    repeat' (first|((apply zA);(exact xG (x6 B K.length l.length C 2 ze) (yg K.length l.length C zd (by simp only [xk,hq];rfl) zd zd ze ze ze ze));rfl)|refine nw ?_)
    refine dw (uw.one _ _) fun cur kW gU _ _=>?_
    have nW:K.length*2<=l.length*2:=uB _ ze;have hnk:l.length*2<=C*2:=uB _ Ry;have JR:(l.length-K.length)*2=l.length*2-K.length*2:=Nat.sub_mul ..;refine Hc (e:=54) ?_ zd (Kd.here B (K.length*2) _ cur _ F ?_) ?_ ze zd zd
    · refine Qm (n:=K.length) (cap:=C) (uw.one _ _) (by rw [xA];exact kW) ze hC2 ?_
      have uA: ∀zs:List Value,zs.length=(l.length-K.length)*2->(jT cur (K.length*2) zs).take (K.length*2)=K.flatMap zi:=fun zs hz=>by
       rw [u7 _ _ _ (by rw [hz];omega),xY,GF (by rw [yC];omega),wD (by rw [yC];omega)];have h1:=z5 (List.take (K.length*2)) gU;rw [wO,jn nW,ve hk,Da] at h1;exact h1
      rw [uA _ (by rw [KN];rfl)]
      repeat' (first|((apply zA);(exact xG (Z1 B K.length C 2) (yg 0 K.length C zd zd (by simp only [xk,hq];rfl) zd ze ze ze ze));rfl)|refine nw ?_)
      exact ⟨_,[.zC (.slice (some ⟨B,0,none⟩) K.length C) 54 2 K.length (K.flatMap zi)],zP,zE,zh,zq,rfl, .inr ⟨B,C,rfl,ze,hC2⟩,rfl⟩
    · rw [KN];show K.length*2+(l.length-K.length)*2<=_;omega
    · exact mK 2 _ _ rfl rfl ze
end
end Go.Proofs.YtaibdpjjojihmaaGreat
