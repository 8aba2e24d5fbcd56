/- A part of the proof of TopPrefix; no conditions. -/
import Derived.Test.YtaibdpjjojihmaaGreatPFc
import Derived.Test.YtaibdpjjojihmaaGreatPNw
set_option linter.unusedVariables false
set_option linter.unusedSimpArgs false
set_option maxRecDepth 20000
set_option maxHeartbeats 4000000
namespace Go.Proofs.YtaibdpjjojihmaaGreat
section
open Go Go.RowKit
instance:pf zf 34 [(0,1),(1,1),(2,6),(8,1)]:=zp
instance:pf zf 49 [(0,1),(1,6),(7,4),(11,1),(12,1),(13,1),(14,1)]:=zp
instance:dB zf 59 5:= .mk' Yy
instance:pf zf 94 [(0,5),(5,1),(6,1),(7,1),(8,1),(9,1)]:=zp
instance:pf zf 138 [(0,5),(5,1)]:=zp
instance:pf zf 189 [(0,3),(3,1),(4,1),(5,1),(6,1),(7,1),(8,1),(9,1),(10,1)]:=zp
instance:pf zf 217 [(0,2),(2,1),(3,1),(4,1),(5,1),(6,1),(7,1),(8,1),(9,4)]:=zp
instance:pf zf 220 [(0,1),(1,1),(2,3),(5,3),(8,3),(11,1),(12,1),(13,1),(14,1),(15,1),(16,1),(17,1),(18,1),(19,1),(20,1),(21,1),(22,1)]:=zp
instance:pf zf 223 [(0,1),(1,1),(2,1),(3,6),(9,1),(10,1),(11,1),(12,1),(13,1),(14,1)]:=zp
end
section
open Go Go.RowKit
instance:U8T zf 5:=zp
instance:aiX zf 5:=zp
instance:JL zf 58 61:=zp
instance:kM zf 61 (.agg #[.pointer none, .slice none 0 0]):=⟨Tryz.zeroValue61⟩
instance:yA zf 61 0 0:=zp
instance:yA zf 61 1 1:=zp
instance:aiQ zf 61 2:=zp
instance:JL zf 70 94:=zp
instance:JL zf 87 5:=zp
instance:JL zf 88 135:=zp
instance:JL zf 101 131:=zp
instance:JL zf 105 138:=zp
instance:SO zf 122:=zp
instance:JL zf 127 160:=zp
instance:JL zf 129 189:=zp
instance:JL zf 132 180:=zp
instance:JL zf 136 168:=zp
instance:JL zf 190 217:=zp
instance:JL zf 192 220:=zp
instance:JL zf 194 223:=zp
instance:zG zf 20:=zp
instance:zG zf 21:=zp
instance:zG zf 39:=zp
instance:aiK zf 62:=⟨fun args W=>IM Tryz.func62 Yy Yy Yy (e:=Extern.AbiNoEscape.same) Yy args W⟩
end
section
open Go Go.RowKit
instance:nR zf 183:=zp
instance:nR zf 190:=zp
instance:nR zf 192:=zp
instance:nR zf 194:=zp
instance:nR zf 251:=zp
instance:nR zf 256:=zp
instance:nR zf 3:=zp
instance:JW zf 190 "Step" 289:=zp
instance:JW zf 190 "Done" 287:=zp
instance:JW zf 190 "Point" 288:=zp
instance:JW zf 190 "Answer" 286:=zp
instance:JW zf 192 "Step" 293:=zp
instance:JW zf 192 "Done" 291:=zp
instance:JW zf 192 "Point" 292:=zp
instance:JW zf 192 "Answer" 290:=zp
instance:JW zf 194 "Step" 297:=zp
instance:JW zf 194 "Done" 295:=zp
instance:JW zf 194 "Point" 296:=zp
instance:JW zf 194 "Answer" 294:=zp
instance:JW zf 183 "Pop" 284:=zp
instance:JW zf 251 "Push" 300:=zp
instance:JW zf 251 "Pop" 299:=zp
instance:Oc zf 133 3 127:=⟨by kernel_rfl,by kernel_rfl⟩
instance:Oc zf 316 3 4:=⟨by kernel_rfl,by kernel_rfl⟩
instance:zG zf 98:=zp
instance:zG zf 114:=zp
instance:zG zf 115:=zp
instance:zG zf 147:=zp
instance:zG zf 174:=zp
end
section
open Go Go.RowKit
class JO (a b:List Ob) (c:outParam (List Ob)):Prop where
 h:a++b=c
instance (priority:=high) JO.nil (b:List Ob):JO [] b b:=⟨rfl⟩
instance (priority:=high) JO.cons (o:Ob) (a b c:List Ob) [i:JO a b c]:JO (o::a) b (o::c):=⟨by rw [wQ,i.h]⟩
instance JO.app (X a b c d:List Ob) [i:JO a b c] [j:JO X c d]:JO (X++a) b d:=⟨by rw [xY,i.h,j.h]⟩
instance (priority:=low) JO.end (X b:List Ob):JO X b (X++b):=⟨rfl⟩
section
variable {P:Program} {w:World} {M0:Mem} {N:Nat} {M:Mem} {own zO zw F G c:List Ob} {env:Env}
theorem zJ {ops:Array Oper} {l:List Oper} {Q:zX} [i:JO zO F c] (h:VL P w M0 N ops l ⟨M,c,env⟩ Q):VL P w M0 N ops l ⟨M,zO++F,env⟩ Q:=by rw [i.h];exact h
theorem zz {x:Code} {Q:zX} [i:JO zO F c] (h:VC P w M0 N x ⟨M,c,env⟩ Q):VC P w M0 N x ⟨M,zO++F,env⟩ Q:=by rw [i.h];exact h
theorem zq [i:JO zw F c] [t:uu own c G]:ji own (zw++F):=by rw [i.h];exact t.KJ
theorem gC {x:Code} {Q:zX} (zw:List Ob) [t:uu own zw G] (h:VC P w M0 N x ⟨M,zw,env⟩ Q) (zV:yR env 0=true:=by rfl):VC P w M0 N x ⟨M,own,env⟩ Q:=KE zw h t.KJ zV
theorem qpz {t t2 te:TypeId} {x:Operand} {s:St} {a:Option Addr} {dst:Option Tmp} {ty:TypeId} {pos:String} {z7:Array Edge} {g:Option (Nat×Bool)} [h:JL P t te] (hx:s.env.op x=some (.v (.pointer a))):QS P w M0 N ⟨dst, .binOp .eql t x (.const (.pointer none)) t2,ty,pos,z7,g⟩ s (.v (.bool a.isNone)):=yN hx rfl uz
theorem qpy {t t2 te:TypeId} {x:Operand} {s:St} {a:Option Addr} {dst:Option Tmp} {ty:TypeId} {pos:String} {z7:Array Edge} {g:Option (Nat×Bool)} [h:JL P t te] (hx:s.env.op x=some (.v (.pointer a))):QS P w M0 N ⟨dst, .binOp .neq t x (.const (.pointer none)) t2,ty,pos,z7,g⟩ s (.v (.bool (!a.isNone))):=yN hx rfl abX
def aiP (P:Program) (f:FuncId) (args:List Value) (zO:List Ob) (v:Value):Prop:= ∀M,zu P f args M zO (fun u M' o=>u=v/\M'=M/\o=zO)
structure vo (s s':St):Prop where
 mem:s'.M=s.M
 own:ji s.own s'.own
 env:Vw [] s'.env s.env
 val:yR s'.env 0=true
theorem vo.rel {s s':St} (h:vo s s') {hd:Nat->Value} {a:Act} {W:World} (hR:Rel w M0 N hd s a W): ∃yE,Rel w M0 N yE s' a W:=by
 obtain ⟨yE,hW⟩:=hR.1.KJ h.own;rw [<-h.mem] at hW;refine ⟨yE,hW,fun t sv ht=>?_,hR.2.size,hR.2.defers⟩;have h1:=hR.2.env t _ (h.env.get t sv ht);have h2:=vn h.val t sv ht;cases sv with
 |v x=>exact h1
 |p i off=>simp [SV.okB,x9] at h2
 |r i=>simp [SV.okB,x9] at h2
theorem x8 {x:Code} {s:St} {Q:zX} (s':St) (hs:vo s s') (h:VC P w M0 N x s' Q):VC P w M0 N x s Q:= .mk fun hd a W hR=>by
 obtain ⟨yE,uE⟩:=hs.rel hR;exact h.go yE a W uE
def aia {α:Type} (S:α->St) (I:α->Prop) (μ:α->Nat) (n:Nat) (Q:zX):zX
 | .normal,s=> ∃x,vo s (S x)/\I x/\μ x<n
 |e,s=>Q e s
theorem yG {α:Type} {S:α->St} {I:α->Prop} {μ:α->Nat} {n:Nat} {Q:zX} {s:St} (x:α) (hs:vo s (S x)) (hI:I x) (hm:μ x<n):aia S I μ n Q .normal s:=⟨x,hs,hI,hm⟩
theorem jv {α:Type} {c:Code} {s:St} {Q:zX} (S:α->St) (I:α->Prop) (μ:α->Nat) (x:α) (hs:vo s (S x)) (h0:I x) (h: ∀x,I x->VC P w M0 N c (S x) (aia S I μ (μ x) Q)):VC P w M0 N (.loop c) s Q:=
 x8 (S x) hs (.mk fun hd a W hR=>(I9 (s:=S x) (fun n s=> ∃x,s=S x/\I x/\μ x=n) (μ x) ⟨x,rfl,h0,rfl⟩ (by
  rintro n _ ⟨y,rfl,hy,rfl⟩;refine .mk fun hd a W hR=>vZ ((h y hy).go hd a W hR) fun e a' W' ⟨uN,s2,JP,hq⟩=>?_
  cases e with
  |normal=>
   obtain ⟨z,hz1,UF,hz3⟩:=hq;obtain ⟨hd3,aq⟩:=hz1.rel JP;exact ⟨hd3,S z,aq,μ z,hz3,z,rfl,UF,rfl⟩
  |exit id=>exact ⟨uN,s2,JP,hq⟩
  |goto l=>exact ⟨uN,s2,JP,hq⟩
  |ret=>exact ⟨uN,s2,JP,hq⟩
  |panic c=>exact ⟨uN,s2,JP,hq⟩
  |outgrown=>exact ⟨uN,s2,JP,hq⟩)).go hd a W hR)
theorem xZ {M:Mem} {own zw G:List Ob} {env QZ:Env} [t:uu own zw G] (he:Vw [] QZ env) (hv:yR QZ 0=true:=by rfl):vo ⟨M,own,env⟩ ⟨M,zw,QZ⟩:=⟨rfl,t.KJ,he,hv⟩
def Wg (P:Program) (Mc:Mem) (hv:Value) (name:String) (vs:List Value) (pre post:List Ob) (r:Value):Prop:=
 ∀(w:World) (M0:Mem) (N:Nat) (M:Mem) (own:List Ob) (env:Env) (dst:Option Tmp) (ty:TypeId) (pos:String) (z7:Array Edge) (ops:Array Oper) (l:List Oper) (Q:zX) (x:Operand) (xs:Array Operand) (qz:Array TypeId) (F:List Ob),Mc.le M->
  env.op x=some (.v hv)->env.kP xs.toList=some vs->uu own pre F->jI own->yi N dst=true->yR env 0=true->VL P w M0 N ops l ⟨M,post++F,env.put dst (.v r)⟩ Q->VL P w M0 N ops (⟨dst, .call ⟨.invoke x name,xs,qz⟩,ty,pos,z7,none⟩::l) ⟨M,own,env⟩ Q
theorem Wg.use {Mc:Mem} {hv:Value} {name:String} {vs:List Value} {pre post:List Ob} {r:Value} (h:Wg P Mc hv name vs pre post r) {dst:Option Tmp} {ty:TypeId} {pos:String} {z7:Array Edge} {ops:Array Oper} {l:List Oper} {Q:zX} {x:Operand} {xs:Array Operand} {qz:Array TypeId}
 (hk:VL P w M0 N ops l ⟨M,post++F,env.put dst (.v r)⟩ Q) (hx:env.op x=some (.v hv):=by rfl) (hv':env.kP xs.toList=some vs:=by rfl) (ht:uu own pre F:=by infer_instance) (hn:jI own:=by infer_instance) (hd:yi N dst=true:=by rfl) (zV:yR env 0=true:=by rfl) (hM:Mc.le M:=by assumption):
 VL P w M0 N ops (⟨dst, .call ⟨.invoke x name,xs,qz⟩,ty,pos,z7,none⟩::l) ⟨M,own,env⟩ Q:=h w M0 N M own env dst ty pos z7 ops l Q x xs qz F hM hx hv' ht hn hd zV hk
theorem uK {f:FuncId} {vs:List Value} {post cc:List Ob} {r:Value} {dst:Option Tmp} {ty:TypeId} {pos:String} {z7:Array Edge} {ops:Array Oper} {l:List Oper} {Q:zX} {xs:Array Operand} {qz:Array TypeId} [hf:zG P f] (hc:zu P f vs M zO (fun u M' o=>u=r/\M'=M/\o=post))
 (hk:VL P w M0 N ops l ⟨M,cc,env.put dst (.v r)⟩ Q) (hv:env.kP xs.toList=some vs:=by rfl) (ht:uu own zO F:=by infer_instance) (ha:JO post F cc:=by infer_instance) (hn:jI own:=by infer_instance) (hd:yi N dst=true:=by rfl) (zV:yR env 0=true:=by rfl):
 VL P w M0 N ops (⟨dst, .call ⟨.value (.func f),xs,qz⟩,ty,pos,z7,none⟩::l) ⟨M,own,env⟩ Q:=by
 refine nL (Va hv) hc ht hn hd zV ?_;rintro _ _ _- -⟨rfl,rfl,rfl⟩;rw [ha.h];exact hk
theorem xQ {f:FuncId} {vs:List Value} {R:Value->Mem->List Ob->Prop} {dst:Option Tmp} {ty:TypeId} {pos:String} {z7:Array Edge} {ops:Array Oper} {l:List Oper} {Q:zX} {xs:Array Operand} {qz:Array TypeId} [hf:zG P f] (hc:zu P f vs M zO R)
 (hk: ∀v M' o,M.le M'->jI o->R v M' o->VL P w M0 N ops l ⟨M',o++F,env.put dst (.v v)⟩ Q) (hv:env.kP xs.toList=some vs:=by rfl) (ht:uu own zO F:=by infer_instance) (hn:jI own:=by infer_instance) (hd:yi N dst=true:=by rfl) (zV:yR env 0=true:=by rfl):
 VL P w M0 N ops (⟨dst, .call ⟨.value (.func f),xs,qz⟩,ty,pos,z7,none⟩::l) ⟨M,own,env⟩ Q:=nL (Va hv) hc ht hn hd zV hk
end
end
section
open Go Go.RowKit
attribute [local irreducible] Calls
section
variable {α:Type}
def vQ (L:List α) (i j:Nat):List α:=match L[i]?,L[j]? with|some a,some b=>(L.set i b).set j a|_,_=>L
def Cv (lt:α->α->Bool) (L:List α) (i j:Nat):Bool:=match L[i]?,L[j]? with|some a,some b=>lt a b|_,_=>false
theorem ZI (L:List α) (i j:Nat):(vQ L i j).length=L.length:=by unfold vQ;split<;>simp
theorem BF {L:List α} {i j:Nat} (hi:i<L.length) (hj:j<L.length):vQ L i j=(L.set i L[j]).set j L[i]:=by
 unfold vQ;rw [jA hi,jA hj]
theorem PD (lt:α->α->Bool) {L:List α} {i j:Nat} (hi:i<L.length) (hj:j<L.length):Cv lt L i j=lt L[i] L[j]:=by
 unfold Cv;rw [jA hi,jA hj]
theorem YL (L:List α) (i j:Nat):(vQ L i j).Perm L:=by
 unfold vQ;split
 · rename_i a b ha hb
   obtain ⟨hi,rfl⟩:=xI.1 ha;obtain ⟨hj,rfl⟩:=xI.1 hb;exact List.set_set_perm hi hj
 · exact .refl _
def bU (lt:α->α->Bool) (n:Nat) (L:List α) (i:Nat):Nat:=if (decide (2*i+2<n)&&Cv lt L (2*i+2) (2*i+1))=true then 2*i+2 else 2*i+1
def Yf (lt:α->α->Bool) (n:Nat):Nat->List α->Nat->List α×Nat
 |0,L,i=>(L,i)
 |f+1,L,i=>if n<=2*i+1 then (L,i) else if Cv lt L (bU lt n L i) i=true then Yf lt n f (vQ L i (bU lt n L i)) (bU lt n L i) else (L,i)
theorem Jz (lt:α->α->Bool) (n:Nat): ∀(f:Nat) (L:List α) (i:Nat),(Yf lt n f L i).1.Perm L
 |0,L,i=> .refl _
 |f+1,L,i=>by
  unfold Yf;split
  · exact .refl _
  · split
    · exact (Jz lt n f _ _).trans (YL _ _ _)
    · exact .refl _
def D5 (lt:α->α->Bool):Nat->List α->Nat->List α
 |0,L,j=>L
 |f+1,L,j=>if j=0 then L else if Cv lt L j ((j-1)/2)=true then D5 lt f (vQ L ((j-1)/2) j) ((j-1)/2) else L
theorem Bw (lt:α->α->Bool): ∀(f:Nat) (L:List α) (i:Nat),(D5 lt f L i).Perm L
 |0,L,i=> .refl _
 |f+1,L,i=>by
  unfold D5;split
  · exact .refl _
  · split
    · exact (Bw lt f _ _).trans (YL _ _ _)
    · exact .refl _
def j8 (lt:α->α->Bool) (L:List α):List α:=(Yf lt (L.length-1) (L.length-1) (vQ L 0 (L.length-1)) 0).1
def wX (lt:α->α->Bool) (L:List α) (x:α):List α:=D5 lt (L.length+1) (L++ [x]) L.length
theorem ue (lt:α->α->Bool) (L:List α):(j8 lt L).Perm L:=(Jz lt _ _ _ _).trans (YL _ _ _)
theorem Zq (lt:α->α->Bool) (L:List α) (x:α):(wX lt L x).Perm (L++ [x]):=Bw lt _ _ _
def Xf (lt:α->α->Bool) (n:Nat):Nat->List α->List α
 |0,L=>L
 |i+1,L=>Xf lt n i (Yf lt n n L i).1
theorem aj (lt:α->α->Bool) (n:Nat): ∀(i:Nat) (L:List α),(Xf lt n i L).Perm L
 |0,L=> .refl _
 |i+1,L=>(aj lt n i _).trans (Jz lt n n L i)
structure Hp (Mc:Mem) (hv:Value) (O:List α->List Ob) (lt:α->α->Bool) (Ok:List α->Prop):Prop where
 Jk: ∀L,jI (O L)
 perm: ∀L L',L'.Perm L->Ok L->Ok L'
 less: ∀(L:List α) (i j:Nat) (a b:Int),a=i->b=j->i<L.length->j<L.length->L.length<=1000000->Ok L->Wg zf Mc hv "Less" [.int .i64 a, .int .i64 b] (O L) (O L) (.bool (Cv lt L i j))
 swap: ∀(L:List α) (i j:Nat) (a b:Int),a=i->b=j->i<L.length->j<L.length->L.length<=1000000->Ok L->Wg zf Mc hv "Swap" [.int .i64 a, .int .i64 b] (O L) (O (vQ L i j)) (.tuple #[])
 len: ∀(L:List α),L.length<=1000000->Wg zf Mc hv "Len" [] (O L) (O L) (.int .i64 L.length)
variable {Mc:Mem} {hv:Value} {O:List α->List Ob} {lt:α->α->Bool} {Ok:List α->Prop}
theorem p5 (h:Hp Mc hv O lt Ok) (L0:List α) (i0 n:Nat) (M:Mem) (hn:n<=L0.length) (hL:L0.length<=1000000) (WE:i0<=1000000) (ju:Ok L0) (hM:Mc.le M):
 zu zf 114 [hv, .int .i64 i0, .int .i64 n] M (O L0) (fun u M' o=>u= .bool (decide ((i0:Int)<((Yf lt n n L0 i0).2:Nat)))/\M'=M/\o=O (Yf lt n n L0 i0).1):=by
 have inm:=h.Jk;refine xy Tryz.func114 rfl Tryz.ntmps114 zd (fun F w M0 hF=>zz ?_)
 repeat' (refine nw ?_)
 refine jv (fun x:List α×Nat×Nat=>⟨M,O x.1++F,[(0, .v hv),(1, .v (.int .i64 i0)),(2, .v (.int .i64 n)),(7, .v (.int .i64 (x.2.1:Nat)))]⟩) (fun x=>n<=x.2.1+x.2.2/\Yf lt n x.2.2 x.1 x.2.1=Yf lt n n L0 i0/\x.1.length=L0.length/\x.2.1<=1000000/\Ok x.1) (fun x=>x.2.2) (L0,i0,n) (xZ jY) ⟨by show n<=i0+n;omega,rfl,rfl,WE,ju⟩ ?_;rintro ⟨L,i,f⟩ ⟨h1,h2,h3,h4,h5⟩;dsimp only at h1 h2 h3 h4 h5⊢;have e1:decide ((2*(i:Int)+1)<0)=false:=z6 ze;by_cases hq:n<=2*i+1
 · have d1:decide ((n:Int)<=2*(i:Int)+1)=true:=yk ze
   repeat' (first|((apply zA);(exact yN zd zd (ac2 ze ze));rfl)|refine nw ?_)
   have h6:Yf lt n n L0 i0=(L,i):=by
    rw [<-h2];cases f with
    |zero=>rfl
    |succ f=>unfold Yf;rw [zo hq]
   rw [h6];exact ⟨_,O L,zP,zE,inm L,zq,rfl,rfl,rfl⟩
 · have d1:decide ((n:Int)<=2*(i:Int)+1)=false:=z6 ze;obtain ⟨f,rfl⟩: ∃g,f=g+1:=⟨f-1,ze⟩;rw [show Yf lt n (f+1) L i=if Cv lt L (bU lt n L i) i=true then Yf lt n f (vQ L i (bU lt n L i)) (bU lt n L i) else (L,i) from by rw [Yf,zn hq]] at h2
   repeat' (first|refine kV (x:= .seq (.region 5 _ _) _) (fun s'=> ∃(j:Nat),j=bU lt n L i/\j<n/\i<j/\vo s' ⟨M,O L++F,[(9, .v (.int .i64 (j:Nat))),(0, .v hv),(1, .v (.int .i64 i0)),(2, .v (.int .i64 n)),(7, .v (.int .i64 (i:Nat)))]⟩) ?_ ?_|((apply zA);(exact yN zd zd (ac2 ze ze));rfl)|refine nw ?_)
   · by_cases hj:2*i+2<n
     · have d2:decide (2*(i:Int)+1+1<(n:Int))=true:=yk ze;have an:=h.less L (2*i+2) (2*i+1) (2*(i:Int)+1+1) (2*(i:Int)+1) ze ze ze ze ze h5;have hk:bU lt n L i=if Cv lt L (2*i+2) (2*i+1)=true then 2*i+2 else 2*i+1:=by unfold bU;rw [yk hj,XC]
       cases pZ:Cv lt L (2*i+2) (2*i+1) with
       |true=>
        rw [pZ] at an hk
        repeat' (first|refine an.use ?_|refine nw ?_)
        exact ⟨rfl,2*i+2,by rw [hk];rfl,ze,ze,xZ ⟨by show some (SV.v (.int .i64 (2*(i:Int)+1+1)))=_;rw [show 2*(i:Int)+1+1=((2*i+2:Nat):Int) by omega];rfl,rfl,rfl,rfl,rfl,trivial⟩⟩
       |false=>
        rw [pZ] at an hk
        repeat' (first|refine an.use ?_|refine nw ?_)
        exact ⟨rfl,2*i+1,by rw [hk];rfl,ze,ze,xZ ⟨by show some (SV.v (.int .i64 (2*(i:Int)+1)))=_;rw [show 2*(i:Int)+1=((2*i+1:Nat):Int) by omega];rfl,rfl,rfl,rfl,rfl,trivial⟩⟩
     · have d2:decide (2*(i:Int)+1+1<(n:Int))=false:=z6 ze;have hk:bU lt n L i=2*i+1:=by unfold bU;rw [z6 hj];rfl
       repeat' (refine nw ?_)
       exact ⟨rfl,2*i+1,hk.symm,ze,ze,xZ ⟨by show some (SV.v (.int .i64 (2*(i:Int)+1)))=_;rw [show 2*(i:Int)+1=((2*i+1:Nat):Int) by omega];rfl,rfl,rfl,rfl,rfl,trivial⟩⟩
   · rintro s' ⟨j,hj,uW,gf,hs⟩;refine x8 _ hs ?_;rw [<-hj] at h2;have J5:=h.less L j i (j:Int) (i:Int) rfl rfl ze ze ze h5;have hsw:=h.swap L i j (i:Int) (j:Int) rfl rfl ze ze ze h5;cases hq3:Cv lt L j i with
     |true=>
      rw [hq3] at J5;rw [zo hq3] at h2
      repeat' (first|refine J5.use ?_|refine hsw.use ?_|refine nw ?_)
      exact yG (Q:=fun _ _=>True) (vQ L i j,j,f) (xZ jY) ⟨by show n<=j+f;omega,h2,by rw [<-h3];exact ZI _ _ _,by show j<=_;omega,h.perm _ _ (YL _ _ _) h5⟩ (fh f)
     |false=>
      rw [hq3] at J5;rw [zn (by rw [hq3];simp)] at h2
      repeat' (first|refine J5.use ?_|refine nw ?_)
      rw [<-h2];exact ⟨_,O L,zP,zE,inm L,zq,rfl,rfl,rfl⟩
theorem afu {P:Program} {x y:Operand} {t:TypeId}:Wh P .quo t x y (.int .i64 (-1)) (.int .i64 2) (.int .i64 0):= .mk fun W=>by
 simp [go_sem,Qy (show -9223372036854775808<=(0:Int) by omega) (show (0:Int)<=9223372036854775807 by omega)]
theorem yH.nil {P:Program} {fn:Func} {s:St} (h:fn.results= #[]):yH P fn s (.tuple #[]):= .inr (.inr (.inr ⟨h,rfl⟩))
theorem aaL (h:Hp Mc hv O lt Ok) (L0:List α) (j0:Nat) (M:Mem) (hj0:j0<L0.length) (hL:L0.length<=1000000) (ju:Ok L0) (hM:Mc.le M):
 zu zf 174 [hv, .int .i64 j0] M (O L0) (fun u M' o=>u= .tuple #[]/\M'=M/\o=O (D5 lt (j0+1) L0 j0)):=by
 have inm:=h.Jk;refine xy Tryz.func174 rfl Tryz.ntmps174 zd (fun F w M0 hF=>zz ?_)
 repeat' (refine nw ?_)
 refine jv (fun x:List α×Nat×Nat=>⟨M,O x.1++F,[(0, .v hv),(1, .v (.int .i64 (x.2.1:Nat)))]⟩) (fun x=>x.2.1<x.2.2/\D5 lt x.2.2 x.1 x.2.1=D5 lt (j0+1) L0 j0/\x.1.length=L0.length/\x.2.1<L0.length/\Ok x.1) (fun x=>x.2.2) (L0,j0,j0+1) (xZ j4) ⟨fh _,rfl,rfl,hj0,ju⟩ ?_;rintro ⟨L,j,f⟩ ⟨h1,h2,h3,h4,h5⟩;dsimp only at h1 h2 h3 h4 h5⊢;obtain ⟨f,rfl⟩: ∃g,f=g+1:=⟨f-1,ze⟩;cases j with
 |zero=>
  have h6:D5 lt (j0+1) L0 j0=L:=by rw [<-h2];unfold D5;rw [zo rfl]
  rw [h6];have d1:((0:Int)==((0:Nat):Int))=true:=rfl
  repeat' (first|((apply zA);(exact yN zd zd afu);rfl)|refine nw ?_)
  exact ⟨_,O L,yH.nil rfl,zE,inm L,zq,rfl,rfl,rfl⟩
 |succ j=>
  have e1:(((j+1:Nat):Int)-1)/2=((j/2:Nat):Int):=ze;have d1:(((j/2:Nat):Int)==((j+1:Nat):Int))=false:=by rw [rH];omega
  have hl:=h.less L (j+1) (j/2) ((j+1:Nat):Int) ((j/2:Nat):Int) rfl rfl ze ze ze h5;have hs:=h.swap L (j/2) (j+1) ((j/2:Nat):Int) ((j+1:Nat):Int) rfl rfl ze ze ze h5;have hu:D5 lt (f+1) L (j+1)=if Cv lt L (j+1) (j/2)=true then D5 lt f (vQ L (j/2) (j+1)) (j/2) else L:=by rw [D5,zn ze];rfl
  cases hq:Cv lt L (j+1) (j/2) with
  |true=>
   rw [hq] at hl;rw [hu,zo hq] at h2
   repeat' (first|refine hl.use ?_|refine hs.use ?_|((apply zA);(exact xG (z5 (Value.int .i64) e1) (yN zd zd (D4 ze ze ze)));rfl)|refine nw ?_)
   exact yG (Q:=fun _ _=>True) (vQ L (j/2) (j+1),j/2,f) (xZ j4) ⟨by show j/2<f;omega,h2,by rw [<-h3];exact ZI _ _ _,by show j/2<_;omega,h.perm _ _ (YL _ _ _) h5⟩ (fh f)
  |false=>
   rw [hq] at hl;rw [hu,zn (by rw [hq];simp)] at h2
   repeat' (first|refine hl.use ?_|((apply zA);(exact xG (z5 (Value.int .i64) e1) (yN zd zd (D4 ze ze ze)));rfl)|refine nw ?_)
   rw [<-h2];exact ⟨_,O L,yH.nil rfl,zE,inm L,zq,rfl,rfl,rfl⟩
theorem C1 (h:Hp Mc hv O lt Ok) (L:List α) (x:α) (r:Value) (M:Mem) (h0:0<L.length) (hL:L.length<=1000000) (ju:Ok L) (hM:Mc.le M) (hx:j8 lt L=(j8 lt L).dropLast++ [x]) (hp:Wg zf Mc hv "Pop" [] (O ((j8 lt L).dropLast++ [x])) (O (j8 lt L).dropLast) r):
 zu zf 115 [hv] M (O L) (fun u M' o=>u=r/\M'=M/\o=O (j8 lt L).dropLast):=by
 have inm:=h.Jk;rw [<-hx] at hp;have hl:=h.len L hL;have hs:=h.swap L 0 (L.length-1) 0 ((L.length:Int)-1) rfl ze h0 ze hL ju;have hd:=p5 h (vQ L 0 (L.length-1)) 0 (L.length-1) M (by rw [ZI];omega) (by rw [ZI];exact hL) ze (h.perm _ _ (YL _ _ _) ju) hM;rw [show ((L.length-1:Nat):Int)=(L.length:Int)-1 by omega,show (Yf lt (L.length-1) (L.length-1) (vQ L 0 (L.length-1)) 0).1=j8 lt L from rfl] at hd;refine xy Tryz.func115 rfl Tryz.ntmps115 zd (fun F w M0 hF=>zz ?_)
 repeat' (first|refine hl.use ?_|refine hs.use ?_|refine uK hd ?_|refine hp.use ?_|refine nw ?_)
 exact ⟨_,O (j8 lt L).dropLast,zP,zE,inm _,zq,rfl,rfl,rfl⟩
theorem MS (h:Hp Mc hv O lt Ok) (L0:List α) (M:Mem) (hL:L0.length<=1000000) (ju:Ok L0) (hM:Mc.le M):
 zu zf 98 [hv] M (O L0) (fun u M' o=>u= .tuple #[]/\M'=M/\o=O (Xf lt L0.length (L0.length/2) L0)):=by
 have inm:=h.Jk;have hl:=h.len L0 hL;refine xy Tryz.func98 rfl Tryz.ntmps98 zd (fun F w M0 hF=>zz ?_)
 repeat' (first|refine hl.use ?_|((apply zA);(exact yN zd zd (D4 ze ze ze));rfl)|refine nw ?_)
 refine jv (fun x:List α×Nat=>⟨M,O x.1++F,[(0, .v hv),(2, .v (.int .i64 L0.length)),(3, .v (.int .i64 ((x.2:Int)-1)))]⟩) (fun x=>Xf lt L0.length x.2 x.1=Xf lt L0.length (L0.length/2) L0/\x.1.length=L0.length/\x.2<=L0.length/\Ok x.1) (fun x=>x.2) (L0,L0.length/2) (xZ ka) ⟨rfl,rfl,Nat.div_le_self _ _,ju⟩ ?_;rintro ⟨L,i⟩ ⟨h1,h2,h3,h4⟩;dsimp only at h1 h2 h3 h4⊢;cases i with
 |zero=>
  have d1:decide ((0:Int)<=((0:Nat):Int)-1)=false:=rfl
  repeat' (refine nw ?_)
  rw [<-h1];exact ⟨_,O L,yH.nil rfl,zE,inm _,zq,rfl,rfl,rfl⟩
 |succ i=>
  have e1:((i+1:Nat):Int)-1=(i:Int):=ze;rw [e1];have d1:decide ((0:Int)<=(i:Int))=true:=yk ze;have hd:=p5 h L i L0.length M ze ze ze h4 hM
  repeat' (first|refine uK hd ?_|refine nw ?_)
  exact yG (Q:=fun _ _=>True) ((Yf lt L0.length L0.length L i).1,i) (xZ ka) ⟨h1,by rw [(Jz lt _ _ _ _).length_eq];exact h2,by show i<=_;omega,h.perm _ _ (Jz lt _ _ _ _) h4⟩ (fh i)
end
end
end Go.Proofs.YtaibdpjjojihmaaGreat
