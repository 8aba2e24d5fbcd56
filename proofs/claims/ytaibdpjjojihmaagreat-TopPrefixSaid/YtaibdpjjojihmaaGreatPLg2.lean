/- A part of the proof of TopPrefix; no conditions. -/
import Derived.Test.YtaibdpjjojihmaaGreatPLg1
import Derived.Deep.AppendSrc
import Derived.Laws.OwnMore
set_option linter.unusedVariables false
set_option linter.unusedSimpArgs false
set_option maxRecDepth 20000
namespace Go.Proofs.YtaibdpjjojihmaaGreat
section
open Go Go.RowKit
section
variable {P:Program} {w:World} {M0:Mem} {N:Nat} {dst:Option Tmp} {ty:TypeId} {pos:String} {z7:Array Edge} {g:Option (Nat×Bool)} {M:Mem} {own:List Ob} {env:Env}
theorem amC {o:Oper} {sv:SV} (hq:QS P w M0 N o ⟨M,own,env⟩ sv) (ju:sv.okB own.length=true):EF P w M0 N o ⟨M,own,env⟩ own sv:=⟨fun hd a W hR=>(Cb (hq.go hd a W hR)).mono fun u W' ⟨e,hb⟩=>⟨hd,fun _ _=>rfl,hR.1.idle hb,e⟩,zN _,ju⟩
theorem nS {o:Oper} (ob:Ob) (hr: ∀hd a W,Rel w M0 N hd ⟨M,own,env⟩ a W-> ∃v W',(execOp a.eval o).run P W= .ok (.value v) W'/\W.grownBy W' none/\wR w.heap.size W' v ob/\(∀b,yX v=some b->W.heap.size<=b)):
 EF P w M0 N o ⟨M,own,env⟩ (own++ [ob]) (.r own.length):=⟨fun hd a W hR=>by
 obtain ⟨v,W',h1,h2,h3,h4⟩:=hr hd a W hR;rw [h1];exact ⟨Ke hd own.length v,fun i hi=>qj _ _ (by have:i<own.length:=hi;omega),hR.1.new h2 h3 h4,by simp only [SV.den,j7]⟩,by simp,by simp [SV.okB,x9]⟩
theorem Hr {t e:TypeId} {len:Nat} {parts:Array (Nat×Operand)} (k:Nat) (cells:List Value) (y7:cells.length=len*k) (qG:len<=maxLen)
 (gO: ∀hd a W,Fr N hd env a->(Instr.buildSlice t len (parts.map fun (i,x)=>(i,a.eval x))).run P W= .ok (.slice (some ⟨W.heap.size,0,none⟩) len len) (W.alloc (.cells cells.toArray e))):
 EF P w M0 N ⟨dst, .buildSlice t len parts,ty,pos,z7,g⟩ ⟨M,own,env⟩ (own++ [.row e k len cells]) (.r own.length):=
 nS (.row e k len cells) (fun hd a W hR=>by
  refine ⟨_,_,?_,rI W (.cells cells.toArray e) none,⟨y7, .inr ⟨W.heap.size,len,_,rfl,hR.1.below.size,JI W _,zN _,qG,by simpa using y7,by rw [wD (by simp [y7])]⟩⟩,fun b hb=>?_⟩
  · simp only [execOp,yz,gO hd a W hR.2,xh,xM]
  · obtain rfl:W.heap.size=b:=by simpa [yX] using hb
    exact zN _)
theorem abW {t e:TypeId} {x:Operand} {u:Value} {bytes k:Nat} (hx:env.op x=some (.v u)) [hE:kr P t e k bytes] (hu:u.cells.size=k) (qG:Nat.ble k 1000000=true):
 EF P w M0 N ⟨dst, .buildSlice t 1 #[(0,x)],ty,pos,z7,g⟩ ⟨M,own,env⟩ (own++ [.row e k 1 u.cells.toList]) (.r own.length):=
 Hr (t:=t) (e:=e) k u.cells.toList (by simp [hu]) Kq (Cz hx hu qG)
theorem abV {t e:TypeId} {len:Nat} {parts:Array (Nat×Operand)} {bytes:Nat} {vs:List Value} [hE:kr P t e 1 bytes] (UG:env.kP (parts.toList.map (·.2))=some vs) (dC:parts.toList.map (·.1)=List.range' 0 vs.length) (y7:vs.length=len) (qG:Nat.ble len 1000000=true) (h1:(vs.all (·.oneCell'))=true):
 EF P w M0 N ⟨dst, .buildSlice t len parts,ty,pos,z7,g⟩ ⟨M,own,env⟩ (own++ [.row e 1 len vs]) (.r own.length):=
 Hr (t:=t) (e:=e) 1 vs ze (by have:=Xk qG;unfold maxLen;omega) (Cx UG dC y7 qG h1)
theorem Xn {o:Oper} {zw:List Ob} (h:ES P w M0 N o ⟨M,own,env⟩ zw) (hl:zw.length=own.length):EF P w M0 N o ⟨M,own,env⟩ zw (.v undef):=⟨fun hd a W hR=>by
 obtain ⟨W',h1,h2⟩:=h hd a W hR;rw [h1];exact ⟨hd,fun _ _=>rfl,h2,rfl⟩,by rw [hl];exact zN _,rfl⟩
theorem D1 {f:FuncId} {xs:Array Operand} {qz:Array TypeId} {vs:List Value} {e:TypeId} {k n:Nat} {cs:List Value} [hf:zG P f] (hv:env.kP xs.toList=some vs) (hc: ∀W,M.le (Mem.of W)->Calls P f vs.toArray W (uV e k n cs W)):
 EF P w M0 N ⟨dst, .call ⟨.value (.func f),xs,qz⟩,ty,pos,z7,g⟩ ⟨M,own,env⟩ (own++ [.row e k n cs]) (.r own.length):=⟨fun hd a W hR=>by
 rw [ZP (s:=⟨M,own,env⟩) hR.2 hf.h hv];simp only [kj];refine (hc W hR.1.mem).mono fun x W' lW=>?_
 obtain ⟨v,he,hb,w8⟩:=lW;have YC:=hR.1.below.size
 have ju:W'.ownsRow w.heap.size e k v n cs:=by
  refine ⟨w8.1,?_⟩;rcases w8.2 with h1|⟨g,cap,cur,h1,h2,h3⟩
  · exact .inl h1
  · exact .inr ⟨g,cap,cur,h1,ze,h3⟩
 have uM:=hR.1.new (o':= .row e k n cs) (v':=v) (uO hb) ju (fun b Za=>by
  rcases w8.2 with ⟨h1,_⟩|⟨g,cap,cur,h1,h2,h3⟩
  · rw [h1] at Za;cases Za
  · rw [h1] at Za;obtain rfl:g=b:=by simpa [yX] using Za
    exact h2)
 exact ⟨v,he,Ke hd own.length v,fun i hi=>qj _ _ (by have:i<own.length:=hi;omega),uM,by simp only [SV.den,j7]⟩,by simp,by simp [SV.okB,x9]⟩
theorem rW {x y:Operand} {t e e2:TypeId} {i j k n m bytes:Nat} {xs YT:List Value} (hx:env.op x=some (.r i)) (hy:env.op y=some (.r j)) (hi:own[i]?=some (.row e k n xs))
 (hj:own[j]?=some (.row e2 k m YT)) [hE:kr P t e k bytes] (h0:0<m) (h1:(YT.all (·.oneCell'))=true) (gW:n+m<=maxLen) (va:(n+m)*bytes<=140737488355328):
 EF P w M0 N ⟨dst, .call ⟨.builtin .append, #[x,y], #[t,t]⟩,ty,pos,z7,g⟩ ⟨M,own,env⟩ (own.set i .gone++ [.row e k (n+m) (xs++YT)]) (.r own.length):=⟨fun hd a W hR=>by
 have J7:=uy.mk' hE.h;have hO:=hR.1.own i _ hi;have hN:=hR.1.own j _ hj;obtain ⟨hNl,hNv⟩:=id hN;rcases hNv with ⟨_,h⟩|⟨g,cap,cur,hNv,hbg,hg,FN,bj,WF,Xg⟩
 · omega
 obtain ⟨v',W',r1,r2,r3,r4⟩:=YP (P:=P) (ty:=ty) J7 hO (a:=⟨g,0,none⟩) (m:=m) (c:=cap) hNl (fun q u hq=>by
  have hh:=ku hN (off:=q) (u:=u) hq;rw [hNv] at hh;rw [vG,xu];exact hh) (fun u hu=>yw.1 h1 u hu) h0 gW va hR.1.below.size
 have YV:=hR.2.eval hx;have FH:=hR.2.eval hy;simp only [SV.den] at YV FH;rw [hNv] at FH;rw [ZQ YV FH,r1];simp only [xh,kj];have JT:=hR.1.app (o':= .row e k (n+m) (xs++YT)) hi yx r3 VA r2 r4;exact ⟨Ke hd own.length v',fun q hq=>qj _ _ (by have:q<own.length:=hq;omega),JT,by simp only [SV.den,j7]⟩,by simp,by simp [SV.okB,x9]⟩
section
variable {cf:List FuncId} {ops:Array Oper} {ds:List Tmp} {l:List Oper} {K:Env->Prop}
end
theorem Xl {ops:Array Oper} {l:List Oper} {Q:zX} {op:Go.Op} (zw:List Ob) (sv:SV) (he:EF P w M0 N ⟨dst,op,ty,pos,z7,none⟩ ⟨M,own,env⟩ zw sv) (hk:yi N dst=true) (zV:yR env own.length=true)
 (h:VL P w M0 N ops l ⟨M,zw,env.put dst sv⟩ Q):VL P w M0 N ops (⟨dst,op,ty,pos,z7,none⟩::l) ⟨M,own,env⟩ Q:= .mk fun hd a W hR=>by
 refine v8 rfl fun K hK=>?_
 have h1:=he.go hd a W hR;unfold Oper.wp
 have key: ∀z W',(∃yE,(∀i,i<own.length->yE i=hd i)/\Wd w M0 yE M zw W'/\z=sv.den yE)->K (a.put dst z) W':=fun z W' ⟨yE,Bb,Zl,hz⟩=>by
  subst hz;exact hK _ _ (h.go yE _ W' ⟨Zl,(hR.2.KH fun t u ht=>X6 Bb (vn zV t u ht)).put hk sv⟩)
 generalize (execOp a.eval ⟨dst,op,ty,pos,z7,none⟩).run P W=r at*;cases r with
 |ok nx W'=>
  cases nx<;>simp only [kj] at h1<;>simp only [Oper.upon]
  case value z=>exact key _ _ h1
  case skip=>exact key _ _ h1
  case enter f args=>exact h1.mono fun e NO ⟨z,he,hz⟩=>by subst he;exact key _ _ hz
 |halt x w'=>simp only [kj] at h1
end
end
section
open Go Go.RowKit
section
variable {P:Program} {w:World} {M0:Mem} {N:Nat} {dst:Option Tmp} {ty:TypeId} {pos:String} {z7:Array Edge} {g:Option (Nat×Bool)} {M:Mem} {own:List Ob} {env:Env}
theorem QY {a:Act} {W:World} {x y:Operand} {t:TypeId} {u v r:Value} {W':World} (hx:a.eval x=u) (hy:a.eval y=v) (hr:(Builtin.append_ #[t,t] ty #[u,v]).run P W= .ok r W'):(execOp a.eval ⟨dst, .call ⟨.builtin .append, #[x,y], #[t,t]⟩,ty,pos,z7,g⟩).run P W= .ok (.value r) W':=by
 rw [ZQ hx hy,hr];rfl
theorem Ue {x y:Operand} {t e:TypeId} {b off i k n m c bytes:Nat} {xs:List Value} (YT:List Value) (hx:env.op x=some (.r i)) (hy:env.op y=some (.v (.slice (some ⟨b,off,none⟩) m c))) (hi:own[i]?=some (.row e k n xs)) [hE:kr P t e k bytes] (hl:YT.length=m*k)
 (hc: ∀q u,YT[q]?=some u->M.cell b (off+q)=some u) (h0:0<m) (h1:(YT.all (·.oneCell'))=true) (gW:n+m<=maxLen) (va:(n+m)*bytes<=140737488355328):
 EF P w M0 N ⟨dst, .call ⟨.builtin .append, #[x,y], #[t,t]⟩,ty,pos,z7,g⟩ ⟨M,own,env⟩ (own.set i .gone++ [.row e k (n+m) (xs++YT)]) (.r own.length):=⟨fun hd a W hR=>by
 have J7:=uy.mk' hE.h;have hO:=hR.1.own i _ hi;obtain ⟨v',W',r1,r2,r3,r4⟩:=YP (P:=P) (ty:=ty) J7 hO (a:=⟨b,off,none⟩) (m:=m) (c:=c) hl (fun q u hq=>by rw [vG,<-Mem.Z7];exact hR.1.mem.cell (hc q u hq)) (fun u hu=>yw.1 h1 u hu) h0 gW va hR.1.below.size;have YV:=hR.2.eval hx;have FH:=hR.2.eval hy;simp only [SV.den] at YV FH;rw [ZQ YV FH,r1];simp only [xh,kj];have JT:=hR.1.app (o':= .row e k (n+m) (xs++YT)) hi yx r3 VA r2 r4;exact ⟨Ke hd own.length v',fun q hq=>qj _ _ (by have:q<own.length:=hq;omega),JT,by simp only [SV.den,j7]⟩,by simp,by simp [SV.okB,x9]⟩
theorem Xt {t ty e:TypeId} {k bytes:Nat} (hE:uy P t e k bytes) {W:World} (A B:Option Addr) {n c c':Nat} (hn:n<=c):(Builtin.append_ #[t,t] ty #[.slice A n c, .slice B 0 c']).run P W= .ok (.slice A n c) W:=by
 obtain ⟨i,z,hi,hz,YC,hb,pX⟩:=hE.hi;cases A<;>cases B<;>simp [Builtin.append_,jG hE.ht,sizeOf,typeInfo,hi,Builtin.lenOf,Builtin.firstCells,loadCells,loadCellsFrom,hn,storeCells]
theorem WO {x y:Operand} {t e:TypeId} {A B:Option Addr} {k bytes n c c':Nat} {s:St} (hx:s.env.op x=some (.v (.slice A n c))) (hy:s.env.op y=some (.v (.slice B 0 c'))) [hE:kr P t e k bytes] (hn:n<=c):
 QS P w M0 N ⟨dst, .call ⟨.builtin .append, #[x,y], #[t,t]⟩,ty,pos,z7,g⟩ s (.v (.slice A n c)):=xH fun hd a W hR=>
 QY (hR.2.eval hx) (hR.2.eval hy) (Xt (uy.mk' hE.h) A B hn)
theorem Yv {x y:Operand} {t e e2:TypeId} {B:Option Addr} {i k bytes n k2 c':Nat} {cs:List Value} {s:St} (hx:s.env.op x=some (.r i)) (hi:s.own[i]?=some (.row e2 k2 n cs)) (hy:s.env.op y=some (.v (.slice B 0 c'))) [hE:kr P t e k bytes]:
 QS P w M0 N ⟨dst, .call ⟨.builtin .append, #[x,y], #[t,t]⟩,ty,pos,z7,g⟩ s (.r i):=xH fun hd a W hR=>by
 obtain ⟨_,⟨h,h0⟩|⟨b,cap,cur,h,_,_,h3,_⟩⟩:=hR.1.own i _ hi
 · exact QY (hR.2.eval hx) (hR.2.eval hy) (by simp only [SV.den];rw [h];exact Xt (uy.mk' hE.h) none B (zN _))
 · exact QY (hR.2.eval hx) (hR.2.eval hy) (by simp only [SV.den];rw [h];exact Xt (uy.mk' hE.h) _ B h3)
theorem xt.flat {α:Type} {k:Nat} {cells:α->List Value} {A:Option Addr} {c:Nat} {l:List α} (hk: ∀a∈l,(cells a).length=k) (h:xt M k cells (.slice A l.length c) l) (jt:l≠ []):
 ∃b off,A=some ⟨b,off,none⟩/\(l.flatMap cells).length=l.length*k/\ ∀q u,(l.flatMap cells)[q]?=some u->M.cell b (off+q)=some u:=by
 have y7: ∀m:List α,(∀a∈m,(cells a).length=k)->(m.flatMap cells).length=m.length*k:=fun m=>by
  induction m with
  |nil=>intro _;simp
  |cons a m ih=>
   intro hm;rw [j6,yK,ih (fun x hx=>hm x (by simp [hx])),hm a yx,xd,um];omega
 obtain ⟨A',c',he,_,_,h4⟩:=h;injection he with hA _ hc;subst hA;rcases h4 with h4|⟨b,off,rfl,_,h7⟩
 · exact absurd h4 jt
 · refine ⟨b,off,rfl,y7 l hk,fun q u hq=>?_⟩
   have Eb:q<l.length*k:=by
    have:=(xI.1 hq).1;rw [y7 l hk] at this;exact this
   have CX:0<k:=G5 fun h0=>by subst h0;simp at Eb
   have hi:q/k<l.length:=Nat.div_lt_of_lt_mul (by rw [t5];exact Eb);have hj:=tW q CX;have hqe:q=q/k*k+q % k:=by rw [t5];exact (Nat.div_add_mod q k).symm
   have h8:=vm (k:=k) l (q/k) (q % k) hi hk hj;rw [<-hqe,hq] at h8;have:=h7 (q/k) hi (q % k) u h8.symm;rw [hqe,<-nB];exact this
theorem xt.part {α:Type} {k:Nat} {cells:α->List Value} {A:Option Addr} {c:Nat} {l:List α} (h:xt M k cells (.slice A l.length c) l) {p q m:Nat} (iw:p<=q) (hq:q<=l.length) (hm:q<=m) (hmc:m<=c):
 xt M k cells (sliced A p q m k) ((l.take q).drop p):=by
 obtain ⟨A',c',he,vK,qD,h4⟩:=h;injection he with hA _ hc;subst hA hc;have y7:((l.take q).drop p).length=q-p:=by rw [kI,yC];omega
 unfold sliced;refine ⟨_,m-p,by rw [y7],ze,ze,?_⟩;by_cases hpe:p=q
 · left;apply dm;omega
 · rcases h4 with h4|⟨b,off,rfl,h6,h7⟩
   · subst h4;simp at hq;omega
   · right;refine ⟨b,off+p*k,?_,h6,fun i hi j x hx=>?_⟩
     · rw [zn ze];simp [vG]
     · rw [y7] at hi;have e:((l.take q).drop p)[i]=l[p+i]'(by omega):=by simp
       rw [e] at hx;have:=h7 (p+i) ze j x hx;rw [show off+p*k+i*k+j=off+(p+i)*k+j by rw [um];omega];exact this
theorem yg {x:Operand} {t:TypeId} {A:Option Addr} {n c:Nat} {lo hi mx:Option Operand} {s:St} (p q m:Nat) {k:Nat} (hx:s.env.op x=some (.v (.slice A n c))) [hte:X1 P t k]
 (Qw:match lo with|none=>p=0|some o=>s.env.op o=some (.v (.int .i64 p))) (cq:match hi with|none=>q=n|some o=>s.env.op o=some (.v (.int .i64 q))) (sX:match hi,mx with|_,none=>m=c|some _,some o=>s.env.op o=some (.v (.int .i64 m))|none,some _=>False)
 (h1:p<=q) (h2:q<=m) (h3:m<=c) (h4:n<=c):QS P w M0 N ⟨dst, .slice t x lo hi mx,ty,pos,z7,g⟩ s (.v (sliced A p q m k)):=xH fun hd a W hR=>by
 have YV:=hR.2.eval hx;simp only [SV.den] at YV;have ht:=hte.h;unfold mB at ht;split at ht
 · rename_i e hu
   have KK:P.underlying t=some (.slice (P.elem t)):=by simp [Program.elem,hu]
   have he:P.elem t=e:=by simp [Program.elem,hu]
   have YC:=y9 (P:=P) ht W;rw [<-he] at YC
   have fin: ∀(l' h' m':Option Value),(Instr.slice t (.slice A n c) l' h' m').run P W=((sizeOf (P.elem t)).run P W).andThen (fun s w=> .ok (sliced A p q m s) w)->(Instr.sliceAt t (.slice A n c) l' h' m').run P W= .ok (sliced A p q m k) W:=fun l' h' m' hh=>by
    rw [nI W t _ l' h' m' KK,hh,YC];rfl
   have ev: ∀ {o:Operand} {z:Nat},s.env.op o=some (.v (.int .i64 z))->a.eval o= .int .i64 z:=fun ho=>hR.2.eval ho
   cases lo with
   |none=>
    simp only at Qw;subst Qw;cases hi with
    |none=>
     simp only at cq;subst cq;cases mx with
     |none=>
      simp only at sX;subst sX;simp only [execOp,YV,Yl,yz,fin _ _ _ (run_slice_all W t A q m KK)];rfl
     |some o=>
      exact sX.elim
    |some o=>
     have hq:=ev cq;cases mx with
     |none=>
      simp only at sX;subst sX;have hh:=fin none (some (.int .i64 q)) none (by rw [run_slice_h W t A n m KK .i64 q ze ze];simp);simp only [execOp,YV,Yl,ur,hq,yz,hh];rfl
     |some o2=>
      have hm:=ev sX;have hh:=fin none (some (.int .i64 q)) (some (.int .i64 m)) (by rw [run_slice_hm W t A n c KK .i64 .i64 q m ze ze ze];simp);simp only [execOp,YV,Yl,ur,hq,hm,yz,hh];rfl
   |some ol=>
    have hp:=ev Qw;cases hi with
    |none=>
     simp only at cq;subst cq;cases mx with
     |none=>
      simp only at sX;subst sX;have hh:=fin (some (.int .i64 p)) none none (by rw [run_slice_l W t A q m KK .i64 p ze ze];simp);simp only [execOp,YV,Yl,ur,hp,yz,hh];rfl
     |some o=>
      exact sX.elim
    |some o=>
     have hq:=ev cq;cases mx with
     |none=>
      simp only at sX;subst sX;have hh:=fin (some (.int .i64 p)) (some (.int .i64 q)) none (by rw [run_slice_lh W t A n m KK .i64 .i64 p q ze ze ze];simp);simp only [execOp,YV,Yl,ur,hp,hq,yz,hh];rfl
     |some o2=>
      have hm:=ev sX;have hh:=fin (some (.int .i64 p)) (some (.int .i64 q)) (some (.int .i64 m)) (by rw [run_slice_lhm W t A n c KK .i64 .i64 .i64 p q m ze ze ze ze];simp);simp only [execOp,YV,Yl,ur,hp,hq,hm,yz,hh];rfl
 · cases ht
end
end
section
open Go Go.RowKit
section
variable {P:Program} {w:World} {M0:Mem} {N:Nat} {dst:Option Tmp} {ty:TypeId} {pos:String} {z7:Array Edge} {g:Option (Nat×Bool)} {M:Mem} {own:List Ob} {env:Env} {s:St}
theorem rh {k off:Nat}: ∀(us:List Value) (j:Nat) (cs:Array Value),off+j+us.length<=cs.size->
 ((us.zipIdx j).foldl (fun (cs:Array Value) (x:Value×Nat)=>cs.setIfInBounds (off+x.2) x.1) cs).toList=cs.toList.take (off+j)++us++cs.toList.drop (off+j+us.length)
 | [],j,cs,_=>by simp
 |u::us,j,cs,h=>by
  simp only [xd] at h;rw [GQ,GK,rh (k:=k) us (j+1) _ (by simp;omega)];simp only [DG,xd];rw [Q7,rJ ze]
  have:(cs.toList.take (off+(j+1))).set (off+j) u=cs.toList.take (off+j)++ [u]:=by
   rw [show off+(j+1)=(off+j)+1 by omega,vF (by simp;omega),YF _ _ (by simp;omega)];simp [show off+j-min (off+j) cs.size=0 by omega]
  rw [this];simp only [xY,wQ,Yn];congr 4;omega
theorem my (n k:Nat): ∀(vs:List Value) (j:Nat) (cs:Array Value),cs.size=n*k->j+vs.length<=n->(∀v∈vs,v.cells.size=k)->
 (Instr.fill (fun i=>some (i*k,k)) cs (Jx j vs)).map Array.toList=some (cs.toList.take (j*k)++vs.flatMap (fun v=>v.cells.toList)++cs.toList.drop ((j+vs.length)*k))
 | [],j,cs,hl,hj,_=>by
  unfold Jx Instr.fill;simp
 |v::vs,j,cs,hl,hj,h1=>by
  have hv:v.cells.size=k:=h1 v yx;simp only [xd] at hj;have Rl:j*k+k<=n*k:=by rw [<-uq];exact uB _ ze
  unfold Jx Instr.fill;simp only [hv];rw [zn (by simp [hl];omega)]
  have e1:v.cells.zipIdx.foldl (fun (cs:Array Value) x=>cs.setIfInBounds (j*k+x.2) x.1) cs=(v.cells.toList.zipIdx 0).foldl (fun (cs:Array Value) (x:Value×Nat)=>cs.setIfInBounds (j*k+x.2) x.1) cs:=by
   rw [<-G6];simp
  have e2:=rh (k:=k) (off:=j*k) v.cells.toList 0 cs (by simp [hv,hl];exact Rl);rw [e1];generalize WF:(v.cells.toList.zipIdx 0).foldl (fun (cs:Array Value) (x:Value×Nat)=>cs.setIfInBounds (j*k+x.2) x.1) cs=Zn at e2⊢;have P2:v.cells.toList.length=k:=by simp [hv]
  have YC:Zn.size=n*k:=by
   rw [<-mZ,e2];rw [yK,yK,kI,yC,P2,mZ,hl,Kt,jn ze];omega
  have ih:=my n k vs (j+1) Zn YC ze (fun u hu=>h1 u (by simp [hu]));rw [ih,e2];have e3:(j+1)*k=j*k+k:=uq j k;have e4:(j+1+vs.length)*k=j*k+k+vs.length*k:=by rw [um,uq]
  have e5:(j+(v::vs).length)*k=j*k+k+vs.length*k:=by rw [xd,<-e4];congr 1;omega
  rw [e3,e4,e5];simp only [Kt,P2];congr 1;have hA:(cs.toList.take (j*k)++v.cells.toList).length=j*k+k:=by rw [yK,yC,P2,mZ,hl,jn ze]
  rw [Ai hA,j6,List.drop_append,hA,show j*k+k+vs.length*k-(j*k+k)=vs.length*k by omega,Q8,Ut (by rw [hA];omega),Yn];simp only [xY]
theorem Mo {t e:TypeId} {env:Env} {len k bytes:Nat} {parts:Array (Nat×Operand)} {vs:List Value} [hE:kr P t e k bytes] (UG:env.kP (parts.toList.map (·.2))=some vs) (dC:parts.toList.map (·.1)=List.range' 0 vs.length) (y7:vs.length=len) (qG:Nat.ble (len*k) 1000000=true) (h1:(vs.all fun v=>v.cells.size==k)=true)
 (hd:Nat->Value) (a:Act) (W:World) (hF:Fr N hd env a):(Instr.buildSlice t len (parts.map fun (i,x)=>(i,a.eval x))).run P W= .ok (.slice (some ⟨W.heap.size,0,none⟩) len len) (W.alloc (.cells (vs.flatMap fun v=>v.cells.toList).toArray e)):=by
 have J7:=uy.mk' hE.h;obtain ⟨i,z,hi,hz,hs,hb,pX⟩:=J7.hi;have hpe:=Env.Jj hF parts.toList _ (Kg _ _ 0 UG dC);have hlm:len*k<=1000000:=Xk qG;have CX:=J7.hk;have QP:(parts.map fun (i,x)=>(i,a.eval x)).toList=Jx 0 vs:=by rw [fi];exact hpe
 have CY: ∀cs:Array Value,cs.size=len*k->Instr.fill (fun q=>some (q*k,k)) cs (Jx 0 vs)=some (vs.flatMap fun v=>v.cells.toList).toArray:=fun cs WF=>by
  have:=my len k vs 0 cs WF ze (fun v hv=>by simpa using yw.1 h1 v hv);rw [Vp,eZ,Yn,xu,y7,Ut (by simp [WF]),xR] at this;cases hf:Instr.fill (fun q=>some (q*k,k)) cs (Jx 0 vs) with
  |none=>rw [hf] at this;cases this
  |some r=>
   rw [hf] at this;simp only [ur,Ua] at this;rw [<-this]
 simp only [Instr.buildSlice,yz,jG J7.ht,xh,sizeOf,typeInfo,aO,hi,hs,xM];rw [zn ze];by_cases h0:len=0
 · simp only [h0,Vp,uR,xM,xh,QP];have hv0:vs= []:=dm ze;subst hv0;simp [Jx,Instr.fill,newRow,Array.range_zero']
 · have h0':len*k≠0:=by have:=Nat.mul_pos (G5 h0) CX;omega
   simp only [h0',kT,yz,zeroValue,typeInfo,aO,hi,xh,hz,xM,QP];have:=CY ((Array.range (len*k)).map (z.cells[· % z.cells.size]!)) yx;rw [this];simp [newRow]
theorem Dh {k:Nat}: ∀vs:List Value,(vs.all fun v=>v.cells.size==k)=true->(vs.flatMap fun v=>v.cells.toList).length=vs.length*k
 | [],_=>by simp
 |v::vs,h=>by
  simp only [aS,yF,eH] at h;rw [j6,yK,Dh vs h.2,xd,uq];simp [h.1];omega
theorem D0 {t e:TypeId} {len k bytes:Nat} {parts:Array (Nat×Operand)} {vs:List Value} [hE:kr P t e k bytes] (UG:env.kP (parts.toList.map (·.2))=some vs) (dC:parts.toList.map (·.1)=List.range' 0 vs.length) (y7:vs.length=len) (qG:Nat.ble (len*k) 1000000=true) (h1:(vs.all fun v=>v.cells.size==k)=true):
 EF P w M0 N ⟨dst, .buildSlice t len parts,ty,pos,z7,g⟩ ⟨M,own,env⟩ (own++ [.row e k len (vs.flatMap fun v=>v.cells.toList)]) (.r own.length):=
 Hr (t:=t) (e:=e) k _ (by rw [Dh vs h1,y7]) (by
  have h2:=Xk qG;have h3:=(uy.mk' hE.h).hk;have:len*1<=len*k:=Nat.mul_le_mul_left _ h3;unfold maxLen;omega) (Mo UG dC y7 qG h1)
theorem Su {ops:Array Oper} {l:List Oper} {Q:zX} {t e:TypeId} {len k bytes:Nat} {parts:Array (Nat×Operand)} {vs:List Value} [hE:kr P t e k bytes] (UG:env.kP (parts.toList.map (·.2))=some vs) (dC:parts.toList.map (·.1)=List.range' 0 vs.length) (y7:vs.length=len) (qG:Nat.ble (len*k) 1000000=true) (h1:(vs.all fun v=>v.cells.size==k)=true)
 (hk:yi N dst=true) (zV:yR env own.length=true) (h:VL P w M0 N ops l ⟨M,own++ [.row e k len (vs.flatMap fun v=>v.cells.toList)],env.put dst (.r own.length)⟩ Q):VL P w M0 N ops (⟨dst, .buildSlice t len parts,ty,pos,z7,none⟩::l) ⟨M,own,env⟩ Q:=
 Xl _ _ (D0 UG dC y7 qG h1) hk zV h
def Env.svs (e:Env):List Operand->Option (List SV)
 | []=>some []
 |x::l=>match e.op x,e.svs l with|some v,some r=>some (v::r)|_,_=>none
theorem Env.BG {hd:Nat->Value} {env:Env} {a:Act} (h:Fr N hd env a): ∀(l:List Operand) (vs:List SV),env.svs l=some vs->l.map a.eval=vs.map (SV.den hd)
 | [],vs,hp=>by cases hp;rfl
 |x::l,vs,hp=>by
  unfold Env.svs at hp;split at hp
  · rename_i v r hx hr
    cases hp;rw [xw,Env.BG h l r hr,h.eval hx];rfl
  · cases hp
theorem Gm {hd:Nat->Value} {a:Act} {W:World} {f:FuncId} {xs:Array Operand} {qz:Array TypeId} {vs:List SV} (hF:Fr N hd s.env a) (hf:rD P f=true) (hv:s.env.svs xs.toList=some vs):
 (execOp a.eval ⟨dst, .call ⟨.value (.func f),xs,qz⟩,ty,pos,z7,g⟩).run P W= .ok (.enter f (vs.map (SV.den hd)).toArray) W:=by
 have h1:=Env.BG hF _ _ hv;show (callFunc f (#[]++xs.map a.eval++ #[])).run P W=_;rw [Je hf];have:(#[]++xs.map a.eval++ #[]:Array Value)=(vs.map (SV.den hd)).toArray:=by rw [<-h1];cases xs;simp
 rw [this]
theorem uj {f:FuncId} {xs:Array Operand} {qz:Array TypeId} {vs:List SV} {r:Value} [hf:zG P f] (hv:s.env.svs xs.toList=some vs)
 (hc: ∀(hd:Nat->Value) W,(∀i o,s.own[i]?=some o->wR w.heap.size W (hd i) o)->s.M.le (Mem.of W)->Calls P f (vs.map (SV.den hd)).toArray W fun e W'=>e= .returned r/\Below W.heap.size W W'):
 QS P w M0 N ⟨dst, .call ⟨.value (.func f),xs,qz⟩,ty,pos,z7,g⟩ s (.v r):= .mk fun hd a W hR=>by
 unfold Oper.quietAt;rw [Gm hR.2 hf.h hv];exact ⟨rfl,hc hd W hR.1.own hR.1.mem⟩
theorem wR.sl {α:Type} {base:Nat} {W:World} {v:Value} {e:TypeId} {k n:Nat} {cs:List Value} {cells:α->List Value} (l:List α) (h:wR base W v (.row e k n cs)) (hn:n=l.length) (hk: ∀a∈l,(cells a).length=k) (hc:cs=l.flatMap cells):Sl W k cells v l:=by
 subst hn hc;exact Sl.adn hk h
theorem az {hd:Nat->Value} {a:Act} {W:World} {f:FuncId} {x:Operand} {k8:Array Value} {xs:Array Operand} {qz:Array TypeId} {vs:List Value} (hF:Fr N hd s.env a) (hf:rD P f=true) (hx:s.env.op x=some (.v (.func (.func f) #[] k8))) (hv:s.env.kP xs.toList=some vs):
 (execOp a.eval ⟨dst, .call ⟨.value x,xs,qz⟩,ty,pos,z7,g⟩).run P W= .ok (.enter f (vs.toArray++k8)) W:=by
 have h1:=Env.ZG hF _ _ hv;have h2:=hF.eval hx;simp only [SV.den] at h2;have e:(#[]++xs.map a.eval:Array Value)=vs.toArray:=by rw [<-h1];cases xs;simp
 simp only [execOp,resolve,h2,Deferred.ofValue,yz,xM,xh,e,invoke,Je hf]
theorem kA {f:FuncId} {x:Operand} {k8:Array Value} {xs:Array Operand} {qz:Array TypeId} {vs:List Value} {r:Value} (hx:s.env.op x=some (.v (.func (.func f) #[] k8))) [hf:zG P f] (hv:s.env.kP xs.toList=some vs)
 (hc: ∀W,s.M.le (Mem.of W)->Calls P f (vs.toArray++k8) W fun e W'=>e= .returned r/\Below W.heap.size W W'):QS P w M0 N ⟨dst, .call ⟨.value x,xs,qz⟩,ty,pos,z7,g⟩ s (.v r):= .mk fun hd a W hR=>by
 unfold Oper.quietAt;rw [az hR.2 hf.h hx hv];exact ⟨rfl,hc W hR.1.mem⟩
end
section
variable {P:Program} {x y:Operand} {t:TypeId}
theorem bK (W:World) (d:Nat) (t:TypeId) {e:TypeId} (h:P.underlying t=some (.slice e)) (A:Option Addr) (n c:Nat):(Op.equalIn (d+1) t (.slice A n c) (.slice none 0 0)).run P W= .ok A.isNone W:=by
 cases A<;>simp [Op.equalIn,jG h]
theorem gG (W:World) (t:TypeId) {e:TypeId} (h:P.underlying t=some (.slice e)) (A:Option Addr) (n c:Nat):(Op.equal t (.slice A n c) (.slice none 0 0)).run P W= .ok A.isNone W:=bK W 9999 t h A n c
theorem AS [h:XE P t] {A:Option Addr} {n c:Nat}:Wh P .eql t x (.const (.slice none 0 0)) (.slice A n c) (.slice none 0 0) (.bool A.isNone):= .mk fun W=>by
 have hu:=Jq h.h;rw [yz]
 have hg:(eqGuard .eql t x (.const (.slice none 0 0)) (.slice A n c) (.slice none 0 0)).run P W= .ok () W:=by
  simp [eqGuard]
 rw [hg];simp only [xh,binOp];simp [gG W t hu A n c]
end
end
section
open Go Go.RowKit
section
variable {P:Program} {w:World} {M0:Mem} {N:Nat} {dst:Option Tmp} {ty:TypeId} {pos:String} {z7:Array Edge} {g:Option (Nat×Bool)} {M:Mem} {own:List Ob} {env:Env} {s:St}
theorem aZ {f:FuncId} {fn:Func} {c:Code} {args:List Value} {e:TypeId} {k n:Nat} {cs:List Value} {t:Tmp} (hf:P.funcs[f]?=some fn) (hb:fn.body=some c) (hn:fn.ntmps=N) (hk:Nat.ble args.length N=true) (hM:M.le (Mem.of w)) (km:fn.results= #[.tmp t])
 (h:VC P w M N c ⟨M,[],vL 0 args⟩ (ay fun s=>(∃i,s.env.get t=some (.r i)/\s.own[i]?=some (.row e k n cs))\/(s.env.get t=some (.v (.slice none 0 0))/\n=0/\cs= []))):Calls P f args.toArray w (uV e k n cs w):=by
 have U5:args.length<=N:=Xk hk;refine eJ hf hb (vZ (h.go (fun _=> .nilFunc) _ w ⟨⟨ZD _ _,hM,fun b _ h=>h,zE,fun i o hi=>by simp at hi,fun i o b hi=>by simp at hi,fun i j oi oj b hi=>by simp at hi⟩,fun t sv ht=>?_,?_,rfl⟩) ?_)
 · obtain ⟨v,_,h1,rfl⟩:=ui args 0 t sv ht;have Uz:args[t]?=some v:=by simpa using h1
   have z9:=(xI.1 Uz).1;show (args.toArray++_)[t]?=some v;rw [du (by simpa using z9)];simpa using Uz
 · simp [hn];omega
 · rintro x a' W' ⟨yE,s',uE,hq⟩
   have key:((∃i,s'.env.get t=some (.r i)/\s'.own[i]?=some (.row e k n cs))\/(s'.env.get t=some (.v (.slice none 0 0))/\n=0/\cs= []))->a'.defers= []/\ ∃v,(results fn a'.tmps).run P W'= .ok v W'/\uV e k n cs w (.returned v) W':=by
    rintro (⟨i,h1,h2⟩|⟨h1,rfl,rfl⟩)
    · have ht:=uE.2.env t _ h1;refine ⟨uE.2.defers,yE i,?_,yE i,rfl,uE.1.below,uE.1.own i _ h2⟩;rw [results_tmp km];simp [ht,SV.den]
    · have ht:=uE.2.env t _ h1;refine ⟨uE.2.defers, .slice none 0 0,?_, .slice none 0 0,rfl,uE.1.below,At W' _ e k⟩;rw [results_tmp km];simp [ht,SV.den]
   cases x with
   |ret=>exact key hq
   |normal=>exact key hq
   |exit id=>exact hq.elim
   |goto l=>exact hq.elim
   |panic c=>exact hq.elim
   |outgrown=>exact hq.elim
def SV.frz (i:Nat) (v:Value):SV->SV
 | .r j=>match Nat.beq j i with|true=> .v v|false=> .r j
 | .p j off=>match Nat.beq j i with|true=> .v (.pointer (some ⟨(yX v).getD 0,off,none⟩))|false=> .p j off
 | .v x=> .v x
def JV (i:Nat) (v:Value):Env->Env
 | []=> []
 |(t,sv)::l=>(t,sv.frz i v)::JV i v l
theorem Dc {i:Nat} {v:Value}: ∀ {e:Env} {t:Nat} {sv:SV},(JV i v e).get t=some sv-> ∃u,e.get t=some u/\sv=u.frz i v
 | [],t,sv,h=>by cases h
 |(k,u)::l,t,sv,h=>by
  unfold JV Env.get at h;unfold Env.get;split at h
  · rename_i hb
    cases h;exact ⟨u,rfl,rfl⟩
  · rename_i hb
    exact Dc h
theorem aaY {hd:Nat->Value} {i:Nat} {v:Value} (hv:hd i=v) (sv:SV):(sv.frz i v).den hd=sv.den hd:=by
 subst hv;cases sv with
 |v x=>rfl
 |p j off=>
  show SV.den hd (match Nat.beq j i with|true=> .v (.pointer (some ⟨(yX (hd i)).getD 0,off,none⟩))|false=> .p j off)=_;cases hb:Nat.beq j i with
  |true=>rw [qA hb];rfl
  |false=>rfl
 |r j=>
  show SV.den hd (match Nat.beq j i with|true=> .v (hd i)|false=> .r j)=_;cases hb:Nat.beq j i with
  |true=>rw [qA hb];rfl
  |false=>rfl
theorem QX {hd:Nat->Value} {a:Act} {i:Nat} (h:Fr N hd env a):Fr N hd (JV i (hd i) env) a:=⟨fun t sv ht=>by
 obtain ⟨u,h1,h2⟩:=Dc ht;rw [h2,aaY rfl];exact h.env t u h1,h.size,h.defers⟩
theorem Hb {ops:Array Oper} {l:List Oper} {Q:zX} {e:TypeId} {k n:Nat} {cs:List Value} (i:Nat) (hi:own[i]?=some (.row e k n cs))
 (h: ∀v M',M.le M'->ud M' k n cs v->VL P w M0 N ops l ⟨M',own.set i .gone,JV i v env⟩ Q):VL P w M0 N ops l ⟨M,own,env⟩ Q:= .mk fun hd a W hR=>by
 obtain ⟨M',h1,h2,h3⟩:=X5 hR.1 hi;exact (h (hd i) M' h1 h2).go hd a W ⟨h3,QX hR.2⟩
theorem mj {hd:Nat->Value} {W:World} {i:Nat} {t:TypeId} {cs:List Value} (hR:Wd w M0 hd M own W) (hi:own[i]?=some (.qZ t cs)): ∃(M':Mem) (b:Nat),M.le M'/\hd i= .pointer (some ⟨b,0,none⟩)/\M' b=some (.cells cs.toArray t (0,0))/\Wd w M0 hd M' (own.set i .gone) W:=by
 obtain ⟨b,hb,Uo,Rn⟩:=hR.own i _ hi;have hf:yX (hd i)=some b:=by rw [hb];rfl
 have oX:=hR.drop i
 have aeK: ∀j oj b',(own.set i Ob.gone)[j]?=some oj->oj≠ .gone->yX (hd j)=some b'->b'≠b:=fun j oj b' hj uW MR e=>by
  subst e;by_cases vN:j=i
  · subst vN;rw [wC (xI.1 hi).1] at hj;exact uW (qt hj).symm
  · rw [Zb (uS vN)] at hj;exact vN (hR.VX j i oj _ b' hj hi uW yx MR hf)
 have hle:M.le (fun x=>if x=b then W.heap[b]? else M x):=fun x o hx=>by
  by_cases he:x=b
  · subst he;rw [hR.sep i _ x hi yx hf] at hx;cases hx
  · simp only [he,kT];exact hx
 refine ⟨fun x=>if x=b then W.heap[b]? else M x,b,hle,hb,by simp only [uR];exact Rn,⟨oX.below,fun x o hx=>?_,fun x hx h0=>?_,hR.YW.trans hle,oX.own,fun j oj b' hj uW MR=>?_,oX.VX⟩⟩
 · by_cases he:x=b
   · subst he;simp only [uR] at hx;exact hx
   · simp only [he,kT] at hx;exact hR.mem x o hx
 · have:x≠b:=fun e=>by subst e;omega
   simp only [this,kT];exact hR.wS x hx h0
 · have:=aeK j oj b' hj uW MR;simp only [this,kT];exact oX.sep j oj b' hj uW MR
theorem AF {ops:Array Oper} {l:List Oper} {Q:zX} {t:TypeId} {cs:List Value} (i:Nat) (hi:own[i]?=some (.qZ t cs))
 (h: ∀b M',M.le M'->M' b=some (.cells cs.toArray t (0,0))->VL P w M0 N ops l ⟨M',own.set i .gone,JV i (.pointer (some ⟨b,0,none⟩)) env⟩ Q):VL P w M0 N ops l ⟨M,own,env⟩ Q:= .mk fun hd a W hR=>by
 obtain ⟨M',b,h1,h2,h3,h4⟩:=mj hR.1 hi;have:=QX (i:=i) hR.2;rw [h2] at this;exact (h b M' h1 h3).go hd a W ⟨h4,this⟩
theorem Mem.cell_of {M:Mem} {b off:Nat} {cs:List Value} {t:TypeId} {u:Value} (h:M b=some (.cells cs.toArray t (0,0))) (hu:cs[off]?=some u):M.cell b off=some u:=by
 unfold Mem.cell;rw [h];simpa using hu
theorem iI {c:Code} {Q:zX} (t:Tmp) (e:TypeId) (k:Nat) (ht:env.get t=some (.v (.slice none 0 0))) (zV:yR env own.length=true) (h:VC P w M0 N c ⟨M,own++ [.row e k 0 []],(t, .r own.length)::env⟩ Q):VC P w M0 N c ⟨M,own,env⟩ Q:= .mk fun hd a W hR=>by
 have JT:=hR.1.add (o':= .row e k 0 []) (v':= .slice none 0 0) (At W _ e k) (fun b hb=>by cases hb);have ef:=dd (own:=own) hR.2 zV (.slice none 0 0);refine h.go _ a W ⟨JT,fun q sv hq=>?_,hR.2.size,hR.2.defers⟩;unfold Env.get at hq;split at hq
 · rename_i hb
   obtain rfl:=qA hb;cases hq;have:=hR.2.env _ _ ht;simp only [SV.den,j7] at this⊢;exact this
 · exact ef.env q sv hq
end
end
section
open Go Go.RowKit
section
variable {P:Program} {w:World} {M0:Mem} {N:Nat} {dst:Option Tmp} {ty:TypeId} {pos:String} {z7:Array Edge} {g:Option (Nat×Bool)} {M:Mem} {own:List Ob} {env:Env} {s:St}
theorem abS {t e:TypeId} {x y:Operand} {i off k n:Nat} {cs:List Value} {u:Value} (hx:env.op x=some (.p i off)) (hy:env.op y=some (.v u)) (hi:own[i]?=some (.row e k n cs)) (vE:off<cs.length) (hu:u.oneCell'=true) [ht:jJ P t 1]:
 ES P w M0 N ⟨dst, .store t x y,ty,pos,z7,g⟩ ⟨M,own,env⟩ (own.set i (.row e k n (cs.set off u))):=fun hd a W hR=>by
 have h1:=hR.2.eval hx;have h2:=hR.2.eval hy;simp only [SV.den] at h1 h2;have hO:=hR.1.own i _ hi;obtain ⟨y7,⟨_,h0⟩|⟨b,cap,cur,hv,kJ,Zk,FN,bj,WF,Xg⟩⟩:=id hO
 · subst h0;rw [Vp] at y7;omega
 have hc:=ku hO (off:=off) (u:=cs[off]) (by simp [Ob.cells,vE]);have vU:yX (hd i)=some b:=by rw [hv];rfl
 rw [vU] at h1 hc;simp only [Kz] at h1 hc;have hz:W.frozen? ⟨b,off,none⟩=false:=Kv W b off cur e Zk;have hvc:u.cells= #[u]:=by cases u<;>first|rfl|cases hu
 refine ⟨W.setCell ⟨b,off,none⟩ u,?_,?_⟩
 · simp [execOp,h1,h2,Instr.storeAt,Instr.sureAddr,storeVar,y9 ht.h,hvc,storeCells,run_store P W _ u _ hu,hc,hz,Ag]
 · refine hR.1.KH hi yx (row:=some b) ⟨rfl,rfl,rfl,by simp,fun q hq jt=>nK W ⟨b,off,none⟩ q u (fun e=>jt (by rw [e]))⟩ (fun q hq=>by cases hq;exact vU) ⟨by simpa using y7, .inr ⟨b,cap,cur.setIfInBounds off u,hv,kJ,Ar W b off cur e u Zk,FN,bj,by simpa using WF,?_⟩⟩;rw [DG,Q7,Xg]
def jT:List Value->Nat->List Value->List Value
 |cs,_,[]=>cs
 |cs,o,v::r=>jT (cs.set o v) (o+1) r
def W8:Array Value->Nat->List Value->Array Value
 |cs,_,[]=>cs
 |cs,o,v::r=>W8 (cs.setIfInBounds o v) (o+1) r
theorem xA: ∀(vs:List Value) (o:Nat) (cs:List Value),(jT cs o vs).length=cs.length
 | [],_,_=>rfl
 |v::r,o,cs=>by unfold jT;rw [xA r];simp
theorem vu: ∀(vs:List Value) (o:Nat) (cs:Array Value),(W8 cs o vs).size=cs.size
 | [],_,_=>rfl
 |v::r,o,cs=>by unfold W8;rw [vu r];simp
theorem vt (m:Nat): ∀(vs:List Value) (o:Nat) (cs:Array Value),(W8 cs o vs).toList.take m=jT (cs.toList.take m) o vs
 | [],_,_=>rfl
 |v::r,o,cs=>by unfold W8 jT;rw [vt m r,DG,Q7]
theorem u7: ∀(vs:List Value) (o:Nat) (cs:List Value),o+vs.length<=cs.length->jT cs o vs=cs.take o++vs++cs.drop (o+vs.length)
 | [],o,cs,_=>by simp [jT]
 |v::r,o,cs,h=>by
  simp only [xd] at h;unfold jT;rw [u7 r (o+1) _ (by simp;omega),Q7,rJ ze]
  have:(cs.take (o+1)).set o v=cs.take o++ [v]:=by
   rw [vF ze,YF _ _ (by simp;omega)];simp [show o-min o cs.length=0 by omega]
  rw [this];simp [nB,Q6 1]
theorem x7 {b:Nat} {e:TypeId}: ∀(vs:List Value) (o:Nat) (W:World) (cur:Array Value),W.heap[b]?=some (.cells cur e (0,0))->(W.setCells b o vs).heap[b]?=some (.cells (W8 cur o vs) e (0,0))
 | [],_,_,_,h=>h
 |v::r,o,W,cur,h=>by
  unfold World.setCells W8;exact x7 r (o+1) _ _ (Go.heap_setCell_same W b o cur e v h)
theorem jV {b:Nat}: ∀(vs:List Value) (o:Nat) (W:World),W.grownBy (W.setCells b o vs) (some b)
 | [],_,W=>⟨rfl,rfl,rfl,zN _,fun _ _ _=>rfl⟩
 |v::r,o,W=>by
  have h1:W.grownBy (W.setCell ⟨b,o,none⟩ v) (some b):=⟨rfl,rfl,rfl,by simp,fun k hk jt=>nK W ⟨b,o,none⟩ k v (fun e=>jt (by rw [e]))⟩;have h2:=jV (b:=b) r (o+1) (W.setCell ⟨b,o,none⟩ v);unfold World.setCells;exact ⟨h2.os.trans h1.os,h2.tape.trans h1.tape,h2.output.trans h1.output,jZ h1.size h2.size,fun k hk jt=>(h2.block k (IL hk h1.size) jt).trans (h1.block k hk jt)⟩
theorem abR {t e:TypeId} {x y:Operand} {i off k n n1:Nat} {cs:List Value} {us:Array Value} (hx:env.op x=some (.p i off)) (hy:env.op y=some (.v (.agg us))) (hi:own[i]?=some (.row e k n cs)) (vE:off+n1<=cs.length) (hu:us.toList.all (·.oneCell')=true) [ht:jJ P t n1] (YC:us.toList.length=n1):
 ES P w M0 N ⟨dst, .store t x y,ty,pos,z7,g⟩ ⟨M,own,env⟩ (own.set i (.row e k n (jT cs off us.toList))):=fun hd a W hR=>by
 have h1:=hR.2.eval hx;have h2:=hR.2.eval hy;simp only [SV.den] at h1 h2;have hO:=hR.1.own i _ hi;obtain ⟨y7,⟨hv,h0⟩|⟨b,cap,cur,hv,kJ,Zk,FN,bj,WF,Xg⟩⟩:=id hO
 · subst h0;rw [Vp] at y7;have hn1:n1=0:=ze
   have AX:us= #[]:=by
    apply Array.ext';have:us.toList.length=0:=ze;simpa using dm this
   have WF:cs= []:=dm y7;subst hn1 AX WF;refine ⟨W,?_,?_⟩
   · simp [execOp,h1,h2,Instr.storeAt,Instr.sureAddr,storeVar,y9 ht.h,storeCells,Value.cells]
   · have:=hR.1.KH (o':= .row e k 0 (jT [] off (#[]:Array Value).toList)) (W':=W) hi yx (row:=none) ⟨rfl,rfl,rfl,zN _,fun _ _ _=>rfl⟩ (fun q hq=>by cases hq) hO;exact this
 · have vU:yX (hd i)=some b:=by rw [hv];rfl
   rw [vU] at h1;simp only [Kz] at h1
   have uA: ∀j,j<us.toList.length->(W.cell? ⟨b,off+j,none⟩).isSome=true:=fun j hj=>by
    have:=ku hO (off:=off+j) (u:=cs[off+j]'(by omega)) (by simp [Ob.cells]);rw [vU] at this;simp only [Kz] at this;rw [this];rfl
   have Oo: ∀j,j<us.toList.length->W.frozen? ⟨b,off+j,none⟩=false:=fun j _=>Kv W b (off+j) cur e Zk
   have kt:=IR (P:=P) b off us.toList 0 W (by simpa using uA) (by simpa using Oo) (fun v hv=>yw.1 hu v hv);simp only [Kt] at kt;have AX:us.size=n1:=by simpa using YC
   refine ⟨W.setCells b off us.toList,?_,?_⟩
   · simp only [execOp,h1,h2,Instr.storeAt,Instr.sureAddr,storeVar,yz,xM,xh,y9 ht.h,Value.cells,AX,ne_eq,GX,kT,kt]
   · refine hR.1.KH hi yx (row:=some b) (jV us.toList off W) (fun q hq=>by cases hq;exact vU) ⟨by rw [xA];exact y7, .inr ⟨b,cap,W8 cur off us.toList,hv,kJ,x7 us.toList off W cur Zk,FN,bj,by rw [vu];exact WF,?_⟩⟩;rw [vt,Xg]
end
end
section
open Go Go.RowKit
section
variable {P:Program} {w:World} {M0:Mem} {N:Nat} {dst:Option Tmp} {ty:TypeId} {pos:String} {z7:Array Edge} {g:Option (Nat×Bool)} {M:Mem} {own:List Ob} {env:Env} {s:St}
theorem afh {x hi:Operand} {t e:TypeId} {i k n bytes:Nat} {cs:List Value} (q:Nat) (hx:env.op x=some (.r i)) (hh:env.op hi=some (.v (.int .i64 q))) (ho:own[i]?=some (.row e k n cs)) (hq:q<=n) [hE:kr P t e k bytes]:
 EF P w M0 N ⟨dst, .slice t x none (some hi) none,ty,pos,z7,g⟩ ⟨M,own,env⟩ (own.set i .gone++ [.row e k q (cs.take (q*k))]) (.r own.length):=⟨fun hd a W hR=>by
 have J7:=uy.mk' hE.h;have hO:=hR.1.own i _ ho;have YV:=hR.2.eval hx;have hvh:=hR.2.eval hh;simp only [SV.den] at YV hvh;obtain ⟨ii,z,ao,hz,YC,Ed,pX⟩:=J7.hi;have F1:P.elem t=e:=by simp [Program.elem,J7.ht]
 have KK:P.underlying t=some (.slice (P.elem t)):=by rw [F1];exact J7.ht
 have gO: ∃v',(execOp a.eval ⟨dst, .slice t x none (some hi) none,ty,pos,z7,g⟩).run P W= .ok (.value v') W/\W.ownsRow w.heap.size e k v' q (cs.take (q*k))/\yX v'=yX (hd i):=by
  have nW:q*k<=n*k:=uB _ hq;obtain ⟨y7,⟨hv,h0⟩|⟨b,cap,cur,hv,kJ,Zk,FN,bj,WF,Xg⟩⟩:=id hO
  · subst h0;have hq0:q=0:=ze;subst hq0;refine ⟨.slice none 0 0,?_,?_,by rw [hv]⟩
    · rw [hv] at YV;have h1:=run_slice_h (P:=P) W t none 0 0 KK .i64 0 ze ze;simp only [execOp,YV,hvh,Yl,ur,yz,nI W t _ _ _ _ KK];have Uz:(Instr.slice t (.slice none 0 0) none (some (.int .i64 ((0:Nat):Int))) none).run P W=_:=h1;rw [Uz,F1,y9 (n:=k) (by unfold wW;simp [ao,YC])];simp [sliced]
    · simpa using At W w.heap.size e k
  · refine ⟨.slice (some ⟨b,0,none⟩) q cap,?_,⟨by rw [yC];omega, .inr ⟨b,cap,cur,rfl,kJ,Zk,ze,bj,WF,by rw [<-Xg,wO,jn nW]⟩⟩,by rw [hv];rfl⟩;rw [hv] at YV;have h1:=run_slice_h (P:=P) W t (some ⟨b,0,none⟩) n cap KK .i64 q ze ze;simp only [execOp,YV,hvh,Yl,ur,yz,nI W t _ _ _ _ KK,h1];rw [F1,y9 (n:=k) (by unfold wW;simp [ao,YC])];simp [sliced,vG]
 obtain ⟨v',h1,h2,h3⟩:=gO;rw [h1];simp only [kj]
 have JT:=(hR.1.drop i).add (o':= .row e k q (cs.take (q*k))) (v':=v') h2 (fun b hb=>by
  rw [h3] at hb;refine ⟨hR.1.sep i _ b ho yx hb,fun j oj hj uW MR=>?_⟩;by_cases vN:j=i
  · subst vN;rw [wC (xI.1 ho).1] at hj;exact uW (qt hj).symm
  · rw [Zb (uS vN)] at hj;exact vN (hR.1.VX j i oj _ b hj ho uW yx MR hb))
 rw [xj] at JT;exact ⟨Ke hd own.length v',fun q hq=>qj _ _ (by have:q<own.length:=hq;omega),JT,by simp only [SV.den,j7]⟩,by simp,by simp [SV.okB,x9]⟩
theorem nZ {z:Array Value} {m:Nat} (h:z.toList.all (·.oneCell')=true): ∀v∈(Builtin.zeroCells z m).toList,v.oneCell'=true:=by
 intro v hv;simp only [Builtin.zeroCells,fi,uT] at hv;obtain ⟨i,hi,rfl⟩:=hv;have sY:i<m*z.size:=by simpa using hi
 have hz0:0<z.size:=G5 fun e=>by rw [e] at sY;omega
 have z9:=tW i hz0;have:z[i % z.size]! =z[i % z.size]'z9:=by simp [z9]
 rw [this];exact yw.1 h _ yx
theorem AG {ops:Array Oper} {l:List Oper} {Q:zX} {x lo:Operand} {t e ty1 ty2:TypeId} {adl TX:String} {aeN abt:Array Edge} {i k n bytes:Nat} {cs:List Value} {d:Tmp} {z:Value} (q:Nat) (hx:env.op x=some (.r i)) (hh:env.op lo=some (.v (.int .i64 q))) (ho:own[i]?=some (.row e k n cs)) (hq:q<=n)
 [hE:kr P t e k bytes] [hz:kM P e z] (hzo:z.cells.toList.all (·.oneCell')=true) (Ig:z.cells.size=k) (Xo:env.get d=none) (FT:yi N (some d)=true)
 (h: ∀Zn,Zn.length=n*k->Zn.take (q*k)=cs.take (q*k)->VL P w M0 N ops l ⟨M,own.set i (.row e k n Zn),env⟩ Q):
 VL P w M0 N ops (⟨some d, .slice t x (some lo) none none,ty1,adl,aeN,none⟩::⟨none, .call ⟨.builtin .clear, #[.tmp d], #[t]⟩,ty2,TX,abt,none⟩::l) ⟨M,own,env⟩ Q:= .mk fun hd a W hR=>by
 have J7:=uy.mk' hE.h;have hO:=hR.1.own i _ ho;have YV:=hR.2.eval hx;have hvh:=hR.2.eval hh;simp only [SV.den] at YV hvh;obtain ⟨ii,z2,ao,UF,YC,Ed,pX⟩:=J7.hi;have F1:P.elem t=e:=by simp [Program.elem,J7.ht]
 have KK:P.underlying t=some (.slice (P.elem t)):=by rw [F1];exact J7.ht
 have nW:q*k<=n*k:=uB _ hq
 have ef: ∀u,Fr N hd env (a.put (some d) u):=fun u=>by
  have hdN:d<N:=by simpa [yi,x9] using FT
  refine ⟨fun t sv hs=>?_,by simp [Act.put,hR.2.size],hR.2.defers⟩;have jt:d≠t:=fun e=>by subst e;rw [Xo] at hs;cases hs
  simp only [Act.put,abu jt];exact hR.2.env t sv hs
 have dD: ∀u,(a.put (some d) u).eval (.tmp d)=u:=fun u=>by
  have hdN:d<N:=by simpa [yi,x9] using FT
  simp [Act.eval,Act.put,hR.2.size,hdN]
 have ZH: ∃v' W' Zn,(execOp a.eval ⟨some d, .slice t x (some lo) none none,ty1,adl,aeN,none⟩).run P W= .ok (.value v') W/\(Builtin.clear_ #[t] ty2 #[v']).run P W= .ok (.tuple #[]) W'/\
  Zn.length=n*k/\Zn.take (q*k)=cs.take (q*k)/\Wd w M0 hd M (own.set i (.row e k n Zn)) W':=by
  obtain ⟨y7,⟨hv,h0⟩|⟨b,cap,cur,hv,kJ,Zk,FN,bj,WF,Xg⟩⟩:=id hO
  · subst h0;have hq0:q=0:=ze;subst hq0;refine ⟨.slice none 0 0,W,cs,?_,?_,y7,rfl,?_⟩
    · rw [hv] at YV;have h1:=run_slice_l (P:=P) W t none 0 0 KK .i64 0 ze ze;have Uz:(Instr.slice t (.slice none 0 0) (some (.int .i64 ((0:Nat):Int))) none none).run P W=_:=h1;simp only [execOp,YV,hvh,Yl,ur,yz,nI W t _ _ _ _ KK];rw [Uz,F1,y9 (n:=k) (by unfold wW;simp [ao,YC])];simp [sliced]
    · simp [Builtin.clear_,jG J7.ht]
    · exact hR.1.KH (o':= .row e k 0 cs) (W':=W) ho yx (row:=none) ⟨rfl,rfl,rfl,zN _,fun _ _ _=>rfl⟩ (fun q hq=>by cases hq) hO
  · have vU:yX (hd i)=some b:=by rw [hv];rfl
    rw [hv] at YV;have h1:=run_slice_l (P:=P) W t (some ⟨b,0,none⟩) n cap KK .i64 q ze ze
    have acu:(execOp a.eval ⟨some d, .slice t x (some lo) none none,ty1,adl,aeN,none⟩).run P W= .ok (.value (sliced (some ⟨b,0,none⟩) q n cap k)) W:=by
     simp only [execOp,YV,hvh,Yl,ur,yz,nI W t _ _ _ _ KK,h1];rw [F1,y9 (n:=k) (by unfold wW;simp [ao,YC])];simp
    by_cases On:q=n
    · subst On;refine ⟨_,W,cs,acu,?_,y7,rfl,?_⟩
      · unfold sliced;rw [qq];generalize (if cap=q then _ else _)=A';cases A'<;>simp [Builtin.clear_,jG J7.ht]
      · exact hR.1.KH (o':= .row e k q cs) (W':=W) ho yx (row:=none) ⟨rfl,rfl,rfl,zN _,fun _ _ _=>rfl⟩ (fun q hq=>by cases hq) hO
    · have ahO:cap≠q:=ze;let Z:=(Builtin.zeroCells z.cells (n-q)).toList;have hZl:Z.length=(n-q)*k:=by simp [Z,Builtin.zeroCells,Ig]
      have hnk:q*k+(n-q)*k=n*k:=by rw [<-um];congr 1;omega
      have cd:sliced (some ⟨b,0,none⟩) q n cap k= .slice (some ⟨b,q*k,none⟩) (n-q) (cap-q):=by
       unfold sliced;rw [zn ahO];simp [vG]
      have uA: ∀j,j<Z.length->(W.cell? ⟨b,q*k+j,none⟩).isSome=true:=fun j hj=>by
       have:=ku hO (off:=q*k+j) (u:=cs[q*k+j]'(by omega)) (by simp [Ob.cells]);rw [vU] at this;simp only [Kz] at this;rw [this];rfl
      have Oo: ∀j,j<Z.length->W.frozen? ⟨b,q*k+j,none⟩=false:=fun j _=>Kv W b (q*k+j) cur e Zk
      have kt:=IR (P:=P) b (q*k) Z 0 W (by simpa using uA) (by simpa using Oo) (nZ hzo);simp only [Kt] at kt;refine ⟨_,W.setCells b (q*k) Z,jT cs (q*k) Z,acu,?_,by rw [xA];exact y7,?_,?_⟩
      · rw [cd];obtain ⟨m,hm⟩: ∃m,n-q=m+1:=⟨n-q-1,ze⟩;have akP:(storeCells ⟨b,q*k,none⟩ (Builtin.zeroCells z.cells (m+1)).toList).run P W= .ok () (W.setCells b (q*k) Z):=by rw [<-hm];exact kt
        rw [hm];simp [Builtin.clear_,jG J7.ht,hz.h,akP]
      · rw [u7 Z (q*k) cs ze,xY,Ai (by rw [yC];omega)]
      · refine hR.1.KH ho yx (row:=some b) (jV Z (q*k) W) (fun q hq=>by cases hq;exact vU) ⟨by rw [xA];exact y7, .inr ⟨b,cap,W8 cur (q*k) Z,hv,kJ,x7 Z (q*k) W cur Zk,FN,bj,by rw [vu];exact WF,?_⟩⟩;rw [vt,Xg]
 obtain ⟨v',W',Zn,h1,h2,h3,h4,h5⟩:=ZH;refine v8 rfl fun K hK=>?_
 unfold Oper.wp;rw [h1];simp only [Oper.upon];refine hK _ _ (v8 rfl fun K2 hK2=>?_);unfold Oper.wp
 have aef:(execOp (a.put (some d) v').eval ⟨none, .call ⟨.builtin .clear, #[.tmp d], #[t]⟩,ty2,TX,abt,none⟩).run P W= .ok (.value (.tuple #[])) W':=by
  simp only [execOp,resolve,invoke,builtin,wP,xw,uo,dD,yz,xM,xh,h2]
 rw [aef];simp only [Oper.upon];exact hK2 _ _ ((h Zn h3 h4).go hd _ W' ⟨h5,ef v'⟩)
end
end
section
open Go Go.RowKit
section
variable {P:Program} {w:World} {M0:Mem} {N:Nat} {dst:Option Tmp} {ty:TypeId} {pos:String} {z7:Array Edge} {g:Option (Nat×Bool)} {M:Mem} {own:List Ob} {env:Env} {s:St}
def adH (P:Program) (t:TypeId) (k:IntKind):Bool:=match P.underlying t with|some (.int k')=>decide (k'=k)|_=>false
class a8 (P:Program) (t:TypeId) (k:outParam IntKind):Prop where
 h:adH P t k=true
theorem FB {t:TypeId} {k:IntKind} (h:adH P t k=true):P.underlying t=some (.int k):=by
 unfold adH at h;split at h
 · rename_i k' he
   rw [he,qc h]
 · cases h
theorem jS {src dt:TypeId} {x:Operand} {k k1 k2:IntKind} {n m:Int} (hx:s.env.op x=some (.v (.int k n))) [h1:a8 P src k1] [h2:a8 P dt k2] (hm:k2.wrap n=m):QS P w M0 N ⟨dst, .convert src dt x,ty,pos,z7,g⟩ s (.v (.int k2 m)):=xH fun hd a W hR=>by
 have h3:=hR.2.eval hx;simp only [SV.den] at h3;simp [execOp,h3,SV.den,Go.convert,jG (FB h1.h),jG (FB h2.h),Conv.intToInt,hm]
theorem r8 {n:Int} (h0:0<=n) (h1:n<=18446744073709551615):IntKind.u64.wrap n=n:=by
 unfold IntKind.wrap;simp only [IntKind.bits,IntKind.signed,Ah,Vq,kT];exact Int.emod_eq_of_lt h0 ze
theorem fH {t:TypeId} {x y:Operand} {k k2:IntKind} {a:Int}:Wh P .shr t x y (.int k a) (.int k2 1) (.int k (a.fdiv 2)):= .mk fun W=>by
 cases k<;>simp [go_sem,Op.shift]
theorem dH {e:TypeId} {z z':Value} {i:TypeInfo} (hz: ∀W:World,(zeroValue e).run P W= .ok z W) (hi:P.info? e=some i) (Ol:i.zero=some z') (W:World):z=z':=by
 have h:=hz W;simp [zeroValue,typeInfo,hi,Ol] at h;exact h.symm
theorem AR {t e:TypeId} {x y:Operand} {k bytes:Nat} {kl kc:IntKind} {z:Value} (n:Nat) {i1 i2:Int} (cells:List Value) (hx:env.op x=some (.v (.int kl i1))) (hy:env.op y=some (.v (.int kc i2))) (h1:i1=(n:Int)) (h2:i2=(n:Int)) [hE:kr P t e k bytes] [hz:kM P e z] (hc:(madeCells z.cells (n*k)).toList=cells) (hm:n<=maxLen) (hb:bytes*n<=281474976710656):
 EF P w M0 N ⟨dst, .makeSlice t x y,ty,pos,z7,g⟩ ⟨M,own,env⟩ (own++ [.row e k n cells]) (.r own.length):=by
 subst h1 h2
 exact nS (.row e k n cells) (fun hd a W hR=>by
  have J7:=uy.mk' hE.h;obtain ⟨i,z',hi,Ol,hs,Ed,_⟩:=J7.hi;have hzz:=dH hz.h hi Ol W;subst hzz;obtain ⟨W',hr,ho,hg⟩:=run_make_full (P:=P) W w.heap.size t e i z k J7.ht hi Ol hs kl kc n (by rw [Ed];exact hb) hm hR.1.below.size;have e1:=hR.2.eval hx;have e2:=hR.2.eval hy;simp only [SV.den] at e1 e2;refine ⟨_,W',?_,hg,by rw [<-hc];exact ho,fun b hb=>?_⟩
  · simp only [execOp,yz,e1,e2,hr,xh,xM]
  · obtain rfl:W.heap.size=b:=by simpa [yX] using hb
    exact zN _)
theorem oN (z:Value) (n:Nat) (h:z.cells= #[z]):(madeCells z.cells (n*1)).toList=List.replicate n z:=by
 rw [h,v7];unfold madeCells;apply fj
 · simp
 · intro i h1 h2;simp [Nat.mod_one]
theorem Y2 {t:TypeId} {x:Operand} {i off n:Nat} {e:TypeId} {k:Nat} {cs:List Value} {u:Value} (hx:s.env.op x=some (.p i off)) (ho:s.own[i]?=some (.row e k n cs)) (hu:cs[off]?=some u) [ht:ux P t]:QS P w M0 N ⟨dst, .load t x,ty,pos,z7,g⟩ s (.v u):=
 DP hx ho hu
theorem I6 {ops:Array Oper} {l:List Oper} {Q:zX} {t e:TypeId} {x y:Operand} {i off k n:Nat} {cs:List Value} {u:Value} (hx:env.op x=some (.p i off)) (hy:env.op y=some (.v u)) (hi:own[i]?=some (.row e k n cs)) (vE:off<cs.length) (hu:u.oneCell'=true) [ht:jJ P t 1] (hk:yi N dst=true) (zV:yR env own.length=true)
 (h:VL P w M0 N ops l ⟨M,own.set i (.row e k n (cs.set off u)),env.put dst (.v undef)⟩ Q):
 VL P w M0 N ops (⟨dst, .store t x y,ty,pos,z7,none⟩::l) ⟨M,own,env⟩ Q:=
 Xl _ _ (Xn (abS hx hy hi vE hu) yx) hk zV h
end
end
section
open Go Go.RowKit
section
variable {P:Program} {w:World} {M0:Mem} {N:Nat} {dst:Option Tmp} {ty:TypeId} {pos:String} {z7:Array Edge} {g:Option (Nat×Bool)} {s:St}
def aeE:BinOp->Value->Value->Option Value
 | .lss, .int .i64 a, .int .i64 b=>some (.bool (decide (a<b)))
 | .leq, .int .i64 a, .int .i64 b=>some (.bool (decide (a<=b)))
 | .gtr, .int .i64 a, .int .i64 b=>some (.bool (decide (b<a)))
 | .geq, .int .i64 a, .int .i64 b=>some (.bool (decide (b<=a)))
 | .eql, .int .i64 a, .int .i64 b=>some (.bool (a==b))
 | .neq, .int .i64 a, .int .i64 b=>some (.bool (a !=b))
 | .lss, .int .u8 a, .int .u8 b=>some (.bool (decide (a<b)))
 | .leq, .int .u8 a, .int .u8 b=>some (.bool (decide (a<=b)))
 | .gtr, .int .u8 a, .int .u8 b=>some (.bool (decide (b<a)))
 | .geq, .int .u8 a, .int .u8 b=>some (.bool (decide (b<=a)))
 | .eql, .int .u8 a, .int .u8 b=>some (.bool (a==b))
 | .neq, .int .u8 a, .int .u8 b=>some (.bool (a !=b))
 | .lss, .string a, .string b=>some (.bool (lt a b))
 | .leq, .string a, .string b=>some (.bool (!lt b a))
 | .gtr, .string a, .string b=>some (.bool (lt b a))
 | .geq, .string a, .string b=>some (.bool (!lt a b))
 | .eql, .string a, .string b=>some (.bool (decide (a=b)))
 | .neq, .string a, .string b=>some (.bool (!decide (a=b)))
 |_,_,_=>none
theorem aeD {op:BinOp} {t:TypeId} {x y:Operand} {u v r:Value} (h:aeE op u v=some r):Wh P op t x y u v r:=by
 unfold aeE at h;split at h<;>first|(injection h with h;subst h;first|exact ai0|exact ai1|exact ai4|exact ai5|exact ai6|exact aiZ|exact afo|exact afp|exact afq|exact afr|exact afs|exact afn)|cases h
theorem qmv {x:Operand} {sv:SV} (hx:s.env.op x=some sv):QS P w M0 N ⟨dst, .move x,ty,pos,z7,g⟩ s sv:=abI hx
theorem qas {x:Operand} {sv:SV} (hx:s.env.op x=some sv):QS P w M0 N ⟨dst, .assign x,ty,pos,z7,g⟩ s sv:=N5 hx
theorem ql1 {t:TypeId} {x:Operand} {i off:Nat} {o:Ob} {u:Value} [ht:ux P t] (hx:s.env.op x=some (.p i off)) (ho:s.own[i]?=some o:=by rfl) (hu:o.cells[off]?=some u:=by rfl):QS P w M0 N ⟨dst, .load t x,ty,pos,z7,g⟩ s (.v u):=DP hx ho hu
theorem qlA {t:TypeId} {x:Operand} {i:Nat} {o:Ob} {n:Nat} [ht:X2 P t n] (hx:s.env.op x=some (.p i 0)) (ho:s.own[i]?=some o:=by rfl) (hn:o.cells.length=n:=by rfl):QS P w M0 N ⟨dst, .load t x,ty,pos,z7,g⟩ s (.v (.agg o.cells.toArray)):=SU hx ho n hn
theorem qfa {t:TypeId} {x:Operand} {f i o off:Nat} [hf:yA P t f off] (hx:s.env.op x=some (.p i o)):QS P w M0 N ⟨dst, .fieldAddr t x f,ty,pos,z7,g⟩ s (.p i (o+off)):=AO hx
theorem qmf {t:TypeId} {x:Operand} {f b o off:Nat} [hf:yA P t f off] (hx:s.env.op x=some (.v (.pointer (some ⟨b,o,none⟩)))):QS P w M0 N ⟨dst, .fieldAddr t x f,ty,pos,z7,g⟩ s (.v (.pointer (some ⟨b,o+off,none⟩))):=pe hx
theorem qfd {t:TypeId} {x:Operand} {f off:Nat} {cs:Array Value} {u:Value} [hft:S4 P t f off] (hx:s.env.op x=some (.v (.agg cs))) (hu:cs[off]?=some u:=by rfl):QS P w M0 N ⟨dst, .field t x f,ty,pos,z7,g⟩ s (.v u):=SX hx hu
theorem hY {t:TypeId} {x:Operand} {b off:Nat} {u:Value} [ht:ux P t] (hx:s.env.op x=some (.v (.pointer (some ⟨b,off,none⟩)))) (hu:s.M.cell b off=some u:=by assumption):QS P w M0 N ⟨dst, .load t x,ty,pos,z7,g⟩ s (.v u):=zY hx hu
theorem qbd {t:TypeId} {parts:Array (Nat×Operand)} {zs:Array Value} {ps:List (Nat×Value)} [hz:kM P t (.agg zs)] {n:Nat} [hft:JN P t n] (hn:zs.toList.length=n) (hp:s.env.parts parts.toList=some ps:=by rfl) (h1:(ps.all fun p=>Nat.blt p.1 n&&p.2.oneCell')=true:=by rfl):QS P w M0 N ⟨dst, .build t parts,ty,pos,z7,g⟩ s (.v (.agg (Jd zs.toList ps).toArray)):=DQ n hn hp h1
theorem qno {t:TypeId} {x:Operand} {b:Bool} (hx:s.env.op x=some (.v (.bool b))):QS P w M0 N ⟨dst, .unOp .not t x,ty,pos,z7,g⟩ s (.v (.bool (!b))):=ae7 hx
theorem qex {x:Operand} {k:Nat} {vs:Array Value} {u:Value} (hx:s.env.op x=some (.v (.tuple vs))) (hu:vs[k]?=some u:=by rfl):QS P w M0 N ⟨dst, .extract x k,ty,pos,z7,g⟩ s (.v u):=Hh hx hu
theorem qln {x:Operand} {t:TypeId} {A:Option Addr} {n c:Nat} [ht:XE P t] (hx:s.env.op x=some (.v (.slice A n c))):QS P w M0 N ⟨dst, .call ⟨.builtin .len, #[x], #[t]⟩,ty,pos,z7,g⟩ s (.v (.int .i64 n)):=ae9 hx
theorem qls {x:Operand} {t:TypeId} {b:ByteArray} [ht:fy P t] (hx:s.env.op x=some (.v (.string b))):QS P w M0 N ⟨dst, .call ⟨.builtin .len, #[x], #[t]⟩,ty,pos,z7,g⟩ s (.v (.int .i64 b.size)):=N2 hx
theorem qlr {x:Operand} {t:TypeId} {i:Nat} {e:TypeId} {k n:Nat} {cs:List Value} [ht:XE P t] (hx:s.env.op x=some (.r i)) (ho:s.own[i]?=some (.row e k n cs):=by rfl):QS P w M0 N ⟨dst, .call ⟨.builtin .len, #[x], #[t]⟩,ty,pos,z7,g⟩ s (.v (.int .i64 n)):=N3 hx ho
theorem qpt {c x y:Operand} {sv:SV} {b:Bool} (hc:s.env.op c=some (.v (.bool b))) (hb:b=true:=by first|rfl|assumption) (hx:s.env.op x=some sv:=by rfl):QS P w M0 N ⟨dst, .pick c x y,ty,pos,z7,g⟩ s sv:=NZ hc hb hx
theorem qpf {c x y:Operand} {sv:SV} {b:Bool} (hc:s.env.op c=some (.v (.bool b))) (hb:b=false:=by first|rfl|assumption) (hy:s.env.op y=some sv:=by rfl):QS P w M0 N ⟨dst, .pick c x y,ty,pos,z7,g⟩ s sv:=N0 hc hb hy
theorem qcp {op:BinOp} {t t2:TypeId} {x y:Operand} {u v r:Value} (hx:s.env.op x=some (.v u)) (hy:s.env.op y=some (.v v):=by rfl) (hr:aeE op u v=some r:=by rfl):QS P w M0 N ⟨dst, .binOp op t x y t2,ty,pos,z7,g⟩ s (.v r):=yN hx hy (aeD hr)
theorem qbe {t t2:TypeId} {x y:Operand} {a b:Bool} [h:afm P t] (hx:s.env.op x=some (.v (.bool a))) (hy:s.env.op y=some (.v (.bool b)):=by rfl):QS P w M0 N ⟨dst, .binOp .eql t x y t2,ty,pos,z7,g⟩ s (.v (.bool (a==b))):=yN hx hy afv
theorem qsn {t t2:TypeId} {x:Operand} {A:Option Addr} {n c:Nat} [h:XE P t] (hx:s.env.op x=some (.v (.slice A n c))):QS P w M0 N ⟨dst, .binOp .eql t x (.const (.slice none 0 0)) t2,ty,pos,z7,g⟩ s (.v (.bool A.isNone)):=yN hx rfl AS
theorem qad {t t2:TypeId} {x y:Operand} {a b:Int} (hx:s.env.op x=some (.v (.int .i64 a))) (hy:s.env.op y=some (.v (.int .i64 b)):=by rfl) (h0: -9223372036854775808<=a+b:=by omega) (h1:a+b<=9223372036854775807:=by omega):QS P w M0 N ⟨dst, .binOp .add t x y t2,ty,pos,z7,g⟩ s (.v (.int .i64 (a+b))):=yN hx hy (ac3 h0 h1)
theorem qsu {t t2:TypeId} {x y:Operand} {a b:Int} (hx:s.env.op x=some (.v (.int .i64 a))) (hy:s.env.op y=some (.v (.int .i64 b)):=by rfl) (h0: -9223372036854775808<=a-b:=by omega) (h1:a-b<=9223372036854775807:=by omega):QS P w M0 N ⟨dst, .binOp .sub t x y t2,ty,pos,z7,g⟩ s (.v (.int .i64 (a-b))):=yN hx hy (Qs h0 h1)
theorem qsa {t t2:TypeId} {x y:Operand} {a b:ByteArray} (hx:s.env.op x=some (.v (.string a))) (hy:s.env.op y=some (.v (.string b)):=by rfl) (h:(a++b).size<=maxLen:=by assumption):QS P w M0 N ⟨dst, .binOp .add t x y t2,ty,pos,z7,g⟩ s (.v (.string (a++b))):=yN hx hy (S7 h)
variable {ops:Array Oper} {l:List Oper} {Q:zX} {M:Mem} {own:List Ob} {env:Env}
theorem adE {t:TypeId} {x:Operand} {u:Value} (h:VL P w M0 N ops l ⟨M,own++ [.qZ t u.cells.toList],env.put dst (.p own.length 0)⟩ Q) (hx:env.op x=some (.v u):=by rfl) (hk:yi N dst=true:=by rfl) (zV:yR env own.length=true:=by rfl):VL P w M0 N ops (⟨dst, .box t x,ty,pos,z7,none⟩::l) ⟨M,own,env⟩ Q:=aeZ hx hk zV h
theorem adG {t:TypeId} {z:Value} [hz:kM P t z] (h:VL P w M0 N ops l ⟨M,own++ [.qZ t z.cells.toList],env.put dst (.p own.length 0)⟩ Q) (hk:yi N dst=true:=by rfl) (zV:yR env own.length=true:=by rfl):VL P w M0 N ops (⟨dst, .alloc t,ty,pos,z7,none⟩::l) ⟨M,own,env⟩ Q:=DI hk zV h
theorem kst {t t':TypeId} {x y:Operand} {i off:Nat} {cs:List Value} {u:Value} [ht:jJ P t 1] (h:VL P w M0 N ops l ⟨M,own.set i (.qZ t' (cs.set off u)),env.put dst (.v undef)⟩ Q) (hx:env.op x=some (.p i off):=by rfl) (hy:env.op y=some (.v u):=by rfl) (hi:own[i]?=some (.qZ t' cs):=by rfl) (vE:Nat.blt off cs.length=true:=by rfl) (hu:u.oneCell'=true:=by rfl) (hk:yi N dst=true:=by rfl):
 VL P w M0 N ops (⟨dst, .store t x y,ty,pos,z7,none⟩::l) ⟨M,own,env⟩ Q:=NP hx hy hi vE hu hk h
theorem ksN {t t':TypeId} {x y:Operand} {i n:Nat} {cs:List Value} {us:Array Value} [ht:jJ P t n] (h:VL P w M0 N ops l ⟨M,own.set i (.qZ t' us.toList),env.put dst (.v undef)⟩ Q) (hx:env.op x=some (.p i 0):=by rfl) (hy:env.op y=some (.v (.agg us)):=by rfl) (hi:own[i]?=some (.qZ t' cs):=by rfl) (hn:cs.length=us.toList.length:=by rfl) (hu:us.toList.all (·.oneCell')=true:=by rfl) (YC:us.toList.length=n:=by rfl) (hk:yi N dst=true:=by rfl):
 VL P w M0 N ops (⟨dst, .store t x y,ty,pos,z7,none⟩::l) ⟨M,own,env⟩ Q:=rT hx hy hi hn hu n YC hk h
theorem klt {t e:TypeId} {len:Nat} {parts:Array (Nat×Operand)} {bytes:Nat} {vs:List Value} [hE:kr P t e 1 bytes] (h:VL P w M0 N ops l ⟨M,own++ [.row e 1 len vs],env.put dst (.r own.length)⟩ Q) (UG:env.kP (parts.toList.map (·.2))=some vs:=by rfl) (dC:parts.toList.map (·.1)=List.range' 0 vs.length:=by rfl) (y7:vs.length=len:=by rfl) (qG:Nat.ble len 1000000=true:=by rfl) (h1:(vs.all (·.oneCell'))=true:=by rfl) (hk:yi N dst=true:=by rfl) (zV:yR env own.length=true:=by rfl):
 VL P w M0 N ops (⟨dst, .buildSlice t len parts,ty,pos,z7,none⟩::l) ⟨M,own,env⟩ Q:=aby UG dC y7 qG h1 hk zV h
theorem kl1 {t e:TypeId} {x:Operand} {u:Value} {bytes k:Nat} [hE:kr P t e k bytes] (h:VL P w M0 N ops l ⟨M,own++ [.row e k 1 u.cells.toList],env.put dst (.r own.length)⟩ Q) (hx:env.op x=some (.v u):=by rfl) (hu:u.cells.size=k:=by rfl) (qG:Nat.ble k 1000000=true:=by rfl) (hk:yi N dst=true:=by rfl) (zV:yR env own.length=true:=by rfl):
 VL P w M0 N ops (⟨dst, .buildSlice t 1 #[(0,x)],ty,pos,z7,none⟩::l) ⟨M,own,env⟩ Q:=abz hx hu qG hk zV h
theorem klK {t e:TypeId} {len k bytes:Nat} {parts:Array (Nat×Operand)} {vs:List Value} [hE:kr P t e k bytes] (h:VL P w M0 N ops l ⟨M,own++ [.row e k len (vs.flatMap fun v=>v.cells.toList)],env.put dst (.r own.length)⟩ Q) (UG:env.kP (parts.toList.map (·.2))=some vs:=by rfl) (dC:parts.toList.map (·.1)=List.range' 0 vs.length:=by rfl) (y7:vs.length=len:=by rfl) (qG:Nat.ble (len*k) 1000000=true:=by rfl) (h1:(vs.all fun v=>v.cells.size==k)=true:=by rfl) (hk:yi N dst=true:=by rfl) (zV:yR env own.length=true:=by rfl):
 VL P w M0 N ops (⟨dst, .buildSlice t len parts,ty,pos,z7,none⟩::l) ⟨M,own,env⟩ Q:=Su UG dC y7 qG h1 hk zV h
theorem kap {x y:Operand} {t e e2:TypeId} {i j k n m bytes:Nat} {xs YT:List Value} [hE:kr P t e k bytes] (h:VL P w M0 N ops l ⟨M,own.set i .gone++ [.row e k (n+m) (xs++YT)],env.put dst (.r own.length)⟩ Q) (hx:env.op x=some (.r i):=by rfl) (hy:env.op y=some (.r j):=by rfl) (hi:own[i]?=some (.row e k n xs):=by rfl)
 (hj:own[j]?=some (.row e2 k m YT):=by rfl) (h0:0<m:=by omega) (h1:(YT.all (·.oneCell'))=true:=by rfl) (gW:n+m<=maxLen:=by unfold maxLen;omega) (va:(n+m)*bytes<=140737488355328:=by omega) (hk:yi N dst=true:=by rfl) (zV:yR env own.length=true:=by rfl):
 VL P w M0 N ops (⟨dst, .call ⟨.builtin .append, #[x,y], #[t,t]⟩,ty,pos,z7,none⟩::l) ⟨M,own,env⟩ Q:=Xl _ _ (rW hx hy hi hj h0 h1 gW va) hk zV h
theorem adz {op:Go.Op} {j:Nat} {want:Bool} {oj:Oper} {d:Tmp} {b:Bool} (h:VL P w M0 N ops (⟨dst,op,ty,pos,z7,none⟩::l) ⟨M,own,env⟩ Q) (hj:ops[j]?=some oj:=by rfl) (yE:oj.dst=some d:=by rfl) (hb:env.get d=some (.v (.bool b)):=by rfl) (hw:b=want:=by first|rfl|assumption):VL P w M0 N ops (⟨dst,op,ty,pos,z7,some (j,want)⟩::l) ⟨M,own,env⟩ Q:=aeV oj d b hj yE hb hw h
theorem kno {op:Go.Op} {j:Nat} {want:Bool} {oj:Oper} {d:Tmp} {b:Bool} (h:VL P w M0 N ops l ⟨M,own,env.put dst (.v undef)⟩ Q) (hj:ops[j]?=some oj:=by rfl) (yE:oj.dst=some d:=by rfl) (hb:env.get d=some (.v (.bool b)):=by rfl) (hw:b=!want:=by first|rfl|assumption) (hk:yi N dst=true:=by rfl):VL P w M0 N ops (⟨dst,op,ty,pos,z7,some (j,want)⟩::l) ⟨M,own,env⟩ Q:=aiB oj d b hj yE hb hw hk h
theorem adC {op:Go.Op} {j:Nat} {want:Bool} {oj:Oper} {d:Tmp} (h:VL P w M0 N ops l ⟨M,own,env.put dst (.v undef)⟩ Q) (hj:ops[j]?=some oj:=by rfl) (yE:oj.dst=some d:=by rfl) (hb:env.get d=some (.v undef):=by rfl) (hk:yi N dst=true:=by rfl):VL P w M0 N ops (⟨dst,op,ty,pos,z7,some (j,want)⟩::l) ⟨M,own,env⟩ Q:=aeX oj d hj yE hb hk h
theorem aks {op:Go.Op} {j:Nat} {want:Bool} {oj:Oper} {d:Tmp} {b:Bool} (ht:b=true->VL P w M0 N ops (⟨dst,op,ty,pos,z7,some (j,want)⟩::l) ⟨M,own,env⟩ Q) (hf:b=false->VL P w M0 N ops (⟨dst,op,ty,pos,z7,some (j,want)⟩::l) ⟨M,own,env⟩ Q) (hj:ops[j]?=some oj:=by rfl) (yE:oj.dst=some d:=by rfl) (hb:env.get d=some (.v (.bool b)):=by rfl):
 VL P w M0 N ops (⟨dst,op,ty,pos,z7,some (j,want)⟩::l) ⟨M,own,env⟩ Q:=aeY oj d b hj yE hb ht hf
theorem dT {id:Nat} [hm:Oa P] (h:VG P w M0 N l.toArray (l.take (qQ l)) s (fun s'=>yR s'.env s'.own.length=true/\VL P w M0 N l.toArray (l.drop (qQ l)) s' Q)) (hB:Region.lexTailB .any l.toArray (qQ l)=true:=by decide+kernel):VC P w M0 N (.region id l.toArray true) s Q:=SJ hB h
theorem d1 {id:Nat} {d:Tmp} {t:TypeId} {z:Value} {ty:TypeId} {pos:String} {z7:Array Edge} [hm:Oa P] [hz:kM P t z] (h:VG P w M0 N l.toArray (l.take (qQ l)) s (fun s'=>yR s'.env s'.own.length=true/\VL P w M0 N l.toArray (l.drop (qQ l+1)) ⟨s'.M,s'.own++ [.qZ t z.cells.toList],s'.env.put (some d) (.p s'.own.length 0)⟩ Q)) (hop:l[qQ l]?=some ⟨some d, .alloc t,ty,pos,z7,none⟩:=by rfl) (hB:Region.lexTailB .any l.toArray (qQ l+1)=true:=by decide+kernel)
 (mg:(l.take (qQ l)).all (fun o=>!(o.looksAt l.toArray).contains d&&o.dst !=some d)=true:=by rfl) (hd:Nat.blt d N=true:=by rfl):VC P w M0 N (.region id l.toArray true) s Q:=SM hop hB mg hd h
theorem dQ {id:Nat} [hm:Oa P] (h:VG P w M0 N l.toArray l s (fun s'=>Q .normal s')) (hn:Nat.beq (qQ l) l.length=true:=by rfl) (hB:Region.lexB .any l.toArray=true:=by decide+kernel):VC P w M0 N (.region id l.toArray true) s Q:=SK hn hB h
theorem ctr {c:Operand} {x y:Code} {b:Bool} (h:VC P w M0 N x s Q) (hc:s.env.op c=some (.v (.bool b)):=by rfl) (hb:b=true:=by first|rfl|assumption):VC P w M0 N (.cond c x y) s Q:=abC hc hb h
theorem cfa {c:Operand} {x y:Code} {b:Bool} (h:VC P w M0 N y s Q) (hc:s.env.op c=some (.v (.bool b)):=by rfl) (hb:b=false:=by first|rfl|assumption):VC P w M0 N (.cond c x y) s Q:=SF hc hb h
theorem cco {c:Operand} {x y:Code} {b:Bool} (ht:b=true->VC P w M0 N x s Q) (hf:b=false->VC P w M0 N y s Q) (hc:s.env.op c=some (.v (.bool b)):=by rfl):VC P w M0 N (.cond c x y) s Q:=AN b hc ht hf
end
section
variable {P:Program} {w:World} {M0:Mem} {N:Nat} {dst:Option Tmp} {ty:TypeId} {pos:String} {z7:Array Edge} {ops:Array Oper} {l:List Oper} {Q:St->Prop} {M:Mem} {own:List Ob} {env:Env}
theorem aer {op:Go.Op} {j:Nat} {want:Bool} {oj:Oper} {d:Tmp} {b:Bool} (h:VG P w M0 N ops (⟨dst,op,ty,pos,z7,none⟩::l) ⟨M,own,env⟩ Q) (hj:ops[j]?=some oj:=by rfl) (yE:oj.dst=some d:=by rfl) (hb:env.get d=some (.v (.bool b)):=by rfl) (hw:b=want:=by first|rfl|assumption):VG P w M0 N ops (⟨dst,op,ty,pos,z7,some (j,want)⟩::l) ⟨M,own,env⟩ Q:=ae0 oj d b hj yE hb hw h
theorem gno {op:Go.Op} {j:Nat} {want:Bool} {oj:Oper} {d:Tmp} {b:Bool} (h:VG P w M0 N ops l ⟨M,own,env.put dst (.v undef)⟩ Q) (hj:ops[j]?=some oj:=by rfl) (yE:oj.dst=some d:=by rfl) (hb:env.get d=some (.v (.bool b)):=by rfl) (hw:b=!want:=by first|rfl|assumption) (hk:yi N dst=true:=by rfl):VG P w M0 N ops (⟨dst,op,ty,pos,z7,some (j,want)⟩::l) ⟨M,own,env⟩ Q:=aiC oj d b hj yE hb hw hk h
theorem aes {op:Go.Op} {j:Nat} {want:Bool} {oj:Oper} {d:Tmp} (h:VG P w M0 N ops l ⟨M,own,env.put dst (.v undef)⟩ Q) (hj:ops[j]?=some oj:=by rfl) (yE:oj.dst=some d:=by rfl) (hb:env.get d=some (.v undef):=by rfl) (hk:yi N dst=true:=by rfl):VG P w M0 N ops (⟨dst,op,ty,pos,z7,some (j,want)⟩::l) ⟨M,own,env⟩ Q:=ae1 oj d hj yE hb hk h
end
section
variable {P:Program} {w:World} {M0:Mem} {N:Nat} {ops:Array Oper} {o:Oper} {s:St} {sv:SV} {zw:List Ob}
theorem Y4 (hq:QS P w M0 N o s sv) (hg:o.guard=none:=by rfl):QW P w M0 N ops o s sv:=acY hg hq
theorem Ox {j:Nat} {want:Bool} {oj:Oper} {d:Tmp} {b:Bool} (hq:QS P w M0 N o s sv) (hg:o.guard=some (j,want):=by rfl) (hj:ops[j]?=some oj:=by rfl) (yE:oj.dst=some d:=by rfl) (hb:s.env.get d=some (.v (.bool b)):=by rfl) (hw:b=want:=by first|rfl|assumption):QW P w M0 N ops o s sv:=ae4 oj d b hg hj yE hb hw hq
theorem Tx {j:Nat} {want:Bool} {oj:Oper} {d:Tmp} {b:Bool} (hg:o.guard=some (j,want)) (hj:ops[j]?=some oj:=by rfl) (yE:oj.dst=some d:=by rfl) (hb:s.env.get d=some (.v (.bool b)):=by rfl) (hw:b=!want:=by first|rfl|assumption):QW P w M0 N ops o s (.v undef):=ae5 oj d b hg hj yE hb hw
theorem gm (hq:EF P w M0 N o s zw sv) (hg:o.guard=none:=by rfl):EW P w M0 N ops o s zw sv:=aiW hg hq
end
section
variable {P:Program} {w:World} {M0:Mem} {N:Nat} {dst:Option Tmp} {ty:TypeId} {pos:String} {z7:Array Edge} {g:Option (Nat×Bool)} {M:Mem} {own:List Ob} {env:Env}
theorem elt {t e:TypeId} {len:Nat} {parts:Array (Nat×Operand)} {bytes:Nat} {vs:List Value} [hE:kr P t e 1 bytes] (UG:env.kP (parts.toList.map (·.2))=some vs) (dC:parts.toList.map (·.1)=List.range' 0 vs.length:=by rfl) (y7:vs.length=len:=by rfl) (qG:Nat.ble len 1000000=true:=by rfl) (h1:(vs.all (·.oneCell'))=true:=by rfl):
 EF P w M0 N ⟨dst, .buildSlice t len parts,ty,pos,z7,g⟩ ⟨M,own,env⟩ (own++ [.row e 1 len vs]) (.r own.length):=abV UG dC y7 qG h1
theorem el1 {t e:TypeId} {x:Operand} {u:Value} {bytes k:Nat} [hE:kr P t e k bytes] (hx:env.op x=some (.v u)) (hu:u.cells.size=k:=by rfl) (qG:Nat.ble k 1000000=true:=by rfl):
 EF P w M0 N ⟨dst, .buildSlice t 1 #[(0,x)],ty,pos,z7,g⟩ ⟨M,own,env⟩ (own++ [.row e k 1 u.cells.toList]) (.r own.length):=abW hx hu qG
theorem elK {t e:TypeId} {len k bytes:Nat} {parts:Array (Nat×Operand)} {vs:List Value} [hE:kr P t e k bytes] (UG:env.kP (parts.toList.map (·.2))=some vs) (dC:parts.toList.map (·.1)=List.range' 0 vs.length:=by rfl) (y7:vs.length=len:=by rfl) (qG:Nat.ble (len*k) 1000000=true:=by rfl) (h1:(vs.all fun v=>v.cells.size==k)=true:=by rfl):
 EF P w M0 N ⟨dst, .buildSlice t len parts,ty,pos,z7,g⟩ ⟨M,own,env⟩ (own++ [.row e k len (vs.flatMap fun v=>v.cells.toList)]) (.r own.length):=D0 UG dC y7 qG h1
theorem eap {x y:Operand} {t e e2:TypeId} {i j k n m bytes:Nat} {xs YT:List Value} [hE:kr P t e k bytes] (hx:env.op x=some (.r i)) (hy:env.op y=some (.r j):=by rfl) (hi:own[i]?=some (.row e k n xs):=by rfl)
 (hj:own[j]?=some (.row e2 k m YT):=by rfl) (h0:0<m:=by omega) (h1:(YT.all (·.oneCell'))=true:=by rfl) (gW:n+m<=maxLen:=by unfold maxLen;omega) (va:(n+m)*bytes<=140737488355328:=by omega):
 EF P w M0 N ⟨dst, .call ⟨.builtin .append, #[x,y], #[t,t]⟩,ty,pos,z7,g⟩ ⟨M,own,env⟩ (own.set i .gone++ [.row e k (n+m) (xs++YT)]) (.r own.length):=rW hx hy hi hj h0 h1 gW va
theorem aaX {t t':TypeId} {x y:Operand} {i off:Nat} {cs:List Value} {u:Value} [ht:jJ P t 1] (hx:env.op x=some (.p i off)) (hy:env.op y=some (.v u):=by rfl) (hi:own[i]?=some (.qZ t' cs):=by rfl)
 (vE:Nat.blt off cs.length=true:=by rfl) (hu:u.oneCell'=true:=by rfl) (hl:(own.set i (.qZ t' (cs.set off u))).length=own.length:=by rfl):EF P w M0 N ⟨dst, .store t x y,ty,pos,z7,g⟩ ⟨M,own,env⟩ (own.set i (.qZ t' (cs.set off u))) (.v undef):=Xn (V4 hx hy hi vE hu) hl
theorem fq {o:Oper} {sv:SV} (hq:QS P w M0 N o ⟨M,own,env⟩ sv) (ju:sv.okB own.length=true:=by rfl):EF P w M0 N o ⟨M,own,env⟩ own sv:=amC hq ju
end
end
section
open Go Go.RowKit
section
variable {P:Program} {w:World} {M0:Mem} {N:Nat} {dst:Option Tmp} {ty:TypeId} {pos:String} {z7:Array Edge} {g:Option (Nat×Bool)} {M:Mem} {own:List Ob} {env:Env} {hd:Nat->Value} {W W':World}
def j2 (v:Value) (n:Nat):Prop:=(v= .slice none 0 0/\n=0)\/ ∃b cap,v= .slice (some ⟨b,0,none⟩) n cap/\n<=cap/\cap<=maxLen
theorem Wd.vD (h:Wd w M0 hd M own W) {i:Nat} {o o':Ob} (hi:own[i]?=some o) (jt:o≠Ob.gone) (ju:wR w.heap.size W (hd i) o'):Wd w M0 hd M (own.set i o') W:=by
 have kg:i<own.length:=(xI.1 hi).1
 have UB: ∀j oj,(own.set i o')[j]?=some oj->oj≠Ob.gone-> ∃ok,own[j]?=some ok/\ok≠Ob.gone:=fun j oj hj uW=>by
  by_cases vN:j=i
  · subst vN;exact ⟨o,hi,jt⟩
  · rw [Zb (uS vN)] at hj;exact ⟨oj,hj,uW⟩
 refine ⟨h.below,h.mem,h.wS,h.YW,fun j oj hj=>?_,fun j oj b hj uW hb=>?_,fun j k oj ok b hj hk uW gQ Un C6=>?_⟩
 · by_cases vN:j=i
   · subst vN;rw [wC kg] at hj;rw [<-qt hj];exact ju
   · rw [Zb (uS vN)] at hj;exact h.own j oj hj
 · obtain ⟨ok,h1,h2⟩:=UB j oj hj uW;exact h.sep j ok b h1 h2 hb
 · obtain ⟨o1,h1,h2⟩:=UB j oj hj uW;obtain ⟨o2,h3,h4⟩:=UB k ok hk gQ;exact h.VX j k o1 o2 b h1 h3 h2 h4 Un C6
theorem uJ {base:Nat} {v:Value} {e:TypeId} {k n:Nat} {cs:List Value} (h:W.ownsRow base e k v n cs):j2 v n:=by
 obtain ⟨_,h|⟨g,cap,cur,h1,_,_,h2,h3,_⟩⟩:=h
 · exact .inl h
 · exact .inr ⟨g,cap,h1,h2,h3⟩
theorem Yt {ops:Array Oper} {l:List Oper} {Q:zX} {e:TypeId} {k n:Nat} {cs:List Value} (i:Nat) (hi:own[i]?=some (.row e k n cs))
 (h: ∀v,j2 v n->VL P w M0 N ops l ⟨M,own.set i (.zC v e k n cs),JV i v env⟩ Q):VL P w M0 N ops l ⟨M,own,env⟩ Q:= .mk fun hd a W hR=>by
 have hO:=hR.1.own i _ hi;exact (h (hd i) (uJ hO)).go hd a W ⟨hR.1.vD hi yx ⟨rfl,hO⟩,QX hR.2⟩
theorem qB {ops:Array Oper} {l:List Oper} {Q:zX} {t:TypeId} {cs:List Value} (i:Nat) (hi:own[i]?=some (.qZ t cs))
 (h: ∀b,VL P w M0 N ops l ⟨M,own.set i (.zK (.pointer (some ⟨b,0,none⟩)) t cs),JV i (.pointer (some ⟨b,0,none⟩)) env⟩ Q):VL P w M0 N ops l ⟨M,own,env⟩ Q:= .mk fun hd a W hR=>by
 have hO:=hR.1.own i _ hi;obtain ⟨b,hb,_⟩:=id hO;have h2:=QX (i:=i) hR.2;rw [hb] at h2;exact (h b).go hd a W ⟨hR.1.vD hi yx ⟨hb,hO⟩,h2⟩
theorem SE {c:Code} {Q:zX} {t:TypeId} {cs:List Value} (i:Nat) (hi:own[i]?=some (.qZ t cs))
 (h: ∀b,VC P w M0 N c ⟨M,own.set i (.zK (.pointer (some ⟨b,0,none⟩)) t cs),JV i (.pointer (some ⟨b,0,none⟩)) env⟩ Q):VC P w M0 N c ⟨M,own,env⟩ Q:= .mk fun hd a W hR=>by
 have hO:=hR.1.own i _ hi;obtain ⟨b,hb,_⟩:=id hO;have h2:=QX (i:=i) hR.2;rw [hb] at h2;exact (h b).go hd a W ⟨hR.1.vD hi yx ⟨hb,hO⟩,h2⟩
theorem Fr.cons {a:Act} (h:Fr N hd env a) {t:Nat} {v:Value} {i:Nat} (ht:env.get t=some (.v v)) (hv:hd i=v):Fr N hd ((t, .r i)::env) a:=⟨fun q sv hq=>by
 simp only [Env.get] at hq;split at hq
 · rename_i hb
   obtain rfl:=qA hb;cases hq;have:=h.env _ _ ht;rw [this];simp only [SV.den,hv]
 · exact h.env q sv hq,h.size,h.defers⟩
theorem rS {ops:Array Oper} {l:List Oper} {Q:zX} {u:Value} {e:TypeId} {k n:Nat} {cs:List Value} (i t:Nat) (hi:own[i]?=some (.zC u e k n cs)) (ht:env.get t=some (.v u))
 (h:VL P w M0 N ops l ⟨M,own.set i (.row e k n cs),(t, .r i)::env⟩ Q):VL P w M0 N ops l ⟨M,own,env⟩ Q:= .mk fun hd a W hR=>by
 have hO:=hR.1.own i _ hi;exact h.go hd a W ⟨hR.1.vD hi yx hO.2,hR.2.cons ht hO.1⟩
theorem NU {c:Code} {Q:zX} {u:Value} {e:TypeId} {k n:Nat} {cs:List Value} (i t:Nat) (hi:own[i]?=some (.zC u e k n cs)) (ht:env.get t=some (.v u))
 (h:VC P w M0 N c ⟨M,own.set i (.row e k n cs),(t, .r i)::env⟩ Q):VC P w M0 N c ⟨M,own,env⟩ Q:= .mk fun hd a W hR=>by
 have hO:=hR.1.own i _ hi;exact h.go hd a W ⟨hR.1.vD hi yx hO.2,hR.2.cons ht hO.1⟩
def Ob.Wy:Ob->Option Nat
 | .zK u _ _=>yX u
 | .zC u _ _ _ _=>yX u
 |_=>none
theorem U0 {base:Nat} {v:Value} {o:Ob} {b:Nat} (h:wR base W v o) (hf:o.Wy=some b):yX v=some b:=by
 cases o with
 |qZ t cs=>cases hf
 |row e k n cs=>cases hf
 |gone=>cases hf
 |zK u t cs=>rw [h.1];exact hf
 |zC u e k n cs=>rw [h.1];exact hf
 |omap es=>cases hf
 |vj u es=>cases hf
theorem yp {s:St} {t:TypeId} {x:Operand} {b off:Nat} {o:Ob} {u:Value} (i:Nat) (hx:s.env.op x=some (.v (.pointer (some ⟨b,off,none⟩)))) (ho:s.own[i]?=some o) (hf:o.Wy=some b) (hu:o.cells[off]?=some u) [ht:ux P t]:QS P w M0 N ⟨dst, .load t x,ty,pos,z7,g⟩ s (.v u):=xH fun hd a W hR=>by
 have h1:=hR.2.eval hx;have h2:=ku (hR.1.own i o ho) hu;rw [U0 (hR.1.own i o ho) hf] at h2;simp only [SV.den] at h1;simp only [Kz] at h2;simp [execOp,h1,Instr.loadAt,Instr.sureAddr,loadVar,vr ht.h,h2,SV.den]
end
end
end Go.Proofs.YtaibdpjjojihmaaGreat
