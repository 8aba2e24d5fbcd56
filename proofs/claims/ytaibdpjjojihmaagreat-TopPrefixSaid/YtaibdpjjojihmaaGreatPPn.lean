/- A part of the proof of TopPrefix; no conditions. -/
import Derived.Test.YtaibdpjjojihmaaGreatPMg4
set_option linter.unusedVariables false
set_option linter.unusedSimpArgs false
set_option maxRecDepth 20000
set_option maxHeartbeats 4000000
namespace Go.Proofs.YtaibdpjjojihmaaGreat
section
open Go Go.RowKit
attribute [local irreducible] Calls
structure SA where
 lb:Nat
 cb:Nat
 cc:Nat
 ub:Nat
 uc:Nat
 fb:Nat
 fc:Nat
abbrev YX (b:Bool):List Value:= [.bool b]
abbrev vB (a:SA) (n m:Nat) (fr:List Int):Ob:=BN a.lb a.fb a.fc (.slice (some ⟨a.cb,0,none⟩) n a.cc) (.slice (some ⟨a.ub,0,none⟩) m a.uc) fr
abbrev XX (a:SA) (ns:List Nd):Ob:= .zC (.slice (some ⟨a.cb,0,none⟩) ns.length a.cc) 143 10 ns.length (ns.flatMap yr)
abbrev wV (a:SA) (us:List Bool):Ob:= .zC (.slice (some ⟨a.ub,0,none⟩) us.length a.uc) 4 1 us.length (us.flatMap YX)
def K8 (us:List Bool) (i:Int):Bool:=decide (0<=i)&&us.getD i.toNat false
theorem td {us:List Bool} {k:Nat} (h:k<us.length):K8 us k=us[k]:=by
 unfold K8;rw [yk (show (0:Int)<=k by omega),XC];simp [List.getD,h]
theorem cr {us:List Bool} {i:Int} (h:i<0\/us.length<=i):K8 us i=false:=by
 unfold K8;by_cases h0:0<=i
 · rw [yk h0,XC];have:us.length<=i.toNat:=ze;simp [List.getD,this]
 · rw [z6 h0,Ah]
theorem ta {us:List Bool} {i:Int} (h:K8 us i=true): ∃k:Nat,i=k/\k<us.length/\us[k]?=some true:=by
 rcases Q4 i 0 with h1|h1
 · rw [cr (.inl h1)] at h;cases h
 rcases Q4 i us.length with h2|h2
 · refine ⟨i.toNat,ze,ze,?_⟩;have h3:i.toNat<us.length:=ze;rw [show i=(i.toNat:Int) by omega,td h3] at h;rw [jA h3,h]
 · rw [cr (.inr h2)] at h;cases h
theorem pF (a:SA) (n:Nat) (us:List Bool) (fr:List Int) (i:Int) (M:Mem):zu zf 107 [ptr a.lb, .int .i64 i] M [vB a n us.length fr,wV a us] (fun u M' o=>u= .bool (K8 us i)/\M'=M/\o= [vB a n us.length fr,wV a us]):=by
 rcases Q4 i 0 with h1|h1
 · rw [cr (.inl h1)];have d1:decide (0<=i)=false:=z6 ze;refine xy Tryz.func107 rfl Tryz.ntmps107 zd (fun F w M0 hF=>zz ?_)
   repeat' (refine nw ?_)
   exact ⟨_,[vB a n us.length fr,wV a us],zP,zE,zh,zq,rfl,rfl,rfl⟩
 have d1:decide (0<=i)=true:=yk h1;rcases Q4 i us.length with h2|h2
 · have d2:decide (i<(us.length:Int))=true:=yk h2;obtain ⟨k,rfl⟩: ∃k:Nat,i=k:=⟨i.toNat,ze⟩;have h3:k<us.length:=ze;rw [td h3];have c1:=at1 Value.bool us h3;refine xy Tryz.func107 rfl Tryz.ntmps107 zd (fun F w M0 hF=>zz ?_)
   repeat' (first|((apply zA);(first|exact zj k zd zd rfl h3|exact TS zd c1);rfl)|refine nw ?_)
   exact ⟨_,[vB a n us.length fr,wV a us],zP,zE,zh,zq,rfl,rfl,rfl⟩
 · rw [cr (.inr h2)];have d2:decide (i<(us.length:Int))=false:=z6 ze;refine xy Tryz.func107 rfl Tryz.ntmps107 zd (fun F w M0 hF=>zz ?_)
   repeat' (refine nw ?_)
   exact ⟨_,[vB a n us.length fr,wV a us],zP,zE,zh,zq,rfl,rfl,rfl⟩
theorem Pp (ns:List Nd) {k:Nat} (h:k<ns.length):((ns.flatMap yr).drop (0+k*10)).take 10=yr ns[k]/\0+k*10+10<=(ns.flatMap yr).length:=by
 rw [xu]
 induction ns generalizing k with
 |nil=>simp at h
 |cons n ns ih=>
  cases k with
  |zero=>simp [j6]
  |succ k=>
   have:=ih (k:=k) (by simpa using h);rw [show (k+1)*10=k*10+1+1+1+1+1+1+1+1+1+1 by omega];simp only [j6,wQ,Yn,gw,xd,List.getElem_cons_succ];exact ⟨this.1,ze⟩
theorem Po (ns:List Nd) {k:Nat} (h:k<ns.length) (m:Nd):jT (ns.flatMap yr) (0+k*10) (yr m)=(ns.set k m).flatMap yr:=by
 rw [xu]
 induction ns generalizing k with
 |nil=>simp at h
 |cons n ns ih=>
  cases k with
  |zero=>rfl
  |succ k=>
   have:=ih (k:=k) (by simpa using h);rw [show (k+1)*10=k*10+1+1+1+1+1+1+1+1+1+1 by omega];simp only [j6,wQ,Yn,Ub];rw [qL,qL,qL,qL,qL,qL,qL,qL,qL,qL,this]
def JU (ns:List Nd) (us:List Bool) (i:Int):Nd:=if K8 us i=true then ns.getD i.toNat wZ else wZ
theorem g9 {α:Type} {M:Mem} {k:Nat} {cells:α->List Value} {v:Value} {l:List α} (h:xt M k cells v l):v.oneCell'=true:=by obtain ⟨A,c,rfl,_⟩:=h;rfl
theorem XQ {n:Nd} {M:Mem} (h:n.Ok M):(yr n).all (·.oneCell')=true:=by
 have h1:=g9 h.1;have h2:=g9 h.2.1;have h3:=g9 h.2.2.1;have h4:=g9 h.2.2.2;simp [h1,h2,h3,h4,Pl,Pk,H0]
theorem LG (a:SA) (ns:List Nd) (us:List Bool) (fr:List Int) (i:Int) (M:Mem) (hl:us.length=ns.length) (ju: ∀n∈ns,n.Ok M):zu zf 88 [ptr a.lb, .int .i64 i] M [vB a ns.length us.length fr,wV a us,XX a ns] (fun u M' o=>u= .tuple #[(JU ns us i).av, .bool (K8 us i)]/\M'=M/\o= [vB a ns.length us.length fr,wV a us,XX a ns]):=by
 have c1:=pF a ns.length us fr i M;cases hh:K8 us i with
 |false=>
  have hg:JU ns us i=wZ:=by unfold JU;rw [zn (by rw [hh];simp)]
  rw [hh] at c1;rw [hg];refine KC Tryz.func88 rfl Tryz.ntmps88 zd (fun F w M0 hF=>zz ?_)
  repeat' (first|refine yh zh fun b=>?_|refine uK c1 ?_|refine nw ?_)
  exact ⟨_,[vB a ns.length us.length fr,wV a us,XX a ns],kB.two rfl (RV.agg zd) (RV.tmp zd),zE,zh,zq,rfl,rfl,rfl⟩
 |true=>
  obtain ⟨k,rfl,hk,_⟩:=ta hh;have Ul:k<ns.length:=ze;have hg:JU ns us k=ns[k]:=by unfold JU;rw [zo hh];simp [List.getD,Ul]
  rw [hh] at c1;rw [hg];obtain ⟨e1,e2⟩:=Pp ns Ul;have o1:=XQ (ju ns[k] (yD Ul));refine KC Tryz.func88 rfl Tryz.ntmps88 zd (fun F w M0 hF=>zz ?_)
  repeat' (first|refine yh zh fun b=>?_|refine uK c1 ?_|((apply zA);(first|exact zj k zd zd rfl Ul|exact Oi zd e1 e2);rfl)|refine nw ?_)
  exact ⟨_,[vB a ns.length us.length fr,wV a us,XX a ns],kB.two rfl (RV.agg zd) (RV.tmp zd),zE,zh,zq,rfl,rfl,rfl⟩
theorem LD (a:SA) (ns:List Nd) (us:List Bool) (fr:List Int) (i:Int) (m:Nd) (M:Mem) (hl:us.length=ns.length) (hm:m.Ok M):zu zf 116 [ptr a.lb, .int .i64 i,m.av] M [vB a ns.length us.length fr,wV a us,XX a ns] (fun u M' o=>u= .int .i64 (if K8 us i=true then 0 else 8)/\M'=M/\o= [vB a ns.length us.length fr,wV a us,XX a (if K8 us i=true then ns.set i.toNat m else ns)]):=by
 have c1:=pF a ns.length us fr i M;have o1:=XQ hm;cases hh:K8 us i with
 |false=>
  rw [hh] at c1;rw [zn yx,zn yx];refine xy Tryz.func116 rfl Tryz.ntmps116 zd (fun F w M0 hF=>zz ?_)
  repeat' (first|refine yZ zd zh fun b=>?_|refine uK c1 ?_|refine nw ?_)
  exact ⟨_,[vB a ns.length us.length fr,wV a us,XX a ns],zP,zE,zh,zq,rfl,rfl,rfl⟩
 |true=>
  obtain ⟨k,rfl,hk,_⟩:=ta hh;have Ul:k<ns.length:=ze;rw [hh] at c1;rw [zo rfl,zo rfl,Yp];have e1:=Po ns Ul m;have e2:=(Pp ns Ul).2;have e3:(ns.set k m).length=ns.length:=xj;unfold XX;rw [e3];refine xy Tryz.func116 rfl Tryz.ntmps116 zd (fun F w M0 hF=>zz ?_)
  repeat' (first|refine yZ zd zh fun b=>?_|refine uK c1 ?_|refine krN zd e2 e1 ?_|((first|apply zA|apply Ze);(exact zj k zd zd rfl Ul);rfl)|refine nw ?_)
  exact ⟨_,[vB a ns.length us.length fr,wV a us, .zC (.slice (some ⟨a.cb,0,none⟩) ns.length a.cc) 143 10 ns.length ((ns.set k m).flatMap yr)],zP,zE,zh,zq,rfl,rfl,rfl⟩
theorem EC (a:SA) (n m:Nat) (fr:List Int):aiP zf 183 [ptr a.lb] [vB a n m fr] (.int .i64 fr.length):=fun M=>by
 refine xy Tryz.func183 rfl Tryz.ntmps183 zd (fun F w M0 hF=>zz ?_)
 repeat' (refine nw ?_)
 exact ⟨_,[vB a n m fr],zP,zE,zh,zq,rfl,rfl,rfl⟩
end
section
open Go Go.RowKit
attribute [local irreducible] Calls
def KY (us:List Bool) (k:Nat):List Int:=((List.range k).filter fun i=>us.getD i false).map Int.ofNat
abbrev Yb (us:List Bool):List Int:=KY us us.length
theorem Fi (us:List Bool) (k:Nat):KY us (k+1)=KY us k++if us.getD k false=true then [(k:Int)] else []:=by
 unfold KY;rw [nF,aX,jo];congr 1;simp only [List.filter];cases us.getD k false<;>rfl
theorem d9 (us:List Bool) (k:Nat):(KY us k).length<=k:=by
 unfold KY;rw [yo];refine jZ (Ql _ _) yx
theorem ED (a:SA) (n:Nat) (us:List Bool) (fr:List Int) (M:Mem) (hn:us.length<=1000000):zu zf 70 [ptr a.lb] M [vB a n us.length fr,wV a us] (fun u M' o=>M'=M/\j2 u (Yb us).length/\o= [vB a n us.length fr,wV a us, .zC u 3 1 (Yb us).length ((Yb us).flatMap zF)]):=by
 refine xy Tryz.func70 rfl Tryz.ntmps70 zd (fun F w M0 hF=>zz ?_);refine uU 3 1 ?_
 repeat' (refine nw ?_)
 refine jv (fun x:Nat×Value=>⟨M, .zC x.2 3 1 (KY us x.1).length ((KY us x.1).flatMap zF)::vB a n us.length fr::wV a us::F,[(3, .v x.2),(11, .v (.slice (some ⟨a.ub,0,none⟩) us.length a.uc)),(12, .v (.int .i64 us.length)),(13, .v (.int .i64 (x.1:Nat)))]⟩) (fun x=>x.1<=us.length/\j2 x.2 (KY us x.1).length) (fun x=>us.length-x.1) (0, .slice none 0 0) ⟨rfl,ji.refl _,jY,rfl⟩ ⟨zW _, .inl ⟨rfl,rfl⟩⟩ ?_;rintro ⟨k,v⟩ ⟨hk,hv⟩;dsimp only at hk hv⊢;have y7:=d9 us k;rcases yq k us.length with z9|ql
 · have hd:=Xp z9;have c1:=at1 Value.bool us z9;have hg:us.getD k false=us[k]:=by simp [List.getD,z9]
   have hs:=Fi us k;rw [hg] at hs;cases hq:us[k] with
   |false=>
    rw [hq] at c1 hs
    repeat' (first|((apply zA);(first|exact zj k zd zd rfl z9|exact TS zd c1);rfl)|refine nw ?_)
    rw [zn yx,xR] at hs;rw [<-hs] at hv⊢;exact yG (Q:=fun _ _=>True) (k+1,v) (xZ jY) ⟨z9,hv⟩ (by show us.length-(k+1)<us.length-k;omega)
   |true=>
    rw [hq] at c1 hs;rw [zo rfl] at hs;have e1:(KY us (k+1)).length=(KY us k).length+1:=by rw [hs];simp
    have e2:(KY us (k+1)).flatMap zF=(KY us k).flatMap zF++ [.int .i64 (k:Int)]:=by rw [hs,JF];rfl
    repeat' (first|refine gM zd (fun _=>rfl) (fun b c u hu=>?_)|((apply zA);(first|exact zj k zd zd rfl z9|exact TS zd c1);rfl)|refine nw ?_)
    exact yG (Q:=fun _ _=>True) (k+1,u) (by
     dsimp only;rw [e1,e2];exact xZ jY) ⟨z9,by rw [e1];exact hu⟩ (by show us.length-(k+1)<us.length-k;omega)
 · have hd:=Xq ql;obtain rfl:k=us.length:=ze
   repeat' (refine nw ?_)
   exact ⟨_,[vB a n us.length fr,wV a us, .zC v 3 1 (Yb us).length ((Yb us).flatMap zF)],zP,zE,zh,zq,rfl,hv,rfl⟩
theorem sn (a:SA) (n m:Nat) (x:Nd) (M:Mem):zu zf 99 [ptr a.lb,x.av] M [vB a n m []] (fun u M' o=>u= .tuple #[.int .i64 0, .int .i64 4]/\M'=M/\o= [vB a n m []]):=by
 refine xy Tryz.func99 rfl Tryz.ntmps99 zd (fun F w M0 hF=>zz ?_)
 repeat' (first|refine yZ zd zh fun b=>?_|refine nw ?_)
 exact ⟨_,[vB a n m []],kH,zE,zh,zq,rfl,rfl,rfl⟩
theorem BM (a:SA) (ns:List Nd) (us:List Bool) (fr:List Int) (m:Nd) (k:Nat) (M:Mem) (hl:us.length=ns.length) (hm:m.Ok M) (hf0:0<fr.length) (hf1:fr.length<=1000000) (hx:j8 Kk fr=(j8 Kk fr).dropLast++ [(k:Int)]) (hk:k<ns.length):
 zu zf 99 [ptr a.lb,m.av] M [vB a ns.length us.length fr,Xh a.fb a.fc fr,wV a us,XX a ns] (fun u M' o=>u= .tuple #[.int .i64 (k:Int), .int .i64 0]/\M'=M/\o= [vB a ns.length us.length (j8 Kk fr).dropLast,Xh a.fb a.fc (j8 Kk fr).dropLast,wV a (us.set k true),XX a (ns.set k m)]):=by
 have c1:=RC a.lb a.fb a.fc (.slice (some ⟨a.cb,0,none⟩) ns.length a.cc) (.slice (some ⟨a.ub,0,none⟩) us.length a.uc) fr (k:Int) M hf0 hf1 hx;unfold UA at c1;have o1:=XQ hm;have d1:((fr.length:Int)==0)=false:=by rw [rH];omega
 have gR:k<us.length:=ze;have e1:=Po ns hk m;have e2:=(Pp ns hk).2;have e3:(ns.set k m).length=ns.length:=xj;have e4:(us.set k true).length=us.length:=xj;have e5:=adb Value.bool us k true _ rfl;have e6:0+k*1<(us.flatMap YX).length:=by rw [ady Value.bool];omega
 unfold XX wV;rw [e3,e4];rw [<-e1,<-e5];clear e1 e5;generalize ns.flatMap yr=cs1 at*;generalize us.flatMap YX=cs2 at*;have e7:jT cs1 (0+k*10) (yr m)=jT cs1 (0+k*10) (yr m):=rfl;refine xy Tryz.func99 rfl Tryz.ntmps99 zd (fun F w M0 hF=>zz ?_)
 repeat' (first|refine yZ zd zh fun b=>?_|refine uK c1 ?_|refine nw ?_)
 refine qW [3,4] [12,14] yI zd zd ?_
 repeat' (first|refine YH zd _ (by exact Y4 (by first|exact zj k zd zd rfl hk|exact zj k zd zd rfl gR)) zd zd ?_|refine wF zd _ _ (by exact gm (by first|exact frN zd e2 e7|exact fr1 zd e6 rfl)) zd zd ?_ ?_|refine nf ?_|exact kz)
 repeat' (refine nw ?_)
 exact ⟨_,[vB a ns.length us.length (j8 Kk fr).dropLast,Xh a.fb a.fc (j8 Kk fr).dropLast, .zC (.slice (some ⟨a.ub,0,none⟩) us.length a.uc) 4 1 us.length (cs2.set (0+k*1) (.bool true)), .zC (.slice (some ⟨a.cb,0,none⟩) ns.length a.cc) 143 10 ns.length (jT cs1 (0+k*10) (yr m))],kH,zE,zh,zq,rfl,rfl,rfl⟩
end
section
open Go Go.RowKit
attribute [local irreducible] Calls
structure qC where
 sb:Nat
 a:SA
 c:qn
 ns:List Nd
 us:List Bool
 fr:List Int
abbrev iT (sb lb:Nat) (c:qn):Ob:= .zK (.pointer (some ⟨sb,0,none⟩)) 138 [.int .i64 c.jz, .int .i64 c.leaf, .int .i64 c.yV, .int .i64 c.kD, .int .i64 c.yu, .pointer (some ⟨lb,0,none⟩)]
def qC.ob (s:qC):List Ob:= [iT s.sb s.a.lb s.c,vB s.a s.ns.length s.us.length s.fr,Xh s.a.fb s.a.fc s.fr,wV s.a s.us,XX s.a s.ns]
instance (s:qC):jI s.ob:=by unfold qC.ob;infer_instance
structure qC.Ok (M:Mem) (s:qC):Prop where
 len:s.us.length=s.ns.length
 n:s.ns.length<=4096
 nd: ∀n∈s.ns,n.Ok M/\n.Tt
 frn:s.fr.length<=s.ns.length
 frb: ∀f∈s.fr,∃k:Nat,f=(k:Int)/\k<s.ns.length
theorem qC.Ok.mono {M M':Mem} {s:qC} (h:s.Ok M) (hle:M.le M'):s.Ok M':=⟨h.len,h.n,fun n hn=>⟨(h.nd n hn).1.mono hle,(h.nd n hn).2⟩,h.frn,h.frb⟩
theorem lr:wZ.Tt:=⟨by decide,fun _ h=>(nomatch h),by decide,by decide,fun _ h=>(nomatch h),by decide,fun _ h=>(nomatch h),by decide,fun _ h=>(nomatch h)⟩
theorem aaW {M:Mem} {s:qC} (h:s.Ok M) (i:Int):(JU s.ns s.us i).Ok M/\(JU s.ns s.us i).Tt:=by
 unfold JU;split
 · rename_i hh
   obtain ⟨k,rfl,hk,_⟩:=ta hh;rw [h.len] at hk;have:=h.nd s.ns[k] (yD hk);simpa [List.getD,hk] using this
 · exact ⟨vI M,lr⟩
theorem sk (s:qC) (M:Mem):zu zf 77 [ptr s.sb] M s.ob (fun u M' o=>u=s.c.av/\M'=M/\o=s.ob):=by
 unfold qC.ob;refine KC Tryz.func77 rfl Tryz.ntmps77 zd (fun F w M0 hF=>zz ?_)
 repeat' (first|refine yh zh fun b=>?_|refine nw ?_)
 exact ⟨_,[iT s.sb s.a.lb s.c,vB s.a s.ns.length s.us.length s.fr,Xh s.a.fb s.a.fc s.fr,wV s.a s.us,XX s.a s.ns],kB.one rfl (RV.agg zd),zE,zh,zq,rfl,rfl,rfl⟩
theorem Ew (s:qC) (M:Mem):zu zf 155 [ptr s.sb] M s.ob (fun u M' o=>u= .int .i64 s.fr.length/\M'=M/\o=s.ob):=by
 have c1:=EC s.a s.ns.length s.us.length s.fr M;unfold qC.ob;refine xy Tryz.func155 rfl Tryz.ntmps155 zd (fun F w M0 hF=>zz ?_)
 repeat' (first|refine uK c1 ?_|refine nw ?_)
 exact ⟨_,[iT s.sb s.a.lb s.c,vB s.a s.ns.length s.us.length s.fr,Xh s.a.fb s.a.fc s.fr,wV s.a s.us,XX s.a s.ns],zP,zE,zh,zq,rfl,rfl,rfl⟩
theorem iS (s:qC) (i:Int) (M:Mem) (hs:s.Ok M):zu zf 71 [ptr s.sb, .int .i64 i] M s.ob (fun u M' o=>o=s.ob/\ ∃m:Nd,u= .tuple #[m.av, .bool (K8 s.us i)]/\m.Ok M'/\bare m=bare (JU s.ns s.us i)):=by
 have c1:=LG s.a s.ns s.us s.fr i M hs.len (fun n hn=>(hs.nd n hn).1);obtain ⟨hg1,hg2⟩:=aaW hs i;generalize JU s.ns s.us i=g at*;have c2:=qP g M hg1 hg2;have o1:=XQ hg1;unfold qC.ob;refine KC Tryz.func71 rfl Tryz.ntmps71 zd (fun F w M0 hF=>zz ?_)
 repeat' (first|refine yh zh fun b=>?_|refine uK c1 ?_|refine nw ?_)
 refine xQ c2 ?_;rintro _ M2 _ hle-⟨rfl,m,rfl,hm,hb⟩;refine zJ ?_;have o2:=XQ hm
 repeat' (refine nw ?_)
 exact ⟨_,[iT s.sb s.a.lb s.c,vB s.a s.ns.length s.us.length s.fr,Xh s.a.fb s.a.fc s.fr,wV s.a s.us,XX s.a s.ns],kB.two rfl (RV.agg zd) (RV.tmp zd),hle,zh,zq,rfl,m,rfl,hm,hb⟩
def qC.set (s:qC) (i:Int) (m:Nd):qC:= {s with ns:=if K8 s.us i=true then s.ns.set i.toNat m else s.ns}
theorem qC.hJ (s:qC) (i:Int) (m:Nd):(s.set i m).ns.length=s.ns.length:=by unfold qC.set;dsimp only;split<;>simp
theorem qC.ada {M:Mem} {s:qC} (h:s.Ok M) (i:Int) {m:Nd} (hm:m.Ok M) (hb:m.Tt):(s.set i m).Ok M:=by
 have hl:=s.hJ i m;refine ⟨by rw [hl];exact h.len,by rw [hl];exact h.n,fun n hn=>?_,by rw [hl];exact h.frn,by rw [hl];exact h.frb⟩;unfold qC.set at hn;dsimp only at hn;split at hn
 · rcases dr hn with h1|rfl
   · exact h.nd n h1
   · exact ⟨hm,hb⟩
 · exact h.nd n hn
theorem pC (s:qC) (n:Nd) (M:Mem) (hs:s.Ok M) (hn:n.Ok M) (hb:n.Tt):zu zf 100 [ptr s.sb,n.av] M s.ob (fun u M' o=>u= .int .i64 (if K8 s.us n.slot=true then 0 else 8)/\ ∃m:Nd,m.Ok M'/\bare m=bare n/\o=(s.set n.slot m).ob):=by
 have c2:=qP n M hn hb;have o1:=XQ hn;have e3: ∀m,(if K8 s.us n.slot=true then s.ns.set n.slot.toNat m else s.ns).length=s.ns.length:=fun m=>s.hJ n.slot m
 unfold qC.ob qC.set;dsimp only;refine xy Tryz.func100 rfl Tryz.ntmps100 zd (fun F w M0 hF=>zz ?_)
 repeat' (first|refine qW [2,4,5] [7,8,9] yI zd zd ?_|refine yZ zd zh fun b=>?_|refine nw ?_)
 repeat' (first|refine gB _ _ _ _ zd (xc0 c2 (fun _ _ _ h=>h.1)) zd ?_ ?_|refine nf ?_|exact kz)
 rintro ⟨⟨v,M2⟩,hx⟩;dsimp only;obtain ⟨hle,-,m,rfl,hm,Zk⟩:=id hx;refine ⟨hle,rfl,?_⟩;have sV:m.slot=n.slot:=by have:=z5 Nd.slot Zk;exact this
 have c3:=LD s.a s.ns s.us s.fr n.slot m M2 hs.len hm
 repeat' (first|refine wF zd _ _ (by exact gm (by exact fcf c3)) (by simp only [y8,aW,Ub,xd,YE,ua,xk]) zd ?_ ?_|refine nf ?_|exact kz|refine ng ?_ ?_)
 repeat' (refine nw ?_)
 exact ⟨_,[iT s.sb s.a.lb s.c,vB s.a s.ns.length s.us.length s.fr,Xh s.a.fb s.a.fc s.fr,wV s.a s.us,XX s.a (if K8 s.us n.slot=true then s.ns.set n.slot.toNat m else s.ns)],zP,hle,zh,zq,rfl,m,hm,Zk,by rw [e3 m]⟩
def qC.tk (s:qC) (k:Nat) (m:Nd):qC:= {s with ns:=s.ns.set k m,us:=s.us.set k true,fr:=(j8 Kk s.fr).dropLast}
theorem qC.HA {M:Mem} {s:qC} (h:s.Ok M) (k:Nat) {m:Nd} (hm:m.Ok M) (hb:m.Tt):(s.tk k m).Ok M:=by
 have hp:=ue Kk s.fr;have h1:(j8 Kk s.fr).dropLast.length<=s.fr.length:=by rw [rO,hp.length_eq];omega
 have h2:=h.frn;have e1:(s.tk k m).ns.length=s.ns.length:=by simp [qC.tk]
 refine ⟨by simp [qC.tk,h.len],by rw [e1];exact h.n,fun n hn=>?_,by rw [e1];exact jZ h1 h2,fun f hf=>?_⟩
 · rcases dr hn with h1|rfl
   · exact h.nd n h1
   · exact ⟨hm,hb⟩
 · rw [e1];exact h.frb f (hp.mem_iff.1 (IT _ hf))
theorem BI (s:qC) (n:Nd) (M:Mem) (hs:s.fr= []):zu zf 80 [ptr s.sb,n.av] M s.ob (fun u M' o=>u= .tuple #[.int .i64 0, .int .i64 4]/\M'=M/\o=s.ob):=by
 have c1:=sn s.a s.ns.length s.us.length wZ M;unfold qC.ob;rw [hs];refine xy Tryz.func80 rfl Tryz.ntmps80 zd (fun F w M0 hF=>zz ?_)
 repeat' (first|refine yZ zd zh fun b=>?_|refine uK c1 ?_|refine nw ?_)
 exact ⟨_,[iT s.sb s.a.lb s.c,vB s.a s.ns.length s.us.length [],Xh s.a.fb s.a.fc [],wV s.a s.us,XX s.a s.ns],kH,zE,zh,zq,rfl,rfl,rfl⟩
theorem Ev (s:qC) (n:Nd) (k:Nat) (M:Mem) (hs:s.Ok M) (hn:n.Ok M) (hb:n.Tt) (h0:s.fr≠ []) (hk:k<s.ns.length) (hx:j8 Kk s.fr=(j8 Kk s.fr).dropLast++ [(k:Int)]):zu zf 80 [ptr s.sb,n.av] M s.ob (fun u M' o=>u= .tuple #[.int .i64 (k:Int), .int .i64 0]/\ ∃m:Nd,m.Ok M'/\bare m= {bare n with slot:=(k:Int)}/\o=(s.tk k m).ob):=by
 have hl:=hs.len;have hn1:=hs.n;have AZ:=hs.frn;have Ul:k<s.us.length:=ze;have c1:=BM s.a s.ns s.us s.fr wZ k M hs.len (vI M) (Qk.2 h0) ze hx hk;have ho1:=qC.HA hs k (vI M) lr;have hh:K8 (s.us.set k true) (k:Int)=true:=by rw [td (by rw [xj];exact Ul)];simp
 have c2:=pC (s.tk k wZ) {n with slot:=(k:Int)} M ho1 hn ⟨hb.high,hb.ps,hb.psn,hb.ksn,hb.ms,hb.msn,hb.rs,hb.rsn,hb.min⟩
 have e1: ∀m,(s.tk k wZ).set (k:Int) m=s.tk k m:=fun m=>by
  unfold qC.set qC.tk;dsimp only;rw [zo hh,Yp,Ks]
 simp only [e1] at c2;rw [show (s.tk k wZ).us=s.us.set k true from rfl] at c2;simp only [hh,uR] at c2;unfold qC.ob at c2;simp only [qC.tk,xj] at c2;have o1:=XQ hn;unfold qC.ob;simp only [qC.tk,xj];refine xy Tryz.func80 rfl Tryz.ntmps80 zd (fun F w M0 hF=>zz ?_)
 repeat' (first|refine yZ zd zh fun b=>?_|refine uK c1 ?_|refine nw ?_)
 refine xQ c2 ?_;rintro _ M2 _ hle-⟨rfl,m,hm,Zk,rfl⟩;refine zJ ?_
 repeat' (refine nw ?_)
 exact ⟨_,[iT s.sb s.a.lb s.c,vB s.a s.ns.length s.us.length (j8 Kk s.fr).dropLast,Xh s.a.fb s.a.fc (j8 Kk s.fr).dropLast,wV s.a (s.us.set k true),XX s.a (s.ns.set k m)],kH,hle,zh,zq,rfl,m,hm,Zk,rfl⟩
end
section
open Go Go.RowKit
attribute [local irreducible] Calls
instance DS.sto (s:qC) (l:List Ob):DS (s.ob++l) s.sb 138 [.int .i64 s.c.jz, .int .i64 s.c.leaf, .int .i64 s.c.yV, .int .i64 s.c.kD, .int .i64 s.c.yu, .pointer (some ⟨s.a.lb,0,none⟩)]:=⟨0,rfl⟩
theorem OK (s:qC) (M:Mem) (hs:s.Ok M):zu zf 70 [ptr s.a.lb] M s.ob (fun u M' o=>M'=M/\j2 u (Yb s.us).length/\o= .zC u 3 1 (Yb s.us).length ((Yb s.us).flatMap zF)::s.ob):=by
 have hl:=hs.len;have hn:=hs.n;refine (ED s.a s.ns.length s.us s.fr M ze).wide (G:= [iT s.sb s.a.lb s.c,Xh s.a.fb s.a.fc s.fr,XX s.a s.ns]) (by unfold qC.ob;infer_instance) zh ?_;rintro u M' o _ ⟨h1,h2,rfl⟩;refine ⟨_,?_,?_,h1,h2,rfl⟩
 · unfold qC.ob;show ji [vB s.a s.ns.length s.us.length s.fr,wV s.a s.us, .zC u 3 1 (Yb s.us).length ((Yb s.us).flatMap zF),iT s.sb s.a.lb s.c,Xh s.a.fb s.a.fc s.fr,XX s.a s.ns] (.zC u 3 1 (Yb s.us).length ((Yb s.us).flatMap zF):: [iT s.sb s.a.lb s.c,vB s.a s.ns.length s.us.length s.fr,Xh s.a.fb s.a.fc s.fr,wV s.a s.us,XX s.a s.ns]);exact uu.KJ (F:= []) zh
 · infer_instance
def qC.all (s:qC):List Nd:=(Yb s.us).map fun i=>bare (JU s.ns s.us i)
theorem fR (s:qC) (M:Mem) (hs:s.Ok M):zu zf 47 [ptr s.sb] M s.ob (fun u M' o=>o=s.ob/\ ∃l:List Nd,xt M' 10 yr u l/\(∀n∈l,n.Ok M')/\l.map bare=s.all):=by
 have nX:(Yb s.us).length<=4096:=jZ (d9 _ _) (by rw [hs.len];exact hs.n);refine xy Tryz.func47 rfl Tryz.ntmps47 zd (fun F w M0 hF=>zz ?_);refine uU 143 10 ?_
 repeat' (refine nw ?_)
 refine xQ (OK s M hs) ?_;rintro u M1 _- -⟨h0,hu,rfl⟩;have h0:=h0.symm;subst h0;refine zJ ?_
 obtain ⟨A,cap,rfl⟩: ∃A cap,u= .slice A (Yb s.us).length cap:=by
  rcases hu with ⟨rfl,h⟩|⟨b,c,rfl,_⟩
  · exact ⟨none,0,by rw [h]⟩
  · exact ⟨_,c,rfl⟩
 have hL:s.all=(Yb s.us).map fun i=>bare (JU s.ns s.us i):=rfl
 generalize Yb s.us=L at*
 repeat' (refine nw ?_)
 refine gC (.zC (.slice none 0 0) 143 10 0 []:: .zC (.slice A L.length cap) 3 1 L.length (L.flatMap zF)::(s.ob++F)) ?_
 refine jv (fun x:List Nd×Value×Mem=>⟨x.2.2, .zC x.2.1 143 10 x.1.length (x.1.flatMap yr):: .zC (.slice A L.length cap) 3 1 L.length (L.flatMap zF)::(s.ob++F),[(0, .v (ptr s.sb)),(3, .v x.2.1),(14, .v (.slice A L.length cap)),(15, .v (.int .i64 L.length)),(16, .v (.int .i64 (x.1.length:Nat)))]⟩)
  (fun x=>M.le x.2.2/\x.1.length<=L.length/\j2 x.2.1 x.1.length/\(∀n∈x.1,n.Ok x.2.2)/\x.1.map bare=(L.take x.1.length).map fun i=>bare (JU s.ns s.us i)) (fun x=>L.length-x.1.length) ([], .slice none 0 0,M) ⟨rfl,ji.refl _,kX,rfl⟩ ⟨zE,zW _, .inl ⟨rfl,rfl⟩,fun n hn=>(nomatch hn),rfl⟩ ?_
 rintro ⟨l,v,M1⟩ ⟨h1,h2,h3,h4,h5⟩;dsimp only at h1 h2 h3 h4 h5⊢;rcases yq l.length L.length with z9|ql
 · have hd:=Xp z9
   obtain ⟨b,rfl⟩: ∃b,A=some ⟨b,0,none⟩:=by
    rcases hu with ⟨h,h0⟩|⟨b,c,h,_⟩
    · omega
    · injection h with h;exact ⟨b,h⟩
   have c1:=at1 (Value.int .i64) L z9;have c2:=iS s L[l.length] M1 (hs.mono h1)
   repeat' (first|((apply zA);(first|exact zj l.length zd zd rfl z9|exact TS zd c1);rfl)|refine nw ?_)
   refine xQ c2 ?_;rintro _ M2 _ hle-⟨rfl,m,rfl,hm,hb⟩;refine zJ ?_;have o1:=XQ hm;have e1:(l++ [m]).length=l.length+1:=by simp
   have e2:(l++ [m]).flatMap yr=l.flatMap yr++yr m:=by simp
   repeat' (first|refine yh zh fun b2=>?_|refine gM zd (fun _=>rfl) (fun b3 c3 u hu3=>?_)|refine nw ?_)
   exact yG (Q:=fun _ _=>True) (l++ [m],u,M2) ⟨rfl,by dsimp only;rw [e1,e2];exact zq (zw:= [_,_]) (F:=s.ob++F),⟨rfl,rfl,rfl,rfl,by show _=some (SV.v (.int .i64 ((l++ [m]).length:Nat)));rw [e1];rfl,trivial⟩,rfl⟩ ⟨h1.trans hle,by rw [e1];exact z9,by rw [e1];exact hu3,fun n hn=>by
    rcases jH.1 hn with h|h
    · exact (h4 n h).mono hle
    · rw [jx.1 h];exact hm,by
    rw [e1,vF z9,jo,jo,h5];simp [hb]⟩ (by rw [e1];omega)
 · have hd:=Xq ql;have he:l.length=L.length:=ze
   repeat' (first|(refine wG (v:=v) (e:=143) (k:=10) (n:=l.length) (cs:=l.flatMap yr) zh fun M2 hle hr=>?_)|refine nw ?_)
   exact ⟨_,s.ob,zP,h1.trans hle,zh,zq,rfl,l,ud.YB (fun _ _=>rfl) hr,fun n hn=>(h4 n hn).mono hle,by rw [h5,he,xk,hL]⟩
end
section
open Go Go.RowKit
attribute [local irreducible] Calls
theorem Fy (k:ByteArray) (w:World):Calls zf 56 #[.string k] w fun e w'=>e= .returned (.bool (decide ((k.size:Int)<=16)))/\Below w.heap.size w w':=by
 refine zQ Tryz.func56 rfl Tryz.ntmps56 zd (Mem.xE _) ?_
 repeat' (refine vw ?_)
 show yH _ _ _ _;refine yH.one zd (zy zd ?_);rfl
theorem sg (k:ByteArray) (w:World):Calls zf 57 #[.string k] w fun e w'=>e= .returned (.bool (decide ((k.size:Int)<=16)))/\Below w.heap.size w w':=by
 refine zQ Tryz.func57 rfl Tryz.ntmps57 zd (Mem.xE _) ?_
 repeat' (refine vw ?_)
 show yH _ _ _ _;refine yH.one zd (zy zd ?_);rfl
def qh (o:Op):Bool:=o.kind==1||o.kind==2
def j3 (o:Op):Bool:=o.kind==4||o.kind==6
def bE (o:Op):yW:=if j3 o=true then ⟨o.key,o.hi,o.vx⟩ else yd o.key
def jb (o:Op):Bool:=decide (1<=o.kind)&&decide (o.kind<=6)&&decide (o.key.size<=16)&&decide (o.hi.size<=16)&&decide (o.val.size<=16)&&(qh o||decide (o.val=em))&&(!o.vx||decide (o.hi=em))&&
 (if j3 o=true then !empty (bE o) else decide (o.hi=em)&&!o.vx)&&(if o.kind=6 then decide (1<=o.yt)&&decide (o.yt<=64) else decide (o.yt=0))
theorem VH (o:Op) (w:World):Calls zf 54 #[o.av] w fun e w'=>e= .returned (.bool (qh o))/\Below w.heap.size w w':=by
 unfold qh;refine zQ Tryz.func54 rfl Tryz.ntmps54 zd (Mem.xE _) ?_
 repeat' (first|refine vw ?_|(refine vd ?_ ?_<;>intro hq))
 all_goals
  show yH _ _ _ _;refine yH.one zd (zy zd ?_);simp_all
theorem KW (o:Op) (w:World):Calls zf 55 #[o.av] w fun e w'=>e= .returned (.bool (j3 o))/\Below w.heap.size w w':=by
 unfold j3;refine zQ Tryz.func55 rfl Tryz.ntmps55 zd (Mem.xE _) ?_
 repeat' (first|refine vw ?_|(refine vd ?_ ?_<;>intro hq))
 all_goals
  show yH _ _ _ _;refine yH.one zd (zy zd ?_);simp_all
theorem HX (o:Op) (w:World) (hk:o.key.size<=1000000):Calls zf 59 #[o.av] w fun e w'=>e= .returned ((bE o).av)/\Below w.heap.size w w':=by
 refine zQ Tryz.func59 rfl Tryz.ntmps59 zd (Mem.xE _) ?_
 repeat' (first|((apply zA);(first|exact zm zd (fun W _=>KW o W)|exact zm zd (fun W _=>WV _ hk W));rfl)|refine vw ?_|(refine vd ?_ ?_<;>intro hq))
 all_goals
  show yH _ _ _ _;refine yH.one zd (xr zd zd _ zd ?_);simp_all [bE,Ob.cells,Jd]
theorem lp (o:Op) (w:World) (hk:o.key.size<=1000000):Calls zf 35 #[o.av] w fun e w'=>e= .returned (.int .i64 (if jb o=true then 0 else 3))/\Below w.heap.size w w':=by
 refine zQ Tryz.func35 rfl Tryz.ntmps35 zd (Mem.xE _) ?_
 repeat' (first|((apply zA);(first|exact zm zd (fun W _=>KW o W)|exact zm zd (fun W _=>VH o W)|exact zm zd (fun W _=>HX o W hk)|exact zm zd (fun W _=>YN _ W)|exact zm zd (fun W _=>Fy _ W)|exact zm zd (fun W _=>sg _ W));rfl)|refine vw ?_|(refine vd ?_ ?_<;>intro hq))
 all_goals
  show yH _ _ _ _;refine yH.one zd (zy zd ?_);clear hk;refine z5 (Value.int .i64) ?_;simp_all [jb]
  try omega
end
section
open Go Go.RowKit
def qm (n:Nd):Option (Nd×Nd×ByteArray):=
 if n.level=0 then (if n.rs.length<2 then none else some ({n with rs:=n.rs.take (XH n.rs)},{n with rs:=n.rs.drop (XH n.rs)},mh n.rs))
 else if vC n.ps n.ks=true/\4<=n.ks.length then
  some ({n with ps:=n.ps.take ((n.ks.length+1)/2-1),ks:=n.ks.take ((n.ks.length+1)/2),ms:=jR n.ms ⟨em,wi n.ps ((n.ks.length+1)/2-1),false⟩},
   {n with ps:=n.ps.drop ((n.ks.length+1)/2),ks:=n.ks.drop ((n.ks.length+1)/2),ms:=jR n.ms ⟨wi n.ps ((n.ks.length+1)/2-1),em,true⟩},wi n.ps ((n.ks.length+1)/2-1))
 else none
def kK (n:Nd) (slot:Int):Option (Nd×Nd×ByteArray):=(qm n).map fun x=>({x.1 with high:=x.2.2,top:=false,right:=slot},{x.2.1 with slot:=slot},x.2.2)
def J2 (n:Nd) (x y:Int):Option (Nd×Nd×Nd):=(kK n y).map fun q=>
 ({n with level:=n.level+1,ps:= [q.2.2],ks:= [x,y],rs:= [],ms:=if n.level=0 then [] else n.ms},
  {q.1 with slot:=x,seen:=if n.level=0 then q.1.seen else 0,ms:= []},{q.2.1 with seen:=if n.level=0 then q.2.1.seen else 0,ms:= []})
def Ie (n:Nd) (i:Int) (k:ByteArray):Bool:=decide (0<=i)&&decide (i<(n.ks.length:Int))&&has (xL n.ps i) k&&!decide (k=(xL n.ps i).lo)
def wM (n:Nd) (i:Int) (k:ByteArray) (slot:Int):Option Nd:=
 if n.level=0 then none else if Ie n i k=true then some {n with ps:=n.ps.take i.toNat++k::n.ps.drop i.toNat,ks:=n.ks.take (i.toNat+1)++slot::n.ks.drop (i.toNat+1)} else none
def ZO (p k:Nd) (i:Int):Bool:=decide (1<=p.level)&&decide (k.level=p.level-1)&&decide (0<=i)&&decide (i<(p.ks.length:Int))
def Ur (ms:List xi):List xi->Int->Nat->List xi×Nat
 | [],_,j=>(ms,j)
 |m::l,b,j=>if XI ms m b=true then Ur (ms++ [m]) l b (j+1) else (ms,j)
def jW (p:Nd) (i:Int):List xi:=Xx p.ps (kh p.ms) i
def kw (c:qn) (p k:Nd) (i:Int):Nd×List xi:=
 if k.level=0 then ({k with rs:=(ZB k.rs (jW p i) c.leaf 0).1},(jW p i).take (ZB k.rs (jW p i) c.leaf 0).2)
 else ({k with ms:=(Ur k.ms (jW p i) c.yV 0).1},(jW p i).take (Ur k.ms (jW p i) c.yV 0).2)
def ey (c:qn) (p k:Nd) (i:Int):Nat:=if ZO p k i=true then (kw c p k i).2.length else 0
def Z0 (m:xi) (s:yW):xi×Bool:=if s.vx=true then (QI,false) else jD m ⟨s.hi,em,true⟩
def w5 (l:List xi) (s:yW) (m:xi):List xi:=
 if l.any (fun x=>x.xD==m.xD)=true then (if m.kind=4 then (if (Z0 m s).2=true then [(Z0 m s).1] else []) else []) else [m]
def Ww (c:qn) (p k:Nd) (i:Int):Nd×Nd×Nat:=
 if ZO p k i=true/\(kw c p k i).2≠ [] then
  ({p with ms:=p.ms.flatMap (w5 (kw c p k i).2 (xL p.ps i))},{(kw c p k i).1 with seen:=(((kw c p k i).2.getLast?).getD QI).xD},(kw c p k i).2.length)
 else (p,k,0)
def sI (c:qn) (p k:Nd) (i:Int):Bool:=ZO p k i&&decide (jW p i≠ [])&&(ey c p k i==0)
def sf (n:Nd) (mI:ByteArray):Nat:=if n.ms= [] then jq n.ps mI else gX (Jb n.ps (kh n.ms)) (n.ps.length+1)
def Yi (c:qn) (n:Nd) (mI:ByteArray):Int×Nat:=if n.level=0 then (0,0) else if n.slot=0/\kE c n=true then (1,0) else (2,sf n mI)
def VY (c:qn) (p k:Nd) (i:Int):Int:=
 if k.level>0/\kE c k=true then (if kE c p=true then 0 else 3) else if ey c p k i>0 then 4 else if k.level>0 then 5 else if sI c p k i=true then (if kE c p=true then 0 else 3) else 0
structure kY where
 c:qn
 ns:List Nd
 us:List Bool
 fr:List Int
def qC.pure (s:qC):kY:=⟨s.c,s.ns.map bare,s.us,s.fr⟩
def kY.get (s:kY) (i:Int):Nd:=JU s.ns s.us i
def kY.has (s:kY) (i:Int):Bool:=K8 s.us i
def kY.set (s:kY) (n:Nd):kY:= {s with ns:=if K8 s.us n.slot=true then s.ns.set n.slot.toNat n else s.ns}
def kY.next (s:kY):Nat:=(((j8 Kk s.fr).getLast?).getD 0).toNat
def kY.tk (s:kY) (n:Nd):kY:= {s with ns:=s.ns.set s.next {n with slot:=(s.next:Int)},us:=s.us.set s.next true,fr:=(j8 Kk s.fr).dropLast}
def kY.all (s:kY):List Nd:=(Yb s.us).map fun i=>JU s.ns s.us i
def Jl (o:Op) (xD:Int):Option xi:=if jb o=true/\1<=o.kind/\o.kind<=4/\1<=xD then some ⟨xD,o.kind,o.key,o.hi,o.vx,o.val⟩ else none
def Xc (s:kY) (o:Op):Nd×Int:=
 if s.has 0=false then (s.get 0,1) else
 match Jl o ((s.get 0).seen+1) with
 |none=>(s.get 0,3)
 |some m=>
  if (s.get 0).level=0 then (if w6 (s.get 0).rs m s.c.leaf=true then ({s.get 0 with rs:=XF (s.get 0).rs m,seen:=m.xD},0) else ({s.get 0 with rs:= []},4))
  else (if XI (s.get 0).ms m s.c.yV=true then ({s.get 0 with ms:=(s.get 0).ms++ [m],seen:=m.xD},0) else ({s.get 0 with ms:= []},4))
def QO (s:kY) (o:Op):kY×Int:=if (Xc s o).2=0 then (s.set (Xc s o).1,0) else (s,(Xc s o).2)
def U1 (s:kY):kY×Int:=
 if s.has 0=false then (s,1) else
 match J2 (s.get 0) 0 0 with
 |none=>(s,6)
 |some _=>
  if s.fr.length<2 then (s,4) else
  match J2 (s.get 0) (s.next:Nat) ((s.tk (s.get 0)).next:Nat) with
  |none=>(s,6)
  |some (r,a,b)=>(((((s.tk (s.get 0)).tk (s.get 0)).set r).set a).set b,0)
def lj (s:kY) (p i:Int):kY×Int:=
 if s.has p=false\/i<0\/((s.get p).ks.length:Int)<=i then (s,8) else
 if s.has ((s.get p).ks.getD i.toNat 0)=false then (s,8) else
 if kE s.c (s.get p)=true then (s,9) else
 match kK (s.get ((s.get p).ks.getD i.toNat 0)) 0 with
 |none=>(s,6)
 |some (_,_,k)=>
  match wM (s.get p) i k 0 with
  |none=>(s,6)
  |some _=>
   if s.fr= [] then (s,4) else
   match kK (s.get ((s.get p).ks.getD i.toNat 0)) (s.next:Nat),wM (s.get p) i k (s.next:Nat) with
   |some (a,b,_),some out=>((((s.tk (s.get ((s.get p).ks.getD i.toNat 0))).set a).set b).set out,0)
   |_,_=>(s,6)
def J0 (s:yW) (ls:List (List xi)):List xi:=wJ (ls.map fun l=>jR l s)
def fN (l:List y6) (s:yW) (ms:List xi):List y6:=YD (Zg l s) (jR ms s)
def bQ (l:List y6) (k:ByteArray) (ms:List xi):ByteArray×Bool:=if uP (Jw ms k) (vl l k)=true then (ky (Jw ms k) (vl l k) (QF l k),true) else (em,false)
def Jv (ms:List xi) (s:yW) (seen:Int):List xi:=kx (fun m=>decide (m.xD<=seen)&&fQ (ZM m) s) ms
def ww (rows:List y6) (s:yW) (ms:List xi) (mI:ByteArray) (left:Int):List y6×ByteArray×Bool:=
 if empty s=true then ([],mI,true) else
 ((fN rows s ms).take (min ((fN rows s ms).length:Int) left).toNat,if s.vx=true then em else s.hi,s.vx||decide (left<=((fN rows s ms).length:Int)))
def WU (s:kY) (k:ByteArray):Nat->Int->Int->yW->List (Nd×yW)
 |0,_,_,_=> []
 |f+1,at_,level,x=>
  if s.has at_=false\/(0<=level/\(s.get at_).level≠level-1) then [] else
  (s.get at_,x)::(if (s.get at_).level<=0\/vC (s.get at_).ps (s.get at_).ks=false then [] else
   WU s k f ((s.get at_).ks.getD (jq (s.get at_).ps k) 0) (s.get at_).level (vT x (xL (s.get at_).ps (jq (s.get at_).ps k:Nat))))
def JQ (s:kY) (k:ByteArray):List (Nd×yW):=WU s k ((s.get 0).level.toNat+1) 0 (-1) all
def ab0:yW:=⟨em,em,false⟩
def kL (s:kY) (k:ByteArray):Nd×yW×Bool:=match (JQ s k).getLast? with|none=>(wZ,ab0,false)|some (n,x)=>(n,x,true)
def XG (s:kY) (k:ByteArray):List xi:=match (JQ s k).getLast? with|none=> []|some (_,x)=>J0 x ((JQ s k).map fun q=>q.1.ms)
def BS (s:kY) (yt:Int):Nat->yW->List y6->List y6
 |0,_,out=>out
 |f+1,rest,out=>
  if (kL s rest.lo).2.2=false\/empty rest=true\/yt<=(out.length:Int) then out else
  let q:=ww (kL s rest.lo).1.rs (vT rest (kL s rest.lo).2.1) (XG s rest.lo) rest.lo (yt-out.length)
  if q.2.2=true\/lt rest.lo q.2.1=false then out++q.1 else BS s yt f (Qb rest q.2.1) (out++q.1)
end
end Go.Proofs.YtaibdpjjojihmaaGreat
