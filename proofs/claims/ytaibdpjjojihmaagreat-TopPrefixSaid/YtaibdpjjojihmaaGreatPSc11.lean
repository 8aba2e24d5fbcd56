/- A part of the proof of TopPrefix; no conditions. -/
import Derived.Test.YtaibdpjjojihmaaGreatPSc6
set_option linter.unusedVariables false
set_option linter.unusedSimpArgs false
set_option maxRecDepth 20000
set_option maxHeartbeats 4000000
namespace Go.Proofs.YtaibdpjjojihmaaGreat
section
open Go Go.RowKit
attribute [local irreducible] Calls zv wI
def Ji (b:ByteArray):List Int:=((bl b).drop 1).map fun x=>(x.toNat:Int)
def Kl (b:ByteArray) (pv:Value):wT:=
 if 1<b.size/\KM b 0=1 then ⟨1,KM b 1,(wI (b.extract 2 b.size)).1,pv,[]⟩
 else if 0<b.size/\KM b 0=2 then ⟨2,0,Ki,pv,Ji b⟩
 else ⟨1,0,Ki,pv,[]⟩
abbrev u8C (x:UInt8):List Value:= [.int .u8 (x.toNat:Int)]
theorem NH (b:ByteArray):js b=(bl b).flatMap u8C:=by
 unfold js;show (bl b).map _=_
 induction bl b with
 |nil=>rfl
 |cons x l ih=>rw [xw,j6,ih];rfl
def aA (b:ByteArray):Int×Int×Op×List Int:=(Kl b (.slice none 0 0)).st
theorem aa7 (b:ByteArray) (pv:Value):(Kl b pv).st=aA b:=by
 unfold aA Kl;split
 · rfl
 · split<;>rfl
theorem so (b:ByteArray) (w:World) (M:Mem) (hM:M.le (Mem.of w)) (hs:b.size<=1000000):
 Calls zf 16 #[.string b] w (He M w (fun v M'=> ∃pv,v= .agg #[.int .i64 (Kl b pv).kind, .int .i64 (Kl b pv).xg, .int .i64 (Kl b pv).o.kind, .string (Kl b pv).o.key, .string (Kl b pv).o.hi, .bool (Kl b pv).o.vx, .string (Kl b pv).o.val, .int .i64 (Kl b pv).o.yt,(Kl b pv).pv]/\(Kl b pv).Ok M')):=by
 have ap:=eC b 0;have kJ:=eC b 1;refine So (args:= [.string b]) (M:=M) Tryz.func16 rfl Tryz.ntmps16 zd hM _ ?_;by_cases h1:1<b.size/\KM b 0=1
 · obtain ⟨g1,g2⟩:=id h1;have f1:decide ((1:Int)<(b.size:Int))=true:=yk ze;have f2:(KM b 0==1)=true:=by simp [g2]
   have cO:=fun W=>ago (b.extract 2 b.size) W (jZ (KR _ _ _) hs)
   repeat' (first|((first|apply zA|apply Ze);(first|exact qi0 zd|exact qi1 zd|exact qwd zd|exact V3 2 b.size zd zd zd ze (zN _)|exact TT zd|exact qbk zd|exact zm zd (fun W _=>cO W));rfl)|refine vw ?_)
   refine ⟨_,yH.one zd (xr zd zd _ zd rfl), .slice none 0 0,?_,?_⟩
   · unfold Kl;rw [zo h1];rfl
   · unfold Kl;rw [zo h1];exact xt.nil _ _ _
 · by_cases h2:0<b.size/\KM b 0=2
   · obtain ⟨g1,g2⟩:=id h2;have f1:decide ((0:Int)<(b.size:Int))=true:=yk ze;have f2:(KM b 0==1)=false:=by simp [g2]
     have f3:(KM b 0==2)=true:=by simp [g2]
     have hz:(b.extract 1 b.size).size<=maxLen:=jZ (KR _ _ _) (by unfold maxLen;omega);have Ir:bl (b.extract 1 b.size)=(bl b).drop 1:=by rw [aJ,wD (by rw [qI];exact zN _)]
     have y7:(bl (b.extract 1 b.size)).length<=1000000:=by rw [qI];exact jZ (KR _ _ _) hs
     have Uk:Ji b=(bl (b.extract 1 b.size)).map fun x=>(x.toNat:Int):=by unfold Ji;rw [Ir]
     repeat' (first|((apply zA);(first|exact qi0 zd|exact V3 1 b.size zd zd zd ze (zN _)|exact qbk zd);rfl)|refine vw ?_|(refine vd ?_ ?_<;>intro hq))
     all_goals
      refine Sy zd hz zd (fun v M1 qR w7=>?_);rw [NH,show (b.extract 1 b.size).size=(bl (b.extract 1 b.size)).length from (qI _).symm] at w7;have sV:xt M1 1 u8C v (bl (b.extract 1 b.size)):=w7.YB (fun _ _=>rfl);generalize bl (b.extract 1 b.size)=l at*;obtain ⟨A,c,rfl,vK,qD,_⟩:=id sV;unfold maxLen at qD
      repeat' (refine vw ?_)
      refine AJ 3 1 zd ?_;refine kU (fun x:Nat×Value=>⟨M1,[.qZ 34 [.int .i64 0, .int .i64 0, .int .i64 0, .string ⟨#[]⟩, .string ⟨#[]⟩, .bool false, .string ⟨#[]⟩, .int .i64 0, .slice none 0 0], .qZ 34 [.int .i64 2, .int .i64 0, .int .i64 0, .string ⟨#[]⟩, .string ⟨#[]⟩, .bool false, .string ⟨#[]⟩, .int .i64 0,x.2], .zC x.2 3 1 x.1 ((l.take x.1).flatMap fun x=>oO (x.toNat:Int))],[(2, .p 0 0),(5, .p 1 0),(40, .v (.slice A l.length c)),(41, .v (.int .i64 l.length)),(42, .v (.int .i64 x.1))]⟩) (fun x=>x.1<=l.length) (fun x=>l.length-x.1) [0,1,2] (0, .slice none 0 0) ⟨rfl,rfl,ka,kX⟩ (by show 0<=_;omega) ?_;rintro ⟨k,u⟩ hk;dsimp only at hk⊢;rcases yq k l.length with z9|ql
      · have hd:=Xp z9;obtain ⟨b2,akj,rfl,jk⟩:=sV.get z9;have hx:(0:Int)<=(l[k].toNat:Int)/\(l[k].toNat:Int)<256:=by have:=Af l[k];omega
        repeat' (first|((apply zA);(first|exact qwd zd|exact zj (k) zd zd ze ze|exact zY zd (jk 0 _ zd));rfl)|refine vw ?_)
        refine rS 2 47 zd zd ?_
        repeat' (refine vw ?_)
        refine Yt 4 zd (fun u' KK=>?_);obtain ⟨b3,amf,rfl⟩:=KK.some ze
        repeat' (refine vw ?_)
        refine yL (Q:=fun _ _=>True) [0,1,4] (k+1, .slice (some ⟨b3,0,none⟩) (k+1) amf) ⟨rfl,rfl,⟨rfl,rfl,?_,trivial⟩,kX⟩ (by show k+1<=_;omega) (by show l.length-(k+1)<l.length-k;omega);have e6:(l.take (k+1)).flatMap (fun x=>oO (x.toNat:Int))=(l.take k).flatMap (fun x=>oO (x.toNat:Int))++ [.int .i64 (l[k].toNat:Int)]:=by rw [vF z9,JF];rfl
        show _=some (Ob.zC _ _ 1 (k+1) ((l.take (k+1)).flatMap fun x=>oO (x.toNat:Int)));rw [e6];rfl
      · have hd:=Xq ql;obtain rfl:k=l.length:=ze;refine La 2 zd (fun M2 zD hr=>?_);rw [xk] at hr;have hso:xt M2 1 oO u (l.map fun x=>(x.toNat:Int)):=ud.YB (fun _ _=>rfl) (by rw [yo,List.flatMap_map];exact hr)
        have ju:(Kl b u).Ok M2:=by
         unfold Kl wT.Ok;rw [zn h1,zo h2,Uk];exact hso
        obtain ⟨A2,c2,rfl,_⟩:=id hso
        repeat' (refine vw ?_)
        refine ⟨_,yH.one zd (xr zd zd _ zd rfl),_,?_,ju⟩;unfold Kl;rw [zn h1,zo h2];rfl
   · have f1:decide ((0:Int)<(b.size:Int))=true\/decide ((0:Int)<(b.size:Int))=false:=by cases decide ((0:Int)<(b.size:Int))<;>simp
     have he: ∀pv,Kl b pv=⟨1,0,Ki,pv,[]⟩:=fun pv=>by unfold Kl;rw [zn h1,zn h2]
     have hi: ∀U4:0<b.size,KM b 0≠2:=fun hp e=>h2 ⟨hp,e⟩
     by_cases z0:0<b.size
     · have d0:decide ((0:Int)<(b.size:Int))=true:=yk ze;have f3:(KM b 0==2)=false:=by simp [hi z0]
       by_cases z1:1<b.size
       · have d1:decide ((1:Int)<(b.size:Int))=true:=yk ze;have f2:(KM b 0==1)=false:=by simp [show KM b 0≠1 from fun e=>h1 ⟨z1,e⟩]
         repeat' (first|((apply zA);(first|exact qi0 zd|exact qbk zd);rfl)|refine vw ?_)
         all_goals exact ⟨_,yH.one zd (xr zd zd _ zd rfl), .slice none 0 0,by rw [he];rfl,by rw [he];exact xt.nil _ _ _⟩
       · have d1:decide ((1:Int)<(b.size:Int))=false:=z6 ze
         repeat' (first|((apply zA);(first|exact qi0 zd|exact qbk zd);rfl)|refine vw ?_)
         all_goals exact ⟨_,yH.one zd (xr zd zd _ zd rfl), .slice none 0 0,by rw [he];rfl,by rw [he];exact xt.nil _ _ _⟩
     · have d0:decide ((0:Int)<(b.size:Int))=false:=z6 ze;have d1:decide ((1:Int)<(b.size:Int))=false:=z6 ze
       repeat' (first|((apply zA);(exact qbk zd);rfl)|refine vw ?_)
       all_goals exact ⟨_,yH.one zd (xr zd zd _ zd rfl), .slice none 0 0,by rw [he];rfl,by rw [he];exact xt.nil _ _ _⟩
theorem oB (b:ByteArray) (w:World) (M:Mem) (hM:M.le (Mem.of w)) (hs:b.size<=1000000):
 Calls zf 16 #[.string b] w (He M w (fun v M'=> ∃e:wT,v= .agg #[.int .i64 e.kind, .int .i64 e.xg, .int .i64 e.o.kind, .string e.o.key, .string e.o.hi, .bool e.o.vx, .string e.o.val, .int .i64 e.o.yt,e.pv]/\e.Ok M'/\e.st=aA b)):=
 (so b w M hM hs).mono fun e w' ⟨v,M',h1,h2,h3,h4,h5,pv,h6,h7⟩=>⟨v,M',h1,h2,h3,h4,h5,_,h6,h7,aa7 b pv⟩
def vM (s:ByteArray):List ByteArray:=(Xs s).1++if (Xs s).2=true then [em] else []
theorem aI {s:ByteArray} (h:Wx s=true):vM s=(zv s).1::vM (zv s).2.1:=by
 unfold vM;rw [pD h];rfl
theorem JB {s:ByteArray} (h:Wx s=false):vM s=if s.size=0 then [] else [em]:=by
 unfold vM;rw [dS h];by_cases h0:s.size=0<;>simp [h0]
theorem aa6:aA em=(1,0,Ki,[]):=rfl
theorem br (s:ByteArray):(zv s).2.2=Wx s:=by
 unfold zv;cases Wx s<;>rfl
theorem Wp (s:ByteArray) (w:World) (M:Mem) (hM:M.le (Mem.of w)) (hs:s.size<=1000000):
 Calls zf 7 #[.string s] w (He M w (fun v M'=> ∃l:List wT,xt M' 9 Zm v l/\(∀e∈l,e.Ok M')/\l.map wT.st=(vM s).map aA)):=by
 refine So (args:= [.string s]) (M:=M) Tryz.func7 rfl Tryz.ntmps7 zd hM _ ?_;refine abF ?_
 repeat' (refine vw ?_)
 refine iI 3 34 9 zd zd ?_;refine kU (fun x:List wT×ByteArray×Mem=>⟨x.2.2,[.row 34 9 x.1.length (x.1.flatMap Zm)],[(0, .v (.string x.2.1)),(3, .r 0)]⟩) (fun x=>M.le x.2.2/\(∀e∈x.1,e.Ok x.2.2)/\(vM s).map aA=x.1.map wT.st++(vM x.2.1).map aA/\x.1.length+x.2.1.size<=s.size) (fun x=>x.2.1.size) [0] ([],s,M) ⟨rfl,rfl,xc,j4⟩ ⟨zE,yx,rfl,by simp⟩ ?_;rintro ⟨UC,t,M1⟩ ⟨hM1,ju,e1,hz⟩;dsimp only at hM1 ju e1 hz⊢;have e0:=Jy t;rcases Vr t.size with h0|h0
 · have hd:(!decide (t=⟨#[]⟩))=false:=by rw [e0,yk h0];rfl
   have ho:Wx t=false:=by unfold Wx;simp [h0]
   rw [JB ho,zo h0,uo,xR] at e1
   repeat' (refine vw ?_)
   refine .inr ⟨0,_,_,_,_,rfl,fun u M' hle hu=>⟨_,zP,UC,hu.YB (fun _ _=>rfl),fun e he=>(ju e he).mono hle,e1.symm⟩⟩
 · have hd:(!decide (t=⟨#[]⟩))=true:=by rw [e0,z6 ze];rfl
   have cT:=fun W=>Kh t W ze
   cases ho:Wx t with
   |false=>
    have h3:(!(zv t).2.2)=true:=by rw [br,ho];rfl
    rw [JB ho,zn ze] at e1;have Rv:UC.length+1<=1000000:=ze
    repeat' (first|((apply zA);(first|exact qbk zd|exact zm zd (fun W _=>cT W));rfl)|refine vw ?_)
    refine .inr ⟨2,_,_,_,_,rfl,fun u M' hle hu=>⟨_,zP,UC++ [⟨1,0,Ki, .slice none 0 0,[]⟩],ud.YB (fun _ _=>rfl) ?_,fun e he=>?_,?_⟩⟩
    · rw [yK,JF];exact hu
    · rcases jH.1 he with he|he
      · exact (ju e he).mono hle
      · rw [jx.1 he];exact xt.nil _ _ _
    · rw [e1,jo];rfl
   |true=>
    have h3:(!(zv t).2.2)=false:=by rw [br,ho];rfl
    have MF:=iN ho;have hts:(zv t).1.size<=1000000:=Z3 ze;rw [aI ho,xw] at e1;have Rv:UC.length+1<=1000000:=ze
    repeat' (first|((apply zA);(exact zm zd (fun W _=>cT W));rfl)|refine vw ?_)
    refine Sx zd (fun W hW=>oB (zv t).1 W M1 hW hts) zd (fun v M2 zD hv=>?_);obtain ⟨⟨kind,xg,o,pv,ps⟩,rfl,hpo,oT⟩:=hv;have akU:xt M2 1 oO pv ps:=hpo;obtain ⟨A,c,rfl,_⟩:=id akU
    repeat' (refine vw ?_)
    refine yL (Q:=fun _ _=>True) [2] (UC++ [⟨kind,xg,o, .slice A ps.length c,ps⟩],(zv t).2.1,M2) ⟨rfl,rfl,⟨?_,trivial⟩,j4⟩ ⟨hM1.trans zD,fun e he=>?_,?_,?_⟩ MF
    · have e5:(UC++ [⟨kind,xg,o, .slice A ps.length c,ps⟩]:List wT).length=UC.length+1:=by rw [yK];rfl
      have e6:(UC++ [⟨kind,xg,o, .slice A ps.length c,ps⟩]:List wT).flatMap Zm=UC.flatMap Zm++Zm ⟨kind,xg,o, .slice A ps.length c,ps⟩:=by rw [JF];simp only [j6,List.flatMap_nil,xR]
      show _=some (Ob.row _ 9 (UC++ [_]:List wT).length ((UC++ [_]:List wT).flatMap Zm));rw [e5,e6];rfl
    · rcases jH.1 he with he|he
      · exact (ju e he).mono zD
      · rw [jx.1 he];exact hpo
    · rw [e1,<-oT,jo,xY];rfl
    · show (UC++ [_]).length+(zv t).2.1.size<=s.size;rw [yK];show UC.length+1+_<=_;omega
end
section
open Go Go.RowKit
attribute [local irreducible] Calls zv wI
theorem OE (s:ByteArray):(zv s).1.size<=255:=by
 unfold zv;have:=eC s 0;split
 · show (s.extract _ _).size<=255;rw [DE];unfold Zy;omega
 · exact zW _
theorem bC: ∀(n:Nat) (s:ByteArray),s.size<=n->(∀b∈(Xs s).1,b.size<=255)/\(Xs s).1.length<=n
 |0,s,h=>by
  have ho:Wx s=false:=by unfold Wx;simp;omega
  rw [dS ho];simp
 |n+1,s,h=>by
  cases ho:Wx s with
  |false=>rw [dS ho];simp
  |true=>
   have hl:=iN ho;obtain ⟨i1,i2⟩:=bC n (zv s).2.1 ze;rw [pD ho];refine ⟨fun b hb=>?_,by simp only [xd];omega⟩;rcases jm.1 hb with rfl|hb
   · exact OE s
   · exact i1 b hb
theorem Z5 {o:Op} (h:jb o=true):o.key.size<=16/\o.hi.size<=16/\o.val.size<=16/\1<=o.kind/\o.kind<=6:=by
 unfold jb at h;simp only [yF,j5] at h;exact ⟨h.1.1.1.1.1.1.2,h.1.1.1.1.1.2,h.1.1.1.1.2,h.1.1.1.1.1.1.1.1,h.1.1.1.1.1.1.1.2⟩
theorem tD (b:ByteArray):aA b=if 1<b.size/\KM b 0=1 then (1,KM b 1,(wI (b.extract 2 b.size)).1,[]) else if 0<b.size/\KM b 0=2 then (2,0,Ki,Ji b) else (1,0,Ki,[]):=by
 unfold aA Kl;split
 · rfl
 · split<;>rfl
theorem pM (b:ByteArray):(Ji b).length<=b.size-1:=by
 unfold Ji;rw [yo,kI,qI];exact zN _
theorem E0 (b:ByteArray):(Ji b).all Ka=true:=by
 unfold Ji;rw [t7,yw];intro x _;have:=Af x;show Ka (x.toNat:Int)=true;unfold Ka;simp;omega
theorem et {e:wT} {k c:Int} {o:Op} {ps:List Int} (h:e.st=(k,c,o,ps)):e.kind=k/\e.xg=c/\e.o=o/\e.ps=ps:=by
 obtain ⟨kind,xg,o',pv,ps'⟩:=e;simp only [wT.st,JH] at h;exact h
theorem Gp {e:wT} {b:ByteArray} (he:e.st=aA b) (hb:b.size<=255):jc e=true:=by
 rw [tD] at he;have h1:=eC b 1;split at he
 · obtain ⟨e1,e2,e3,e4⟩:=et he;unfold jc;rw [zo e1,e2,e3,e4]
   have:(eqv (wI (b.extract 2 b.size)).1 Ki||jb (wI (b.extract 2 b.size)).1)=true:=by
    cases h:(wI (b.extract 2 b.size)).2 with
    |false=>rw [HZ h,mA];rfl
    |true=>rw [L9 h];simp
   rw [this];simp;omega
 · split at he
   · obtain ⟨e1,e2,e3,e4⟩:=et he;unfold jc;rw [zn (by rw [e1];decide),e1,e2,e3,e4,mA,E0];have:=pM b;simp;omega
   · obtain ⟨e1,e2,e3,e4⟩:=et he;unfold jc;rw [zo e1,e2,e3,e4,mA];rfl
theorem aac:jb Ki=false:=by decide
end
section
open Go Go.RowKit
attribute [local irreducible] Calls
abbrev wg (b:Nat):Value:= .pointer (some ⟨b,0,none⟩)
theorem OQ (b:Nat) (p u:Value) (M:Mem) (hp:p= .pointer none\/p=wg b):uC zf 39 [wg b] M [.zK (wg b) 61 [p,u]] (fun v zw=>v= .tuple #[]/\zw= [.zK (wg b) 61 [wg b,u]]):=by
 refine AD Tryz.func39 rfl Tryz.ntmps39 zd (fun w M0=>?_);rcases hp with rfl|rfl
 · repeat' (first|refine Ib 0 ?_|((apply zA);(first|exact Uu zd|exact yp 0 zd zd zd zd|exact yN zd zd uz|exact ae6 0 zd zd (by show 0<2;omega)|exact ae8 zd|exact SW 0 zd zd zd);rfl)|refine vw ?_)
   exact ⟨_,[0],[.zK (wg b) 61 [wg b,u]], .inr (.inr (.inr ⟨by rfl,rfl⟩)),zE,rfl,xc,rfl,rfl⟩
 · repeat' (first|((apply zA);(first|exact Uu zd|exact yp 0 zd zd zd zd|exact yN zd zd uz|exact yN zd zd aiY);rfl)|refine vw ?_)
   exact ⟨_,[0],[.zK (wg b) 61 [wg b,u]], .inr (.inr (.inr ⟨by rfl,rfl⟩)),zE,rfl,xc,rfl,rfl⟩
theorem Pm {v:Value} {n:Nat} (h:j2 v n) (hn:0<n): ∃b cap,v= .slice (some ⟨b,0,none⟩) n cap/\0<cap:=by
 rcases h with ⟨_,h⟩|⟨b,cap,h,h2,_⟩
 · omega
 · exact ⟨b,cap,h,ze⟩
theorem i6 (b:Nat) (p u:Value) (s:ByteArray) (n:Nat) (xs:List Value) (M:Mem) (hp:p= .pointer none\/p=wg b) (h0:0<s.size) (hn:n+s.size<=1000000000):
 uC zf 20 [wg b, .string s] M [.zK (wg b) 61 [p,u], .zC u 5 1 n xs]
  (fun v zw=>v= .tuple #[.int .i64 s.size, .nilIface]/\ ∃gb cap,0<cap/\zw= [.zK (wg b) 61 [wg b, .slice (some ⟨gb,0,none⟩) (n+s.size) cap], .zC (.slice (some ⟨gb,0,none⟩) (n+s.size) cap) 5 1 (n+s.size) (xs++js s)]):=by
 refine AD Tryz.func20 rfl Tryz.ntmps20 zd (fun w M0=>?_)
 repeat' (refine vw ?_)
 refine yS (zO:= [.zK (wg b) 61 [p,u]]) [0] zd zd xc (fun M' _=>OQ b p u M' hp) zd zd ?_;rintro _ _ ⟨rfl,rfl⟩
 repeat' (first|((apply zA);(first|exact Uu zd|exact yp 2 zd zd zd zd);rfl)|refine vw ?_)
 refine rS 1 12 zd zd ?_
 skip
 refine Xl _ _ (Hs zd zd zd hn) zd zd ?_;refine Yt 3 zd (fun u' KK=>?_);obtain ⟨gb,cap,rfl,eg⟩:=Pm KK ze
 repeat' (first|refine Ib 2 ?_|((apply zA);(exact Uu zd);rfl)|refine vw ?_)
 exact ⟨_,[2,3],[.zK (wg b) 61 [wg b, .slice (some ⟨gb,0,none⟩) (n+s.size) cap], .zC (.slice (some ⟨gb,0,none⟩) (n+s.size) cap) 5 1 (n+s.size) (xs++js s)],kH,zE,rfl,j4,rfl,gb,cap,eg,rfl⟩
theorem EE (b:Nat) (p:Value) (M:Mem):uC zf 21 [wg b] M [.zK (wg b) 61 [p, .slice none 0 0]] (fun v zw=>v= .string em/\zw= []):=by
 refine AD Tryz.func21 rfl Tryz.ntmps21 zd (fun w M0=>?_)
 repeat' (first|((first|apply zA|apply Ze);(first|exact Uu zd|exact yp 0 zd zd zd zd|exact NY zd|exact SQ zd zd);rfl)|refine vw ?_)
 exact ⟨_,[],[],zP,zE,rfl,trivial,rfl,rfl⟩
theorem LI (b:Nat) (p:Value) (gb n cap:Nat) (s:ByteArray) (M:Mem) (hn:0<n) (hc:0<cap):
 uC zf 21 [wg b] M [.zK (wg b) 61 [p, .slice (some ⟨gb,0,none⟩) n cap], .zC (.slice (some ⟨gb,0,none⟩) n cap) 5 1 n (js s)] (fun v zw=>v= .string s/\zw= []):=by
 refine AD Tryz.func21 rfl Tryz.ntmps21 zd (fun w M0=>?_);refine KD ?_;refine Y0 ?_;apply zA
 · exact qas zd
 · rfl
 refine a6 ?_;refine KD ?_;refine Xm [1] [10,11] yI zd zd ?_
 repeat' (first|refine YH zd _ (by exact Y4 (by first|exact Uu zd|exact yp 0 zd zd zd zd|exact SR zd ze)) zd zd ?_|refine wF zd _ _ (by exact gm (by exact abU (i:=1) zd zd zd zd hn)) zd zd ?_ ?_|refine fw ?_|exact kz|refine fz ?_ ?_)
 all_goals
  repeat' (refine vw ?_)
  exact ⟨_,[],[],zP,zE,rfl,trivial,rfl,rfl⟩
end
section
open Go Go.RowKit
attribute [local irreducible] Calls zv wI yY
theorem L5 (s:ByteArray) (w:World) (hs:s.size<=1000000):Calls zf 18 #[.string s] w fun e w'=>e= .returned (.tuple #[.string (if s.size<=255 then yY s else em), .bool (decide (s.size<=255))])/\Below w.heap.size w w':=by
 by_cases h:s.size<=255
 · have d:decide ((255:Int)<(s.size:Int))=false:=z6 ze;rw [zo h,yk h];have ht:yY s=(⟨#[b8 s.size]⟩:ByteArray)++s:=by unfold yY;rfl
   rw [ht];refine zQ Tryz.func18 rfl Tryz.ntmps18 zd (Mem.xE _) ?_
   repeat' (first|((apply zA);(first|exact Cc zd|exact LW zd|exact LU zd);rfl)|refine vw ?_)
   exact kH
 · have d:decide ((255:Int)<(s.size:Int))=true:=yk ze;rw [zn h,z6 h];refine zQ Tryz.func18 rfl Tryz.ntmps18 zd (Mem.xE _) ?_
   repeat' (refine vw ?_)
   exact kH
theorem lk (s:ByteArray) (w:World) (hs:s.size<=255):Calls zf 18 #[.string s] w fun e w'=>e= .returned (.tuple #[.string (yY s), .bool true])/\Below w.heap.size w w':=by
 have:=L5 s w ze
 rwa [zo hs,yk hs] at this
theorem QE (b:Nat) (s UC:ByteArray) (M:Mem) (hs:s.size<=255) (ha:UC.size<=1000000):uC zf 61 [.string s,wg b] M [.zK (wg b) 9 [.string UC]] (fun v zw=>v= .tuple #[]/\zw= [.zK (wg b) 9 [.string (UC++yY s)]]):=by
 refine AD Tryz.func61 rfl Tryz.ntmps61 zd (fun w M0=>?_)
 repeat' (first|refine Ib 0 ?_|((apply zA);(first|exact yp 0 zd zd zd zd|exact zm zd (fun W _=>lk s W hs)|exact LU zd);rfl)|refine vw ?_)
 exact ⟨_,[0],[.zK (wg b) 9 [.string (UC++yY s)]], .inr (.inr (.inr ⟨by rfl,rfl⟩)),zE,rfl,xc,rfl,rfl⟩
def Xy (o:Op):ByteArray:=if jb o=true then jN o else em
theorem Pg (o:Op) (w:World) (hk:o.key.size<=1000000):Calls zf 38 #[o.av] w fun e w'=>e= .returned (.tuple #[.string (Xy o), .bool (jb o)])/\Below w.heap.size w w':=by
 have cR:=fun W=>vy o W hk
 cases hr:jb o with
 |false=>
  have Tr:=fun W=>vy o W hk _ hr
  have hx:Xy o=em:=by unfold Xy;rw [hr];rfl
  rw [hx];refine zQ aP rfl aQ zd (Mem.xE _) ?_
  repeat' (first|((apply zA);(exact zm zd (fun W _=>Tr W));rfl)|refine vw ?_)
  exact kH
 |true=>
  have Tr:=fun W=>vy o W hk _ hr
  have hx:Xy o=jN o:=by unfold Xy;rw [hr];rfl
  rw [hx];obtain ⟨z1,z2,z3,k1,k6⟩:=Z5 hr;have cV:=fun W=>VH o W
  have cG:=fun W=>KW o W
  obtain ⟨kind,key,hi,vx,val,yt⟩:=o;dsimp only at*;cases hv:qh ⟨kind,key,hi,vx,val,yt⟩ with
  |true=>
   have bh:kind=1\/kind=2:=by
    unfold qh at hv;simpa using hv
   have hg:j3 ⟨kind,key,hi,vx,val,yt⟩=false:=by
    unfold j3;rcases bh with h|h<;>rw [h]<;>rfl
   have h6:(kind==6)=false:=by rcases bh with h|h<;>rw [h]<;>rfl
   rw [hv] at cV;rw [hg] at cG;refine zQ aP rfl aQ zd (Mem.xE _) ?_
   repeat' (first|((apply zA);(first|exact Cc zd|exact zm zd (fun W _=>Tr W)|exact LW zd);rfl)|refine vw ?_)
   refine qB 2 zd (fun b=>?_)
   repeat' (first|((apply zA);(exact KF zd);rfl)|refine vw ?_)
   refine wt (zO:= [.zK (wg b) 9 [.string ((⟨#[b8 kind]⟩:ByteArray))]]) [2] zd zd zd xc (fun M' _=>QE b key ((⟨#[b8 kind]⟩:ByteArray)) M' ze (by simp only [jy,jp,Lw];omega)) zd zd ?_;rintro _ _ ⟨rfl,rfl⟩;refine Ys [0,3] ⟨_,[.qZ 31 [.int .i64 kind, .string key, .string hi, .bool vx, .string val, .int .i64 yt], .zK (wg b) 9 [.string ((⟨#[b8 kind]⟩:ByteArray)++yY key)]],[(1, .p 0 0),(4, .v (wg b)),(5, .v (.func (.func 61) #[] #[wg b]))]⟩ ⟨rfl,rfl,j4,ka⟩ ?_
   repeat' (first|((apply zA);(exact zm zd (fun W _=>cV W));rfl)|refine vw ?_)
   refine wt (zO:= [.zK (wg b) 9 [.string ((⟨#[b8 kind]⟩:ByteArray)++yY key)]]) [1] zd zd zd xc (fun M' _=>QE b val ((⟨#[b8 kind]⟩:ByteArray)++yY key) M' ze (by simp only [jy,jp,Lw];omega)) zd zd ?_;rintro _ _ ⟨rfl,rfl⟩;refine Ys [0,2] ⟨_,[.qZ 31 [.int .i64 kind, .string key, .string hi, .bool vx, .string val, .int .i64 yt], .zK (wg b) 9 [.string ((⟨#[b8 kind]⟩:ByteArray)++yY key++yY val)]],[(1, .p 0 0),(4, .v (wg b)),(5, .v (.func (.func 61) #[] #[wg b]))]⟩ ⟨rfl,rfl,j4,ka⟩ ?_
   repeat' (first|((apply zA);(exact yp 1 zd zd zd zd);rfl)|refine vw ?_)
   all_goals
    refine yH.two zd (zy zd ?_) aN;refine z5 Value.string ?_;unfold jN;rw [hg];dsimp only;rw [zn (show ¬ kind=6 by omega),zn (show ¬ (false=true) by simp),zo (show kind<=2 by omega)]
  |false=>
   have bh:¬ kind<=2:=by
    unfold qh at hv;simp only [IV,rH] at hv;omega
   rw [hv] at cV;cases hg:j3 ⟨kind,key,hi,vx,val,yt⟩ with
   |false=>
    have Tn:¬ kind=6:=fun e=>by rw [e] at hg;exact absurd hg (by unfold j3;simp)
    have h6:(kind==6)=false:=by simp [Tn]
    rw [hg] at cG;refine zQ aP rfl aQ zd (Mem.xE _) ?_
    repeat' (first|((apply zA);(first|exact Cc zd|exact zm zd (fun W _=>Tr W)|exact LW zd);rfl)|refine vw ?_)
    refine qB 2 zd (fun b=>?_)
    repeat' (first|((apply zA);(exact KF zd);rfl)|refine vw ?_)
    refine wt (zO:= [.zK (wg b) 9 [.string ((⟨#[b8 kind]⟩:ByteArray))]]) [2] zd zd zd xc (fun M' _=>QE b key ((⟨#[b8 kind]⟩:ByteArray)) M' ze (by simp only [jy,jp,Lw];omega)) zd zd ?_;rintro _ _ ⟨rfl,rfl⟩;refine Ys [0,3] ⟨_,[.qZ 31 [.int .i64 kind, .string key, .string hi, .bool vx, .string val, .int .i64 yt], .zK (wg b) 9 [.string ((⟨#[b8 kind]⟩:ByteArray)++yY key)]],[(1, .p 0 0),(4, .v (wg b)),(5, .v (.func (.func 61) #[] #[wg b]))]⟩ ⟨rfl,rfl,j4,ka⟩ ?_
    repeat' (first|((apply zA);(first|exact yp 1 zd zd zd zd|exact zm zd (fun W _=>cV W)|exact zm zd (fun W _=>cG W));rfl)|refine vw ?_)
    all_goals
     refine yH.two zd (zy zd ?_) aN;refine z5 Value.string ?_;unfold jN;rw [hg];dsimp only;rw [zn Tn,zn (show ¬ (false=true) by simp),zn bh]
   |true=>
    rw [hg] at cG;cases vx with
    |true=>
     cases h6:(kind==6) with
     |true=>
      have Tn:kind=6:=by simpa using h6
      refine zQ aP rfl aQ zd (Mem.xE _) ?_
      repeat' (first|((apply zA);(first|exact Cc zd|exact zm zd (fun W _=>Tr W)|exact LW zd);rfl)|refine vw ?_)
      refine qB 2 zd (fun b=>?_)
      repeat' (first|((apply zA);(exact KF zd);rfl)|refine vw ?_)
      refine wt (zO:= [.zK (wg b) 9 [.string ((⟨#[b8 kind]⟩:ByteArray))]]) [2] zd zd zd xc (fun M' _=>QE b key ((⟨#[b8 kind]⟩:ByteArray)) M' ze (by simp only [jy,jp,Lw];omega)) zd zd ?_;rintro _ _ ⟨rfl,rfl⟩;refine Ys [0,3] ⟨_,[.qZ 31 [.int .i64 kind, .string key, .string hi, .bool true, .string val, .int .i64 yt], .zK (wg b) 9 [.string ((⟨#[b8 kind]⟩:ByteArray)++yY key)]],[(1, .p 0 0),(4, .v (wg b)),(5, .v (.func (.func 61) #[] #[wg b]))]⟩ ⟨rfl,rfl,j4,ka⟩ ?_
      repeat' (first|refine Ib 1 ?_|((apply zA);(first|exact Cc zd|exact yp 1 zd zd zd zd|exact zm zd (fun W _=>cV W)|exact zm zd (fun W _=>cG W)|exact LW zd|exact LU zd);rfl)|refine vw ?_)
      all_goals
       refine yH.two zd (zy zd ?_) aN;refine z5 Value.string ?_;unfold jN;rw [hg];dsimp only;rw [zo Tn,zo (show true=true from rfl),zo (show true=true from rfl),zn bh]
     |false=>
      have Tn:¬ kind=6:=by simpa using h6
      refine zQ aP rfl aQ zd (Mem.xE _) ?_
      repeat' (first|((apply zA);(first|exact Cc zd|exact zm zd (fun W _=>Tr W)|exact LW zd);rfl)|refine vw ?_)
      refine qB 2 zd (fun b=>?_)
      repeat' (first|((apply zA);(exact KF zd);rfl)|refine vw ?_)
      refine wt (zO:= [.zK (wg b) 9 [.string ((⟨#[b8 kind]⟩:ByteArray))]]) [2] zd zd zd xc (fun M' _=>QE b key ((⟨#[b8 kind]⟩:ByteArray)) M' ze (by simp only [jy,jp,Lw];omega)) zd zd ?_;rintro _ _ ⟨rfl,rfl⟩;refine Ys [0,3] ⟨_,[.qZ 31 [.int .i64 kind, .string key, .string hi, .bool true, .string val, .int .i64 yt], .zK (wg b) 9 [.string ((⟨#[b8 kind]⟩:ByteArray)++yY key)]],[(1, .p 0 0),(4, .v (wg b)),(5, .v (.func (.func 61) #[] #[wg b]))]⟩ ⟨rfl,rfl,j4,ka⟩ ?_
      repeat' (first|refine Ib 1 ?_|((apply zA);(first|exact yp 1 zd zd zd zd|exact zm zd (fun W _=>cV W)|exact zm zd (fun W _=>cG W)|exact LU zd);rfl)|refine vw ?_)
      all_goals
       refine yH.two zd (zy zd ?_) aN;refine z5 Value.string ?_;unfold jN;rw [hg];dsimp only;rw [zn Tn,zo (show true=true from rfl),zo (show true=true from rfl),zn bh]
    |false=>
     cases h6:(kind==6) with
     |true=>
      have Tn:kind=6:=by simpa using h6
      refine zQ aP rfl aQ zd (Mem.xE _) ?_
      repeat' (first|((apply zA);(first|exact Cc zd|exact zm zd (fun W _=>Tr W)|exact LW zd);rfl)|refine vw ?_)
      refine qB 2 zd (fun b=>?_)
      repeat' (first|((apply zA);(exact KF zd);rfl)|refine vw ?_)
      refine wt (zO:= [.zK (wg b) 9 [.string ((⟨#[b8 kind]⟩:ByteArray))]]) [2] zd zd zd xc (fun M' _=>QE b key ((⟨#[b8 kind]⟩:ByteArray)) M' ze (by simp only [jy,jp,Lw];omega)) zd zd ?_;rintro _ _ ⟨rfl,rfl⟩;refine Ys [0,3] ⟨_,[.qZ 31 [.int .i64 kind, .string key, .string hi, .bool false, .string val, .int .i64 yt], .zK (wg b) 9 [.string ((⟨#[b8 kind]⟩:ByteArray)++yY key)]],[(1, .p 0 0),(4, .v (wg b)),(5, .v (.func (.func 61) #[] #[wg b]))]⟩ ⟨rfl,rfl,j4,ka⟩ ?_
      repeat' (first|refine Ib 1 ?_|((apply zA);(first|exact yp 1 zd zd zd zd|exact zm zd (fun W _=>cV W)|exact zm zd (fun W _=>cG W)|exact LU zd);rfl)|refine vw ?_)
      refine wt (zO:= [.zK (wg b) 9 [.string (((⟨#[b8 kind]⟩:ByteArray)++yY key)++(⟨#[0]⟩:ByteArray))]]) [1] zd zd zd xc (fun M' _=>QE b hi (((⟨#[b8 kind]⟩:ByteArray)++yY key)++(⟨#[0]⟩:ByteArray)) M' ze (by simp only [jy,jp,Lw];omega)) zd zd ?_;rintro _ _ ⟨rfl,rfl⟩;refine Ys [0,2] ⟨_,[.qZ 31 [.int .i64 kind, .string key, .string hi, .bool false, .string val, .int .i64 yt], .zK (wg b) 9 [.string (((⟨#[b8 kind]⟩:ByteArray)++yY key)++(⟨#[0]⟩:ByteArray)++yY hi)]],[(1, .p 0 0),(4, .v (wg b)),(5, .v (.func (.func 61) #[] #[wg b]))]⟩ ⟨rfl,rfl,j4,ka⟩ ?_
      repeat' (first|refine Ib 1 ?_|((apply zA);(first|exact Cc zd|exact yp 1 zd zd zd zd|exact LW zd|exact LU zd);rfl)|refine vw ?_)
      all_goals
       refine yH.two zd (zy zd ?_) aN;refine z5 Value.string ?_;unfold jN;rw [hg];dsimp only;rw [zo Tn,zo (show true=true from rfl),zn (show ¬ (false=true) by simp),zn bh];simp only [ByteArray.append_assoc]
     |false=>
      have Tn:¬ kind=6:=by simpa using h6
      refine zQ aP rfl aQ zd (Mem.xE _) ?_
      repeat' (first|((apply zA);(first|exact Cc zd|exact zm zd (fun W _=>Tr W)|exact LW zd);rfl)|refine vw ?_)
      refine qB 2 zd (fun b=>?_)
      repeat' (first|((apply zA);(exact KF zd);rfl)|refine vw ?_)
      refine wt (zO:= [.zK (wg b) 9 [.string ((⟨#[b8 kind]⟩:ByteArray))]]) [2] zd zd zd xc (fun M' _=>QE b key ((⟨#[b8 kind]⟩:ByteArray)) M' ze (by simp only [jy,jp,Lw];omega)) zd zd ?_;rintro _ _ ⟨rfl,rfl⟩;refine Ys [0,3] ⟨_,[.qZ 31 [.int .i64 kind, .string key, .string hi, .bool false, .string val, .int .i64 yt], .zK (wg b) 9 [.string ((⟨#[b8 kind]⟩:ByteArray)++yY key)]],[(1, .p 0 0),(4, .v (wg b)),(5, .v (.func (.func 61) #[] #[wg b]))]⟩ ⟨rfl,rfl,j4,ka⟩ ?_
      repeat' (first|refine Ib 1 ?_|((apply zA);(first|exact yp 1 zd zd zd zd|exact zm zd (fun W _=>cV W)|exact zm zd (fun W _=>cG W)|exact LU zd);rfl)|refine vw ?_)
      refine wt (zO:= [.zK (wg b) 9 [.string (((⟨#[b8 kind]⟩:ByteArray)++yY key)++(⟨#[0]⟩:ByteArray))]]) [1] zd zd zd xc (fun M' _=>QE b hi (((⟨#[b8 kind]⟩:ByteArray)++yY key)++(⟨#[0]⟩:ByteArray)) M' ze (by simp only [jy,jp,Lw];omega)) zd zd ?_;rintro _ _ ⟨rfl,rfl⟩;refine Ys [0,2] ⟨_,[.qZ 31 [.int .i64 kind, .string key, .string hi, .bool false, .string val, .int .i64 yt], .zK (wg b) 9 [.string (((⟨#[b8 kind]⟩:ByteArray)++yY key)++(⟨#[0]⟩:ByteArray)++yY hi)]],[(1, .p 0 0),(4, .v (wg b)),(5, .v (.func (.func 61) #[] #[wg b]))]⟩ ⟨rfl,rfl,j4,ka⟩ ?_
      repeat' (first|((apply zA);(exact yp 1 zd zd zd zd);rfl)|refine vw ?_)
      all_goals
       refine yH.two zd (zy zd ?_) aN;refine z5 Value.string ?_;unfold jN;rw [hg];dsimp only;rw [zn Tn,zo (show true=true from rfl),zn (show ¬ (false=true) by simp),zn bh];simp only [ByteArray.append_assoc]
end
end Go.Proofs.YtaibdpjjojihmaaGreat
