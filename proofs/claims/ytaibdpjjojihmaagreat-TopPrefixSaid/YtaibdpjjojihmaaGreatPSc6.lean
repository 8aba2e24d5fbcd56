/- A part of the proof of TopPrefix; no conditions. -/
import Derived.Test.YtaibdpjjojihmaaGreatPSc8
set_option linter.unusedVariables false
set_option linter.unusedSimpArgs false
set_option maxRecDepth 20000
set_option maxHeartbeats 4000000
namespace Go.Proofs.YtaibdpjjojihmaaGreat
section
open Go Go.RowKit
attribute [local irreducible] Calls zv b1 r1 wI
theorem Zr (o:Op) (W:World) (b:Bool) (h:qh o=b):Calls zf 54 #[o.av] W fun e w'=>e= .returned (.bool b)/\Below W.heap.size W w':=h▸VH o W
theorem Zs (o:Op) (W:World) (b:Bool) (h:j3 o=b):Calls zf 55 #[o.av] W fun e w'=>e= .returned (.bool b)/\Below W.heap.size W w':=h▸KW o W
theorem HY (s:ByteArray) (w:World) (hs:s.size<=1000000) (hv:(b1 s==1||b1 s==2)=true):Calls zf 34 #[.string s] w fun e w'=>e= .returned (.tuple #[(wI s).1.av, .bool (wI s).2])/\Below w.heap.size w w':=by
 have Ec:wI s=fin ⟨b1 s,(zv (r1 s)).1,em,false,(zv (zv (r1 s)).2.1).1,0⟩ ((zv (zv (r1 s)).2.1).2.1) (((true&&!decide (s.size=0))&&(zv (r1 s)).2.2)&&(zv (zv (r1 s)).2.1).2.2):=by unfold wI;simp [hv]
 have z1:(r1 s).size<=1000000:=vH hs;have zk:(zv (r1 s)).1.size<=1000000:=Z3 z1;have z2:(zv (r1 s)).2.1.size<=1000000:=Z2 z1;have h12:b1 s=1\/b1 s=2:=by simpa using hv
 have q6:(b1 s==6)=false:=by rcases h12 with h|h<;>rw [h]<;>rfl
 have cV:=fun W=>Zr ⟨b1 s,(zv (r1 s)).1,em,false,em,0⟩ W true (by simp [qh,hv])
 have cR:=fun W=>Zs ⟨b1 s,(zv (r1 s)).1,em,false,(zv (zv (r1 s)).2.1).1,0⟩ W false (by rcases h12 with h|h<;>simp [j3,h])
 cases hr:jb ⟨b1 s,(zv (r1 s)).1,em,false,(zv (zv (r1 s)).2.1).1,0⟩
 all_goals
  have cO:=fun W=>vy ⟨b1 s,(zv (r1 s)).1,em,false,(zv (zv (r1 s)).2.1).1,0⟩ W zk _ hr
  refine zQ Vn rfl Vo zd (Mem.xE _) ?_
  repeat' (refine vw ?_)
  refine qB 1 zd (fun b=>?_);refine yS (zO:= [.zK (.pointer (some ⟨b,0,none⟩)) 113 (Qt (s) (true))]) [1] zd zd xc (fun M' _=>k7 b s true M' hs) zd zd ?_;rintro _ _ ⟨rfl,rfl⟩
  repeat' (refine vw ?_)
  refine yS (zO:= [.zK (.pointer (some ⟨b,0,none⟩)) 113 (Qt (r1 s) (true&&!decide (s.size=0)))]) [2] zd zd xc (fun M' _=>Z6 b (r1 s) _ M' z1) zd zd ?_;rintro _ _ ⟨rfl,rfl⟩
  repeat' (first|((apply zA);(exact zm zd (fun W _=>cV W));rfl)|refine vw ?_)
  refine yS (zO:= [.zK (.pointer (some ⟨b,0,none⟩)) 113 (Qt ((zv (r1 s)).2.1) ((true&&!decide (s.size=0))&&(zv (r1 s)).2.2))]) [4] zd zd xc (fun M' _=>Z6 b ((zv (r1 s)).2.1) _ M' z2) zd zd ?_;rintro _ _ ⟨rfl,rfl⟩
  repeat' (first|((apply zA);(first|exact Uu zd|exact yp 5 zd zd zd zd|exact zm zd (fun W _=>cR W)|exact zm zd (fun W _=>cO W));rfl)|refine vw ?_|(refine vd ?_ ?_<;>intro hq))
  all_goals
   show yH _ _ _ _;refine yH.two zd (xr zd zd _ zd ?_) (zy zd ?_)
   all_goals
    rw [Ec];unfold fin;split<;>simp_all [Jy,Ki,Ob.cells,Jd,Dp,o5]
end
section
open Go Go.RowKit
attribute [local irreducible] Calls zv b1 r1 wI
theorem Pf (s:ByteArray) (w:World) (hs:s.size<=1000000) (hk:b1 s=4) (hb:b1 (zv (r1 s)).2.1=0):Calls zf 34 #[.string s] w fun e w'=>e= .returned (.tuple #[(wI s).1.av, .bool (wI s).2])/\Below w.heap.size w w':=by
 have Ec:wI s=fin ⟨b1 s,(zv (r1 s)).1,(zv (r1 (zv (r1 s)).2.1)).1,false,em,0⟩ ((zv (r1 (zv (r1 s)).2.1)).2.1) ((((true&&!decide (s.size=0))&&(zv (r1 s)).2.2)&&!decide ((zv (r1 s)).2.1.size=0))&&(zv (r1 (zv (r1 s)).2.1)).2.2):=by unfold wI;simp [hk,hb]
 have z1:(r1 s).size<=1000000:=vH hs;have zk:(zv (r1 s)).1.size<=1000000:=Z3 z1;have z2:(zv (r1 s)).2.1.size<=1000000:=Z2 z1;have z3:(r1 (zv (r1 s)).2.1).size<=1000000:=vH z2;have z4:(zv (r1 (zv (r1 s)).2.1)).2.1.size<=1000000:=Z2 z3;have cV:=fun W=>Zr ⟨b1 s,(zv (r1 s)).1,em,false,em,0⟩ W false (by simp [qh,hk,hb])
 have cR:=fun W=>Zs ⟨b1 s,(zv (r1 s)).1,em,false,em,0⟩ W true (by simp [j3,hk,hb])
 have q0:(b1 (zv (r1 s)).2.1==0)=true:=by simp [hb]
 have q1:(b1 (zv (r1 s)).2.1==1)=false:=by simp [hb]
 have q6:(b1 s==6)=false:=by simp [hk]
 cases hr:jb ⟨b1 s,(zv (r1 s)).1,(zv (r1 (zv (r1 s)).2.1)).1,false,em,0⟩
 all_goals
  have cO:=fun W=>vy ⟨b1 s,(zv (r1 s)).1,(zv (r1 (zv (r1 s)).2.1)).1,false,em,0⟩ W zk _ hr
  refine zQ Vn rfl Vo zd (Mem.xE _) ?_
  repeat' (refine vw ?_)
  refine qB 1 zd (fun b=>?_);refine yS (zO:= [.zK (.pointer (some ⟨b,0,none⟩)) 113 (Qt (s) (true))]) [1] zd zd xc (fun M' _=>k7 b s true M' hs) zd zd ?_;rintro _ _ ⟨rfl,rfl⟩
  repeat' (refine vw ?_)
  refine yS (zO:= [.zK (.pointer (some ⟨b,0,none⟩)) 113 (Qt (r1 s) (true&&!decide (s.size=0)))]) [2] zd zd xc (fun M' _=>Z6 b (r1 s) _ M' z1) zd zd ?_;rintro _ _ ⟨rfl,rfl⟩
  repeat' (first|((apply zA);(first|exact zm zd (fun W _=>cV W)|exact zm zd (fun W _=>cR W));rfl)|refine vw ?_)
  refine yS (zO:= [.zK (.pointer (some ⟨b,0,none⟩)) 113 (Qt ((zv (r1 s)).2.1) ((true&&!decide (s.size=0))&&(zv (r1 s)).2.2))]) [4] zd zd xc (fun M' _=>k7 b ((zv (r1 s)).2.1) _ M' z2) zd zd ?_;rintro _ _ ⟨rfl,rfl⟩
  repeat' (refine vw ?_)
  refine yS (zO:= [.zK (.pointer (some ⟨b,0,none⟩)) 113 (Qt (r1 (zv (r1 s)).2.1) (((true&&!decide (s.size=0))&&(zv (r1 s)).2.2)&&!decide ((zv (r1 s)).2.1.size=0)))]) [5] zd zd xc (fun M' _=>Z6 b (r1 (zv (r1 s)).2.1) _ M' z3) zd zd ?_;rintro _ _ ⟨rfl,rfl⟩
  repeat' (first|((apply zA);(first|exact Uu zd|exact yp 6 zd zd zd zd|exact zm zd (fun W _=>cO W));rfl)|refine vw ?_|(refine vd ?_ ?_<;>intro hq))
  all_goals
   show yH _ _ _ _;refine yH.two zd (xr zd zd _ zd ?_) (zy zd ?_)
   all_goals
    rw [Ec];unfold fin;split<;>simp_all [Jy,Ki,Ob.cells,Jd,Dp,o5]
theorem Pe (s:ByteArray) (w:World) (hs:s.size<=1000000) (hk:b1 s=4) (hb:b1 (zv (r1 s)).2.1=1):Calls zf 34 #[.string s] w fun e w'=>e= .returned (.tuple #[(wI s).1.av, .bool (wI s).2])/\Below w.heap.size w w':=by
 have Ec:wI s=fin ⟨b1 s,(zv (r1 s)).1,em,true,em,0⟩ (r1 (zv (r1 s)).2.1) (((true&&!decide (s.size=0))&&(zv (r1 s)).2.2)&&!decide ((zv (r1 s)).2.1.size=0)):=by unfold wI;simp [hk,hb]
 have z1:(r1 s).size<=1000000:=vH hs;have zk:(zv (r1 s)).1.size<=1000000:=Z3 z1;have z2:(zv (r1 s)).2.1.size<=1000000:=Z2 z1;have z3:(r1 (zv (r1 s)).2.1).size<=1000000:=vH z2;have cV:=fun W=>Zr ⟨b1 s,(zv (r1 s)).1,em,false,em,0⟩ W false (by simp [qh,hk,hb])
 have cR:=fun W=>Zs ⟨b1 s,(zv (r1 s)).1,em,false,em,0⟩ W true (by simp [j3,hk,hb])
 have q0:(b1 (zv (r1 s)).2.1==0)=false:=by simp [hb]
 have q1:(b1 (zv (r1 s)).2.1==1)=true:=by simp [hb]
 have q6:(b1 s==6)=false:=by simp [hk]
 cases hr:jb ⟨b1 s,(zv (r1 s)).1,em,true,em,0⟩
 all_goals
  have cO:=fun W=>vy ⟨b1 s,(zv (r1 s)).1,em,true,em,0⟩ W zk _ hr
  refine zQ Vn rfl Vo zd (Mem.xE _) ?_
  repeat' (refine vw ?_)
  refine qB 1 zd (fun b=>?_);refine yS (zO:= [.zK (.pointer (some ⟨b,0,none⟩)) 113 (Qt (s) (true))]) [1] zd zd xc (fun M' _=>k7 b s true M' hs) zd zd ?_;rintro _ _ ⟨rfl,rfl⟩
  repeat' (refine vw ?_)
  refine yS (zO:= [.zK (.pointer (some ⟨b,0,none⟩)) 113 (Qt (r1 s) (true&&!decide (s.size=0)))]) [2] zd zd xc (fun M' _=>Z6 b (r1 s) _ M' z1) zd zd ?_;rintro _ _ ⟨rfl,rfl⟩
  repeat' (first|((apply zA);(first|exact zm zd (fun W _=>cV W)|exact zm zd (fun W _=>cR W));rfl)|refine vw ?_)
  refine yS (zO:= [.zK (.pointer (some ⟨b,0,none⟩)) 113 (Qt ((zv (r1 s)).2.1) ((true&&!decide (s.size=0))&&(zv (r1 s)).2.2))]) [4] zd zd xc (fun M' _=>k7 b ((zv (r1 s)).2.1) _ M' z2) zd zd ?_;rintro _ _ ⟨rfl,rfl⟩
  repeat' (first|((apply zA);(first|exact Uu zd|exact yp 5 zd zd zd zd|exact zm zd (fun W _=>cO W));rfl)|refine vw ?_|(refine vd ?_ ?_<;>intro hq))
  all_goals
   show yH _ _ _ _;refine yH.two zd (xr zd zd _ zd ?_) (zy zd ?_)
   all_goals
    rw [Ec];unfold fin;split<;>simp_all [Jy,Ki,Ob.cells,Jd,Dp,o5]
theorem Pd (s:ByteArray) (w:World) (hs:s.size<=1000000) (hk:b1 s=4) (ap:b1 (zv (r1 s)).2.1≠0) (kJ:b1 (zv (r1 s)).2.1≠1):Calls zf 34 #[.string s] w fun e w'=>e= .returned (.tuple #[(wI s).1.av, .bool (wI s).2])/\Below w.heap.size w w':=by
 have Ec:wI s=(Ki,false):=by unfold wI;simp [hk,ap,kJ]
 have z1:(r1 s).size<=1000000:=vH hs;have zk:(zv (r1 s)).1.size<=1000000:=Z3 z1;have z2:(zv (r1 s)).2.1.size<=1000000:=Z2 z1;have z3:(r1 (zv (r1 s)).2.1).size<=1000000:=vH z2;have cV:=fun W=>Zr ⟨b1 s,(zv (r1 s)).1,em,false,em,0⟩ W false (by simp [qh,hk,ap,kJ])
 have cR:=fun W=>Zs ⟨b1 s,(zv (r1 s)).1,em,false,em,0⟩ W true (by simp [j3,hk,ap,kJ])
 have q0:(b1 (zv (r1 s)).2.1==0)=false:=by simp [ap]
 have q1:(b1 (zv (r1 s)).2.1==1)=false:=by simp [kJ]
 have q6:(b1 s==6)=false:=by simp [hk]
 refine zQ Vn rfl Vo zd (Mem.xE _) ?_
 repeat' (refine vw ?_)
 refine qB 1 zd (fun b=>?_);refine yS (zO:= [.zK (.pointer (some ⟨b,0,none⟩)) 113 (Qt (s) (true))]) [1] zd zd xc (fun M' _=>k7 b s true M' hs) zd zd ?_;rintro _ _ ⟨rfl,rfl⟩
 repeat' (refine vw ?_)
 refine yS (zO:= [.zK (.pointer (some ⟨b,0,none⟩)) 113 (Qt (r1 s) (true&&!decide (s.size=0)))]) [2] zd zd xc (fun M' _=>Z6 b (r1 s) _ M' z1) zd zd ?_;rintro _ _ ⟨rfl,rfl⟩
 repeat' (first|((apply zA);(first|exact zm zd (fun W _=>cV W)|exact zm zd (fun W _=>cR W));rfl)|refine vw ?_)
 refine yS (zO:= [.zK (.pointer (some ⟨b,0,none⟩)) 113 (Qt ((zv (r1 s)).2.1) ((true&&!decide (s.size=0))&&(zv (r1 s)).2.2))]) [4] zd zd xc (fun M' _=>k7 b ((zv (r1 s)).2.1) _ M' z2) zd zd ?_;rintro _ _ ⟨rfl,rfl⟩
 repeat' (first|((apply zA);(exact Uu zd);rfl)|refine vw ?_)
 refine Ib 5 ?_
 repeat' (first|((apply zA);(first|exact Uu zd|exact yp 5 zd zd zd zd);rfl)|refine vw ?_)
 all_goals
  show yH _ _ _ _;refine yH.two zd (xr zd zd _ zd ?_) (zy zd ?_)
  all_goals
   rw [Ec]
   try simp_all [Jy,Ki,Ob.cells,Jd,Dp,o5]
end
section
open Go Go.RowKit
attribute [local irreducible] Calls zv b1 r1 wI
theorem Pc (s:ByteArray) (w:World) (hs:s.size<=1000000) (hk:b1 s=6) (hb:b1 (zv (r1 s)).2.1=0):Calls zf 34 #[.string s] w fun e w'=>e= .returned (.tuple #[(wI s).1.av, .bool (wI s).2])/\Below w.heap.size w w':=by
 have Ec:wI s=fin ⟨b1 s,(zv (r1 s)).1,(zv (r1 (zv (r1 s)).2.1)).1,false,em,b1 ((zv (r1 (zv (r1 s)).2.1)).2.1)⟩ (r1 ((zv (r1 (zv (r1 s)).2.1)).2.1)) (((((true&&!decide (s.size=0))&&(zv (r1 s)).2.2)&&!decide ((zv (r1 s)).2.1.size=0))&&(zv (r1 (zv (r1 s)).2.1)).2.2)&&!decide (((zv (r1 (zv (r1 s)).2.1)).2.1).size=0)):=by unfold wI;simp [hk,hb]
 have z1:(r1 s).size<=1000000:=vH hs;have zk:(zv (r1 s)).1.size<=1000000:=Z3 z1;have z2:(zv (r1 s)).2.1.size<=1000000:=Z2 z1;have z3:(r1 (zv (r1 s)).2.1).size<=1000000:=vH z2;have z4:(zv (r1 (zv (r1 s)).2.1)).2.1.size<=1000000:=Z2 z3;have cV:=fun W=>Zr ⟨b1 s,(zv (r1 s)).1,em,false,em,0⟩ W false (by simp [qh,hk,hb])
 have cR:=fun W=>Zs ⟨b1 s,(zv (r1 s)).1,em,false,em,0⟩ W true (by simp [j3,hk,hb])
 have q0:(b1 (zv (r1 s)).2.1==0)=true:=by simp [hb]
 have q1:(b1 (zv (r1 s)).2.1==1)=false:=by simp [hb]
 have q6:(b1 s==6)=true:=by simp [hk]
 have c1:=fun b M'=>k7 b s true M' hs
 have c2:=fun b M'=>Z6 b (r1 s) (true&&!decide (s.size=0)) M' z1
 have c3:=fun b M'=>k7 b ((zv (r1 s)).2.1) ((true&&!decide (s.size=0))&&(zv (r1 s)).2.2) M' z2
 have c4:=fun b M'=>Z6 b (r1 (zv (r1 s)).2.1) (((true&&!decide (s.size=0))&&(zv (r1 s)).2.2)&&!decide ((zv (r1 s)).2.1.size=0)) M' z3
 have c5:=fun b M'=>k7 b ((zv (r1 (zv (r1 s)).2.1)).2.1) ((((true&&!decide (s.size=0))&&(zv (r1 s)).2.2)&&!decide ((zv (r1 s)).2.1.size=0))&&(zv (r1 (zv (r1 s)).2.1)).2.2) M' z4
 have cO:=fun b W hr=>vy ⟨b1 s,(zv (r1 s)).1,(zv (r1 (zv (r1 s)).2.1)).1,false,em,b1 ((zv (r1 (zv (r1 s)).2.1)).2.1)⟩ W zk b hr
 clear zk z1 z2 z3 z4 q0 q1 q6;generalize wI s=R at*;generalize b1 s=kd at*;subst hk;generalize r1 s=s1 at*;generalize (true&&!decide (s.size=0))=k1 at*;generalize zv s1=p1 at*;obtain ⟨x1,s2,a1⟩:=p1;dsimp only at*;generalize (k1&&a1)=k2 at*;generalize b1 s2=c at*;subst hb;generalize r1 s2=s3 at*;generalize (k2&&!decide (s2.size=0))=k3 at*;generalize zv s3=p2 at*;obtain ⟨x2,s4,a2⟩:=p2;dsimp only at*;generalize (k3&&a2)=k4 at*;generalize b1 s4=lN at*;generalize r1 s4=s5 at*;generalize (k4&&!decide (s4.size=0))=k5 at*;cases hr:jb ⟨6,x1,x2,false,em,lN⟩
 all_goals
  have Tr:=fun W=>cO _ W hr
  refine zQ Vn rfl Vo zd (Mem.xE _) ?_
  repeat' (refine vw ?_)
  refine qB 1 zd (fun b=>?_);refine yS (zO:= [.zK (.pointer (some ⟨b,0,none⟩)) 113 (Qt (s) (true))]) [1] zd zd xc (fun M' _=>c1 b M') zd zd ?_;rintro _ _ ⟨rfl,rfl⟩
  repeat' (refine vw ?_)
  refine yS (zO:= [.zK (.pointer (some ⟨b,0,none⟩)) 113 (Qt (s1) (k1))]) [2] zd zd xc (fun M' _=>c2 b M') zd zd ?_;rintro _ _ ⟨rfl,rfl⟩;refine Ys [0,4,3] ⟨_,[.qZ 31 [.int .i64 0, .string ⟨#[]⟩, .string ⟨#[]⟩, .bool false, .string ⟨#[]⟩, .int .i64 0], .zK (.pointer (some ⟨b,0,none⟩)) 113 (Qt (s2) (k2)), .qZ 31 [.int .i64 6, .string em, .string em, .bool false, .string em, .int .i64 0]],[(13, .v (.string x1)),(4, .v (.pointer (some ⟨b,0,none⟩))),(5, .p 2 0),(2, .p 0 0)]⟩ ⟨rfl,rfl,ka,jY⟩ ?_
  repeat' (first|((apply zA);(first|exact zm zd (fun W _=>cV W)|exact zm zd (fun W _=>cR W));rfl)|refine vw ?_)
  refine yS (zO:= [.zK (.pointer (some ⟨b,0,none⟩)) 113 (Qt (s2) (k2))]) [1] zd zd xc (fun M' _=>c3 b M') zd zd ?_;rintro _ _ ⟨rfl,rfl⟩;refine Ys [0,3,2] ⟨_,[.qZ 31 [.int .i64 0, .string ⟨#[]⟩, .string ⟨#[]⟩, .bool false, .string ⟨#[]⟩, .int .i64 0], .zK (.pointer (some ⟨b,0,none⟩)) 113 (Qt (s3) (k3)), .qZ 31 [.int .i64 6, .string x1, .string em, .bool false, .string em, .int .i64 0]],[(23, .v (.int .i64 0)),(4, .v (.pointer (some ⟨b,0,none⟩))),(5, .p 2 0),(2, .p 0 0)]⟩ ⟨rfl,rfl,ka,jY⟩ ?_
  repeat' (refine vw ?_)
  refine yS (zO:= [.zK (.pointer (some ⟨b,0,none⟩)) 113 (Qt (s3) (k3))]) [1] zd zd xc (fun M' _=>c4 b M') zd zd ?_;rintro _ _ ⟨rfl,rfl⟩;refine Ys [0,3,2] ⟨_,[.qZ 31 [.int .i64 0, .string ⟨#[]⟩, .string ⟨#[]⟩, .bool false, .string ⟨#[]⟩, .int .i64 0], .zK (.pointer (some ⟨b,0,none⟩)) 113 (Qt (s4) (k4)), .qZ 31 [.int .i64 6, .string x1, .string em, .bool false, .string em, .int .i64 0]],[(30, .v (.string x2)),(4, .v (.pointer (some ⟨b,0,none⟩))),(5, .p 2 0),(2, .p 0 0)]⟩ ⟨rfl,rfl,ka,jY⟩ ?_
  repeat' (refine vw ?_)
  refine yS (zO:= [.zK (.pointer (some ⟨b,0,none⟩)) 113 (Qt (s4) (k4))]) [1] zd zd xc (fun M' _=>c5 b M') zd zd ?_;rintro _ _ ⟨rfl,rfl⟩;refine Ys [0,3,2] ⟨_,[.qZ 31 [.int .i64 0, .string ⟨#[]⟩, .string ⟨#[]⟩, .bool false, .string ⟨#[]⟩, .int .i64 0], .zK (.pointer (some ⟨b,0,none⟩)) 113 (Qt (s5) (k5)), .qZ 31 [.int .i64 6, .string x1, .string x2, .bool false, .string em, .int .i64 0]],[(39, .v (.int .i64 lN)),(4, .v (.pointer (some ⟨b,0,none⟩))),(5, .p 2 0),(2, .p 0 0)]⟩ ⟨rfl,rfl,ka,jY⟩ ?_
  repeat' (first|((apply zA);(first|exact Uu zd|exact yp 1 zd zd zd zd|exact zm zd (fun W _=>Tr W));rfl)|refine vw ?_|(refine vd ?_ ?_<;>intro hq))
  all_goals
   show yH _ _ _ _;refine yH.two zd (xr zd zd _ zd ?_) (zy zd ?_)
   all_goals
    rw [Ec];unfold fin;split<;>simp_all [Jy,Ki,Ob.cells,Jd,Dp,o5]
end
section
open Go Go.RowKit
attribute [local irreducible] Calls zv b1 r1 wI
theorem Pb (s:ByteArray) (w:World) (hs:s.size<=1000000) (hk:b1 s=6) (hb:b1 (zv (r1 s)).2.1=1):Calls zf 34 #[.string s] w fun e w'=>e= .returned (.tuple #[(wI s).1.av, .bool (wI s).2])/\Below w.heap.size w w':=by
 have Ec:wI s=fin ⟨b1 s,(zv (r1 s)).1,em,true,em,b1 (r1 (zv (r1 s)).2.1)⟩ (r1 (r1 (zv (r1 s)).2.1)) ((((true&&!decide (s.size=0))&&(zv (r1 s)).2.2)&&!decide ((zv (r1 s)).2.1.size=0))&&!decide ((r1 (zv (r1 s)).2.1).size=0)):=by unfold wI;simp [hk,hb]
 have z1:(r1 s).size<=1000000:=vH hs;have zk:(zv (r1 s)).1.size<=1000000:=Z3 z1;have z2:(zv (r1 s)).2.1.size<=1000000:=Z2 z1;have z3:(r1 (zv (r1 s)).2.1).size<=1000000:=vH z2;have cV:=fun W=>Zr ⟨b1 s,(zv (r1 s)).1,em,false,em,0⟩ W false (by simp [qh,hk,hb])
 have cR:=fun W=>Zs ⟨b1 s,(zv (r1 s)).1,em,false,em,0⟩ W true (by simp [j3,hk,hb])
 have q0:(b1 (zv (r1 s)).2.1==0)=false:=by simp [hb]
 have q1:(b1 (zv (r1 s)).2.1==1)=true:=by simp [hb]
 have q6:(b1 s==6)=true:=by simp [hk]
 cases hr:jb ⟨b1 s,(zv (r1 s)).1,em,true,em,b1 (r1 (zv (r1 s)).2.1)⟩
 all_goals
  have cO:=fun W=>vy ⟨b1 s,(zv (r1 s)).1,em,true,em,b1 (r1 (zv (r1 s)).2.1)⟩ W zk _ hr
  refine zQ Vn rfl Vo zd (Mem.xE _) ?_
  repeat' (refine vw ?_)
  refine qB 1 zd (fun b=>?_);refine yS (zO:= [.zK (.pointer (some ⟨b,0,none⟩)) 113 (Qt (s) (true))]) [1] zd zd xc (fun M' _=>k7 b s true M' hs) zd zd ?_;rintro _ _ ⟨rfl,rfl⟩
  repeat' (refine vw ?_)
  refine yS (zO:= [.zK (.pointer (some ⟨b,0,none⟩)) 113 (Qt (r1 s) (true&&!decide (s.size=0)))]) [2] zd zd xc (fun M' _=>Z6 b (r1 s) _ M' z1) zd zd ?_;rintro _ _ ⟨rfl,rfl⟩
  repeat' (first|((apply zA);(first|exact zm zd (fun W _=>cV W)|exact zm zd (fun W _=>cR W));rfl)|refine vw ?_)
  refine yS (zO:= [.zK (.pointer (some ⟨b,0,none⟩)) 113 (Qt ((zv (r1 s)).2.1) ((true&&!decide (s.size=0))&&(zv (r1 s)).2.2))]) [4] zd zd xc (fun M' _=>k7 b ((zv (r1 s)).2.1) _ M' z2) zd zd ?_;rintro _ _ ⟨rfl,rfl⟩
  repeat' (refine vw ?_)
  refine yS (zO:= [.zK (.pointer (some ⟨b,0,none⟩)) 113 (Qt (r1 (zv (r1 s)).2.1) (((true&&!decide (s.size=0))&&(zv (r1 s)).2.2)&&!decide ((zv (r1 s)).2.1.size=0)))]) [5] zd zd xc (fun M' _=>k7 b (r1 (zv (r1 s)).2.1) _ M' z3) zd zd ?_;rintro _ _ ⟨rfl,rfl⟩
  repeat' (first|((apply zA);(first|exact Uu zd|exact yp 6 zd zd zd zd|exact zm zd (fun W _=>cO W));rfl)|refine vw ?_|(refine vd ?_ ?_<;>intro hq))
  all_goals
   show yH _ _ _ _;refine yH.two zd (xr zd zd _ zd ?_) (zy zd ?_)
   all_goals
    rw [Ec];unfold fin;split<;>simp_all [Jy,Ki,Ob.cells,Jd,Dp,o5]
end
section
open Go Go.RowKit
attribute [local irreducible] Calls zv b1 r1 wI
theorem O9 (s:ByteArray) (w:World) (hs:s.size<=1000000) (hk:b1 s=6) (ap:b1 (zv (r1 s)).2.1≠0) (kJ:b1 (zv (r1 s)).2.1≠1):Calls zf 34 #[.string s] w fun e w'=>e= .returned (.tuple #[(wI s).1.av, .bool (wI s).2])/\Below w.heap.size w w':=by
 have Ec:wI s=(Ki,false):=by unfold wI;simp [hk,ap,kJ]
 have z1:(r1 s).size<=1000000:=vH hs;have zk:(zv (r1 s)).1.size<=1000000:=Z3 z1;have z2:(zv (r1 s)).2.1.size<=1000000:=Z2 z1;have z3:(r1 (zv (r1 s)).2.1).size<=1000000:=vH z2;have cV:=fun W=>Zr ⟨b1 s,(zv (r1 s)).1,em,false,em,0⟩ W false (by simp [qh,hk,ap,kJ])
 have cR:=fun W=>Zs ⟨b1 s,(zv (r1 s)).1,em,false,em,0⟩ W true (by simp [j3,hk,ap,kJ])
 have q0:(b1 (zv (r1 s)).2.1==0)=false:=by simp [ap]
 have q1:(b1 (zv (r1 s)).2.1==1)=false:=by simp [kJ]
 have q6:(b1 s==6)=true:=by simp [hk]
 refine zQ Vn rfl Vo zd (Mem.xE _) ?_
 repeat' (refine vw ?_)
 refine qB 1 zd (fun b=>?_);refine yS (zO:= [.zK (.pointer (some ⟨b,0,none⟩)) 113 (Qt (s) (true))]) [1] zd zd xc (fun M' _=>k7 b s true M' hs) zd zd ?_;rintro _ _ ⟨rfl,rfl⟩
 repeat' (refine vw ?_)
 refine yS (zO:= [.zK (.pointer (some ⟨b,0,none⟩)) 113 (Qt (r1 s) (true&&!decide (s.size=0)))]) [2] zd zd xc (fun M' _=>Z6 b (r1 s) _ M' z1) zd zd ?_;rintro _ _ ⟨rfl,rfl⟩
 repeat' (first|((apply zA);(first|exact zm zd (fun W _=>cV W)|exact zm zd (fun W _=>cR W));rfl)|refine vw ?_)
 refine yS (zO:= [.zK (.pointer (some ⟨b,0,none⟩)) 113 (Qt ((zv (r1 s)).2.1) ((true&&!decide (s.size=0))&&(zv (r1 s)).2.2))]) [4] zd zd xc (fun M' _=>k7 b ((zv (r1 s)).2.1) _ M' z2) zd zd ?_;rintro _ _ ⟨rfl,rfl⟩
 repeat' (first|((apply zA);(exact Uu zd);rfl)|refine vw ?_)
 refine Ib 5 ?_
 repeat' (refine vw ?_)
 refine yS (zO:= [.zK (.pointer (some ⟨b,0,none⟩)) 113 (Qt (r1 (zv (r1 s)).2.1) (false))]) [5] zd zd xc (fun M' _=>k7 b (r1 (zv (r1 s)).2.1) _ M' z3) zd zd ?_;rintro _ _ ⟨rfl,rfl⟩
 repeat' (first|((apply zA);(first|exact Uu zd|exact yp 6 zd zd zd zd);rfl)|refine vw ?_)
 all_goals
  show yH _ _ _ _;refine yH.two zd (xr zd zd _ zd ?_) (zy zd ?_)
  all_goals
   rw [Ec]
   try simp_all [Jy,Ki,Ob.cells,Jd,Dp,o5]
end
section
open Go Go.RowKit
attribute [local irreducible] Calls zv b1 r1 wI
theorem ago (s:ByteArray) (w:World) (hs:s.size<=1000000):Calls zf 34 #[.string s] w fun e w'=>e= .returned (.tuple #[(wI s).1.av, .bool (wI s).2])/\Below w.heap.size w w':=by
 by_cases h1:b1 s=1
 · exact HY s w hs (by simp [h1])
 by_cases h2:b1 s=2
 · exact HY s w hs (by simp [h2])
 by_cases h4:b1 s=4
 · by_cases g0:b1 (zv (r1 s)).2.1=0
   · exact Pf s w hs h4 g0
   by_cases g1:b1 (zv (r1 s)).2.1=1
   · exact Pe s w hs h4 g1
   exact Pd s w hs h4 g0 g1
 by_cases h6:b1 s=6
 · by_cases g0:b1 (zv (r1 s)).2.1=0
   · exact Pc s w hs h6 g0
   by_cases g1:b1 (zv (r1 s)).2.1=1
   · exact Pb s w hs h6 g1
   exact O9 s w hs h6 g0 g1
 exact aab s w hs h1 h2 h4 h6
end
end Go.Proofs.YtaibdpjjojihmaaGreat
