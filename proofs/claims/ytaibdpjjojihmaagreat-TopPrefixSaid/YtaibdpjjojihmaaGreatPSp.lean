/- A part of the proof of TopPrefix; no conditions. -/
import Derived.Test.YtaibdpjjojihmaaGreatPA
import Derived.Deep.RegionHeld3
import Derived.Deep.AppendLies
set_option linter.unusedVariables false
set_option linter.unusedSimpArgs false
set_option maxRecDepth 20000
set_option maxHeartbeats 400000
namespace Go.Proofs.YtaibdpjjojihmaaGreat
section
open Go.RowKit Go.Sort
theorem KP (s:yW) (k:ByteArray) (w:World):
 Calls zf 145 #[s.av, .string k] w fun e w'=>e= .returned (.bool (has s k))/\Below w.heap.size w w':=by
 cases h1:Op.bytesLess k.toList s.lo.toList<;>cases h2:s.vx
 all_goals
  go_enter Tryz.func145,Tryz.ntmps145
  go_wp2
  go_ret
  exact ⟨Xe (mS (by simp [has,lt,h1,h2])),by go_grown⟩
theorem YN (s:yW) (w:World):
 Calls zf 58 #[s.av] w fun e w'=>e= .returned (.bool (empty s))/\Below w.heap.size w w':=by
 cases h2:s.vx
 all_goals
  go_enter Tryz.func58,Tryz.ntmps58
  go_wp2
  go_ret
  exact ⟨Xe (mS (by simp [empty,lt,h2])),by go_grown⟩
theorem ZK (s:yW) (w:World):
 Calls zf 90 #[s.av] w fun e w'=>e= .returned ((Kj s).av)/\Below w.heap.size w w':=by
 obtain ⟨lo,hi,o⟩:=s;cases h1:empty ⟨lo,hi,o⟩<;>cases o
 all_goals
  go_enter Tryz.func90,Tryz.ntmps90
  go_wp2_with fail
  (with_reducible refine (YN ⟨lo,hi,_⟩ _).mono ?_);rintro e w' ⟨rfl,kJ⟩
  obtain ⟨xC,je⟩:=Vj kJ;have jd:=Z4 kJ
  repeat (first|simp only [jP] at xC|simp only [jQ] at xC|simp only [jO] at xC)
  repeat (first|simp only [jP] at je|simp only [jQ] at je|simp only [jO] at je)
  repeat (first|simp only [jP] at jd|simp only [jQ] at jd|simp only [jO] at jd)
  have K7:=wN (qV (w:=w) (by go_grown) kJ);clear kJ;have kJ:=K7.out;clear K7;have IE:=xC (w.heap.size) 1 ze;simp [go_sem] at IE
  go_wp2
  (try simp only [Exit.inBlock,Exit.then])
  refine Yk (by simp [results,Tryz.results90,go_sem,xC,IE];try rfl) rfl ?_;refine ⟨Xe ?_,?_⟩
  · simp [Kj,h1,EA]
  · go_grown
theorem bD (w:World):Calls zf 73 #[] w fun e w'=>e= .returned (all.av)/\Below w.heap.size w w':=by
 go_enter Tryz.func73,Tryz.ntmps73
 go_wp2
 (try simp only [Exit.inBlock,Exit.then])
 refine Yk (by simp [results,Tryz.results73,go_sem,all];try rfl) rfl ?_;exact ⟨rfl,by go_grown⟩
theorem PU (k:ByteArray) (h:k.size<=1000000) (w:World):Calls zf 96 #[.string k] w fun e w'=>e= .returned (.string (nx k))/\w=w':=by
 go_enter Tryz.func96,Tryz.ntmps96
 go_wp2
 go_ret
 exact ⟨rfl,rfl⟩
theorem WV (k:ByteArray) (h:k.size<=1000000) (w:World):Calls zf 75 #[.string k] w fun e w'=>e= .returned ((yd k).av)/\Below w.heap.size w w':=by
 go_enter Tryz.func75,Tryz.ntmps75
 go_wp2_with fail
 (with_reducible refine (PU k h _).mono ?_);rintro e w' ⟨rfl,rfl⟩
 go_wp2
 (try simp only [Exit.inBlock,Exit.then])
 refine Yk (by simp [results,Tryz.results75,go_sem,yd];try rfl) rfl ?_;exact ⟨rfl,by go_grown⟩
end
section
open Go.RowKit Go.Sort
theorem sB {P:Program} {w:World} (ts:Array TypeId) (t:TypeId) (a b:ByteArray):(Builtin.max_ ts t #[.string a, .string b]).run P w= .ok (.string (mx a b)) w:=by
 cases h:Op.bytesLess a.toList b.toList<;>simp [Builtin.max_,Builtin.max2,Op.stringOp,mx,lt,h,asBool,go_sem]
theorem sA {P:Program} {w:World} (ts:Array TypeId) (t:TypeId) (a b:ByteArray):(Builtin.min_ ts t #[.string a, .string b]).run P w= .ok (.string (mn a b)) w:=by
 have key:(Op.bytesLess a.toList b.toList||a.toList==b.toList)=!lt b a:=by
  rw [aeI];by_cases h:a=b
  · subst h;simp [d7]
  · rw [z6 h,Bool.or_false];cases h1:lt a b with
    |true=>rw [Ff h1];exact h1
    |false=>
     cases h2:lt b a with
     |true=>exact h1
     |false=>exact absurd (ah h1 h2) h
 cases h:lt b a<;>rw [h] at key<;>simp [Builtin.min_,Builtin.min2,Op.stringOp,mn,h,asBool,go_sem,key]
attribute [local go_sem] sB sA
theorem YM (a b:yW) (w:World):
 Calls zf 93 #[a.av,b.av] w fun e w'=>e= .returned ((vT a b).av)/\Below w.heap.size w w':=by
 obtain ⟨lo,hi,o⟩:=a;obtain ⟨lo',sY,o'⟩:=b;cases o<;>cases o'
 · go_enter Tryz.func93,Tryz.ntmps93
   go_wp2_with fail
   (with_reducible refine (ZK ⟨mx lo lo',mn hi sY,false⟩ _).mono ?_);rintro e w' ⟨rfl,kJ⟩
   obtain ⟨xC,je⟩:=Vj kJ;have jd:=Z4 kJ
   repeat (first|simp only [jP] at xC|simp only [jQ] at xC|simp only [jO] at xC)
   repeat (first|simp only [jP] at je|simp only [jQ] at je|simp only [jO] at je)
   repeat (first|simp only [jP] at jd|simp only [jQ] at jd|simp only [jO] at jd)
   have K7:=wN (qV (w:=w) (by go_grown) kJ);clear kJ;have kJ:=K7.out;clear K7
   go_wp2
   (try simp only [Exit.inBlock,Exit.then])
   refine Yk (by simp [results,Ad,go_sem,xC];try rfl) rfl ?_;exact ⟨rfl,by go_grown⟩
 · go_enter Tryz.func93,Tryz.ntmps93
   go_wp2_with fail
   (with_reducible refine (ZK ⟨mx lo lo',hi,false⟩ _).mono ?_);rintro e w' ⟨rfl,kJ⟩
   obtain ⟨xC,je⟩:=Vj kJ;have jd:=Z4 kJ
   repeat (first|simp only [jP] at xC|simp only [jQ] at xC|simp only [jO] at xC)
   repeat (first|simp only [jP] at je|simp only [jQ] at je|simp only [jO] at je)
   repeat (first|simp only [jP] at jd|simp only [jQ] at jd|simp only [jO] at jd)
   have K7:=wN (qV (w:=w) (by go_grown) kJ);clear kJ;have kJ:=K7.out;clear K7
   go_wp2
   (try simp only [Exit.inBlock,Exit.then])
   refine Yk (by simp [results,Ad,go_sem,xC];try rfl) rfl ?_;exact ⟨rfl,by go_grown⟩
 · go_enter Tryz.func93,Tryz.ntmps93
   go_wp2_with fail
   (with_reducible refine (ZK ⟨mx lo lo',sY,false⟩ _).mono ?_);rintro e w' ⟨rfl,kJ⟩
   obtain ⟨xC,je⟩:=Vj kJ;have jd:=Z4 kJ
   repeat (first|simp only [jP] at xC|simp only [jQ] at xC|simp only [jO] at xC)
   repeat (first|simp only [jP] at je|simp only [jQ] at je|simp only [jO] at je)
   repeat (first|simp only [jP] at jd|simp only [jQ] at jd|simp only [jO] at jd)
   have K7:=wN (qV (w:=w) (by go_grown) kJ);clear kJ;have kJ:=K7.out;clear K7
   go_wp2
   (try simp only [Exit.inBlock,Exit.then])
   refine Yk (by simp [results,Ad,go_sem,xC];try rfl) rfl ?_;exact ⟨rfl,by go_grown⟩
 · go_enter Tryz.func93,Tryz.ntmps93
   go_wp2_with fail
   (with_reducible refine (ZK ⟨mx lo lo',sY,true⟩ _).mono ?_);rintro e w' ⟨rfl,kJ⟩
   obtain ⟨xC,je⟩:=Vj kJ;have jd:=Z4 kJ
   repeat (first|simp only [jP] at xC|simp only [jQ] at xC|simp only [jO] at xC)
   repeat (first|simp only [jP] at je|simp only [jQ] at je|simp only [jO] at je)
   repeat (first|simp only [jP] at jd|simp only [jQ] at jd|simp only [jO] at jd)
   have K7:=wN (qV (w:=w) (by go_grown) kJ);clear kJ;have kJ:=K7.out;clear K7
   go_wp2
   (try simp only [Exit.inBlock,Exit.then])
   refine Yk (by simp [results,Ad,go_sem,xC];try rfl) rfl ?_;exact ⟨rfl,by go_grown⟩
theorem pE (s:yW) (k:ByteArray) (w:World):
 Calls zf 95 #[s.av, .string k] w fun e w'=>e= .returned ((Qb s k).av)/\Below w.heap.size w w':=by
 go_enter Tryz.func95,Tryz.ntmps95
 go_wp2_with fail
 (with_reducible refine (YM s ⟨k,em,true⟩ _).mono ?_);rintro e w' ⟨rfl,kJ⟩
 obtain ⟨xC,je⟩:=Vj kJ;have jd:=Z4 kJ
 repeat (first|simp only [jP] at xC|simp only [jQ] at xC|simp only [jO] at xC)
 repeat (first|simp only [jP] at je|simp only [jQ] at je|simp only [jO] at je)
 repeat (first|simp only [jP] at jd|simp only [jQ] at jd|simp only [jO] at jd)
 have K7:=wN (qV (w:=w) (by go_grown) kJ);clear kJ;have kJ:=K7.out;clear K7
 go_wp2
 (try simp only [Exit.inBlock,Exit.then])
 refine Yk (by simp [results,Tryz.results95,go_sem,xC];try rfl) rfl ?_;exact ⟨rfl,by go_grown⟩
theorem Ez (a b:yW) (w:World):
 Calls zf 206 #[a.av,b.av] w fun e w'=>e= .returned (.bool (fQ a b))/\Below w.heap.size w w':=by
 go_enter Tryz.func206,Tryz.ntmps206
 go_wp2_with fail
 (with_reducible refine (YM a b _).mono ?_);rintro e w' ⟨rfl,kJ⟩
 obtain ⟨xC,je⟩:=Vj kJ;have jd:=Z4 kJ
 repeat (first|simp only [jP] at xC|simp only [jQ] at xC|simp only [jO] at xC)
 repeat (first|simp only [jP] at je|simp only [jQ] at je|simp only [jO] at je)
 repeat (first|simp only [jP] at jd|simp only [jQ] at jd|simp only [jO] at jd)
 have K7:=wN (qV (w:=w) (by go_grown) kJ);clear kJ;have kJ:=K7.out;clear K7
 go_wp2_with fail
 (with_reducible refine (YN (vT a b) _).mono ?_);rintro e w' ⟨rfl,Zk⟩
 obtain ⟨F9,FZ⟩:=Vj Zk;have FF:=Z4 Zk
 repeat (first|simp only [jP] at F9|simp only [jQ] at F9|simp only [jO] at F9)
 repeat (first|simp only [jP] at FZ|simp only [jQ] at FZ|simp only [jO] at FZ)
 repeat (first|simp only [jP] at FF|simp only [jQ] at FF|simp only [jO] at FF)
 have ahR:=wN (qV (w:=w) (by go_grown) Zk);clear Zk;have Zk:=ahR.out;clear ahR
 go_wp2
 go_ret
 exact ⟨rfl,by go_grown⟩
end
section
open Go.RowKit Go.Sort
end
section
open Go.RowKit Go.Sort
end
section
open Go.RowKit
end
section
open Go.RowKit Go.Sort
end
end Go.Proofs.YtaibdpjjojihmaaGreat
