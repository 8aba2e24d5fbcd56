/- What the beginning of a script comes to is a beginning of what the whole script does: TopPrefix holds of the given program for all arguments, as Rows states it; no further conditions. The texts that this one imports walk the program's functions. -/
import Derived.Test.YtaibdpjjojihmaaGreatPWo25
set_option linter.unusedVariables false
set_option linter.unusedSimpArgs false
set_option maxRecDepth 20000
namespace Go.Proofs.YtaibdpjjojihmaaGreat.lawTopPrefix
open Go.ChangeShapes Go.WideShapes Go.ChangeAt Go.RowKit
set_option maxRecDepth 100000 in
theorem opened {H:Type} {enc:TypeId×Value->H} {W:World} {base:Nat} {args:Array Value} {ds:List (DataW H)} {p:List MemPlace}
 (cd: ∀(j:Nat) t v,(#[25,3]:Array TypeId)[j]?=some t->args[j]?=some v->Value.okWide zf W .any base t v)
 (hA:DataW.TrodAll enc zf W 0 (fun _=>true) true (#[25,3]:Array TypeId).toList args.toList ds p)
 (YC:(DataW.weightsEach zf (#[25,3]:Array TypeId).toList ds).all (· <=reachBytes)=true):
 Calls zf 4 args W (fun e w'=>e= .returned (.bool true)/\Below W.heap.size W w')/\Rows.topPrefixSpec.fn H (ds++ [])= {results:= [.lit (.bool true)],args:=ds}:=by
 obtain ⟨v0,v1,d0,d1,p0,p1,rfl,rfl,h0,h1⟩:=ait hA;obtain ⟨b,rfl⟩:=abr (cd 0 _ v0 rfl rfl) h0 (Wt.aag YC (j:=0) rfl rfl);obtain ⟨n,rfl,_⟩:=abq (cd 1 _ v1 rfl rfl) h1;exact ⟨Eo b n W,rfl⟩
set_option maxRecDepth 100000 in
theorem lifted (os:Os) (sm:os.Started) (H:Type) (enc:TypeId×Value->H):
 ReturnsInHanded {} Tryz.checked os 4 .any (Rows.topPrefixSpec.pre6 enc zf Tryz.f4 Rows.topPrefixRow.domain false) (Rows.topPrefixSpec.post enc zf Tryz.f4 false true false false):=by
 refine returnsInHanded_of_change_sized (C:=Tryz.checked) own sm Yy Tryz.func4
  (ChangeSpec.witness6 (enc:=enc) (C:=Tryz.checked) false ⟨#[], #[.agg #[.int .i64 0, .int .i64 0, .int .i64 0, .int .i64 0, .int .i64 0, .int .i64 0, .int .i64 0, .string ByteArray.empty, .int .i64 0], .int .i64 0],[]⟩ 8 Yy Yy Yy Yy) ?_
 intro W base args ds gs Yj cd hW aqp YC _;obtain ⟨p,q,hA,hV,iw,Oo,bg⟩:=id hW;obtain ⟨rfl,rfl⟩:=trodVars_none hV;have acd: ∀(j:Nat) t v,Tryz.f4.params[j]?=some t->args[j]?=some v->Value.okWide zf W .any base t v:=cd;have hA':DataW.TrodAll enc zf W 0 (fun _=>true) true Tryz.f4.params.toList args.toList ds p:=hA;have lV:(DataW.weightsEach zf (Tryz.f4.params.toList++ []) (ds++ [])).all (· <=reachBytes)=true:=YC;rw [Tryz.params4] at acd hA' lV;rw [xR,xR] at lV;obtain ⟨hc,hds⟩:=opened acd hA' lV;refine hc.mono fun e W' ⟨he,hg⟩=>⟨_,he,?_⟩
 exact PO ako Yy rfl Tryz.underlying4 rfl hds hW hg
theorem proved:Rows.TopPrefixSaid:=
 OpenClaim.holds_of_wide 4 Tryz.f4 rfl rfl rfl rfl rfl rfl rfl ⟨rfl,rfl,rfl,rfl,rfl⟩ rfl rfl rfl rfl rfl Yy Tryz.func4 Yy
  (qc Yy) (by unfold Func.isWrapper;first|(rw [zo yI];kernel_rfl)|(rw [zn yI];exact ⟨rfl,rfl⟩))
  (fun os sm H enc _=>lifted os sm H enc)
end Go.Proofs.YtaibdpjjojihmaaGreat.lawTopPrefix
