/- Lemmas and walks; no statement is proved here. -/
import Derived.Test.YtefnknhjlejalaaGreatDoorM05
set_option linter.unusedVariables false
set_option linter.unusedSimpArgs false
set_option maxRecDepth 20000
set_option maxHeartbeats 6000000
namespace Go.Proofs.YtefnknhjlejalaaGreatDoor
open Go.RowKit Go.Shelf
section
variable {F:Fence}{n:Nat}{P:Program}{Mr:List Nat}{Q:Exit→Act→World→Prop}
def ND(F:Fence)(n:Nat)(P:Program)(Mr:List Nat)(ops:Array Oper)(Q:Exit->Act->World->Prop)(n0 f:Nat)(listed:Array Bool)(a:Act)(w:World)(i:Nat):Prop:=(Region.ready .any ops listed).contains i=true->i<n0/\wpOpIn F n P ops Q i (fun a' w'=>Keeps Mr w w'/\nH F n P Mr ops Q n0 f (listed.setIfInBounds i true) a' w') a w
theorem ND.no{ops:Array Oper}{n0 f i:Nat}{listed:Array Bool}{a:Act}{w:World}(h:(Region.ready .any ops listed).contains i=false:=by decide+kernel):ND F n P Mr ops Q n0 f listed a w i:=fun e=>by rw[h]at e;cases e
theorem ND.mk{l:List Oper}{n0 f:Nat}{listed:Array Bool}{a:Act}{w:World}(i:Nat){o:Oper}
 (h:∀K:Act->World->Prop,(∀a' w',Keeps Mr w w'/\nH F n P Mr l.toArray Q n0 f (listed.setIfInBounds i true) a' w'->K a' w')->o.wpIn F n P a w K Q) (hi:i<n0:=by decide) (ho:l[i]?=some o:=by exact rfl)
 (hw:Region.wanted o (yielded l.toArray a.tmps)=true:=by exact ac8):ND F n P Mr l.toArray Q n0 f listed a w i:=fun _=>by
 refine⟨hi,?_⟩;unfold wpOpIn;exact adF
end
attribute [irreducible] ND
end Go.Proofs.YtefnknhjlejalaaGreatDoor
