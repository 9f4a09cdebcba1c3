/- Lemmas and walks; no statement is proved here. -/
import Derived.Test.YtefnknhjlejalaaGreatDoorM40
set_option linter.unusedVariables false
set_option linter.unusedSimpArgs false
set_option maxRecDepth 20000
set_option maxHeartbeats 6000000
namespace Go.Proofs.YtefnknhjlejalaaGreatDoor
open Go.RowKit Go.Shelf
section
attribute [local go_sem] Oper.semAt_some
def zG(l:List Int):Nat:=l.count (-1)
def eY:List (List Int)->Nat
 | []=>0
 |l::s=>zG l+eY s
theorem Et{s:List (List Int)}(h:eY s=0):∀l,l∈s->∀m,m∈l->m≠ -1:=by
 induction s with
 |nil=>intro l hl;cases hl
 |cons l s ih=>
  rw[eY]at h;intro l' hl m hm;rcases List.mem_cons.1 hl with rfl|hl
  ·rintro rfl;have:=List.count_pos_iff.2 hm;have h2:zG l'=0:=by omega
   unfold zG at h2;omega
  ·exact ih (by omega) l' hl m hm
end
end Go.Proofs.YtefnknhjlejalaaGreatDoor
