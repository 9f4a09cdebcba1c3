/- Lemmas and walks; no statement is proved here. -/
import Derived.Test.YtefnknhjlejalaaGreatDoorM36
set_option linter.unusedVariables false
set_option linter.unusedSimpArgs false
set_option maxRecDepth 20000
set_option maxHeartbeats 6000000
namespace Go.Proofs.YtefnknhjlejalaaGreatDoor
open Go.Proofs.Tryz Go.RowKit Go.Shelf
variable {p:Prop}{w':World}
section
attribute [local go_sem] Oper.semAt_some
structure yg{α:Type} [kJ α] (e:TypeId)(w u:World)(L:List (Nat×List Value))(v:Value)(k:Nat)(xs:List α)(wr:World):Prop where
 own:bD α e wr [] u.heap.size v k xs
 fr:Fr w wr L
 bb:Below u.heap.size u wr
 hL:∀b vs,(b,vs)∈L->b<u.heap.size
 hW:w.heap.size<=u.heap.size
section
variable {α:Type} [kJ α] {e:TypeId}{w u wr wz:World}{k:Nat}{L:List (Nat×List Value)}{v:Value}{xs:List α}
theorem yg.go(h:yg e w u L v k xs wr)(hb:Below wr.heap.size wr wz):yg e w u L v k xs wz:=⟨h.own.go hb,h.fr.go hb,h.bb.trans (hb.mono h.bb.size),h.hL,h.hW⟩
theorem yg.app{t:TypeId}(h:yg e w u L v k xs wr)(ht:prog.underlying t=some (.slice e))(hi:iU e (Rep.sz α)){x:α}{cs:List Value}(hx:Rep.rd wr (bP v++ []) x cs)(hn:k<=100000):
 ∃v' w',(Builtin.append_ #[t,t] t #[v,.slice (some ⟨wr.heap.size,0,none⟩) 1 1]).run prog (wr.alloc (.cells cs.toArray e))=.ok v' w'/\yg e w u L v' (k+1) (xs++ [x]) w':=by
 obtain⟨v',w',r1,r2,r3,-,-⟩:=h.own.app1 ht hi h.bb.size (b_.nil _) hx hn;exact⟨v',w',r1,r2,h.fr.ZI r3 (fun q hq=>⟨Nat.le_trans h.hW (h.own.lt hq).1,fun b vs hm e=>by have h1:=(h.own.lt hq).1;have h2:=h.hL b vs hm;omega⟩),h.bb.grown r3 h.bb.size (fun q hq=>(h.own.lt hq).1),h.hL,h.hW⟩
theorem yg.lit{w1:World}(h:Fr w w1 L)(e:TypeId):yg (α:=α) e w w1 L (.slice (some ⟨w1.heap.size,0,none⟩) 0 0) 0 [] (w1.alloc (.cells #[] e)):=⟨bD.lit _ _ (Nat.le_refl _),h.go (by exact bel),by exact bel,h.lt,h.bl.size⟩
theorem yg.sl(h:yg e w u L v k xs wr)(hn:k<=100000):∃A c,v=.slice A k c/\Sl α wr [] A k c xs:=h.own.sl (by omega) (fun q hq=>by cases hq)
end
def mZ(p:Prop)(w:World)(e:Ending)(w':World):Prop:=∃b,e=.returned (.bool b)/\(b=false->p)/\Below w.heap.size w w'
attribute [irreducible] mZ
theorem mZ.yes{w:World}{e:Ending}(h:e=.returned (.bool true))(hb:Below w.heap.size w w'):mZ p w e w':=by unfold mZ;exact⟨true,h,fun e=>(by cases e),hb⟩
theorem mZ.no{w:World}{e:Ending}(h:e=.returned (.bool false))(hp:p)(hb:Below w.heap.size w w'):mZ p w e w':=by unfold mZ;exact⟨false,h,fun _=>hp,hb⟩
theorem mZ.of{w:World}{e:Ending}(h:mZ p w e w'):∃b,e=.returned (.bool b)/\(b=false->p)/\Below w.heap.size w w':=by unfold mZ at h;exact h
theorem yg.nil{α:Type} [kJ α] {w w1:World}{L:List (Nat×List Value)}(h:Fr w w1 L)(e:TypeId):yg (α:=α) e w w1 L (.slice none 0 0) 0 [] w1:=⟨bD.nil _ _ _,h,Below.refl _ _,h.lt,h.bl.size⟩
end
end Go.Proofs.YtefnknhjlejalaaGreatDoor
