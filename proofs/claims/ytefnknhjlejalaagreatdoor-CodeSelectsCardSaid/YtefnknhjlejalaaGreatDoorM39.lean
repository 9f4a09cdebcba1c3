/- Lemmas and walks; no statement is proved here. -/
import Derived.Test.YtefnknhjlejalaaGreatDoorM35
set_option linter.unusedVariables false
set_option linter.unusedSimpArgs false
set_option maxRecDepth 20000
set_option maxHeartbeats 6000000
namespace Go.Proofs.YtefnknhjlejalaaGreatDoor
open Go.RowKit Go.Shelf
structure XK(w wr:World)(r:aS)(R:List Value)(lb:Nat)(t0 t1 t2 t3:dK):Prop where
 fr:Fr w wr [(w.heap.size,R),(w.heap.size+1,nR),(lb,Af t0 t1 t2 t3)]
 nm:JO wr [] r t0 t1 t2 t3
theorem XK.drew{w wr:World}{r:aS}{R:List Value}{lb:Nat}{t0 t1 t2 t3:dK}(h:XK w wr r R lb t0 t1 t2 t3):XK w wr.drew r R lb t0 t1 t2 t3:=⟨h.fr.drew,h.nm.go (Below.refl _ _).drew⟩
theorem XK.go{w wr wz:World}{r:aS}{R:List Value}{lb:Nat}{t0 t1 t2 t3:dK}(h:XK w wr r R lb t0 t1 t2 t3)(hb:Below wr.heap.size wr wz):XK w wz r R lb t0 t1 t2 t3:=⟨h.fr.go hb,h.nm.go hb⟩
namespace U
open Go.RowKit Go.Shelf
attribute [local go_sem] Oper.semAt_some
end U
end Go.Proofs.YtefnknhjlejalaaGreatDoor
