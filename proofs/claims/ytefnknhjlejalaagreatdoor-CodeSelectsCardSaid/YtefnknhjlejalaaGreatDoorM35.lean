/- Lemmas and walks; no statement is proved here. -/
import Derived.Test.YtefnknhjlejalaaGreatDoorM34
set_option linter.unusedVariables false
set_option linter.unusedSimpArgs false
set_option maxRecDepth 20000
set_option maxHeartbeats 6000000
namespace Go.Proofs.YtefnknhjlejalaaGreatDoor
open Go.Proofs.Tryz Go.RowKit Go.Shelf
theorem aep{p:Prop}(h:p:=by
 rcases r4 with r4|r4;·rw[r4]at e;have h4:=(h.own.lt e).1;omega
 rw[r4]at e;have:=Option.some.inj e;have:=h.kp.size;omega):p:=h
variable {q:Nat}{p:Prop}{w':World}
section
attribute [local go_sem] Oper.semAt_some
def tS(t0 t1 t2 t3:dK):Nat->dK
 |0=>t0
 |1=>t1
 |2=>t2
 |_=>t3
def NY(r:aS):Nat->List ByteArray
 |0=>dP r
 |1=>UG r
 |2=>jF r
 |_=>dQ r
theorem JO.nth{w:World}{M:List Nat}{r:aS}{t0 t1 t2 t3:dK}(h:JO w M r t0 t1 t2 t3):∀i,Sl ByteArray w M (tS t0 t1 t2 t3 i).A (tS t0 t1 t2 t3 i).n (tS t0 t1 t2 t3 i).c (NY r i)
 |0=>h.c
 |1=>h.i
 |2=>h.t
 |_+3=>h.r
end
theorem opc{w W:World}{L:List (Nat×List Value)}{q:Prop}(h:Fr w W L)(e:At W L=q:=by(simp only[List.nil_append,List.cons_append,At,Ce,Nat.zero_add,Nat.reduceAdd,and_true];exact rfl)):q:=e▸h.Um
structure GN(α:Type) [kJ α] (e:TypeId)(w W wr:World)(r:aS)(R:List Value)(lb xb:Nat)(t0 t1 t2 t3:dK)(M:List Nat)(C:List Value)(v:Value)(l:List α):Prop where
 fr:Fr w wr ([(w.heap.size,R),(w.heap.size+1,nR),(lb,Af t0 t1 t2 t3)]++ [(xb,C)])
 nm:JO W [xb] r t0 t1 t2 t3
 own:bD α e wr (xb::(w.heap.size+1)::M) W.heap.size v l.length l
 kp:Keeps [xb] W wr
 xW:xb<W.heap.size
 lx:lb<xb
 wl:w.heap.size+1<lb
 bM:∀q,q∈M->q<w.heap.size
section
variable {α:Type} [kJ α] {e:TypeId}{w W wr wz:World}{r:aS}{R:List Value}{lb xb:Nat}{t0 t1 t2 t3:dK}{M:List Nat}{C:List Value}{v:Value}{l:List α}
theorem GN.go(h:GN α e w W wr r R lb xb t0 t1 t2 t3 M C v l)(hb:Below wr.heap.size wr wz):GN α e w W wz r R lb xb t0 t1 t2 t3 M C v l:=⟨h.fr.go hb,h.nm,h.own.go hb,h.kp.trans (Go.Proofs.YtefnknhjlejalaaGreatDoor.Keeps.of_below hb _),h.xW,h.lx,h.wl,h.bM⟩
theorem GN.start(h:Fr w wr ([(w.heap.size,R),(w.heap.size+1,nR),(lb,Af t0 t1 t2 t3)]++ [(xb,C)]))(hn:JO wr [xb] r t0 t1 t2 t3)(lx:lb<xb)(wl:w.heap.size+1<lb)(hM:∀q,q∈M->q<w.heap.size):GN α e w wr wr r R lb xb t0 t1 t2 t3 M C (.slice none 0 0) []:=⟨h,hn,bD.nil _ _ _,Keeps.refl _ _,h.lt xb C (by simp),lx,wl,hM⟩
theorem GN.lt(h:GN α e w W wr r R lb xb t0 t1 t2 t3 M C v l)(hq:q∈xb::(w.heap.size+1)::M):q<W.heap.size:=by
 have h1:=h.xW;have h2:=h.lx;have h3:=h.wl;rcases List.mem_cons.1 hq with rfl|hq;·exact h1
 exact aff
theorem GN.bel(h:GN α e w W wr r R lb xb t0 t1 t2 t3 M C v l):b_ (bP v++(xb::(w.heap.size+1)::M)) wr:=fun q hq=>by
 rcases List.mem_append.1 hq with hq|hq;·exact(h.own.lt (bJ.1 hq)).2
 exact Nat.lt_of_lt_of_le (h.lt hq) h.kp.size
theorem GN.sl(h:GN α e w W wr r R lb xb t0 t1 t2 t3 M C v l)(hn:l.length<=100000):∃A c,v=.slice A l.length c/\Sl α wr (xb::(w.heap.size+1)::M) A l.length c l:=h.own.sl (by omega) (fun _ hk=>h.lt hk)
theorem GN.step{t:TypeId}(h:GN α e w W wr r R lb xb t0 t1 t2 t3 M C v l)(ht:prog.underlying t=some (.slice e))(hi:iU e (Rep.sz α)){x:α}{cs:List Value}(hx:Rep.rd wr (bP v++(xb::(w.heap.size+1)::M)) x cs){j:Nat}{u0:Value}(hj:C[j]?=some u0)(hl:l.length<=100000):
 ∃v' wA,(Builtin.append_ #[t,t] t #[v,.slice (some ⟨wr.heap.size,0,none⟩) 1 1]).run prog (wr.alloc (.cells cs.toArray e))=.ok v' wA/\Fr w wA ([(w.heap.size,R),(w.heap.size+1,nR),(lb,Af t0 t1 t2 t3)]++ [(xb,C)])/\GN α e w W (wA.setCell ⟨xb,j,none⟩ v') r R lb xb t0 t1 t2 t3 M (C.set j v') v' (l++ [x]):=by
 have h1:=h.xW;have h2:=h.lx;have h3:=h.wl;obtain⟨v',wA,r1,r2,r3,r4,r5⟩:=h.own.app1 (x:=x) (cs:=cs) ht hi h.kp.size (fun q hq=>Nat.lt_of_lt_of_le (h.lt hq) h.kp.size) hx hl;have hF:=h.fr.ZI r3 (fun k hk=>by have h4:=(h.own.lt hk).1;exact aei);refine⟨v',wA,r1,hF,⟨hF.qY (fun c vs hm e=>by exact aeh) hj v',h.nm,?_,(h.kp.grown r3 (fun k hk=>.inr (h.own.lt hk).1)).setCell (p:=⟨xb,j,none⟩) (.inl (by simp)) v',h.xW,h.lx,h.wl,h.bM⟩⟩
 ·have hlen:(l++ [x]).length=l.length+1:=by simp
  rw[hlen];exact r2.apart ((Keeps.refl [xb] wA).setCell (p:=⟨xb,j,none⟩) (.inl (by simp)) v') (fun q hq=>by rw[List.mem_singleton]at hq;subst hq;exact List.mem_cons_self) (fun q hq e=>by rw[List.mem_singleton]at hq;subst hq;exact aep)
end
structure Qe(V W wr:World)(tb:Nat)(M:List Nat)(nm:ByteArray)(v:Value)(l:List bK):Prop where
 fr:Fr V wr ([]++ [(tb, [.string nm,v])])
 own:bD bK 147 wr (tb::M) W.heap.size v l.length l
 kp:Keeps [tb] W wr
 tW:tb<W.heap.size
 VW:V.heap.size<=W.heap.size
 bM:∀q,q∈M->q<W.heap.size
section
variable {V W wr wz:World}{tb:Nat}{M:List Nat}{nm:ByteArray}{v:Value}{l:List bK}
theorem Qe.go(h:Qe V W wr tb M nm v l)(hb:Below wr.heap.size wr wz):Qe V W wz tb M nm v l:=⟨h.fr.go hb,h.own.go hb,h.kp.trans (Go.Proofs.YtefnknhjlejalaaGreatDoor.Keeps.of_below hb _),h.tW,h.VW,h.bM⟩
theorem Qe.start(h:Fr V wr ([]++ [(tb, [.string nm,.slice none 0 0])]))(hM:∀q,q∈M->q<wr.heap.size):Qe V wr wr tb M nm (.slice none 0 0) []:=⟨h,bD.nil _ _ _,Keeps.refl _ _,h.lt tb _ (List.mem_append_right _ (List.mem_singleton.2 rfl)),h.bl.size,hM⟩
theorem Qe.lt(h:Qe V W wr tb M nm v l)(hq:q∈tb::M):q<W.heap.size:=by
 rcases List.mem_cons.1 hq with rfl|hq;·exact h.tW
 exact h.bM q hq
theorem Qe.sl(h:Qe V W wr tb M nm v l)(hn:l.length<=100000):∃A c,v=.slice A l.length c/\Sl bK wr (tb::M) A l.length c l:=h.own.sl (by omega) (fun _ hk=>h.lt hk)
theorem Qe.step(h:Qe V W wr tb M nm v l){x:bK}(hi:i64 x.1/\i64 x.2.2)(hl:l.length<=100000):
 ∃v' wA,(Builtin.append_ #[148,148] 148 #[v,.slice (some ⟨wr.heap.size,0,none⟩) 1 1]).run prog (wr.alloc (.cells #[.int .i64 x.1,.string x.2.1,.int .i64 x.2.2] 147))=.ok v' wA/\Fr V wA ([]++ [(tb, [.string nm,v])])/\Qe V W (wA.setCell ⟨tb,1,none⟩ v') tb M nm v' (l++ [x]):=by
 have hm:(tb, [.string nm,v])∈([]++ [(tb, [.string nm,v])]:List (Nat×List Value)):=List.mem_append_right _ (List.mem_singleton.2 rfl);obtain⟨v',wA,r1,r2,r3,r4,r5⟩:=h.own.app1 (x:=x) (cs:= [.int .i64 x.1,.string x.2.1,.int .i64 x.2.2]) underlying148 qy h.kp.size (fun q hq=>Nat.lt_of_lt_of_le (h.lt hq) h.kp.size) ⟨[_],_,rfl,⟨rfl,hi.1⟩, [_],_,rfl,rfl,⟨rfl,hi.2⟩⟩ hl;have hF:=h.fr.ZI r3 (fun k hk=>by have h4:=(h.own.lt hk).1;have h5:=h.VW;have h6:=h.tW;refine⟨by omega,fun b vs hm e=>?_⟩;subst e;simp only[List.nil_append,List.mem_cons,Prod.mk.injEq,List.not_mem_nil,or_false]at hm;omega);refine⟨v',wA,r1,hF,⟨hF.qY (j:=1) (u0:=v) (fun c vs hm=>by cases hm) rfl v',?_,(h.kp.grown r3 (fun k hk=>.inr (h.own.lt hk).1)).setCell (p:=⟨tb,1,none⟩) (.inl (by simp)) v',h.tW,h.VW,h.bM⟩⟩;have hlen:(l++ [x]).length=l.length+1:=by simp
 rw[hlen];exact r2.apart ((Keeps.refl [tb] wA).setCell (p:=⟨tb,1,none⟩) (.inl (by simp)) v') (fun q hq=>by rw[List.mem_singleton]at hq;subst hq;exact List.mem_cons_self) (fun q hq e=>by rw[List.mem_singleton]at hq;subst hq;have h6:=h.tW;exact aep)
end
section
attribute [local go_sem] Oper.semAt_some
def Says(p:Prop)(w:World)(e:Ending)(w':World):Prop:=∃b,e=.returned (.bool b)/\(b=true->p)/\Below w.heap.size w w'
attribute [irreducible] Says
theorem Says.no{w:World}{e:Ending}(h:e=.returned (.bool false))(hb:Below w.heap.size w w'):Says p w e w':=by unfold Says;exact⟨false,h,fun e=>(by cases e),hb⟩
theorem Says.yes{w:World}{e:Ending}(h:e=.returned (.bool true))(hp:p)(hb:Below w.heap.size w w'):Says p w e w':=by unfold Says;exact⟨true,h,fun _=>hp,hb⟩
theorem Says.of{w:World}{e:Ending}(h:Says p w e w'):∃b,e=.returned (.bool b)/\(b=true->p)/\Below w.heap.size w w':=by unfold Says at h;exact h
end
end Go.Proofs.YtefnknhjlejalaaGreatDoor
