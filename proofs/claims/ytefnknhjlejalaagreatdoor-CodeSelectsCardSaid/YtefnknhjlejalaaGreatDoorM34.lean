/- Lemmas and walks; no statement is proved here. -/
import Derived.Test.YtefnknhjlejalaaGreatDoorM32
import Derived.Test.YtefnknhjlejalaaGreatDoorM22
set_option linter.unusedVariables false
set_option linter.unusedSimpArgs false
set_option maxRecDepth 20000
set_option maxHeartbeats 6000000
namespace Go.Proofs.YtefnknhjlejalaaGreatDoor
open Go.Proofs.Tryz
theorem aeh{p:Prop}(h:p:=by subst e;simp only[List.mem_cons,Prod.mk.injEq,List.not_mem_nil,or_false]at hm;omega):p:=h
theorem aei{p:Prop}(h:p:=by refine⟨by omega,fun b vs hm e=>?_⟩;subst e;simp only[List.cons_append,List.nil_append,List.mem_cons,Prod.mk.injEq,List.not_mem_nil,or_false]at hm;omega):p:=h
theorem aff{p:Prop}(h:p:=by
 rcases List.mem_cons.1 hq with rfl|hq;·omega
 have:=h.bM q hq;omega):p:=h
variable {x:Rt}{k j:Nat}{cs us:List Value}{L:List (Nat×List Value)}{u0:Value}{U:World}
structure dS where
 marks:List (List Int)
 bonus:List Int
 malus:List Int
 prev:List RatR
def kC(c:bT)(m:Int):Int:=if c.2.2.2.2.2.2=true then c.2.1+c.2.2.1-m else m
def gI(l:List Int):List Int:=l.mergeSort fun x y=>decide (x<=y)
def rU(c:bT)(l:List Int):List Int:=
 if c.2.2.2.2.1=1 then gI (l.map (kC c))else if c.2.2.2.2.1=2 then((gI (l.map (kC c))).take (l.length-c.2.2.2.2.2.1.toNat)).drop c.2.2.2.2.2.1.toNat
 else((gI (l.map (kC c))).take (l.length/2+1)).drop ((l.length-1)/2)
def qJ(c:bT)(l:List Int):Rt:=eP ((rU c l).sum*(if c.2.2.2.2.1=1 then(l.length:Int)else 1)) ((rU c l).length:Int)
structure yx(x:Rt)(k:Nat):Prop where
 ok:x.ok
 num:x.num.natAbs<BB^k
 den:x.den.natAbs<BB^k
theorem yx.up{k':Nat}(h:yx x k)(hk:k<=k'):yx x k':=⟨h.ok,Nat.lt_of_lt_of_le h.num (zy hk),Nat.lt_of_lt_of_le h.den (zy hk)⟩
theorem yx.sh(h:yx x k)(hk:k<=600):Sh x:=⟨(h.up (k':=Qx) (by unfold Qx;omega)).num,(h.up (k':=Qx) (by unfold Qx;omega)).den⟩
section
open Go.RowKit Go.Shelf
theorem NH{α:Type} [kE α] {w:World}{M:List Nat}(hM:b_ M w)(e:TypeId){x:α}(h:Rep.rd w M x cs):Sl α (w.alloc (.cells cs.toArray e)) M (some ⟨w.heap.size,0,none⟩) 1 1 [x]:=by
 have hb:Below w.heap.size w (w.alloc (.cells cs.toArray e)):=by exact bel
 refine⟨rfl,Nat.le_refl _,by unfold jG;omega,by omega,.inr ⟨w.heap.size,0,rfl,fun k y hk=>?_⟩⟩
 match k,hk with
 |0,hk=>cases hk;refine⟨cs,Rep.keep h (Keeps.of_below hb M),fun hm=>by have:=hM _ hm;omega,fun j u hu=>?_⟩;have hn:=heap_alloc_new w (.cells cs.toArray e);generalize w.alloc (.cells cs.toArray e)=W2 at hn |-;generalize w.heap.size=q at hn |-;simp[World.cell?,hn,hu]
theorem bD.app1{α:Type} [kJ α] {t e:TypeId}{w:World}{M:List Nat}{base:Nat}{v:Value}{n:Nat}{xs:List α}{x:α}(h:bD α e w M base v n xs)(ht:prog.underlying t=some (.slice e))(hi:iU e (Rep.sz α))(hb:base<=w.heap.size)(hM:b_ M w)
 (hx:Rep.rd w (bP v++M) x cs) (hn:n<=100000):
 ∃v' w',(Builtin.append_ #[t,t] t #[v,.slice (some ⟨w.heap.size,0,none⟩) 1 1]).run prog (w.alloc (.cells cs.toArray e))=.ok v' w'/\bD α e w' M base v' (n+1) (xs++ [x])/\w.grownBy w' v.ownBlock/\(v'.ownBlock=v.ownBlock\/v'.ownBlock=some (w.heap.size+1))/\Keeps (bP v) (w.alloc (.cells cs.toArray e)) w':=by
 obtain⟨i,z,i1,i2,i3,i4,i5⟩:=hi;have hMo:b_ (bP v++M) w:=fun q hq=>by
  rcases List.mem_append.1 hq with hq|hq;·exact(h.lt (bJ.1 hq)).2
  exact hM q hq
 have hbl:Below w.heap.size w (w.alloc (.cells cs.toArray e)):=by exact bel
 have hnb:(n+1)*i.bytes<=140737488355328:=Nat.le_trans (Nat.mul_le_mul (show n+1<=100001 by omega) i5) (by decide);obtain⟨v',w',r1,r2,r3,r4⟩:=(h.go hbl).uy (ty:=t) (t:=t) (by simp;omega) ht i1 i2 i3 i4 (NH hMo e hx) hnb (by omega);exact adC
theorem Fr.qY{w W:World}{b:Nat}{C:List Value}(h:Fr w W (L++ [(b,C)]))(hL:∀c vs,(c,vs)∈L->c≠b)(hj:C[j]?=some u0)(u:Value):Fr w (W.setCell ⟨b,j,none⟩ u) (L++ [(b,C.set j u)]):=by
 have hm:(b,C)∈L++ [(b,C)]:=by simp
 have hge:=h.ge b C hm;obtain⟨x,k⟩:=uD (fun i v hv=>h.at_ b C hm i v hv) hj u;have h1:=(h.only (L':=L) (fun x hx=>List.mem_append_left _ hx)).kb k hge hL;refine⟨h1.bl,fun c vs hc=>?_,fun c vs hc=>?_,fun c vs hc=>?_⟩<;>rcases List.mem_append.1 hc with hc|hc
 ·exact h1.at_ c vs hc
 ·simp only[List.mem_singleton,Prod.mk.injEq]at hc;obtain⟨rfl,rfl⟩:=hc;exact x
 ·exact h1.lt c vs hc
 ·simp only[List.mem_singleton,Prod.mk.injEq]at hc;obtain⟨rfl,rfl⟩:=hc;exact Nat.lt_of_lt_of_le (h.lt _ _ hm) k.k.size
 ·exact h1.ge c vs hc
 simp only[List.mem_singleton,Prod.mk.injEq]at hc;obtain⟨rfl,rfl⟩:=hc;exact hge
theorem Fr.ZI{w W W':World}{row:Option Nat}(h:Fr w W L)(hg:W.grownBy W' row)(hr:∀k,row=some k->w.heap.size<=k/\∀b vs,(b,vs)∈L->b≠k):Fr w W' L:=⟨h.bl.grown hg h.bl.size (fun k hk=>(hr k hk).1),fun b vs hm i u hu=>by exact adY,fun b vs hm=>Nat.lt_of_lt_of_le (h.lt b vs hm) hg.size,h.ge⟩
attribute [local go_sem] Oper.semAt_some
theorem U2:(prog.info? 9).map (fun i=>(i.zero,i.size,i.bytes))=some (some (.string ⟨#[]⟩),1,16):=by kernel_rfl
theorem Rj:iU 9 (Rep.sz ByteArray):=iU.mk' U2 rfl (by omega)
structure zS(w W wr:World)(R C:List Value)(v:Value)(l:List ByteArray):Prop where
 fr:Fr w wr ([(w.heap.size,R),(w.heap.size+1, [.slice none 0 0,.slice none 0 0,.slice none 0 0,.slice none 0 0])]++ [(w.heap.size+1+1,C)])
 own:bD ByteArray 9 wr [w.heap.size+1+1,w.heap.size+1] W.heap.size v l.length l
 kp:Keeps [w.heap.size+1+1] W wr
 hW:w.heap.size+3<=W.heap.size
section
variable {w W wr wz:World}{R C:List Value}{v:Value}{l:List ByteArray}
theorem zS.drew(h:zS w W wr R C v l):zS w W wr.drew R C v l:=⟨h.fr.drew,h.own.go (Below.refl _ _).drew,h.kp.drew,h.hW⟩
theorem zS.start(h:Fr w wr ([(w.heap.size,R),(w.heap.size+1, [.slice none 0 0,.slice none 0 0,.slice none 0 0,.slice none 0 0])]++ [(w.heap.size+1+1,C)])):zS w wr wr R C (.slice none 0 0) []:=⟨h,bD.nil _ _ _,Keeps.refl _ _,h.lt (w.heap.size+1+1) C (by simp)⟩
theorem zS.out(h:zS w W wr R C v l):∀b,b<=w.heap.size+1+1->b∉bP v:=fun b hb hm=>by have:=(h.own.lt (bJ.1 hm)).1;have:=h.hW;omega
theorem zS.sl(h:zS w W wr R C v l)(hn:l.length<=100000):∃A c,v=.slice A l.length c/\Sl ByteArray wr [w.heap.size+1+1,w.heap.size+1] A l.length c l:=h.own.sl (by omega) (fun k hk=>by have:=h.hW;simp only[List.mem_cons,List.not_mem_nil,or_false]at hk;omega)
theorem zS.step(h:zS w W wr R C v l)(x:ByteArray)(hj:C[j]?=some u0)(hl:l.length<=100000):
 ∃v' wA,(Builtin.append_ #[249,249] 249 #[v,.slice (some ⟨wr.heap.size,0,none⟩) 1 1]).run prog (wr.alloc (.cells #[.string x] 9))=.ok v' wA/\Keeps (bP v) (wr.alloc (.cells #[.string x] 9)) wA/\Fr w wA ([(w.heap.size,R),(w.heap.size+1, [.slice none 0 0,.slice none 0 0,.slice none 0 0,.slice none 0 0])]++ [(w.heap.size+1+1,C)])/\zS w W (wA.setCell ⟨w.heap.size+1+1,j,none⟩ v') R (C.set j v') v' (l++ [x]):=by
 have hlb:=h.fr.lt (w.heap.size+1+1) C (by simp);obtain⟨v',wA,r1,r2,r3,r4,r5⟩:=h.own.app1 (x:=x) (cs:= [.string x]) underlying249 Rj h.kp.size (fun q hq=>by simp only[List.mem_cons,List.not_mem_nil,or_false]at hq;omega) rfl hl;have hF:=h.fr.ZI r3 (fun k hk=>by have h1:=(h.own.lt hk).1;have h2:=h.hW;exact aei);refine⟨v',wA,r1,r5,hF,⟨hF.qY (fun c vs hm e=>by exact aeh) hj v',?_,(h.kp.grown r3 (fun k hk=>.inr (h.own.lt hk).1)).setCell (p:=⟨_,j,none⟩) (.inl (by simp)) v',h.hW⟩⟩;have hlen:(l++ [x]).length=l.length+1:=by simp
 rw[hlen];exact r2.apart ((Keeps.refl [w.heap.size+1+1] wA).setCell (p:=⟨w.heap.size+1+1,j,none⟩) (.inl (by simp)) v') (fun q hq=>by rw[List.mem_singleton]at hq;subst hq;exact List.mem_cons_self) (fun q hq e=>by
  rw[List.mem_singleton]at hq;subst hq;have h2:=h.hW;rcases r4 with r4|r4;·rw[r4]at e;have h1:=(h.own.lt e).1;omega
  rw[r4]at e;have:=Option.some.inj e;omega)
end
structure JO(w:World)(M:List Nat)(r:aS)(s0 s1 s2 s3:dK):Prop where
 c:Sl ByteArray w M s0.A s0.n s0.c (dP r)
 i:Sl ByteArray w M s1.A s1.n s1.c (UG r)
 t:Sl ByteArray w M s2.A s2.n s2.c (jF r)
 r:Sl ByteArray w M s3.A s3.n s3.c (dQ r)
theorem JO.go{w w':World}{M:List Nat}{r:aS}{t0 t1 t2 t3:dK}(h:JO w M r t0 t1 t2 t3)(hb:Below w.heap.size w w'):JO w' M r t0 t1 t2 t3:=⟨h.c.go hb,h.i.go hb,h.t.go hb,h.r.go hb⟩
abbrev zE:List Value:= [.int .i64 0,.string ⟨#[]⟩,.int .i64 0,.int .i64 0,.slice none 0 0]
abbrev Af(t0 t1 t2 t3:dK):List Value:= [.slice t0.A t0.n t0.c,.slice t1.A t1.n t1.c,.slice t2.A t2.n t2.c,.slice t3.A t3.n t3.c]
theorem Fr.oh{w V:World}{y:Nat}{vs:List Value}(h:Fr w V [(y,vs)])(hl:us.length=vs.length)(hU:fM V y 0 us=U):Fr w U [(y,us)]/\KB y V U:=by
 have hm:(y,vs)∈ [(y,vs)]:=List.mem_singleton.2 rfl;obtain⟨hc,kb⟩:=iO (fun i u hu=>h.at_ y vs hm i u hu) hl hU;have hge:=h.ge y vs hm;refine⟨⟨h.bl.trans (kb.bl.mono hge),fun b us' hb=>?_,fun b us' hb=>?_,fun b us' hb=>?_⟩,kb⟩<;>(rw[List.mem_singleton,Prod.mk.injEq]at hb;obtain⟨rfl,rfl⟩:=hb)
 ·exact hc
 ·exact Nat.lt_of_lt_of_le (h.lt _ _ hm) kb.k.size
 exact hge
structure GH(w W wr:World)(LC XC:List Value)(M:List Nat)(v:Value)(l:List aU):Prop where
 fr:Fr w wr [(w.heap.size,LC),(w.heap.size+1,XC),(w.heap.size+1+1,zE)]
 own:bD aU 87 wr ((w.heap.size+1)::(w.heap.size+1+1)::M) W.heap.size v l.length l
 kp:W.heap.size<=wr.heap.size
 hW:w.heap.size+3<=W.heap.size
 bM:∀q,q∈M->q<w.heap.size
section
variable {w W wr wz:World}{LC XC:List Value}{M:List Nat}{v:Value}{l:List aU}
theorem GH.go(h:GH w W wr LC XC M v l)(hb:Below wr.heap.size wr wz):GH w W wz LC XC M v l:=⟨h.fr.go hb,h.own.go hb,Nat.le_trans h.kp hb.size,h.hW,h.bM⟩
theorem GH.lt3(h:GH w W wr LC XC M v l){q:Nat}(hq:q∈(w.heap.size+1)::(w.heap.size+1+1)::M):q<W.heap.size:=by
 have h1:=h.hW;rcases List.mem_cons.1 hq with rfl|hq;·omega
 exact aff
theorem GH.bel(h:GH w W wr LC XC M v l):b_ (bP v++((w.heap.size+1)::(w.heap.size+1+1)::M)) wr:=fun q hq=>by
 rcases List.mem_append.1 hq with hq|hq;·exact(h.own.lt (bJ.1 hq)).2
 exact Nat.lt_of_lt_of_le (h.lt3 hq) h.kp
theorem GH.start(h:Fr w wr [(w.heap.size,LC),(w.heap.size+1,XC),(w.heap.size+1+1,zE)])(hM:b_ M w):GH w wr wr LC XC M (.slice none 0 0) []:=⟨h,bD.nil _ _ _,Nat.le_refl _,h.lt (w.heap.size+1+1) zE (by simp),hM⟩
theorem GH.step(h:GH w W wr LC XC M v l){x:aU}(hx:Rep.rd wr (bP v++((w.heap.size+1)::(w.heap.size+1+1)::M)) x cs)(hl:l.length<=100000):
 ∃v' wA,(Builtin.append_ #[85,85] 85 #[v,.slice (some ⟨wr.heap.size,0,none⟩) 1 1]).run prog (wr.alloc (.cells cs.toArray 87))=.ok v' wA/\GH w W wA LC XC M v' (l++ [x]):=by
 obtain⟨v',wA,r1,r2,r3,r4,r5⟩:=h.own.app1 (x:=x) (cs:=cs) underlying85 CJ h.kp (fun q hq=>Nat.lt_of_lt_of_le (h.lt3 hq) h.kp) hx hl;refine⟨v',wA,r1,h.fr.ZI r3 (fun k hk=>?_),?_,Nat.le_trans h.kp r3.size,h.hW,h.bM⟩;·have h1:=(h.own.lt hk).1;have h2:=h.hW;refine⟨by omega,fun b vs hm e=>?_⟩;exact aeh
 ·have hlen:(l++ [x]).length=l.length+1:=by simp
  rw[hlen];exact r2
end
theorem GH.fin{w W wr:World}{LC XC:List Value}{M:List Nat}{A:Option Addr}{c:Nat}{l ls:List aU}{v u:Value}(h:GH w W wr LC XC M v l)(hs:Sl aU wr ((w.heap.size+1)::(w.heap.size+1+1)::M) A k c ls)(hj:XC[4]?=some u0)(hl:us.length=5)
 (hU:fM (wr.setCell ⟨w.heap.size+1,4,none⟩ u) (w.heap.size+1+1) 0 us=U):Sl aU U M A k c ls/\Below w.heap.size w U/\∀i x,us[i]?=some x->U.cell? ⟨w.heap.size+1+1,i,none⟩=some x:=by
 obtain⟨c1,k1⟩:=uD (fun i x hx=>h.fr.at_ (w.heap.size+1) XC (by simp) i x hx) hj u;have f1:Fr w (wr.setCell ⟨w.heap.size+1,4,none⟩ u) [(w.heap.size+1+1,zE)]:=(h.fr.only (L':= [(w.heap.size+1+1,zE)]) (fun x hx=>by simp at hx;simp[hx])).kb k1 (by omega) (fun b vs hb=>by simp at hb;omega);obtain⟨f2,k2⟩:=f1.oh (us:=us) (by rw[hl];rfl) hU;exact⟨((hs.keep (k1.k.mono (fun q hq=>by simp at hq;simp[hq]))).keep (k2.k.mono (fun q hq=>by simp at hq;simp[hq]))).less (fun q hq=>by simp[hq]),f2.bl,fun i x hx=>(f2.at_ (w.heap.size+1+1) us (by simp) i x hx).1⟩
theorem Fr.mid{w W:World}{A B C:List Value}(h:Fr w W [(w.heap.size,A),(w.heap.size+1,B),(w.heap.size+1+1,C)])(hj:B[j]?=some u0)(u:Value):Fr w (W.setCell ⟨w.heap.size+1,j,none⟩ u) [(w.heap.size,A),(w.heap.size+1,B.set j u),(w.heap.size+1+1,C)]:=by
 have hm:(w.heap.size+1,B)∈ [(w.heap.size,A),(w.heap.size+1,B),(w.heap.size+1+1,C)]:=by simp
 obtain⟨x,k⟩:=uD (fun i v hv=>h.at_ _ B hm i v hv) hj u;have h1:=(h.only (L':= [(w.heap.size,A),(w.heap.size+1+1,C)]) (fun x hx=>by simp only[List.mem_cons,List.not_mem_nil,or_false]at hx |-;rcases hx with rfl|rfl<;>simp)).kb k (by omega) (fun b vs hb=>by simp at hb;omega);refine⟨h1.bl,fun c vs hc=>?_,fun c vs hc=>?_,fun c vs hc=>?_⟩<;>(simp only[List.mem_cons,Prod.mk.injEq,List.not_mem_nil,or_false]at hc;rcases hc with⟨rfl,rfl⟩|⟨rfl,rfl⟩|⟨rfl,rfl⟩)
 ·exact h1.at_ _ _ (by simp)
 ·exact x
 ·exact h1.at_ _ _ (by simp)
 ·exact h1.lt _ vs (by simp)
 ·exact Nat.lt_of_lt_of_le (h.lt _ _ hm) k.k.size
 ·exact h1.lt _ vs (by simp)
 ·exact h1.ge _ vs (by simp)
 ·omega
 exact h1.ge _ vs (by simp)
namespace U
open Go.RowKit Go.Shelf
attribute [local go_sem] Oper.semAt_some
end U
end
end Go.Proofs.YtefnknhjlejalaaGreatDoor
