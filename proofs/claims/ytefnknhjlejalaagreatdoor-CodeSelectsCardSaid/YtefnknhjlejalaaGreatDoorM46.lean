/- Lemmas and walks; no statement is proved here. -/
import Derived.Test.YtefnknhjlejalaaGreatDoorM40
set_option linter.unusedVariables false
set_option linter.unusedSimpArgs false
set_option maxRecDepth 20000
set_option maxHeartbeats 6000000
namespace Go.Proofs.YtefnknhjlejalaaGreatDoor
open Go.Proofs.Tryz
variable {w:World}{M:List Nat}{cs:List Value}{b c:Int}
def smA:aU:=.mk 2 ⟨#[97,114,116]⟩ 0 0 []
def Y2:aU:=.mk 2 ⟨#[115,107,105,108,108]⟩ 1 0 []
def VR:aU:=.mk 8 ⟨#[]⟩ 2 1 [Y2]
def Sj:aU:=.mk 6 ⟨#[]⟩ 0 0 [smA,VR]
def VU:bT:=(⟨#[97,114,116]⟩,0,10,1,1,0,false)
def VX:bT:=(⟨#[115,107,105,108,108]⟩,0,10,1,2,0,false)
def Nb:aJ:=(⟨#[102,105,110,97,108]⟩,2,1,1,false,false,Sj,⟨#[]⟩,-1)
def EJ:aS:=⟨⟨#[99,117,112]⟩, [VU,VX], [], [], [], [Nb], [], [],0⟩
def smC:dS:=⟨[[1,2], [0,1]], [], [], []⟩
def Y0:aU:=.mk 2 ⟨#[99]⟩ 0 0 []
def Xa:aU:=.mk 8 ⟨#[]⟩ 2 1 [Y0]
def Xb:aU:=.mk 3 ⟨#[]⟩ 0 0 []
def Xc:aU:=.mk 6 ⟨#[]⟩ 0 0 [Xa,Xb]
def Xd:aU:=.mk 4 ⟨#[]⟩ 0 0 []
def O_:aU:=.mk 7 ⟨#[]⟩ 0 0 [Xc,Xd]
def Y1:bT:=(⟨#[99]⟩,0,10,1,3,0,false)
def laX:aJ:=(⟨#[114]⟩,3,1,1,false,false,O_,⟨#[]⟩,-1)
def uX:aS:=⟨⟨#[97]⟩, [Y1], [(⟨#[98]⟩,3,2)], [(⟨#[109]⟩,2,1)], [], [laX], [], [],0⟩
section
open Go.RowKit Go.Shelf
attribute [local go_sem] Oper.semAt_some
theorem lN{α:Type} [Rep α] (hM:b_ M w)(e:TypeId)(xs:List α)(hn:xs.length<=1000)(h:∀k x,xs[k]?=some x->∃es,Rep.rd w M x es/\∀j u,es[j]?=some u->cs[k*Rep.sz α+j]?=some u):
 Sl α (w.alloc (.cells cs.toArray e)) M (some ⟨w.heap.size,0,none⟩) xs.length xs.length xs:=by
 have hb:Below w.heap.size w (w.alloc (.cells cs.toArray e)):=by exact bel
 refine⟨rfl,Nat.le_refl _,by unfold jG;omega,by omega,.inr ⟨w.heap.size,0,rfl,fun k x hk=>?_⟩⟩;exact adz
def TI(M:List Nat)(x:aU)(v:Value)(W:World):Prop:=∃A m c,v=.agg #[.int .i64 x.kind,.string x.name,.int .i64 x.n,.int .i64 x.d,.slice A m c]/\(i64 x.kind/\i64 x.n/\i64 x.d)/\Sl aU W M A m c x.l
def QK(M:List Nat)(α:Type) [Rep α] (xs:List α)(v:Value)(W:World):Prop:=∃A,v=.slice A xs.length xs.length/\Sl α W M A xs.length xs.length xs
theorem TI.go{M:List Nat}{x:aU}{v:Value}{W W':World}(h:TI M x v W)(hb:Below W.heap.size W W'):TI M x v W':=by obtain⟨A,m,c,e,hi,hs⟩:=h;exact⟨A,m,c,e,hi,hs.go hb⟩
theorem QK.go{M:List Nat}{α:Type} [kE α] {xs:List α}{v:Value}{W W':World}(h:QK M α xs v W)(hb:Below W.heap.size W W'):QK M α xs v W':=by obtain⟨A,e,hs⟩:=h;exact⟨A,e,hs.go hb⟩
theorem TI.more{M:List Nat}{x:aU}{v:Value}{W:World}{b:Nat}(h:TI M x v W)(hb:W.heap.size<=b):TI (b::M) x v W:=by obtain⟨A,m,c,e,hi,hs⟩:=h;exact⟨A,m,c,e,hi,hs.more hb⟩
theorem QK.more{M:List Nat}{α:Type} [kE α] {xs:List α}{v:Value}{W:World}{b:Nat}(h:QK M α xs v W)(hb:W.heap.size<=b):QK (b::M) α xs v W:=by obtain⟨A,e,hs⟩:=h;exact⟨A,e,hs.more hb⟩
theorem Sl.Es{α:Type} [kE α] (w:World)(M:List Nat):Sl α w M none 0 0 []:=⟨rfl,Nat.le_refl _,by unfold jG;omega,by omega,.inl rfl⟩
def laI:bW:=(⟨#[98]⟩,3,2)
def laJ:bW:=(⟨#[109]⟩,2,1)
theorem wH{α:Type} [Rep α] {x:α}(h:Rep.rd w M x cs):∀k y, [x][k]?=some y->∃es,Rep.rd w M y es/\∀j u,es[j]?=some u->cs[k*Rep.sz α+j]?=some u:=fun k y hk=>by
 match k,hk with
 |0,hk=>cases hk;exact⟨cs,h,fun j u hu=>by rwa [Nat.zero_mul,Nat.zero_add]⟩
theorem Xe{α:Type} [Rep α] {x y:α}{ds:List Value}(h:Rep.rd w M x cs)(h2:Rep.rd w M y ds):∀k z, [x,y][k]?=some z->∃es,Rep.rd w M z es/\∀j u,es[j]?=some u->(cs++ds)[k*Rep.sz α+j]?=some u:=fun k z hk=>by
 match k,hk with
 |0,hk=>cases hk;exact⟨cs,h,fun j u hu=>by rw[Nat.zero_mul,Nat.zero_add,List.getElem?_append_left (List.getElem?_eq_some_iff.1 hu).1];exact hu⟩
 |1,hk=>cases hk;exact⟨ds,h2,fun j u hu=>by rw[Nat.one_mul,List.getElem?_append_right (by rw[Rep.len h];omega),Rep.len h,Nat.add_sub_cancel_left];exact hu⟩
abbrev dH:dK:=⟨none,0,0⟩
def Ap(s:Nat)(M:List Nat):Nat->Value->World->Prop
 |0,v,_=>v=.agg #[.string ⟨#[99]⟩,.int .i64 0,.int .i64 10,.int .i64 1,.int .i64 3,.int .i64 0,.bool false]
 |1,v,W=>QK M bT [Y1] v W
 |2,v,_=>v=.agg #[.string ⟨#[98]⟩,.int .i64 3,.int .i64 2]
 |3,v,W=>QK M bW [laI] v W
 |4,v,_=>v=.agg #[.string ⟨#[109]⟩,.int .i64 2,.int .i64 1]
 |5,v,W=>QK M bW [laJ] v W
 |6,v,W=>TI M Xa v W
 |7,v,W=>TI M Xb v W
 |8,v,W=>QK M aU [Xa,Xb] v W
 |9,v,W=>TI M Xc v W
 |10,v,W=>TI M Xd v W
 |11,v,W=>QK M aU [Xc,Xd] v W
 |12,v,W=>TI M O_ v W
 |13,v,W=>∃A m c,v=.agg #[.string ⟨#[114]⟩,.int .i64 3,.int .i64 1,.int .i64 1,.bool false,.bool false,.int .i64 7,.string ⟨#[]⟩,.int .i64 0,.int .i64 0,.slice A m c,.string ⟨#[]⟩,.int .i64 (-1)]/\Sl aU W M A m c O_.l
 |14,v,W=>QK M aJ [laX] v W
 |15,v,W=>∃s1 s2 s3 s5:dK,v=.agg (aV uX s1 s2 s3 dH s5 dH dH).toArray/\dG W M uX s1 s2 s3 dH s5 dH dH
 |16,v,W=>∃b,v=.pointer (some ⟨b,0,none⟩)/\b∈M/\s<=b/\mP W b nR
 |_,_,_=>True
theorem Ap.go{s:Nat}{M:List Nat}{j:Nat}{v:Value}{W W':World}(hM:j=16->b_ M W)(h:Ap s M j v W)(hb:Below W.heap.size W W'):Ap s M j v W':=by
 match j,h with
 |0,h|2,h|4,h=>exact h
 |1,h|3,h|5,h|8,h|11,h|14,h=>exact QK.go h hb
 |6,h|7,h|9,h|10,h|12,h=>exact TI.go h hb
 |13,h=>obtain⟨A,m,c,e,hs⟩:=h;exact⟨A,m,c,e,hs.go hb⟩
 |15,h=>obtain⟨s1,s2,s3,s5,e,hs⟩:=h;exact⟨s1,s2,s3,s5,e,hs.go hb⟩
 |16,h=>obtain⟨b,e,h1,h2,h3⟩:=h;exact⟨b,e,h1,h2,fun i u hu=>⟨(hb.cell (p:=⟨b,i,none⟩) (hM rfl b h1)).trans (h3 i u hu).1,(hb.frozen (p:=⟨b,i,none⟩) (hM rfl b h1)).trans (h3 i u hu).2⟩⟩
 |_+17,_=>exact trivial
theorem Ap.more{s:Nat}{M:List Nat}{j b:Nat}{v:Value}{W:World}(h:Ap s M j v W)(hb:W.heap.size<=b):Ap s (b::M) j v W:=by
 match j,h with
 |0,h|2,h|4,h=>exact h
 |1,h|3,h|5,h|8,h|11,h|14,h=>exact QK.more h hb
 |6,h|7,h|9,h|10,h|12,h=>exact TI.more h hb
 |13,h=>obtain⟨A,m,c,e,hs⟩:=h;exact⟨A,m,c,e,hs.more hb⟩
 |15,h=>obtain⟨s1,s2,s3,s5,e,hs⟩:=h;exact⟨s1,s2,s3,s5,e,hs.more hb⟩
 |16,h=>obtain⟨q,e,h1,h2,h3⟩:=h;exact⟨q,e,List.mem_cons_of_mem _ h1,h2,h3⟩
 |_+17,_=>exact trivial
theorem dG.less{w:World}{M M':List Nat}{r:aS}{s1 s2 s3 s4 s5 s6 s7:dK}(h:dG w M r s1 s2 s3 s4 s5 s6 s7)(k:∀q,q∈M'->q∈M):dG w M' r s1 s2 s3 s4 s5 s6 s7:=⟨h.aT.less k,h.bonus.less k,h.malus.less k,h.ties.less k,h.rounds.less k,h.prizes.less k,h.points.less k,h.best⟩
def iH(p0 p1 p2 v4 v5 v6:Value)(x:Nat->Value):Act:=⟨#[p0,p1,p2,x 16,v4,v5,v6,x 0,x 1,x 2,x 3,x 4,x 5,x 6,x 7,x 8,x 9,x 10,x 11,x 12,x 13,x 14,x 15,undef,undef,undef,undef,undef,undef], []⟩
def oO(u:World)(M0:List Nat)(p0 p1 p2 v4 v5 v6:Value)(D:Nat->Bool)(a:Act)(W:World):Prop:=∃x,a=iH p0 p1 p2 v4 v5 v6 x/\Below u.heap.size u W/\(D 17=true->∃b s1 s2 s3 s5,x 16=.pointer (some ⟨b,0,none⟩)/\b<W.heap.size/\u.heap.size<=b/\mP W b (aV uX s1 s2 s3 dH s5 dH dH)/\dG W M0 uX s1 s2 s3 dH s5 dH dH)/\(D 17=false->∃L,b_ (L++M0) W/\(∀q,q∈L->u.heap.size<=q)/\∀j,j<17->D j=true->Ap u.heap.size (L++M0) j (x j) W)
section
variable {u:World}{L M0:List Nat}{p0 p1 p2 v4 v5 v6:Value}{D:Nat→Bool}{W W':World}{x:Nat→Value}{a:Act}
theorem oO.put(i:Nat){v:Value}(h17:D 17=false)(hU:Below u.heap.size u W)(hM:b_ (L++M0) W)(m2:∀q,q∈L->u.heap.size<=q)(hR:∀j,j<17->D j=true->Ap u.heap.size (L++M0) j (x j) W)(hb:Below W.heap.size W W')(hv:Ap u.heap.size (L++M0) i v W')(ha:a=iH p0 p1 p2 v4 v5 v6 fun j=>if j=i then v else x j)(hi:i<17:=by omega):
 oO u M0 p0 p1 p2 v4 v5 v6 (fun j=>D j||decide (j=i)) a W':=by
 refine⟨_,ha,hU.trans (hb.mono hU.size),fun h=>?_,fun _=>⟨L,hM.le hb.size,m2,fun j hj hd=>?_⟩⟩
 ·have:¬17=i:=by omega
  simp[h17,this]at h
 ·by_cases e:j=i;·subst e;simpa using hv
  simp only[Bool.or_eq_true,decide_eq_true_eq,e,or_false]at hd;simp only[e,if_false];exact(hR j hj hd).go (fun _=>hM) hb
end
theorem j3{a:Int}(h:(-9223372036854775808<=a/\a<=9223372036854775807)/\(-9223372036854775808<=b/\b<=9223372036854775807)/\(-9223372036854775808<=c/\c<=9223372036854775807):=by decide):i64 a/\i64 b/\i64 c:=h
theorem j1{a:Int}(h: -9223372036854775808<=a/\a<=9223372036854775807:=by decide):i64 a:=h
theorem Ip{s:ByteArray}{a d e:Int}{q:Bool}(ha:i64 a)(hb:i64 b)(hc:i64 c)(hd:i64 d)(he:i64 e):Rep.rd w M ((s,a,b,c,d,e,q):bT) [.string s,.int .i64 a,.int .i64 b,.int .i64 c,.int .i64 d,.int .i64 e,.bool q]:=⟨[_],_,rfl,rfl, [_],_,rfl,⟨rfl,ha⟩, [_],_,rfl,⟨rfl,hb⟩, [_],_,rfl,⟨rfl,hc⟩, [_],_,rfl,⟨rfl,hd⟩, [_],_,rfl,⟨rfl,he⟩,rfl⟩
def SmP(w:World)(e:Ending)(w':World):Prop:=∃s1 s5:dK,e=.returned (.agg (aV EJ s1 dH dH dH s5 dH dH).toArray)/\dG w' [] EJ s1 dH dH dH s5 dH dH/\Below w.heap.size w w'
attribute [irreducible] SmP
theorem tZ(w:World):Calls prog 17 #[] w (SmP w):=by
 refine wid ?_;obtain⟨W0,hW0⟩:=aC (w.alloc (.cells nR.toArray 52));have F0:Fr w W0 ([]++ [(w.heap.size,nR)]):=by rw[<-hW0];exact(Fr.nil w).a w.heap.size nR 52
 have z0:W0.heap.size=w.heap.size+1:=by rw[<-hW0];simp
 have hM:b_ [w.heap.size] W0:=fun q hq=>by rw[List.mem_singleton]at hq;omega
 obtain⟨A1,hA1⟩:=aC (W0.alloc (.cells #[.int .i64 2,.string ⟨#[115,107,105,108,108]⟩,.int .i64 1,.int .i64 0,.slice none 0 0] 87));have k1:Sl aU A1 [w.heap.size] (some ⟨W0.heap.size,0,none⟩) 1 1 [Y2]:=by rw[<-hA1];exact lN hM 87 [Y2] (by simp) (wH (kH.of j3 (Sl.Es _ _)))
 rw[z0]at k1;have y1:A1.heap.size=w.heap.size+1+1:=by rw[<-hA1];simp[z0]
 have hb1:Below W0.heap.size W0 A1:=by rw[<-hA1];exact bel
 obtain⟨A2,hA2⟩:=aC (A1.alloc (.cells #[.int .i64 2,.string ⟨#[97,114,116]⟩,.int .i64 0,.int .i64 0,.slice none 0 0,.int .i64 8,.string ⟨#[]⟩,.int .i64 2,.int .i64 1,.slice (some ⟨w.heap.size+1,0,none⟩) 1 1] 87));have k2:Sl aU A2 [w.heap.size] (some ⟨A1.heap.size,0,none⟩) 2 2 [smA,VR]:=by rw[<-hA2];exact lN (hM.le hb1.size) 87 [smA,VR] (by simp) (show _ from Xe (α:=aU) (x:=smA) (y:=VR) (kH.of (name:=⟨#[97,114,116]⟩) j3 (Sl.Es _ _)) (kH.of (name:=⟨#[]⟩) j3 k1))
 rw[y1]at k2;have y2:A2.heap.size=w.heap.size+1+1+1:=by rw[<-hA2];simp[y1]
 have hb2:Below A1.heap.size A1 A2:=by rw[<-hA2];exact bel
 obtain⟨A3,hA3⟩:=aC (A2.alloc (.cells #[.int .i64 6,.string ⟨#[]⟩,.int .i64 0,.int .i64 0,.slice (some ⟨w.heap.size+1+1,0,none⟩) 2 2] 87));have hb3:Below A2.heap.size A2 A3:=by rw[<-hA3];exact bel
 have F3:Fr w A3 ([]++ [(w.heap.size,nR)]++ [(w.heap.size+1+1+1, [.int .i64 6,.string ⟨#[]⟩,.int .i64 0,.int .i64 0,.slice (some ⟨w.heap.size+1+1,0,none⟩) 2 2])]):=by rw[<-hA3];exact(((F0.go hb1).go hb2).a (w.heap.size+1+1+1) _ 87 y2.symm)
 have o3:=opc F3;have q1:=aN (F3.aQ 1 1);have q2:=aN (F3.aQ 1 2);have q3:=aN (F3.aQ 1 3);have y3:A3.heap.size=w.heap.size+1+1+1+1:=by rw[<-hA3];simp[y2]
 obtain⟨A4,hA4⟩:=aC (A3.alloc (.cells #[.string ⟨#[97,114,116]⟩,.int .i64 0,.int .i64 10,.int .i64 1,.int .i64 1,.int .i64 0,.bool false,.string ⟨#[115,107,105,108,108]⟩,.int .i64 0,.int .i64 10,.int .i64 1,.int .i64 2,.int .i64 0,.bool false] 95));have C9:b_ [w.heap.size] A3:=((hM.le hb1.size).le hb2.size).le hb3.size;have k4:Sl bT A4 [w.heap.size] (some ⟨A3.heap.size,0,none⟩) 2 2 [VU,VX]:=by rw[<-hA4];exact lN C9 95 [VU,VX] (by simp) (show _ from Xe (α:=bT) (x:=VU) (y:=VX) (Ip j1 j1 j1 j1 j1) (Ip j1 j1 j1 j1 j1))
 rw[y3]at k4;have y4:A4.heap.size=w.heap.size+1+1+1+1+1:=by rw[<-hA4];simp[y3]
 have hb4:Below A3.heap.size A3 A4:=by rw[<-hA4];exact bel
 obtain⟨A5,Zm⟩:=aC (A4.alloc (.cells #[.string ⟨#[102,105,110,97,108]⟩,.int .i64 2,.int .i64 1,.int .i64 1,.bool false,.bool false,.int .i64 6,.string ⟨#[]⟩,.int .i64 0,.int .i64 0,.slice (some ⟨w.heap.size+1+1,0,none⟩) 2 2,.string ⟨#[]⟩,.int .i64 (-1)] 89));have k5:Sl aJ A5 [w.heap.size] (some ⟨A4.heap.size,0,none⟩) 1 1 [Nb]:=by rw[<-Zm];exact lN (C9.le hb4.size) 89 [Nb] (by simp) (wH (sS (x:=Nb) ⟨j1,j1,j1,j1⟩ j3 ((k2.go hb3).go hb4)))
 rw[y4]at k5;have hb5:Below A4.heap.size A4 A5:=by rw[<-Zm];exact bel
 have F5:=(F3.go hb4).go hb5;have o4:=opc (F3.go hb4);have o5:=opc F5;obtain⟨U,hU⟩:=aC (fM A5 w.heap.size 0 (aV EJ ⟨some ⟨w.heap.size+1+1+1+1,0,none⟩,2,2⟩ dH dH dH ⟨some ⟨w.heap.size+1+1+1+1+1,0,none⟩,1,1⟩ dH dH));obtain⟨a1,p1⟩:=iO (w:=A5) (b:=w.heap.size) (vs:=nR) (us:=aV EJ ⟨some ⟨w.heap.size+1+1+1+1,0,none⟩,2,2⟩ dH dH dH ⟨some ⟨w.heap.size+1+1+1+1+1,0,none⟩,1,1⟩ dH dH) (fun i u hu=>F5.at_ w.heap.size nR (by simp) i u hu) rfl hU;have g1:=hU;simp only[fM,Nat.zero_add,Nat.reduceAdd,EJ]at g1;have HR:=fB ((k4.go hb5).keep p1.k) (k5.keep p1.k) (F5.bl.trans (p1.bl.mono (Nat.le_refl _)));have u0:=(a1 0 _ rfl).1;have u1:=(a1 1 _ rfl).1;have u2:=(a1 2 _ rfl).1;have u3:=(a1 3 _ rfl).1;have u4:=(a1 4 _ rfl).1;have u5:=(a1 5 _ rfl).1;have u6:=(a1 6 _ rfl).1;have u7:=(a1 7 _ rfl).1;have u8:=(a1 8 _ rfl).1;clear k1 k2 k4 k5 hb1 hb2 hb3 hb4 hb5 hM C9 F0 F3 F5 a1 p1 hU;refine ent func17 rfl ntmps17 ?_;gi_wp2;refine⟨rfl,.agg (aV EJ ⟨some ⟨w.heap.size+1+1+1+1,0,none⟩,2,2⟩ dH dH dH ⟨some ⟨w.heap.size+1+1+1+1+1,0,none⟩,1,1⟩ dH dH).toArray,by simp[results,go_sem,EJ,u0,u1,u2,u3,u4,u5,u6,u7,u8],?_⟩;unfold SmP;exact⟨_,_,rfl,⟨HR.out.1.less (fun q h=>by cases h),Sl.Es _ _,Sl.Es _ _,Sl.Es _ _,HR.out.2.1.less (fun q h=>by cases h),Sl.Es _ _,Sl.Es _ _,j1⟩,HR.out.2.2⟩
end
end Go.Proofs.YtefnknhjlejalaaGreatDoor
