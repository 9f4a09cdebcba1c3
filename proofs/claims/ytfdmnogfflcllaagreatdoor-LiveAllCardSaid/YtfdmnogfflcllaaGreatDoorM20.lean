/- Lemmas -/
import Derived.Test.YtfdmnogfflcllaaGreatDoorM16
set_option linter.all false
set_option maxRecDepth 100000
set_option maxHeartbeats 0
namespace Go.Proofs.YtfdmnogfflcllaaGreatDoor
theorem uX{p:Prop}(h:p:=by
 have u3:=aF (b:=b) (g.out.out b pj) e1;have t:=h_ r1 r5 Z z;have yT:=Hd I;clear hx aa ad D E r1 r5 Z z I ag ac;gi_wp2;refine aP (bP v) 10 pk pk ?_;refine ay 0 ?_;refine ay 1 ?_;refine ay 2 ?_;refine ay 3 ?_;refine ay 4 ?_;refine ay 5 ?_;refine ay 6 ?_;refine ay 7 ?_;rw[yT.out];refine eU 8 fun K m=>?_;gi_wp2;refine⟨bq (show Below wd wd _ from pE.alloc pD _) _,?_⟩;refine lit ?_;refine oQ 9 [] pk (dN pt rfl ?_ (fun K m=>?_) gU);·exact wy
 refine aI _ _ _ rfl rfl rfl t.a (m _ _ ⟨t.b,?_⟩);clear m K;refine lit ?_;have p:=t.c;refine op1 p ?_;intros;clear p;refine iq 2 ?_;refine jW fun K m K' af=>?_;gi_wp2;refine jW fun K m K' af=>?_;gi_wp2;refine et _ ?_;simp only[cu];gi_wp2;exact⟨⟨k+1,_,pj,by go_num,t.w⟩,by simp[intOf];omega⟩):p:=h
theorem GV{p:Prop}(h:p:=by
 cases e with
 |returned u=>exact⟨keep a hy u,by rw[<-mS a v u m];exact g⟩
 |panicked c=>exact hQ _ _ _ g
 |outgrown=>exact g):p:=h
theorem akA{p:Prop}(h:p:=by
 rcases cD.1 hq with rfl|hq;·omega
 have:=h.bM q hq;omega):p:=h
variable {cs us:List Value}{L:List (Nat×List Value)}{b j c k y s n0 i id f:Nat}{u0 u:Value}{A:Option Addr}{zs cn rn:List ByteArray}{w':World}{o oi:Oper}{a a':Act}{listed:Array Bool}
section
open Go.RowKit Go.Shelf
theorem acg{α:Type} [kE α] {w:World}{M:List Nat}(hM:b_ M w)(e:TypeId){x:α}(h:Rep.rd w M x cs):Sl α (w.alloc (.cells cs.toArray e)) M (some ⟨w,0,none⟩) 1 1 [x]:=by
 have hb:Below w w (w.alloc (.cells cs.toArray e)):=by exact bel
 refine⟨rfl,bj _,by unfold jG;omega,pj,.inr ⟨w,0,rfl,fun k y d=>?_⟩⟩
 match k,d with
 |0,d=>cases d;refine⟨cs,jf h (bq hb M),fun m=>by have:=hM _ m;omega,fun j u p=>?_⟩;have g:=gH w (.cells cs.toArray e);generalize w.alloc (.cells cs.toArray e)=W2 at g |-;generalize w.heap.size=q at g |-;simp[World.cell?,g,p]
theorem bD.app1{α:Type} [kJ α] {t e:TypeId}{w:World}{M:List Nat}{base:Nat}{v:Value}{n:Nat}{xs:List α}{x:α}(h:bD α e w M base v n xs)(ht:Tryz.prog.underlying t=some (.slice e))(hi:iU e (Rep.sz α))(hb:base<=w.heap.size)(hM:b_ M w)
 (hx:Rep.rd w (bP v++M) x cs) (hn:n<=100000):
 ∃v' w',(Builtin.append_ #[t,t] t #[v,.slice (some ⟨w,0,none⟩) 1 1]).run Tryz.prog (w.alloc (.cells cs.toArray e))=.ok v' w'/\bD α e w' M base v' (n+1) (xs++ [x])/\w.grownBy w' v.ownBlock/\(v'.ownBlock=v.ownBlock\/v'.ownBlock=some (w.heap.size+1))/\Keeps (bP v) (w.alloc (.cells cs.toArray e)) w':=by
 obtain⟨i,z,G,H,I,J,K⟩:=hi;have r:b_ (bP v++M) w:=fun q m=>by
  rcases cK.1 m with m|m;·exact(h.lt (bJ.1 m)).2
  exact hM q m
 have d:Below w w (w.alloc (.cells cs.toArray e)):=by exact bel
 have D:(n+1)*i.bytes<=140737488355328:=cF (fS (show n+1<=100001 by omega) K) pt;obtain⟨v',w',N,T,g,O⟩:=(h.go d).uy (ty:=t) (t:=t) px ht G H I J (acg r e hx) D pj;refine⟨v',w',N,T,?_,by simpa using O,g.size,fun k p B=>g.block k p (fun e=>B (bJ.2 e.symm))⟩;exact⟨g.os.trans d.os,g.tape.trans d.tape,g.output.trans d.output,cF d.size g.size,fun k p E=>(g.block k (bX p d.size) E).trans (d.block k p)⟩
theorem Fr.qY{w W:World}{C:List Value}(h:Fr w W (L++ [(b,C)]))(hL:∀c vs,(c,vs)∈L->c≠b)(hj:C[j]?=some u0)(u:Value):Fr w (W.setCell ⟨b,j,none⟩ u) (L++ [(b,C.set j u)]):=by
 have e:(b,C)∈L++ [(b,C)]:=po;have g:=h.ge b C e;obtain⟨x,k⟩:=uD (fun i v m=>h.at_ b C e i v m) hj u;have d:=(h.only (L':=L) (fun x hx=>di _ hx)).kb k g hL;refine⟨d.bl,fun c vs K=>?_,fun c vs K=>?_,fun c vs K=>?_⟩<;>rcases cK.1 K with K|K
 ·exact d.at_ c vs K
 ·simp only[bz,fc]at K;obtain⟨rfl,rfl⟩:=K;exact x
 ·exact d.lt c vs K
 ·simp only[bz,fc]at K;obtain⟨rfl,rfl⟩:=K;exact bX (h.lt _ _ e) k.k.size
 ·exact d.ge c vs K
 simp only[bz,fc]at K;obtain⟨rfl,rfl⟩:=K;exact g
theorem Fr.ZI{w W W':World}{row:Option Nat}(h:Fr w W L)(hg:W.grownBy W' row)(hr:∀k,row=some k->w.heap.size<=k/\∀b vs,(b,vs)∈L->b≠k):Fr w W' L:=⟨h.bl.grown hg h.bl.size (fun k hk=>(hr k hk).1),fun b vs hm i u hu=>by have hl:=h.lt b vs hm;have hb:=hg.block b hl (fun e=>(hr b e.symm).2 b vs hm rfl);have:=h.at_ b vs hm i u hu;exact⟨by rw[<-this.1];simp only[World.cell?,hb],by rw[<-this.2];simp only[World.frozen?,hb]⟩,fun b vs hm=>bX (h.lt b vs hm) hg.size,h.ge⟩
def P_(zs:List ByteArray)(x:ByteArray)(i:Int):Prop:=(i= -1/\∀(j:Nat) (y:ByteArray),zs[j]?=some y->¬x=y)\/∃k:Nat,i=(k:Int)/\zs[k]?=some x/\∀(j:Nat) (y:ByteArray),j<k->zs[j]?=some y->¬x=y
theorem Sl.text{M:List Nat}{w:World}{n:Nat}{y:ByteArray}(h:Sl ByteArray w M A n c zs)(hk:zs[k]?=some y):∃b o,A=some ⟨b,o,none⟩/\w.cell? ⟨b,o+k,none⟩=some (.string y):=by obtain⟨b,o,e,rfl,g,m⟩:=h.get hk;have p:e=_:=g;subst p;have d:=m.2 0 _ rfl;rw[show Rep.sz ByteArray=1 from rfl,gP]at d;exact⟨b,o,rfl,d⟩
theorem ru{M:List Nat}{n:Nat}(x:ByteArray){w:World}(hs:Sl ByteArray w M A n c zs):
 Calls Tryz.prog 146 #[.slice A n c,x] w fun e w'=>(∃i:Int,e=.returned i/\P_ zs x i)/\w=w':=by
 refine wid ?_;have J:=hs.len;have G:=hs.small;have H:=Hd hs;clear hs;refine ent Tryz.func146 Tryz.ntmps146 ?_;gi_wp2;gi_loopw[5] (fun i wr=>∃k:Nat,k<=n/\i=k/\w=wr/\Hid (∀(j:Nat) (y:ByteArray),j<k->zs[j]?=some y->¬x=y)) (fun i _=>n-(intOf i).toNat);case atStart=>exact⟨0,cf _,rfl,rfl,Hd (fun j y m=>by omega)⟩
 case round=>
  obtain⟨k,t,rfl,rfl,q⟩:=hrel;by_cases D:k<n
  ·obtain⟨y,g⟩:=dW zs k pj;obtain⟨b,o,rfl,V⟩:=H.out.text g;by_cases d:x=y;·subst d;have p:=Hd (show P_ zs x k from .inr ⟨k,rfl,g,q.out⟩);clear g;gi_wp2;go_ret;exact⟨⟨_,rfl,p.out⟩,rfl⟩
   have I:=str_eq (fun h=>d h.symm);have E:=Hd (show ∀(j:Nat) (z:ByteArray),j<k+1->zs[j]?=some z->¬x=z from fun j z m r=>by
    by_cases e:j=k;·subst e;rw[g]at r;cases r;exact d
    exact q.out j z pj r)
   clear g d;gi_wp2;exact⟨⟨k+1,pj,by go_num,bO,E⟩,by simp[intOf];omega⟩
  ·have p:=Hd (show P_ zs x (-1)from .inl ⟨rfl,fun j y m=>q.out j y (by have:=(bu.1 m).1;omega) m⟩);have B:k=n:=pj;subst B;clear D t;gi_wp2;go_ret;exact⟨⟨_,rfl,p.out⟩,rfl⟩
end
def dO:List ByteArray->ByteArray->Int
 | [],_=> -1
 |y::l,s=>if y=s then 0 else if dO l s<0 then-1 else dO l s+1
theorem lV:∀{l:List ByteArray}{s:ByteArray}{i:Int},P_ l s i->i=dO l s
 | [],s,i,h=>by
   rcases h with⟨h,-⟩|⟨k,-,h,-⟩;·exact h
   simp at h
 |y::l,s,i,h=>by
  unfold dO;by_cases e:y=s
  ·rw[if_pos e];rcases h with⟨-,h⟩|⟨k,h,hk,hj⟩;·exact absurd e.symm (h 0 y rfl)
   cases k with
   |zero=>simpa using h
   |succ k=>exact absurd e.symm (hj 0 y pj rfl)
  rw[if_neg e];rcases h with⟨h,h2⟩|⟨k,h,hk,hj⟩;·have:=lV (l:=l) (s:=s) (i:= -1) (.inl ⟨rfl,fun j z hz=>h2 (j+1) z (by simpa using hz)⟩);rw[<-this];simpa using h
  cases k with
  |zero=>simp at hk;exact absurd hk e
  |succ k=>have:=lV (l:=l) (s:=s) (i:=(k:Int)) (.inr ⟨k,rfl,by simpa using hk,fun j z hjk hz=>hj (j+1) z pj (by simpa using hz)⟩);rw[<-this,if_neg pj];omega
theorem oW:∀(l:List ByteArray) (s:ByteArray),-1<=dO l s/\dO l s<l.length
 | [],_=>by unfold dO;simp
 |y::l,s=>by
  have:=oW l s;unfold dO;rw[eh];split;·omega
  split<;>omega
theorem I8:∀{l:List ByteArray}{s:ByteArray}{k:Nat},dO l s=(k:Int)->l[k]?=some s
 | [],s,k,h=>by unfold dO at h;omega
 |y::l,s,k,h=>by
  unfold dO at h;by_cases e:y=s;·rw[if_pos e]at h;obtain rfl:k=0:=pj;simp[e]
  rw[if_neg e]at h;split at h;·omega
  obtain⟨j,rfl⟩:∃j,k=j+1:=⟨k-1,pj⟩;simpa using I8 (l:=l) (s:=s) (k:=j) pj
theorem Qa{nm:List ByteArray}{s:ByteArray}:∀{k j:Nat},dX nm k=true->j<k->k<=nm.length->nm[j]?=some s->gW nm s k=some j
 |0,j,_,h,_,_=>by omega
 |k+1,j,ho,h,hl,hj=>by
  unfold dX at ho;rw[cS]at ho;unfold gW;by_cases e:j=k;·subst e;rw[if_pos (by rw[cC,hj];rfl)]
  have ih:=Qa ho.1 (show j<k by omega) pj hj;rw[if_neg];·exact ih
  intro g;have g2:nm.getD k ByteArray.empty=s:=by apply oF;apply od.1;exact g
  have d:=ho.2;rw[g2,ih]at d;cases d
theorem qB{nm:List ByteArray}{s:ByteArray}(ho:dX nm nm.length=true)(h:0<=dO nm s):lU nm s (dO nm s):=by obtain⟨k,e⟩:∃k:Nat,dO nm s=(k:Int):=⟨(dO nm s).toNat,pj⟩;have d:=I8 e;have:=Qa ho (bu.1 d).1 pD d;rw[e];exact⟨by unfold xB;rw[this];rfl,by unfold xA;rw[this];rfl⟩
theorem Qb{nm:List ByteArray}(h:∀(k:Nat) (s:ByteArray),nm[k]?=some s->dO nm s=(k:Int)):∀k,k<=nm.length->dX nm k=true
 |0,_=>rfl
 |k+1,hk=>by
  unfold dX;rw[Qb h k pj,fm];obtain⟨s,hs⟩:=dW nm k pj;have e1:nm.getD k ByteArray.empty=s:=by rw[cC,hs];rfl
  rw[e1]
  cases e:gW nm s k with
  |none=>rfl
  |some j=>
   exfalso;have p:∀m,gW nm s m=some j->nm.getD j ByteArray.empty=s/\j<m:=by
    intro m
    induction m with
    |zero=>intro g;cases g
    |succ m ih=>
     intro g;unfold gW at g;split at g;·rename_i d;cases g;exact⟨by apply oF;apply od.1;exact d,e_ _⟩
     ·have:=ih g;exact⟨this.1,pj⟩
   obtain⟨D,d⟩:=p k e;have q:=h k s hs;have r:=h j s (by rw[<-D,cC,cd pj];rfl);omega
mutual
def fH(cn rn:List ByteArray):aU->aU
 | .mk k s n d l=>.mk k s (if k=2 then dO cn s else if k=5 then dO rn s else n) d (acH cn rn l)
def acH(cn rn:List ByteArray):List aU->List aU
 | []=> []
 |x::l=>fH cn rn x::acH cn rn l
end
mutual
def okR(cn rn:List ByteArray):aU->Bool
 | .mk k s _ _ l=>(if k=2 then decide (0<=dO cn s)else if k=5 then decide (0<=dO rn s)else true)&&UZ cn rn l
def UZ(cn rn:List ByteArray):List aU->Bool
 | []=>true
 |x::l=>okR cn rn x&&UZ cn rn l
end
theorem BG(cn rn:List ByteArray)(x:aU):fH cn rn x=.mk x.kind x.name (if x.kind=2 then dO cn x.name else if x.kind=5 then dO rn x.name else x.n) x.d (acH cn rn x.l):=by cases x;rw[fH];rfl
theorem I9(cn rn:List ByteArray)(x:aU):okR cn rn x=((if x.kind=2 then decide (0<=dO cn x.name)else if x.kind=5 then decide (0<=dO rn x.name)else true)&&UZ cn rn x.l):=by cases x;rw[okR];rfl
theorem mg(cn rn:List ByteArray):∀l,acH cn rn l=l.map (fH cn rn)
 | []=>rfl
 |x::l=>by rw[acH,mg cn rn l];rfl
theorem qC(cn rn:List ByteArray):∀l,UZ cn rn l=l.all (okR cn rn)
 | []=>rfl
 |x::l=>by rw[UZ,qC cn rn l];rfl
def iW(cn rn tn:List ByteArray)(k:bK):bK:=if k.1=1 then(k.1,k.2.1,dO cn k.2.1)else if k.1=2 then(k.1,k.2.1,dO rn k.2.1)else if k.1=5 then(k.1,k.2.1,dO tn k.2.1)else k
def I_(cn rn tn:List ByteArray)(k:bK):Bool:=if k.1=1 then decide (0<=dO cn k.2.1)else if k.1=2 then decide (0<=dO rn k.2.1)else if k.1=5 then decide (0<=dO tn k.2.1)else true
section
open Go.RowKit Go.Shelf
attribute [local go_sem] cX
theorem ae4:(Tryz.prog.info? 9).map (fun i=>(i.zero,i.size,i.bytes))=some (some (.string ⟨#[]⟩),1,16):=pk
theorem Rj:iU 9 (Rep.sz ByteArray):=iU.mk' ae4 rfl pj
structure zS(w W wr:World)(R C:List Value)(v:Value)(l:List ByteArray):Prop where
 fr:Fr w wr ([(w.heap.size,R),(w.heap.size+1, [.slice none 0 0,.slice none 0 0,.slice none 0 0,.slice none 0 0])]++ [(w.heap.size+1+1,C)])
 own:bD ByteArray 9 wr [w.heap.size+1+1,w.heap.size+1] W.heap.size v l.length l
 kp:Keeps [w.heap.size+1+1] W wr
 hW:w.heap.size+3<=W.heap.size
section
variable {w W wr wz:World}{R C:List Value}{v:Value}{l:List ByteArray}
theorem zS.drew(h:zS w W wr R C v l):zS w W wr.drew R C v l:=⟨h.fr.drew,h.own.go pE.drew,h.kp.drew,h.hW⟩
theorem zS.start(h:Fr w wr ([(w.heap.size,R),(w.heap.size+1, [.slice none 0 0,.slice none 0 0,.slice none 0 0,.slice none 0 0])]++ [(w.heap.size+1+1,C)])):zS w wr wr R C (.slice none 0 0) []:=⟨h,bD.nil _ _ _,cG _ _,h.lt (w.heap.size+1+1) C po⟩
theorem zS.out(h:zS w W wr R C v l):∀b,b<=w.heap.size+1+1->b∉bP v:=fun b hb hm=>by have:=(h.own.lt (bJ.1 hm)).1;have:=h.hW;omega
theorem zS.sl(h:zS w W wr R C v l)(hn:l.length<=100000):∃A c,v=.slice A l.length c/\Sl ByteArray wr [w.heap.size+1+1,w.heap.size+1] A l.length c l:=h.own.sl pj (fun k hk=>by have:=h.hW;simp only[cD,eo,iB]at hk;omega)
theorem zS.step(h:zS w W wr R C v l)(x:ByteArray){j:Nat}{u0:Value}(hj:C[j]?=some u0)(hl:l.length<=100000):
 ∃v' wA,(Builtin.append_ #[195,195] 195 #[v,.slice (some ⟨wr,0,none⟩) 1 1]).run Tryz.prog (wr.alloc (.cells #[x] 9))=.ok v' wA/\Keeps (bP v) (wr.alloc (.cells #[x] 9)) wA/\Fr w wA ([(w.heap.size,R),(w.heap.size+1, [.slice none 0 0,.slice none 0 0,.slice none 0 0,.slice none 0 0])]++ [(w.heap.size+1+1,C)])/\zS w W (wA.setCell ⟨w+1+1,j,none⟩ v') R (C.set j v') v' (l++ [x]):=by
 have I:=h.fr.lt (w.heap.size+1+1) C po;obtain⟨v',wA,G,T,z,g,H⟩:=h.own.app1 (x:=x) (cs:= [x]) Tryz.underlying195 Rj h.kp.size (fun q d=>by simp only[cD,eo,iB]at d;omega) rfl hl;have t:=h.fr.ZI z (fun k m=>by have B:=(h.own.lt m).1;have D:=h.hW;refine⟨pj,fun b vs r e=>?_⟩;subst e;simp only[d_,df,cD,fc,eo,iB]at r;omega);refine⟨v',wA,G,H,t,⟨t.qY (fun c vs r e=>by subst e;simp only[cD,fc,eo,iB]at r;omega) hj v',?_,(h.kp.grown z (fun k m=>.inr (h.own.lt m).1)).setCell (p:=⟨_,j,none⟩) (.inl po) v',h.hW⟩⟩;have E:(l++ [x]).length=l.length+1:=po;rw[E];exact T.apart ((cG [w.heap.size+1+1] wA).setCell (p:=⟨w+1+1,j,none⟩) (.inl po) v') (fun q d=>by rw[bz]at d;subst d;exact cw) (fun q d e=>by
  rw[bz]at d;subst d;have D:=h.hW;rcases g with g|g;·rw[g]at e;have B:=(h.own.lt e).1;omega
  rw[g]at e;have:=fk e;omega)
end
structure JO(w:World)(M:List Nat)(r:aS)(s0 s1 s2 s3:dK):Prop where
 c:Sl ByteArray w M s0.A s0.n s0.c (dP r)
 i:Sl ByteArray w M s1.A s1.n s1.c (UG r)
 t:Sl ByteArray w M s2.A s2.n s2.c (jF r)
 r:Sl ByteArray w M s3.A s3.n s3.c (dQ r)
theorem qE{α:Type}{l:List α}{f:α->ByteArray}{x:α}(pre:List ByteArray)(h:l[k]?=some x):pre++(l.map f).take k++ [f x]=pre++(l.map f).take (k+1):=by rw[dm,cM,h,dz];rfl
theorem Rk{M:List Nat}{r:aS}{s1 s2 s3 s4 s5 s6 s7:dK}{w:World}(hr:dG w M r s1 s2 s3 s4 s5 s6 s7)(hlen:s1.n<=1000/\s2.n<=1000/\s3.n<=1000/\s4.n<=1000/\s5.n<=1000):
 Calls Tryz.prog 144 #[.agg (aV r s1 s2 s3 s4 s5 s6 s7).toArray] w fun e w'=>∃t0 t1 t2 t3:dK,e=.returned (.agg #[.slice t0.A t0.n t0.c,.slice t1.A t1.n t1.c,.slice t2.A t2.n t2.c,.slice t3.A t3.n t3.c])/\JO w' [] r t0 t1 t2 t3/\Below w w w':=by
 refine wid ?_;obtain⟨A1,J,c1⟩:=s1;obtain⟨A2,N,c2⟩:=s2;obtain⟨A3,O,c3⟩:=s3;obtain⟨A4,S,c4⟩:=s4;obtain⟨A5,T,c5⟩:=s5;have h1:Sl bT w M A1 J c1 r.aT:=hr.aT;have n1:=h1.len;have h2:Sl bW w M A2 N c2 r.bonus:=hr.bonus;have n2:=h2.len;have h3:Sl bW w M A3 O c3 r.malus:=hr.malus;have n3:=h3.len;have h4:Sl dA w M A4 S c4 r.ties:=hr.ties;have n4:=h4.len;have h5:Sl aJ w M A5 T c5 r.rounds:=hr.rounds;have n5:=h5.len;obtain⟨b1,b2,b3,b4,b5⟩:=hlen;have H:=oK h1 h2 h3 h4 h5;have HL:=oK n1 n2 n3 n4 n5;obtain⟨W1,ah,F1⟩:=dR (((Fr.nil w).a w (aV r ⟨A1,J,c1⟩ ⟨A2,N,c2⟩ ⟨A3,O,c3⟩ ⟨A4,S,c4⟩ ⟨A5,T,c5⟩ s6 s7) 28).a (w+1) [.slice none 0 0,.slice none 0 0,.slice none 0 0,.slice none 0 0] 196);obtain⟨W2,an,ai,F2⟩:=fP (w:=W1) (F1.a (w+1+1) [.slice none 0 0,.slice none 0 0,.slice none 0 0,.slice none 0 0] 196 (by rw[<-ah];simp));have N0:=Hd (zS.start F2);have z1:W1.heap.size=w.heap.size+1+1:=by rw[<-ah];simp
 refine op1 F2 ?_;intros;clear h1 h2 h3 h4 h5 n1 n2 n3 n4 n5 hr F1 F2 ai;refine ent Tryz.func144 Tryz.ntmps144 ?_;gi_wp2;gi_loopw[4] (fun i wr=>∃(k:Nat) (v:Value),k<=J/\i=.int .i64 k/\Hid (zS w W2 wr (aV r ⟨A1,J,c1⟩ ⟨A2,N,c2⟩ ⟨A3,O,c3⟩ ⟨A4,S,c4⟩ ⟨A5,T,c5⟩ s6 s7) [v,.slice none 0 0,.slice none 0 0,.slice none 0 0] v ([]++(r.aT.map (fun x=>x.1)).take k))) (fun i _=>J-(intOf i).toNat);case atStart=>exact⟨0,_,cf _,rfl,N0⟩
 case round=>
  obtain⟨k,v,hk,rfl,g⟩:=hrel;have p:=g.out.fr;refine op1 p ?_;intros;clear p;by_cases ab:k<J;·obtain⟨x,hx⟩:=dW r.aT k (by rw[HL.a];exact ab);obtain⟨b,o,es,rfl,aa,ad⟩:=H.a.get hx;obtain⟨rfl,-⟩:=lT aa;have D:w.cell? ⟨b,o+k*7,none⟩=some (.string x.1):=ad.2 0 _ rfl;have ag:b<w.heap.size:=bw w _ D;have e1:=(bq g.out.fr.bl []).cell po D;have E:=g.out.drew;obtain⟨wd,I⟩:=aC wr.drew;rw[I]at E;obtain⟨v',wA,r1,r5,Z,z⟩:=E.step x.1 (j:=0) (u0:=v) rfl (by simp only[cJ,ck,cI,gD];have:=HL.out;omega);rw[qE [] hx]at z;obtain⟨A',c',ae⟩:=z.own.shape;obtain⟨n',ac⟩:=aC (List.length ([]++(r.aT.map (fun x=>x.1)).take (k+1)));rw[ac]at ae;subst ae;have u1:=aF (b:=w+1+1) (g.out.out _ pj) (g.out.fr.aQ 2 0);have u2:=aF (b:=w) (g.out.out _ pj) (g.out.fr.aQ 0 1);exact uX
  ·obtain rfl:J=k:=pj;clear hk ab;have B:zS w W2 wr (aV r ⟨A1,J,c1⟩ ⟨A2,N,c2⟩ ⟨A3,O,c3⟩ ⟨A4,S,c4⟩ ⟨A5,T,c5⟩ s6 s7) [v,.slice none 0 0,.slice none 0 0,.slice none 0 0] v (dP r):=by have h:=g.out;rw[df,bR (by rw[ck,HL.a];exact bj _)]at h;exact h
   obtain⟨D0,d0,rfl,Y⟩:=B.sl (by rw[ck,HL.a];omega);obtain⟨m0,aj⟩:=aC (List.length (dP r));have X:=B.fr;rw[aj]at Y X;have G0:=Hd Y;have N1:=Hd (zS.start X);clear B X Y g;obtain⟨V1,rfl⟩:∃V,V=wr:=⟨_,rfl⟩;gi_wp2;gi_loopw[5] (fun i wr=>∃(k:Nat) (v:Value),k<=N/\i=.int .i64 k/\Hid (zS w V1 wr (aV r ⟨A1,J,c1⟩ ⟨A2,N,c2⟩ ⟨A3,O,c3⟩ ⟨A4,S,c4⟩ ⟨A5,T,c5⟩ s6 s7) [.slice D0 m0 d0,v,.slice none 0 0,.slice none 0 0] v ([]++(r.bonus.map (fun x=>x.1)).take k))) (fun i _=>N-(intOf i).toNat);case atStart=>exact⟨0,_,cf _,rfl,N1⟩
   case round=>
    obtain⟨k,v,hk,rfl,g⟩:=hrel;have p:=g.out.fr;refine op1 p ?_;intros;clear p;by_cases ab:k<N;·obtain⟨x,hx⟩:=dW r.bonus k (by rw[HL.b];exact ab);obtain⟨b,o,es,rfl,aa,ad⟩:=H.b.get hx;obtain⟨rfl,-⟩:=aaI aa;have D:w.cell? ⟨b,o+k*3,none⟩=some (.string x.1):=ad.2 0 _ rfl;have ag:b<w.heap.size:=bw w _ D;have e1:=(bq g.out.fr.bl []).cell po D;have E:=g.out.drew;obtain⟨wd,I⟩:=aC wr.drew;rw[I]at E;obtain⟨v',wA,r1,r5,Z,z⟩:=E.step x.1 (j:=1) (u0:=v) rfl (by simp only[cJ,ck,cI,gD];have:=HL.out;omega);rw[qE [] hx]at z;obtain⟨A',c',ae⟩:=z.own.shape;obtain⟨n',ac⟩:=aC (List.length ([]++(r.bonus.map (fun x=>x.1)).take (k+1)));rw[ac]at ae;subst ae;have u1:=aF (b:=w+1+1) (g.out.out _ pj) (g.out.fr.aQ 2 1);have u2:=aF (b:=w) (g.out.out _ pj) (g.out.fr.aQ 0 2);exact uX
    ·obtain rfl:N=k:=pj;clear hk ab;have N2:=Hd (show zS w V1 wr (aV r ⟨A1,J,c1⟩ ⟨A2,N,c2⟩ ⟨A3,O,c3⟩ ⟨A4,S,c4⟩ ⟨A5,T,c5⟩ s6 s7) [.slice D0 m0 d0,v,.slice none 0 0,.slice none 0 0] v (r.bonus.map (fun x=>x.1)++(r.malus.map (fun x=>x.1)).take 0)from by have h:=g.out;rw[df,bR (by rw[ck,HL.b];exact bj _)]at h;rw[fT,dx];exact h);clear g;gi_wp2;gi_loopw[6] (fun i wr=>∃(k:Nat) (v:Value),k<=O/\i=.int .i64 k/\Hid (zS w V1 wr (aV r ⟨A1,J,c1⟩ ⟨A2,N,c2⟩ ⟨A3,O,c3⟩ ⟨A4,S,c4⟩ ⟨A5,T,c5⟩ s6 s7) [.slice D0 m0 d0,v,.slice none 0 0,.slice none 0 0] v ((r.bonus.map (fun x=>x.1))++(r.malus.map (fun x=>x.1)).take k))) (fun i _=>O-(intOf i).toNat);case atStart=>exact⟨0,_,cf _,rfl,N2⟩
     case round=>
      obtain⟨k,v,hk,rfl,g⟩:=hrel;have p:=g.out.fr;refine op1 p ?_;intros;clear p;by_cases ab:k<O;·obtain⟨x,hx⟩:=dW r.malus k (by rw[HL.c];exact ab);obtain⟨b,o,es,rfl,aa,ad⟩:=H.c.get hx;obtain⟨rfl,-⟩:=aaI aa;have D:w.cell? ⟨b,o+k*3,none⟩=some (.string x.1):=ad.2 0 _ rfl;have ag:b<w.heap.size:=bw w _ D;have e1:=(bq g.out.fr.bl []).cell po D;have E:=g.out.drew;obtain⟨wd,I⟩:=aC wr.drew;rw[I]at E;obtain⟨v',wA,r1,r5,Z,z⟩:=E.step x.1 (j:=1) (u0:=v) rfl (by simp only[cJ,ck,cI,gD];have:=HL.out;omega);rw[qE (r.bonus.map (fun x=>x.1)) hx]at z;obtain⟨A',c',ae⟩:=z.own.shape;obtain⟨n',ac⟩:=aC (List.length ((r.bonus.map (fun x=>x.1))++(r.malus.map (fun x=>x.1)).take (k+1)));rw[ac]at ae;subst ae;have u1:=aF (b:=w+1+1) (g.out.out _ pj) (g.out.fr.aQ 2 1);have u2:=aF (b:=w) (g.out.out _ pj) (g.out.fr.aQ 0 3);exact uX
      ·obtain rfl:O=k:=pj;clear hk ab;have B:zS w V1 wr (aV r ⟨A1,J,c1⟩ ⟨A2,N,c2⟩ ⟨A3,O,c3⟩ ⟨A4,S,c4⟩ ⟨A5,T,c5⟩ s6 s7) [.slice D0 m0 d0,v,.slice none 0 0,.slice none 0 0] v (UG r):=by have h:=g.out;rw[bR (by rw[ck,HL.c];exact bj _)]at h;rw[<-ed]at h;exact h
       obtain⟨D1,d1,rfl,Y⟩:=B.sl (by rw[ck,cJ,HL.b,HL.c];omega);obtain⟨m1,ak⟩:=aC (List.length (UG r));have X:=B.fr;rw[ak]at Y X;have G1:=Hd Y;have N3:=Hd (zS.start X);have G0:=Hd (G0.out.keep (B.kp.mono (fun q G=>by rw[bz]at G;subst G;exact cw)));clear B X Y g;obtain⟨V3,rfl⟩:∃V,V=wr:=⟨_,rfl⟩;gi_wp2;gi_loopw[7] (fun i wr=>∃(k:Nat) (v:Value),k<=S/\i=.int .i64 k/\Hid (zS w V3 wr (aV r ⟨A1,J,c1⟩ ⟨A2,N,c2⟩ ⟨A3,O,c3⟩ ⟨A4,S,c4⟩ ⟨A5,T,c5⟩ s6 s7) [.slice D0 m0 d0,.slice D1 m1 d1,v,.slice none 0 0] v ([]++(r.ties.map (fun x=>x.1)).take k))) (fun i _=>S-(intOf i).toNat);case atStart=>exact⟨0,_,cf _,rfl,N3⟩
       case round=>
        obtain⟨k,v,hk,rfl,g⟩:=hrel;have p:=g.out.fr;refine op1 p ?_;intros;clear p;by_cases ab:k<S;·obtain⟨x,hx⟩:=dW r.ties k (by rw[HL.d];exact ab);obtain⟨b,o,es,rfl,aa,ad⟩:=H.d.get hx;obtain⟨_,_,_,rfl,-⟩:=vJ aa;have D:w.cell? ⟨b,o+k*2,none⟩=some (.string x.1):=ad.2 0 _ rfl;have ag:b<w.heap.size:=bw w _ D;have e1:=(bq g.out.fr.bl []).cell po D;have E:=g.out.drew;obtain⟨wd,I⟩:=aC wr.drew;rw[I]at E;obtain⟨v',wA,r1,r5,Z,z⟩:=E.step x.1 (j:=2) (u0:=v) rfl (by simp only[cJ,ck,cI,gD];have:=HL.out;omega);rw[qE [] hx]at z;obtain⟨A',c',ae⟩:=z.own.shape;obtain⟨n',ac⟩:=aC (List.length ([]++(r.ties.map (fun x=>x.1)).take (k+1)));rw[ac]at ae;subst ae;have u1:=aF (b:=w+1+1) (g.out.out _ pj) (g.out.fr.aQ 2 2);have u2:=aF (b:=w) (g.out.out _ pj) (g.out.fr.aQ 0 4);exact uX
        ·obtain rfl:S=k:=pj;clear hk ab;have B:zS w V3 wr (aV r ⟨A1,J,c1⟩ ⟨A2,N,c2⟩ ⟨A3,O,c3⟩ ⟨A4,S,c4⟩ ⟨A5,T,c5⟩ s6 s7) [.slice D0 m0 d0,.slice D1 m1 d1,v,.slice none 0 0] v (jF r):=by have h:=g.out;rw[df,bR (by rw[ck,HL.d];exact bj _)]at h;exact h
         obtain⟨D2,d2,rfl,Y⟩:=B.sl (by rw[ck,HL.d];omega);obtain⟨m2,al⟩:=aC (List.length (jF r));have X:=B.fr;rw[al]at Y X;have G2:=Hd Y;have N4:=Hd (zS.start X);have G0:=Hd (G0.out.keep (B.kp.mono (fun q G=>by rw[bz]at G;subst G;exact cw)));have G1:=Hd (G1.out.keep (B.kp.mono (fun q G=>by rw[bz]at G;subst G;exact cw)));clear B X Y g;obtain⟨V4,rfl⟩:∃V,V=wr:=⟨_,rfl⟩;gi_wp2;gi_loopw[8] (fun i wr=>∃(k:Nat) (v:Value),k<=T/\i=.int .i64 k/\Hid (zS w V4 wr (aV r ⟨A1,J,c1⟩ ⟨A2,N,c2⟩ ⟨A3,O,c3⟩ ⟨A4,S,c4⟩ ⟨A5,T,c5⟩ s6 s7) [.slice D0 m0 d0,.slice D1 m1 d1,.slice D2 m2 d2,v] v ([]++(r.rounds.map (fun x=>x.1)).take k))) (fun i _=>T-(intOf i).toNat);case atStart=>exact⟨0,_,cf _,rfl,N4⟩
         case round=>
          obtain⟨k,v,hk,rfl,g⟩:=hrel;have p:=g.out.fr;refine op1 p ?_;intros;clear p;by_cases ab:k<T;·obtain⟨x,hx⟩:=dW r.rounds k (by rw[HL.x];exact ab);obtain⟨b,o,es,rfl,aa,ad⟩:=H.x.get hx;obtain⟨_,_,_,rfl,-⟩:=jg aa;have D:w.cell? ⟨b,o+k*13,none⟩=some (.string x.1):=ad.2 0 _ rfl;have ag:b<w.heap.size:=bw w _ D;have e1:=(bq g.out.fr.bl []).cell po D;have E:=g.out.drew;obtain⟨wd,I⟩:=aC wr.drew;rw[I]at E;obtain⟨v',wA,r1,r5,Z,z⟩:=E.step x.1 (j:=3) (u0:=v) rfl (by simp only[cJ,ck,cI,gD];have:=HL.out;omega);rw[qE [] hx]at z;obtain⟨A',c',ae⟩:=z.own.shape;obtain⟨n',ac⟩:=aC (List.length ([]++(r.rounds.map (fun x=>x.1)).take (k+1)));rw[ac]at ae;subst ae;have u1:=aF (b:=w+1+1) (g.out.out _ pj) (g.out.fr.aQ 2 3);have u2:=aF (b:=w) (g.out.out _ pj) (g.out.fr.aQ 0 5);exact uX
          ·obtain rfl:T=k:=pj;clear hk ab;have B:zS w V4 wr (aV r ⟨A1,J,c1⟩ ⟨A2,N,c2⟩ ⟨A3,O,c3⟩ ⟨A4,S,c4⟩ ⟨A5,T,c5⟩ s6 s7) [.slice D0 m0 d0,.slice D1 m1 d1,.slice D2 m2 d2,v] v (dQ r):=by have h:=g.out;rw[df,bR (by rw[ck,HL.x];exact bj _)]at h;exact h
           obtain⟨D3,d3,rfl,Y⟩:=B.sl (by rw[ck,HL.x];omega);obtain⟨m3,am⟩:=aC (List.length (dQ r));have X:=B.fr;rw[am]at Y X;have G3:=Hd Y;have G0:=Hd (G0.out.keep (B.kp.mono (fun q G=>by rw[bz]at G;subst G;exact cw)));have G1:=Hd (G1.out.keep (B.kp.mono (fun q G=>by rw[bz]at G;subst G;exact cw)));have G2:=Hd (G2.out.keep (B.kp.mono (fun q G=>by rw[bz]at G;subst G;exact cw)));have N4:=Hd X;clear B X Y g;obtain⟨V5,rfl⟩:∃V,V=wr:=⟨_,rfl⟩;gi_wp2;refine(fun(h:∀U,fM V5 (w.heap.size+1) 0 [.slice D0 m0 d0,.slice D1 m1 d1,.slice D2 m2 d2,.slice D3 m3 d3]=U->bodyPost _ _ _ _ _ U)=>h _ rfl) ?_;intro U hU;have hc:=iO (vs:= [.slice none 0 0,.slice none 0 0,.slice none 0 0,.slice none 0 0]) (us:= [.slice D0 m0 d0,.slice D1 m1 d1,.slice D2 m2 d2,.slice D3 m3 d3]) (fun i u hu=>N4.out.at_ (w.heap.size+1) [.slice none 0 0,.slice none 0 0,.slice none 0 0,.slice none 0 0] po i u hu) rfl hU;have z0:=(hc.1 0 _ rfl).1;have z1:=(hc.1 1 _ rfl).1;have z2:=(hc.1 2 _ rfl).1;have z3:=(hc.1 3 _ rfl).1;have kk:Keeps [w.heap.size+1+1,w.heap.size+1] V5 U:=hc.2.k.mono (fun q G=>bE _ G);exact⟨rfl,.agg #[.slice D0 m0 d0,.slice D1 m1 d1,.slice D2 m2 d2,.slice D3 m3 d3],by simp[results,go_sem,z0,z1,z2,z3],⟨D0,m0,d0⟩,⟨D1,m1,d1⟩,⟨D2,m2,d2⟩,⟨D3,m3,d3⟩,rfl,⟨(G0.out.keep kk).less po,(G1.out.keep kk).less po,(G2.out.keep kk).less po,(G3.out.keep kk).less po⟩,N4.out.bl.trans (hc.2.bl.mono pj)⟩
end
section
namespace U
open Go.RowKit Go.Shelf
structure Keeps(s:Nat)(w w':World):Prop where
 size:w.heap.size<=w'.heap.size
 block:∀k,k<w.heap.size->k<s->w'.heap[k]?=w.heap[k]?
theorem cG(s:Nat)(w:World):Keeps s w w:=⟨bj _,fun _ _ _=>rfl⟩
theorem Keeps.trans{s:Nat}{w w' w'':World}(h:Keeps s w w')(h':Keeps s w' w''):Keeps s w w'':=⟨cF h.size h'.size,fun k hk hm=>(h'.block k (bX hk h.size) hm).trans (h.block k hk hm)⟩
theorem bq{w:World}(h:Below w w w')(s:Nat):Keeps s w w':=⟨h.size,fun k hk _=>h.block k hk⟩
theorem Keeps.sU{w:World}(h:Go.Proofs.YtfdmnogfflcllaaGreatDoor.Keeps [y] w w')(hy:s<=y):Keeps s w w':=⟨h.size,fun k hk hs=>h.block k hk px⟩
theorem X5{w:World}{o:Nat}(h:w.cell? ⟨b,o,none⟩=some u):∀w',Keeps w.heap.size w.drew w'->w'.cell? ⟨b,o,none⟩=some u:=fun w' k=>by have hl:b<w.heap.size:=bw w _ h;have:=k.block b hl hl;rw[<-h];simp only[World.cell?,this];rfl
theorem bQ{w:World}{o:Nat}(hs:w.heap.size=s)(h:w.cell? ⟨b,o,none⟩=some u):∀w',Keeps s w.drew w'->w'.cell? ⟨b,o,none⟩=some u:=by subst hs;exact X5 h
section
variable {F:Fence}{n:Nat}{P:Program}{Mr:Nat}{md:Region.Mode}{ops:Array Oper}{Q:Exit→Act→World→Prop}
def nX(P:Program)(Mr:Nat)(o:Oper)(a:Act)(w:World)(v:Value):Prop:=∀w',Keeps Mr w w'->(execOp a.eval o).run P w'=.ok (.value v) w'
theorem uf{P:Program}{Mr:Nat}{w:World}{v:Value}(h:∀w',Keeps Mr w w'->∀Z:Result Next->Prop,Z (.ok (.value v) w')->Z ((execOp a.eval o).run P w')):nX P Mr o a w v:=fun w' hk=>h w' hk (fun r=>r=.ok (.value v) w') rfl
def dw(P:Program)(Mr:Nat)(ops:Array Oper)(o:Oper)(v:Value)(a:Act)(w:World):Prop:=(Region.wanted o (yielded ops a.tmps)=true/\nX P Mr o a w v)\/(Region.wanted o (yielded ops a.tmps)=false/\v=undef)
theorem dw.wpOpIn{i:Nat}{o:Oper}{v:Value}{a:Act}{w:World}(hm:Oper.mild o=true)(hi:ops[i]?=some o)(hy:dw P Mr ops o v a w)
 {K:Act->World->Prop}(h:K (a.put o.dst v) w):wpOpIn F n P ops Q i K a w:=by
 unfold Go.wpOpIn;simp only[hi];rcases hy with⟨I,d⟩|⟨I,rfl⟩;·simp only[I,mf,Oper.wpIn,sF hm,d w (cG _ _),Oper.uponIn];exact⟨jP hm w _,h⟩
 ·simp only[I,gm,oB];exact⟨jP hm w _,h⟩
theorem dw.of_same{v:Value}{w:World}(hy:dw P Mr ops o v a w)(he:execOp a'.eval o=execOp a.eval o)
 (hw:Region.wanted o (yielded ops a'.tmps)=Region.wanted o (yielded ops a.tmps)):dw P Mr ops o v a' w:=by
 unfold dw nX at*;rw[he,hw];exact hy
theorem dw.later{v:Value}{w:World}(hy:dw P Mr ops o v a w)(hk:Keeps Mr w w'):dw P Mr ops o v a w':=by
 rcases hy with⟨I,e⟩|h;·exact .inl ⟨I,fun g d=>e g (hk.trans d)⟩
 exact .inr h
theorem sG{oj:Oper}{v:Value}(hnd:∀c,oj.op≠.defer c)(hj:ops[j]?=some oj)(hap:oi.apart ops oj=true)
 (hsi:∀cs b,oi.op≠.select cs b) (hsj:∀cs b,oj.op≠.select cs b)
 (hQ:∀c a w,Q (.panic c) (a.put oi.dst v) w->Q (.panic c) a w) {K:Act->World->Prop}{w W:World}
 (hy:dw P Mr ops oi v a W) (h:wpOpIn F n P ops Q j K (a.put oi.dst v) w):
 wpOpIn F n P ops Q j (fun a' w'=>dw P Mr ops oi v a' W/\K (a'.put oi.dst v) w') a w:=by
 obtain⟨p,m,q⟩:=Oper.apart_spec hap;have keep:∀(a:Act),dw P Mr ops oi v a W->∀u,dw P Mr ops oi v (a.put oj.dst u) W:=fun a hy u=>hy.of_same (execOp_put oi hsi a oj.dst u q) (wanted_put oi a oj.dst u q);unfold wpOpIn at*
 simp only[hj]at*
 rw[wanted_put oj a oi.dst v p,about_put oj w a oi.dst v p]at h;split
 ·rename_i hw;simp only[hw,mf]at h;unfold Oper.wpIn at*;rw[about_put oj w a oi.dst v p]at h;refine⟨h.1,?_⟩;have h:=h.2;rw[Oper.semAt_eq _ _ _ hnd,execOp_put oj hsj a oi.dst v p]at h;rw[Oper.semAt_eq _ _ _ hnd];generalize (execOp a.eval oj).run P w=r at*
  cases r with
  |ok x w'=>
   cases x<;>simp only[Oper.uponIn]at h |-
   case value u=>exact⟨keep a hy u,by rw[<-mS a v u m];exact h⟩
   case skip=>exact⟨keep a hy _,by rw[<-mS a v undef m];exact h⟩
   case defer d=>refine⟨keep { a with defers:=d::a.defers } (hy.of_same rfl rfl) _,?_⟩;rw[<-mS _ v undef m,<-Act.put_defers];exact h
   case enter f args=>refine⟨h.1,CallsIn.mono h.2 fun e t g=>?_⟩;exact GV
   case row row args=>exact⟨h.1,RowsIn.mono h.2 fun u t g=>⟨keep a hy u,by rw[<-mS a v u m];exact g⟩⟩
   case round l f tmps assign body=>refine⟨h.1,RoundIn.mono h.2 fun e t g=>?_⟩;exact GV
  |halt x w'=>exact Xd
 ·rename_i hw;simp only[hw]at h;exact⟨h.1,keep a hy _,by rw[<-mS a v undef m];exact h.2⟩
def jQ(F:Fence)(n:Nat)(P:Program)(Mr:Nat)(md:Region.Mode)(ops:Array Oper)(Q:Exit->Act->World->Prop)(n0:Nat)(L:Array Bool->Act->World->Prop):Nat->Array Bool->Act->World->Prop
 |0,listed,a,w=>L listed a w
 |f+1,listed,a,w=>
  Region.ready md ops listed≠ []/\
  ∀i∈Region.ready md ops listed,i<n0/\wpOpIn F n P ops Q i (fun a' w'=>Keeps Mr w w'/\jQ F n P Mr md ops Q n0 L f (listed.setIfInBounds i true) a' w') a w
theorem iK{n0 g:Nat}{L:Array Bool->Act->World->Prop}(hL:∀listed a w,L listed a w->wpAnyIn F n P md ops Q g listed a w):
 ∀(f:Nat) (listed:Array Bool) (a:Act) (w:World),jQ F n P Mr md ops Q n0 L f listed a w->wpAnyIn F n P md ops Q (f+g) listed a w
 |0,listed,a,w,h=>by rw[dC];exact hL _ _ _ h
 |f+1,listed,a,w,h=>by exact Hu
theorem ni{v:Value}{L:Array Bool->Act->World->Prop}(hm:Oper.mild oi=true)(hi:ops[i]?=some oi)
 (hsel:∀(j:Nat) (o:Oper) cs b,ops[j]?=some o->o.op≠.select cs b) (hdef:uh ops=true)
 (hQ:∀c a w,Q (.panic c) (a.put oi.dst v) w->Q (.panic c) a w)
 (ht:kZ md ops n0=true) (hin:i<n0) (hdone:∀listed a w,L listed a w->∀j∈Region.ready md ops listed,n0<=j):
 ∀(f:Nat) (listed:Array Bool) (a:Act) (w:World),HeadInv md ops n0 listed->
  (∀j oj,ops[j]?=some oj->j≠i->listed.getD j true=false->(∀e∈oj.after,Region.binds md e=true->e.on≠i)->oi.apart ops oj=true)->
  i∈Region.ready md ops listed->dw P Mr ops oi v a w->
  jQ F n P Mr md ops Q n0 L f (listed.setIfInBounds i true) (a.put oi.dst v) w->jQ F n P Mr md ops Q n0 L (f+1) listed a w:=by
 intro f
 induction f with
 |zero=>
  intro listed a w D _ g B H;have p:=(mem_ready.1 g).1;refine⟨fun h=>(by rw[h]at g;cases g),fun j m=>?_⟩;have x:=wV ht D hin p j m;refine⟨x,?_⟩;by_cases d:j=i;·subst d;exact B.wpOpIn hm hi ⟨cG _ _,H⟩
  ·have:=hdone _ _ _ H j (ready_mono m d);omega
 |succ f ih=>
  intro listed a w D E g B H;have p:=(mem_ready.1 g).1;refine⟨fun h=>(by rw[h]at g;cases g),fun j m=>?_⟩;have x:=wV ht D hin p j m;refine⟨x,?_⟩;by_cases d:j=i;·subst d;exact B.wpOpIn hm hi ⟨cG _ _,H⟩
  ·have r:=(H.2 j (ready_mono m d)).2;obtain⟨I,oj,z,K⟩:=mem_ready.1 m;have X:∀e∈oj.after,Region.binds md e=true->e.on≠i:=fun e N hb O=>by
    have r:=K e N hb;rw[O,getD_both p]at r;cases r
   have J:=sG (W:=w) (wU hdef j oj z) z (E j oj z d I X) (fun cs b=>hsel i oi cs b hi) (fun cs b=>hsel j oj cs b z) hQ B r
   have S:∀k q,ops[k]?=some q->k≠i->(listed.setIfInBounds j true).getD k true=false->
    (∀e∈q.after,Region.binds md e=true->e.on≠i)->oi.apart ops q=true:=fun k q T V p hno=>by
    refine E k q T V ?_ hno;by_cases G:j=k;·subst G;exact I
    ·rw[getD_set_ne true G]at p;exact p
   refine wpOpIn_mono (fun a' w' t=>⟨t.2.1,ih (listed.setIfInBounds j true) a' w' (D.set m x) S (ready_mono g (Ne.symm d)) (t.1.later t.2.1) ?_⟩) J;rw[Array.setIfInBounds_comm _ _ d];exact t.2.2
end
section
variable {F:Fence}{n:Nat}{P:Program}{Mr:Nat}{Q:Exit→Act→World→Prop}
def qh(F:Fence)(n:Nat)(P:Program)(Mr:Nat)(ops:Array Oper)(Q:Exit->Act->World->Prop)(n0 f:Nat)(listed:Array Bool)(a:Act)(w:World):Prop:=jQ F n P Mr .any ops Q n0 (Lh F n P ops Q n0) f listed a w
theorem BR(Mr:Nat){ops:Array Oper}{w:World}(n0:Nat)(hm:P.follows .mixedOrders=true)(hok:um ops n0=true)
 (h:qh F n P Mr ops Q n0 n0 (Array.replicate ops.size false) a w.drew):(Code.region id ops true).wpIn F n P Q a w:=by
 simp only[um,cS,ef]at hok;refine wpIn_region_any hm ?_;have:=iK (g:=ops.size-n0) (fun l a w r=>by obtain⟨rfl,d⟩:=r;exact iT _ _ _ a w hok.2 d) _ _ _ _ h
 rwa [show n0+(ops.size-n0)=ops.size by omega]at this
theorem aP(Mr:Nat){ops:Array Oper}{w:World}(n0:Nat)(hm:P.follows .mixedOrders=true)(hok:um ops n0=true)
 (h:qh F n P Mr ops (cu Q) n0 n0 (Array.replicate ops.size false) a w.drew):(Code.region id ops true).wpIn F n P Q a w:=
 wpIn_mono (BR Mr n0 hm hok h) (fun e a w h=>by cases e<;>first|exact h|exact h.elim)
theorem FN{ops:Array Oper}{w:World}(g:Nat)(hl:listed=qO ops n0)(hg:ops.size-n0=g)(h:wpOpsIn F n P ops Q (List.range' n0 g) a w):qh F n P Mr ops Q n0 0 listed a w:=⟨hl,by rw[hg];exact h⟩
theorem Nz{l:List Oper}{w:World}(i:Nat)(hok:yO l.toArray n0 listed i=true)(ho:l[i]?=some o)(hm:Oper.mild o=true)
 (hw:Region.wanted o (yielded l.toArray a.tmps)=true) (hQ:∀d v c a w,Q (.panic c) (a.put d v) w->Q (.panic c) a w)
 (h:∃v,(∀w',Keeps Mr w w'->∀Z:Result Next->Prop,Z (.ok (.value v) w')->Z ((execOp a.eval o).run P w'))/\qh F n P Mr l.toArray Q n0 f (listed.setIfInBounds i true) (a.put o.dst v) w):
 qh F n P Mr l.toArray Q n0 (f+1) listed a w:=by
 simp only[yO,cS,ef]at hok;obtain⟨⟨⟨⟨⟨⟨⟨g,m⟩,h3⟩,h4⟩,h5⟩,h6⟩,h7⟩,h8⟩:=hok;have e:l.toArray[i]?=some o:=by rw[List.getElem?_toArray];exact ho
 obtain⟨v,q,hx⟩:=h;exact ni hm e (Region.noSelect_spec h5) h6 (fun c a w=>hQ _ _ c a w) h7 m (fun t a w r j p=>by obtain⟨rfl,_⟩:=r;simpa using cT.1 h8 j p) _ listed a w (JV g) (Region.free_spec e h4) (by simpa using h3) (.inl ⟨hw,uf q⟩) hx
def vG(F:Fence)(n:Nat)(P:Program)(Mr:Nat)(ops:Array Oper)(Q:Exit->Act->World->Prop)(n0 f:Nat)(listed:Array Bool)(a:Act)(w:World):List Nat->Prop
 | []=>True
 |i::r=>(i<n0/\wpOpIn F n P ops Q i (fun a' w'=>Keeps Mr w w'/\qh F n P Mr ops Q n0 f (listed.setIfInBounds i true) a' w') a w)/\vG F n P Mr ops Q n0 f listed a w r
theorem oQ{ops:Array Oper}{w:World}(i:Nat)(r:List Nat)(hr:Region.ready .any ops listed=i::r)(h:vG F n P Mr ops Q n0 f listed a w (i::r)):
 qh F n P Mr ops Q n0 (f+1) listed a w:=by
 refine⟨by rw[hr];simp,?_⟩;rw[hr];have:∀(l:List Nat),vG F n P Mr ops Q n0 f listed a w l->∀j∈l,j<n0/\wpOpIn F n P ops Q j (fun a' w'=>Keeps Mr w w'/\qh F n P Mr ops Q n0 f (listed.setIfInBounds j true) a' w') a w:=by
  intro l
  induction l with
  |nil=>intro _ j d;cases d
  |cons k r ih=>
   intro h j d;rcases cD.1 d with e|e;·subst e;exact h.1
   ·exact ih h.2 j e
 exact this _ h
theorem gU{ops:Array Oper}{w:World}:vG F n P Mr ops Q n0 f listed a w []:=trivial
theorem dN{l:List Oper}{w:World}{r:List Nat}(hi:i<n0)(ho:l[i]?=some o)(hw:Region.wanted o (yielded l.toArray a.tmps)=true)
 (h:∀K:Act->World->Prop,(∀a' w',Keeps Mr w w'/\qh F n P Mr l.toArray Q n0 f (listed.setIfInBounds i true) a' w'->K a' w')->o.wpIn F n P a w K Q)
 (hr:vG F n P Mr l.toArray Q n0 f listed a w r):vG F n P Mr l.toArray Q n0 f listed a w (i::r):=by
 refine⟨⟨hi,?_⟩,hr⟩;unfold wpOpIn;rw[List.getElem?_toArray,ho];simp only[hw,mf];exact h _ (fun _ _ h=>h)
end
attribute [irreducible] qh vG dw nX
section
variable {F:Fence}{n:Nat}{P:Program}{Mr:Nat}{Q:Exit→Act→World→Prop}
theorem ay{l:List Oper}{listed':Array Bool}{w:World}(i:Nat){v:Value}(h:U.qh F n P Mr l.toArray (cu Q) n0 f listed' a' w)
 (hok:yO l.toArray n0 listed i=true:=by kernel_rfl) (ho:l[i]?=some o:=by exact rfl) (hm:Oper.mild o=true:=by exact rfl)
 (hw:Region.wanted o (yielded l.toArray a.tmps)=true:=by exact AX)
 (hv:∀w',U.Keeps Mr w w'->∀Z:Result Next->Prop,Z (.ok (.value v) w')->Z ((execOp a.eval o).run P w'):=by exact Ub)
 (ha:a.put o.dst v=a':=by((try simp only[Act.put,eN,fq,eM]);(first|done|exact rfl)))
 (hl:listed.setIfInBounds i true=listed':=by((try simp only[Act.put,eN,fq,eM]);(first|done|exact rfl))):
 U.qh F n P Mr l.toArray (cu Q) n0 (f+1) listed a w:=
 U.Nz i hok ho hm hw BU ⟨v,hv,by rw[ha,hl];exact h⟩
theorem eU{l:List Oper}{w:World}(i:Nat)
 (h:∀K:Act->World->Prop,(∀a' w',U.Keeps Mr w w'/\U.qh F n P Mr l.toArray Q n0 f (listed.setIfInBounds i true) a' w'->K a' w')->o.wpIn F n P a w K Q)
 (hr:Region.ready .any l.toArray listed= [i]:=by kernel_rfl) (hi:i<n0:=by decide) (ho:l[i]?=some o:=by exact rfl)
 (hw:Region.wanted o (yielded l.toArray a.tmps)=true:=by exact AX):
 U.qh F n P Mr l.toArray Q n0 (f+1) listed a w:=
 U.oQ i [] hr (U.dN hi ho hw h U.gU)
theorem iq{ops:Array Oper}{w:World}(g:Nat)(h:wpOpsIn F n P ops Q (List.range' n0 g) a w)(hl:listed=qO ops n0:=by kernel_rfl)(hg:ops.size-n0=g:=by exact rfl):U.qh F n P Mr ops Q n0 0 listed a w:=U.FN g hl hg h
end
end U
end
section
open Go.RowKit Go.Shelf
attribute [local go_sem] cX
theorem JO.go{w w':World}{M:List Nat}{r:aS}{t0 t1 t2 t3:dK}(h:JO w M r t0 t1 t2 t3)(hb:Below w w w'):JO w' M r t0 t1 t2 t3:=⟨h.c.go hb,h.i.go hb,h.t.go hb,h.r.go hb⟩
abbrev zE:List Value:= [.int .i64 0,.string ⟨#[]⟩,.int .i64 0,.int .i64 0,.slice none 0 0]
abbrev Af(t0 t1 t2 t3:dK):List Value:= [.slice t0.A t0.n t0.c,.slice t1.A t1.n t1.c,.slice t2.A t2.n t2.c,.slice t3.A t3.n t3.c]
theorem Fr.abt{w V U:World}{vs:List Value}(h:Fr w V [(y,vs)])(hl:us.length=vs.length)(hU:fM V y 0 us=U):Fr w U [(y,us)]/\KB y V U:=by
 have d:(y,vs)∈ [(y,vs)]:=bz.2 rfl;obtain⟨K,kb⟩:=iO (fun i u p=>h.at_ y vs d i u p) hl hU;have e:=h.ge y vs d;refine⟨⟨h.bl.trans (kb.bl.mono e),fun b g hb=>?_,fun b g hb=>?_,fun b g hb=>?_⟩,kb⟩<;>(rw[bz,fc]at hb;obtain⟨rfl,rfl⟩:=hb)
 ·exact K
 ·exact bX (h.lt _ _ d) kb.k.size
 exact e
structure GH(w W wr:World)(LC XC:List Value)(M:List Nat)(v:Value)(l:List aU):Prop where
 fr:Fr w wr [(w.heap.size,LC),(w.heap.size+1,XC),(w.heap.size+1+1,zE)]
 own:bD aU 66 wr ((w.heap.size+1)::(w.heap.size+1+1)::M) W.heap.size v l.length l
 kp:W.heap.size<=wr.heap.size
 hW:w.heap.size+3<=W.heap.size
 bM:∀q,q∈M->q<w.heap.size
section
variable {w W wr wz:World}{LC XC:List Value}{M:List Nat}{v:Value}{l:List aU}
theorem GH.go(h:GH w W wr LC XC M v l)(hb:Below wr wr wz):GH w W wz LC XC M v l:=⟨h.fr.go hb,h.own.go hb,cF h.kp hb.size,h.hW,h.bM⟩
theorem GH.lt3(h:GH w W wr LC XC M v l){q:Nat}(hq:q∈(w.heap.size+1)::(w.heap.size+1+1)::M):q<W.heap.size:=by
 have d:=h.hW;rcases cD.1 hq with rfl|hq;·omega
 exact akA
theorem GH.bel(h:GH w W wr LC XC M v l):b_ (bP v++((w.heap.size+1)::(w.heap.size+1+1)::M)) wr:=fun q hq=>by
 rcases cK.1 hq with hq|hq;·exact(h.own.lt (bJ.1 hq)).2
 exact bX (h.lt3 hq) h.kp
theorem GH.start(h:Fr w wr [(w.heap.size,LC),(w.heap.size+1,XC),(w.heap.size+1+1,zE)])(hM:b_ M w):GH w wr wr LC XC M (.slice none 0 0) []:=⟨h,bD.nil _ _ _,bj _,h.lt (w.heap.size+1+1) zE po,hM⟩
theorem GH.step(h:GH w W wr LC XC M v l){x:aU}{cs:List Value}(hx:Rep.rd wr (bP v++((w.heap.size+1)::(w.heap.size+1+1)::M)) x cs)(hl:l.length<=100000):
 ∃v' wA,(Builtin.append_ #[64,64] 64 #[v,.slice (some ⟨wr,0,none⟩) 1 1]).run Tryz.prog (wr.alloc (.cells cs.toArray 66))=.ok v' wA/\GH w W wA LC XC M v' (l++ [x]):=by
 obtain⟨v',wA,t,T,d,D,E⟩:=h.own.app1 (x:=x) (cs:=cs) Tryz.underlying64 CJ h.kp (fun q r=>bX (h.lt3 r) h.kp) hx hl;refine⟨v',wA,t,h.fr.ZI d (fun k g=>?_),?_,cF h.kp d.size,h.hW,h.bM⟩;·have z:=(h.own.lt g).1;have B:=h.hW;refine⟨pj,fun b vs p e=>?_⟩;subst e;simp only[cD,fc,eo,iB]at p;omega
 ·have m:(l++ [x]).length=l.length+1:=po;rw[m];exact T
end
theorem GH.fin{w W wr:World}{LC XC:List Value}{M:List Nat}{l ls:List aU}{v:Value}{U:World}(h:GH w W wr LC XC M v l)(hs:Sl aU wr ((w.heap.size+1)::(w.heap.size+1+1)::M) A k c ls)(hj:XC[4]?=some u0)(hl:us.length=5)
 (hU:fM (wr.setCell ⟨w+1,4,none⟩ u) (w.heap.size+1+1) 0 us=U):Sl aU U M A k c ls/\Below w w U/\∀i x,us[i]?=some x->U.cell? ⟨w+1+1,i,none⟩=some x:=by
 obtain⟨G,e⟩:=uD (fun i x hx=>h.fr.at_ (w.heap.size+1) XC po i x hx) hj u;have f1:Fr w (wr.setCell ⟨w.heap.size+1,4,none⟩ u) [(w.heap.size+1+1,zE)]:=(h.fr.only (L':= [(w.heap.size+1+1,zE)]) (fun x hx=>by simp at hx;simp[hx])).kb e pj (fun b vs hb=>by simp at hb;omega);obtain⟨f2,g⟩:=f1.abt (us:=us) (by rw[hl];rfl) hU;exact⟨((hs.keep (e.k.mono (fun q d=>by simp at d;simp[d]))).keep (g.k.mono (fun q d=>by simp at d;simp[d]))).less (fun q d=>by simp[d]),f2.bl,fun i x hx=>(f2.at_ (w.heap.size+1+1) us po i x hx).1⟩
theorem Fr.mid{w W:World}{A B C:List Value}(h:Fr w W [(w.heap.size,A),(w.heap.size+1,B),(w.heap.size+1+1,C)])(hj:B[j]?=some u0)(u:Value):Fr w (W.setCell ⟨w+1,j,none⟩ u) [(w.heap.size,A),(w.heap.size+1,B.set j u),(w.heap.size+1+1,C)]:=by
 have e:(w.heap.size+1,B)∈ [(w.heap.size,A),(w.heap.size+1,B),(w.heap.size+1+1,C)]:=po;obtain⟨x,k⟩:=uD (fun i v g=>h.at_ _ B e i v g) hj u;have d:=(h.only (L':= [(w.heap.size,A),(w.heap.size+1+1,C)]) (fun x hx=>by simp only[cD,eo,iB]at hx |-;rcases hx with rfl|rfl<;>simp)).kb k pj (fun b vs hb=>by simp at hb;omega);refine⟨d.bl,fun c vs K=>?_,fun c vs K=>?_,fun c vs K=>?_⟩<;>(simp only[cD,fc,eo,iB]at K;rcases K with⟨rfl,rfl⟩|⟨rfl,rfl⟩|⟨rfl,rfl⟩)
 ·exact d.at_ _ _ po
 ·exact x
 ·exact d.at_ _ _ po
 ·exact d.lt _ vs po
 ·exact bX (h.lt _ _ e) k.k.size
 ·exact d.lt _ vs po
 ·exact d.ge _ vs po
 ·omega
 exact d.ge _ vs po
theorem sV{w:World}{M:List Nat}{y:aU}{m:Nat}(hi:i64 y.kind/\i64 y.n/\i64 y.d)(hc:cn.length<=100000)(hr:rn.length<=100000)(hs:Sl aU w M A m c (acH cn rn y.l)):
 Rep.rd w M (fH cn rn y) [y.kind,y.name,.int .i64 (fH cn rn y).n,y.d,.slice A m c]:=by
 rw[BG];refine kH.of ⟨hi.1,?_,hi.2.2⟩ hs;have e:=oW cn y.name;have g:=oW rn y.name;have p:=hi.2.1;unfold i64 at*
 split;·omega
 ·split<;>omega
theorem nS{l:List aU}{y:aU}(h:l[k]?=some y):(l.take k).map (fH cn rn)++ [fH cn rn y]=(l.take (k+1)).map (fH cn rn):=by rw[dm,h,ed];rfl
def NW(r:aS)(x:aU):Prop:=∀{M M1 M2:List Nat}{A:Option Addr}{m c:Nat}{t0 t1 t2 t3:dK}{w:World},Sl aU w M1 A m c x.l->JO w M2 r t0 t1 t2 t3->b_ M w->nodes x<=100000->Calls Tryz.prog 148 #[.agg (Af t0 t1 t2 t3).toArray,.agg #[x.kind,x.name,x.n,x.d,.slice A m c]] w fun e w'=>∃A' m' c',e=.returned (.tuple #[.agg #[x.kind,x.name,.int .i64 (fH (dP r) (dQ r) x).n,x.d,.slice A' m' c'],.bool (okR (dP r) (dQ r) x)])/\Sl aU w' M A' m' c' (acH (dP r) (dQ r) x.l)/\Below w w w'
namespace U
open Go.RowKit Go.Shelf
attribute [local go_sem] cX
theorem RnE{q0:Prop}(h:q0:=by
 obtain⟨k,p,v,hk,rfl,rfl,rfl,hp,X⟩:=hrel;have ao:=X.out.fr;refine op1 ao ?_;intros;clear ao;by_cases aq:k<m
 ·obtain⟨y,hy⟩:=dW l k (by rw[HM.out];exact aq);have ai:=bh hy;obtain⟨G,ag⟩:=aC wr.drew;have an:Below wr wr G:=by rw[<-ag];exact pE.drew
  have JD:=X.out.go an;obtain⟨b,o,B,n2,d2,rfl,⟨h0,h1,h2,h3,h4⟩,ZM,hys⟩:=(H.a.go X.out.fr.bl).qQ hy;have Kv:=hys.go an;obtain⟨sb,I⟩:=aC wr.heap.size;have yU:=Hd (show G.heap.size=sb by rw[<-ag];exact I);have u0:=bQ I h0;have u1:=bQ I h1;have u2:=bQ I h2;have u3:=bQ I h3;have u4:=bQ I h4;have q0:=bQ I (X.out.fr.aQ 0 0);have q1:=bQ I (X.out.fr.aQ 0 1);have q2:=bQ I (X.out.fr.aQ 0 2);have q3:=bQ I (X.out.fr.aQ 0 3);have q4:=bQ I (X.out.fr.aQ 1 4);have HC:=fun(Q:List Nat) (V:World) (hb:Below G G V) (hQ:b_ Q V)=>IH.out y ai (M:=Q) (Kv.go hb) ((H.u.go (JD.fr.bl)).go hb) hQ (II.out y ai);have XH:=Hd HC;have Qc:=Hd JD;have HY:=Hd2 hy ZM;have yT:=Hd ag;clear HC Kv hys ai JD hy ZM h0 h1 h2 h3 h4 ag I;gi_wp2;refine aP sb 12 pk pk ?_;refine ay 0 ?_;refine ay 1 ?_;refine ay 2 ?_;refine ay 3 ?_;refine ay 4 ?_;refine ay 5 ?_;rw[yT.out];refine oQ 6 [10] pk (dN pt rfl ?_ (fun K J=>?_) (dN pt rfl ?_ (fun K J=>?_) gU));·exact wy
  rotate_left;·exact wy
  rotate_left
  ·gi_wp2;refine Cl 148 (XH.out (bP v++((w.heap.size+1)::(w.heap.size+1+1)::M)) G pE Qc.out.bel) ?_;rintro e w2 ⟨N,Y,T,rfl,ar,ad⟩;refine J _ _ ⟨?_,?_⟩;clear J K;·exact bq ad _
   refine lit ?_;have al:=(ar.more (b:=w2) pD);obtain⟨Z,ab⟩:=aC w2.heap.size;rw[ab]at al;have G1:=((Fr.nil G).go ad).a Z zE 66 ab.symm;obtain⟨V3,JM⟩:=aC (w2.alloc (.cells zE.toArray 66));have aa:Below w2 w2 V3:=by rw[<-JM];exact bel
   have O:Fr G V3 [(Z,zE)]:=by rw[<-JM];exact G1
   have af:=al.go aa;obtain⟨n3,ae⟩:=aC (fH (dP r) (dQ r) y).n;have U3:=Hd ae;obtain⟨q,t⟩:=aC (okR (dP r) (dQ r) y);have HQ:=Hd t;rw[ae,t];clear ar ad al G1 ae t;refine ay 7 ?_;refine ay 8 ?_;refine ay 9 ?_;refine eU 10 fun K J=>?_;gi_wp2;refine⟨bq aa _,?_⟩;refine lit ?_;(try rw[ab]);clear aa ab JM;obtain⟨V5,oM⟩:=aC (fM V3 Z 0 [y.kind,y.name,n3,y.d,.slice N Y T]);obtain⟨F5,jD⟩:=O.abt (us:= [y.kind,y.name,n3,y.d,.slice N Y T]) rfl oM;have r_:=af.keep (jD.k.mono (fun q t=>by rw[bz]at t;subst t;exact cw));have ku:=Keeps.sU (s:=sb) jD.k (by rw[<-yU.out];exact O.ge Z zE po);have JQ:((((V3.setCell ⟨Z,0,none⟩ y.kind).setCell ⟨Z,1,none⟩ y.name).setCell ⟨Z,2,none⟩ n3).setCell ⟨Z,3,none⟩ y.d).setCell ⟨Z,4,none⟩ (.slice N Y T)=V5:=oM;refine op1 O ?_;intros;clear O af oM jD;refine eU 11 fun K J=>?_;gi_wp2;refine⟨ku,?_⟩;clear ku;refine lit ?_;refine iq 1 ?_;refine jW fun K J K' ac=>?_;gi_wp2;refine et _ ?_;simp only[cu];obtain⟨v',wA,r1,S⟩:=(Qc.out.go F5.bl).step (x:=fH (dP r) (dQ r) y) (cs:= [y.kind,y.name,n3,y.d,.slice N Y T]) (by rw[<-U3.out];exact sV HY.u hcn hrn (r_.less (fun q t=>bE _ t))) (by have:=HL.out;simp;omega);rw[nS HY.a]at S;obtain⟨D,E,e9⟩:=S.own.shape;obtain⟨n9,uF⟩:=aC ((l.take (k+1)).map (fH (dP r) (dQ r))).length;rw[uF]at e9;subst e9;have HA:=Hd2 r1 S;refine op1 F5 ?_;intros;clear r1 S F5 r_ JQ uF;cases p<;>cases q
   all_goals
    gi_wp2_with (first
     |(gi_at_builtin;refine c_ rfl fun K ac=>?_;refine aI _ _ _ rfl rfl rfl HA.a (ac _ _ ?_);clear ac K)
     |fail)
    exact⟨⟨k+1,_,_,pj,rfl,rfl,by go_num,Hd (by rw[dZ _ HY.a,<-iv,<-hp.out,HQ.out];rfl),HA.u⟩,by simp[intOf];omega⟩
  obtain⟨Z,ab⟩:=aC G.heap.size;have G1:=(Fr.nil G).a Z zE 66 ab.symm;obtain⟨w2,ak⟩:=aC (G.alloc (.cells zE.toArray 66));have aa:Below G G w2:=by rw[<-ak];exact bel
  have G2:Fr G w2 [(Z,zE)]:=by rw[<-ak];exact G1
  have ah:=Hd (XH.out (Z::(bP v++((w.heap.size+1)::(w.heap.size+1+1)::M))) w2 aa (fun q t=>by
   rcases cD.1 t with rfl|t;·exact G2.lt _ zE po
   exact bX (Qc.out.bel q t) aa.size))
  obtain⟨n3,ae⟩:=aC (fH (dP r) (dQ r) y).n;have U3:=Hd ae;obtain⟨q,t⟩:=aC (okR (dP r) (dQ r) y);have HQ:=Hd t;rw[ae,t]at ah;have am:=Hd G2;clear G1 G2 ae t;gi_wp2;refine⟨bq aa _,?_⟩;refine lit ?_;(try rw[ab]);clear aa ab ak;refine eU 6 fun K J=>?_;gi_wp2;refine Cl 148 ah.out ?_;rintro e V3 ⟨N,Y,T,rfl,af,ad⟩;have O:=am.out.go ad;refine J _ _ ⟨?_,?_⟩;clear J K;·exact bq ad _
  refine lit ?_;clear ad ah am;refine ay 7 ?_;refine ay 8 ?_;refine ay 9 ?_;obtain⟨V5,oM⟩:=aC (fM V3 Z 0 [y.kind,y.name,n3,y.d,.slice N Y T]);obtain⟨F5,jD⟩:=O.abt (us:= [y.kind,y.name,n3,y.d,.slice N Y T]) rfl oM;have r_:=af.keep (jD.k.mono (fun q t=>by rw[bz]at t;subst t;exact cw));have ku:=Keeps.sU (s:=sb) jD.k (by rw[<-yU.out];exact O.ge Z zE po);have JQ:((((V3.setCell ⟨Z,0,none⟩ y.kind).setCell ⟨Z,1,none⟩ y.name).setCell ⟨Z,2,none⟩ n3).setCell ⟨Z,3,none⟩ y.d).setCell ⟨Z,4,none⟩ (.slice N Y T)=V5:=oM;refine op1 O ?_;intros;clear O af oM jD;refine eU 11 fun K J=>?_;gi_wp2;refine⟨ku,?_⟩;clear ku;refine lit ?_;refine iq 1 ?_;refine jW fun K J K' ac=>?_;gi_wp2;refine et _ ?_;simp only[cu];obtain⟨v',wA,r1,S⟩:=(Qc.out.go F5.bl).step (x:=fH (dP r) (dQ r) y) (cs:= [y.kind,y.name,n3,y.d,.slice N Y T]) (by rw[<-U3.out];exact sV HY.u hcn hrn (r_.less (fun q t=>bE _ t))) (by have:=HL.out;simp;omega);rw[nS HY.a]at S;obtain⟨D,E,e9⟩:=S.own.shape;obtain⟨n9,uF⟩:=aC ((l.take (k+1)).map (fH (dP r) (dQ r))).length;rw[uF]at e9;subst e9;have HA:=Hd2 r1 S;refine op1 F5 ?_;intros;clear r1 S F5 r_ JQ uF;cases p<;>cases q
  all_goals
   gi_wp2_with (first
    |(gi_at_builtin;refine c_ rfl fun K ac=>?_;refine aI _ _ _ rfl rfl rfl HA.a (ac _ _ ?_);clear ac K)
    |fail)
   exact⟨⟨k+1,_,_,pj,rfl,rfl,by go_num,Hd (by rw[dZ _ HY.a,<-iv,<-hp.out,HQ.out];rfl),HA.u⟩,by simp[intOf];omega⟩
 have au:k=m:=pj;clear hk aq;subst au;have JX:=X.out;rw[bR (by rw[HM.out];exact bj _),<-mg]at JX;have ap:(acH (dP r) (dQ r) l).length=k:=by rw[mg,ck,HM.out]
 obtain⟨D,E,rfl,aj⟩:=JX.own.sl (by have:=HL.out;rw[HM.out]at this;omega) (fun q t=>JX.lt3 t);rw[ap]at aj |-;have HP:=Hd (show okR (dP r) (dQ r) x=p by rw[HX.u,hp.out,bR (by rw[HM.out];exact bj _)]);have ZN:=Hd2 JX aj;clear JX aj ap;gi_wp2
 (first
   |(refine(fun(h:∀U,fM (wr.setCell ⟨w+1,4,none⟩ (.slice D k E)) (w.heap.size+1+1) 0 [kd,nm,n',xd,.slice D k E]=U->bodyPost _ _ _ _ _ U)=>h _ rfl) ?_;intro U hU;obtain⟨g1,g2,z⟩:=ZN.a.fin ZN.u (by exact rfl) rfl hU;have z0:=z 0 _ rfl;have z1:=z 1 _ rfl;have z2:=z 2 _ rfl;have z3:=z 3 _ rfl;have z4:=z 4 _ rfl;exact⟨rfl,.tuple #[.agg #[kd,nm,n',xd,.slice D k E],p],by simp[results,go_sem,z0,z1,z2,z3,z4],D,k,E,by rw[HP.out],g1,g2⟩)
   |(have g:Hid (x.kind=2):=EX;refine(fun(h:∀U,fM (wr.setCell ⟨w+1,4,none⟩ (.slice D k E)) (w.heap.size+1+1) 0 [.int .i64 2,nm,n',xd,.slice D k E]=U->bodyPost _ _ _ _ _ U)=>h _ rfl) ?_;intro U hU;obtain⟨g1,g2,z⟩:=ZN.a.fin ZN.u (by exact rfl) rfl hU;have z0:=z 0 _ rfl;have z1:=z 1 _ rfl;have z2:=z 2 _ rfl;have z3:=z 3 _ rfl;have z4:=z 4 _ rfl;exact⟨rfl,.tuple #[.agg #[.int .i64 2,nm,n',xd,.slice D k E],p],by simp[results,go_sem,z0,z1,z2,z3,z4],D,k,E,by rw[HP.out],g1,g2⟩)
   |(refine(fun(h:∀U,fM (wr.setCell ⟨w+1,4,none⟩ (.slice D k E)) (w.heap.size+1+1) 0 [.int .i64 5,nm,n',xd,.slice D k E]=U->bodyPost _ _ _ _ _ U)=>h _ rfl) ?_;intro U hU;obtain⟨g1,g2,z⟩:=ZN.a.fin ZN.u (by exact rfl) rfl hU;have z0:=z 0 _ rfl;have z1:=z 1 _ rfl;have z2:=z 2 _ rfl;have z3:=z 3 _ rfl;have z4:=z 4 _ rfl;exact⟨rfl,.tuple #[.agg #[.int .i64 5,nm,n',xd,.slice D k E],p],by simp[results,go_sem,z0,z1,z2,z3,z4],D,k,E,by rw[HP.out],g1,g2⟩))):q0:=h
theorem afO(r:aS)(hcn:(dP r).length<=100000)(hrn:(dQ r).length<=100000)(x:aU)(ih:∀y,y∈x.l->NW r y)(h2:¬x.kind=2)(h5:¬x.kind=5):NW r x:=by
 intro M M1 M2 A m c t0 t1 t2 t3 w hs hnm hM hl;refine wid ?_;have hsm:=hs.small;have HM:=Hd hs.len;have HX:=Hd (show(fH (dP r) (dQ r) x).n=x.n/\okR (dP r) (dQ r) x=(true&&x.l.all (okR (dP r) (dQ r))) by rw[BG,I9,qC,if_neg h2,if_neg h5,if_neg h2,if_neg h5];exact⟨rfl,rfl⟩);have II:=Hd (fun y (hy:y∈x.l)=>cF (fK hy) (show dh x.l<=100000 by have:=gV x;omega));have HL:=Hd (show x.l.length<=100000 by have:=gV x;have:=jX x.l;omega);obtain⟨ok0,hok0⟩:=aC true;rw[hok0]at HX;have Ko:=Hd hok0;clear hok0;have k2:(x.kind==2)=false:=cU.2 h2;have k5:(x.kind==5)=false:=cU.2 h5;obtain⟨n',hn'⟩:=aC (fH (dP r) (dQ r) x).n;rw[hn']at HX;have hxn:=HX.a;obtain⟨l,hxl⟩:=aC x.l;rw[hxl]at hs HM ih II HX HL;have IH:=Hd ih;have H:=Hd2 hs hnm;obtain⟨kd,hkd⟩:=aC x.kind;obtain⟨nm,E_⟩:=aC x.name;obtain⟨xd,hxd⟩:=aC x.d;rw[hkd]at k2 k5;rw[hkd,E_,<-hxn,hxd,hn',hxl];clear hs hnm ih hxl hkd E_ hxd hl h2 h5 hn' hxn;obtain⟨W1,hW1,F1⟩:=dR ((((Fr.nil w).a w (Af t0 t1 t2 t3) 196).a (w+1) [kd,nm,n',xd,.slice A m c] 66).a (w+1+1) zE 66);have J0:=Hd (GH.start (M:=M) F1 hM);refine op1 F1 ?_;intros;clear F1;refine ent Tryz.func148 Tryz.ntmps148 ?_;gi_wp2;gi_loopw[6,7,8] (fun v6 v7 i wr=>∃(k:Nat) (p:Bool) (v:Value),k<=m/\v6=p/\v=v7/\i=k/\Hid (p=(ok0&&(l.take k).all (okR (dP r) (dQ r))))/\Hid (GH w W1 wr (Af t0 t1 t2 t3) [kd,nm,n',xd,.slice A m c] M v ((l.take k).map (fH (dP r) (dQ r))))) (fun _ _ i _=>m-(intOf i).toNat);case atStart=>exact⟨0,ok0,_,cf _,by rw[<-Ko.out],rfl,rfl,Hd po,J0⟩
 case round=>exact RnE
theorem afP(r:aS)(hcn:(dP r).length<=100000)(hrn:(dQ r).length<=100000)(x:aU)(ih:∀y,y∈x.l->NW r y)(h2:x.kind=2):NW r x:=by
 intro M M1 M2 A m c t0 t1 t2 t3 w hs hnm hM hl;refine wid ?_;have hsm:=hs.small;have HM:=Hd hs.len;have e0:(fH (dP r) (dQ r) x).n=dO (dP r) x.name:=by rw[BG,if_pos h2];rfl
 have HX:=Hd (show(fH (dP r) (dQ r) x).n=dO (dP r) x.name/\okR (dP r) (dQ r) x=(decide (0<=(fH (dP r) (dQ r) x).n)&&x.l.all (okR (dP r) (dQ r)))from⟨e0,by rw[e0,I9,qC,if_pos h2]⟩);clear e0;have II:=Hd (fun y (hy:y∈x.l)=>cF (fK hy) (show dh x.l<=100000 by have:=gV x;omega));have HL:=Hd (show x.l.length<=100000 by have:=gV x;have:=jX x.l;omega);obtain⟨n',hn'⟩:=aC (fH (dP r) (dQ r) x).n;rw[hn']at HX;obtain⟨l,hxl⟩:=aC x.l;rw[hxl]at hs HM ih II HX HL;have IH:=Hd ih;have H:=Hd2 hs hnm;obtain⟨nm,E_⟩:=aC x.name;obtain⟨xd,hxd⟩:=aC x.d;obtain⟨xn,hxn⟩:=aC x.n;obtain⟨ok0,hok0⟩:=aC (decide (0<=n'));rw[E_,hok0]at HX;have Ko:=Hd hok0;have EX:=Hd h2;rw[h2,E_,hxn,hxd,hn',hxl];obtain⟨W1,hW1,F1⟩:=dR ((((Fr.nil w).a w (Af t0 t1 t2 t3) 196).a (w+1) [.int .i64 2,nm,xn,xd,.slice A m c] 66).a (w+1+1) zE 66);have HI:=Hd (ru nm (hnm.c.go F1.bl));obtain⟨W2,hW2⟩:=aC (W1.setCell ⟨w+1,2,none⟩ n');have F2:=F1.mid (j:=2) (B:= [.int .i64 2,nm,xn,xd,.slice A m c]) rfl n';rw[hW2]at F2;have J0:=Hd (GH.start (M:=M) (XC:= [.int .i64 2,nm,n',xd,.slice A m c]) F2 hM);refine op1 F1 ?_;intros;clear hs hnm ih hxl E_ hxd hl h2 hn' hxn F1 F2;refine ent Tryz.func148 Tryz.ntmps148 ?_
 gi_wp2_with (first
  |(refine Cl 146 HI.out ?_;rintro e w' ⟨⟨i,rfl,hi⟩,rfl⟩;obtain rfl:n'=i:=by rw[HX.a];exact(lV hi).symm
    have hfo:=J0.out.fr;refine op1 hfo ?_;intros;clear hfo hi)
  |fail)
 clear hok0;gi_loopw[6,7,8] (fun v6 v7 i wr=>∃(k:Nat) (p:Bool) (v:Value),k<=m/\v6=p/\v=v7/\i=k/\Hid (p=(ok0&&(l.take k).all (okR (dP r) (dQ r))))/\Hid (GH w W2 wr (Af t0 t1 t2 t3) [.int .i64 2,nm,n',xd,.slice A m c] M v ((l.take k).map (fH (dP r) (dQ r))))) (fun _ _ i _=>m-(intOf i).toNat);case atStart=>exact⟨0,ok0,_,cf _,by rw[<-Ko.out],rfl,rfl,Hd po,J0⟩
 case round=>exact RnE
theorem X_(r:aS)(hcn:(dP r).length<=100000)(hrn:(dQ r).length<=100000)(x:aU)(ih:∀y,y∈x.l->NW r y)(h5:x.kind=5):NW r x:=by
 intro M M1 M2 A m c t0 t1 t2 t3 w hs hnm hM hl;refine wid ?_;have hsm:=hs.small;have HM:=Hd hs.len;have hne:¬x.kind=2:=pj;have e0:(fH (dP r) (dQ r) x).n=dO (dQ r) x.name:=by rw[BG,if_neg hne,if_pos h5];rfl
 have HX:=Hd (show(fH (dP r) (dQ r) x).n=dO (dQ r) x.name/\okR (dP r) (dQ r) x=(decide (0<=(fH (dP r) (dQ r) x).n)&&x.l.all (okR (dP r) (dQ r)))from⟨e0,by rw[e0,I9,qC,if_neg hne,if_pos h5]⟩);clear hne e0;have II:=Hd (fun y (hy:y∈x.l)=>cF (fK hy) (show dh x.l<=100000 by have:=gV x;omega));have HL:=Hd (show x.l.length<=100000 by have:=gV x;have:=jX x.l;omega);obtain⟨n',hn'⟩:=aC (fH (dP r) (dQ r) x).n;rw[hn']at HX;obtain⟨l,hxl⟩:=aC x.l;rw[hxl]at hs HM ih II HX HL;have IH:=Hd ih;have H:=Hd2 hs hnm;obtain⟨nm,E_⟩:=aC x.name;obtain⟨xd,hxd⟩:=aC x.d;obtain⟨xn,hxn⟩:=aC x.n;obtain⟨ok0,hok0⟩:=aC (decide (0<=n'));rw[E_,hok0]at HX;have Ko:=Hd hok0;have EX:=Hd h5;rw[h5,E_,hxn,hxd,hn',hxl];obtain⟨W1,hW1,F1⟩:=dR ((((Fr.nil w).a w (Af t0 t1 t2 t3) 196).a (w+1) [.int .i64 5,nm,xn,xd,.slice A m c] 66).a (w+1+1) zE 66);have HI:=Hd (ru nm (hnm.r.go F1.bl));obtain⟨W2,hW2⟩:=aC (W1.setCell ⟨w+1,2,none⟩ n');have F2:=F1.mid (j:=2) (B:= [.int .i64 5,nm,xn,xd,.slice A m c]) rfl n';rw[hW2]at F2;have J0:=Hd (GH.start (M:=M) (XC:= [.int .i64 5,nm,n',xd,.slice A m c]) F2 hM);refine op1 F1 ?_;intros;clear hs hnm ih hxl E_ hxd hl h5 hn' hxn F1 F2;refine ent Tryz.func148 Tryz.ntmps148 ?_
 gi_wp2_with (first
  |(refine Cl 146 HI.out ?_;rintro e w' ⟨⟨i,rfl,hi⟩,rfl⟩;obtain rfl:n'=i:=by rw[HX.a];exact(lV hi).symm
    have hfo:=J0.out.fr;refine op1 hfo ?_;intros;clear hfo hi)
  |fail)
 clear hok0;gi_loopw[6,7,8] (fun v6 v7 i wr=>∃(k:Nat) (p:Bool) (v:Value),k<=m/\v6=p/\v=v7/\i=k/\Hid (p=(ok0&&(l.take k).all (okR (dP r) (dQ r))))/\Hid (GH w W2 wr (Af t0 t1 t2 t3) [.int .i64 5,nm,n',xd,.slice A m c] M v ((l.take k).map (fH (dP r) (dQ r))))) (fun _ _ i _=>m-(intOf i).toNat);case atStart=>exact⟨0,ok0,_,cf _,by rw[<-Ko.out],rfl,rfl,Hd po,J0⟩
 case round=>exact RnE
theorem Rl(r:aS)(hcn:(dP r).length<=100000)(hrn:(dQ r).length<=100000)(x:aU):NW r x:=by
 induction x using iY with
 |_ x ih=>
  by_cases d:x.kind=2;·exact afP r hcn hrn x ih d
  ·by_cases e:x.kind=5;·exact X_ r hcn hrn x ih e
   exact afO r hcn hrn x ih d e
end U
end
