/- Lemmas -/
import Derived.Test.YtfdmnogfflcllaaGreatDoorM27
set_option linter.all false
set_option maxRecDepth 100000
set_option maxHeartbeats 0
namespace Go.Proofs.YtfdmnogfflcllaaGreatDoor
open Go.Proofs.Tryz
theorem AL{p:Prop}(h:p:=by
 gi_wp2_with (first
  |(refine Cl 82 HX.out ?_;rintro e P ⟨u,rfl,j,f⟩;obtain⟨H,J,o,E,Q,p,D,z,rfl,g⟩:=QC.of j;have W:=F.out.go f;have O:=aW W;have G:=Hd2 W g;clear j W g f)
  |fail)
 obtain⟨R,C,t0,t1,t2,t3,hQ,t⟩:=nN (M:=M) (G.a.aQ 2 0) (G.a.aQ 2 1) (G.a.aQ 2 2) (G.a.aQ 2 3) (x:=_) G.u.num.sl G.u.den.sl G.u.num.neg G.u.den.neg G.a.bl pj;try rw[C]
 exact⟨rfl,.agg #[H,.slice o E Q,J,.slice p D z],by simp[results,go_sem,t0,t1,t2,t3],_,rfl,hQ,t⟩):p:=h
variable {l:List Int}{k:Nat}{ls:List Rt}{q a b:Rt}{s:Int}{y:aU}{I:Fv}
section
open Go.RowKit Go.Shelf
attribute [local go_sem] cX
def Ey(xs:List bW)(l:List Int):Int:=((xs.zip l).map fun p=>p.2*p.1.2.1).sum
theorem Na{M:List Nat}{A B:Option Addr}{n c m d:Nat}{xs:List bW}{w:World}(hM:b_ M w)(hx:Sl bW w M A n c xs)(hs:Sl Int w M B m d l)(hi:∀x,x∈xs->mQ x)(hc:dV xs l=true)(hl:l.length<=70):
 Calls prog 82 #[.slice A n c,.slice B m d] w fun e w'=>∃u,e=.returned u/\QW w' M u (eP (Ey xs l) 1)/\Below w w w':=by
 refine wid ?_;unfold dV at hc;rw[cS]at hc;obtain⟨W1,ag,F1⟩:=dR ((Fr.nil w).a w [false,.slice none 0 0,false,.slice none 0 0] 48);have F:=Hd F1;have o1:=aW F1;have ab:m=n:=by rw[<-hs.len,<-hx.len];exact cW hc.1
 subst ab;have ae:m<=70:=by rw[<-hs.len];exact hl
 have H:=h_ (hx.go F1.bl) hx.len (hs.go F1.bl) hs.len;have HB:=Hd2 (hM.le F1.bl.size) ((hM.le F1.bl.size).cons (F1.mJ 0));have N:=Hd2 hi (cT.1 hc.2);clear hx hs hi hc hM F1 hl;refine ent func82 ntmps82 ?_;gi_wp2;gi_loopw[5,10] (fun s i wr=>∃(k:Nat) (S:Int),k<=m/\s=S/\i=k/\W1=wr/\(0<=S/\S<=104857600*(k:Int))/\Hid (S+(((xs.zip l).map fun p=>p.2*p.1.2.1).drop k).sum=Ey xs l)) (fun _ i _=>m-(intOf i).toNat);case atStart=>exact⟨0,0,cf _,rfl,rfl,rfl,po,Hd (by simp[Ey])⟩
 case round=>
  obtain⟨k,S,hk,rfl,rfl,rfl,af,C⟩:=hrel;by_cases J:k<m
  ·obtain⟨x,hx⟩:=dW xs k (by rw[H.b];exact J);obtain⟨b,o,y,rfl,c0,-,-,K⟩:=H.c.pR J;obtain⟨b2,V,rfl,-,x1,-⟩:=H.a.NQ hx;have E:=N.a x (bh hx);have j:=N.u (x,y) (bh (oG hx K));unfold countB at j;simp only[cS]at j;have T:=cW j.1;have ad:=cW j.2;obtain⟨t,X⟩:=aC x.2.1;rw[X]at x1;have R:=JI (x:=y) (y:=t) (a:=100) (b:=1048576) ⟨T,by have:=E.2.2.2;omega⟩ ⟨by rw[<-X];exact E.1,by rw[<-X];exact E.2.1⟩;have Q:=Hd (show S+y*t+(((xs.zip l).map fun p=>p.2*p.1.2.1).drop (k+1)).sum=Ey xs l by
    have h:=C.out;have hz:((xs.zip l).map fun p=>p.2*p.1.2.1)[k]?=some (y*x.2.1):=by rw[cM,oG hx K];rfl
    obtain⟨aa,e⟩:=bu.1 hz;rw[cL aa,mC,e,X]at h;omega)
   obtain⟨Y,D⟩:=aC (y*t);have hw:IntKind.i64.wrap (y*t)=Y:=by rw[cA,D];rw[D]at R;omega
   rw[D]at R Q;clear C hx K E j T ad X D;gi_wp2;exact⟨⟨k+1,S+Y,pj,by go_num,by go_num,bO,pj,Q⟩,by simp[intOf];omega⟩
  ·obtain rfl:k=m:=pj;have P:S=Ey xs l:=by have h:=C.out;rw[cB (by rw[ck,kI,H.b,H.w];omega)]at h;simpa using h
   have O:=Hd2 (show i64 S by unfold i64;omega) P;clear hk J C P
   gi_wp2_with (first
    |(have g:=HG.out;clear g;refine Cl 77 HG.out ?_;rintro e w3 ⟨u,rfl,z,f⟩;obtain⟨p2,q2,A2,n2,c2,B2,m2,d2,rfl,Z⟩:=QC.of z;have W:=F.out.go f;have V:=aW W;have G:=Hd2 W Z;clear z W Z f)
    |(refine Cl 78 (uP (M:=w::M) (n:=S) (d:=1) HB.u O.out.1 pA pj) ?_;rintro e w2 ⟨u,rfl,z,f⟩;have HG:=Hd (wJ (M:=w::M) (HB.u.le f.size) z);have W:=F.out.go f;have V:=aW W;replace F:=Hd W;clear W z f)
    |fail)
   obtain⟨wF,ac,t0,t1,t2,t3,hQ,bF⟩:=nN (M:=M) (G.a.aQ 0 0) (G.a.aQ 0 1) (G.a.aQ 0 2) (G.a.aQ 0 3) (x:=eP S 1) G.u.num.sl G.u.den.sl G.u.num.neg G.u.den.neg G.a.bl pD;try rw[ac]
   rw[O.out.2]at hQ;exact⟨rfl,.agg #[p2,.slice A2 n2 c2,q2,.slice B2 m2 d2],by simp[results,go_sem,t0,t1,t2,t3],_,rfl,hQ,bF⟩
end
theorem PN{b:Int}:∀{l:List Int},(∀m,m∈l->0<=m/\m<=b)->0<=l.sum/\l.sum<=b*(l.length:Int)
 | [],_=>by simp
 |x::l,h=>by have h1:=h x cw;have h2:=PN fun m hm=>h m (bE x hm);rw[mC,eh,ki,mj];omega
theorem PO{c:bT}(hr:fJ (rX c)=true)(ho:∀m,m∈l->Nv (rX c) m=true)(h0:0<l.length)(ht:2*c.2.2.2.2.2.1<l.length):
 0<(rU c l).length/\(rU c l).length<=l.length/\∀m,m∈rU c l->0<=m/\m<=1000:=by
 obtain⟨-,-,⟨f,-⟩,-⟩:=kP hr;unfold rX at f;simp only at f;have hb:∀m,m∈gI (l.map (kC c))->0<=m/\m<=1000:=fun m e=>by obtain⟨j,g,rfl⟩:=eE.1 (wI.1 e);exact JJ hr (ho j g)
 have o:(gI (l.map (kC c))).length=l.length:=by rw[oJ,ck]
 unfold rU;split;·exact⟨pj,pj,hb⟩
 split;all_goals exact⟨by rw[eJ,cI];omega,by rw[eJ,cI];omega,fun m e=>hb m (om (lA e))⟩
theorem ahf{c:bT}(hr:fJ (rX c)=true)(ho:∀m,m∈l->Nv (rX c) m=true)(h0:0<l.length)(ht:2*c.2.2.2.2.2.1<l.length)(hn:l.length<=256):yx (qJ c l) 5:=by obtain⟨f,g,e⟩:=PO hr ho h0 ht;have hs:=PN e;unfold qJ;refine(wo (k:=2) pj pj (pG ?_) (pG pj)).up pj;have:=JI (x:=(rU c l).sum) (a:=256000) (y:=if c.2.2.2.2.1=1 then(l.length:Int)else 1) (b:=256) ⟨hs.1,pj⟩ (by split<;>omega);omega
theorem Xt{xs:List bW}(hi:∀x,x∈xs->mQ x)(hc:dV xs l=true)(hl:l.length<=70):(Ey xs l).natAbs<=1152921504606846975:=by
 unfold dV at hc;rw[cS]at hc;have g:=cT.1 hc.2;have h:=PN (b:=104857600) (l:=(xs.zip l).map fun p=>p.2*p.1.2.1) fun m j=>by obtain⟨⟨x,y⟩,hp,rfl⟩:=eE.1 j;have e:=hi x (List.of_mem_zip hp).1;have f:=g _ hp;unfold countB at f;simp only[cS,ef]at f;exact JI (a:=100) (b:=1048576) ⟨f.1,by have:=e.2.2.2;omega⟩ ⟨e.1,e.2.1⟩
 rw[ck,kI]at h;unfold Ey;omega
theorem Zh{r:fC}(hr:dF r=true)(h:MK r=true):yx (OE r) 5:=by
 obtain⟨x,hx,rfl⟩:=(zx r).1 hr;rw[Lm];have e:∀z:Int,fits z=true->zF (ints (bG z))=true->z.natAbs<BB^5:=fun z f F=>by have g:(bG z).length<=2048:=cW f;unfold zF at F;rw[show(ints (bG z)).length=(bG z).length by simp[ints]]at F;simp only[ie,cS,ef]at F;exact(lY z.natAbs 5).2 (show(bG z).length<=5 by omega)
 unfold MK at h;rw[cS]at h;exact⟨hx,e _ hx.fn h.1,e _ hx.fd h.2⟩
def kW(r:aS)(c:dS):Fv:=⟨fun n=>(jq r c).getD n zR,Ey r.bonus c.bonus,Ey r.malus c.malus,c.prev.map OE⟩
theorem Zi{r:aS}{c:dS}(h:f_ r k c):∃x,r.rounds[k]?=some x/\kS r k x.2.1 c=true:=by obtain⟨-,j,x,e,hx,K⟩:=h;obtain rfl:k=j:=pj;exact⟨x,hx,K⟩
theorem wK{r:aS}{c:dS}(h:f_ r k c):c.marks.length=r.aT.length/\dV r.bonus c.bonus=true/\dV r.malus c.malus=true/\c.prev.length=k/\c.prev.all dF=true:=by obtain⟨x,-,K⟩:=Zi h;unfold kS at K;simp only[cS,ef]at K;exact⟨K.1.1.1.1.1,K.1.1.1.1.2,K.1.1.1.2,K.1.1.2,K.2⟩
theorem ae6{r:aS}{c:dS}(h:f_ r k c)(hw:yI r c)(hm:eY c.marks=0):ah9 (kW r c) r.aT.length k:=by
 obtain⟨J,C,E,F,G⟩:=wK h;refine⟨fun n H=>?_,by simp[kW,F],fun x hx=>?_,Xt h.1.2.1.bonus C hw.lens.2.1,Xt h.1.2.1.malus E hw.lens.2.2.1⟩;·have g:=cd H;have e:=cd (show n<c.marks.length by omega);obtain⟨D,j,o,t,z⟩:=Ez h hm g e;have:=ahf D j o z t;show yx ((jq r c).getD n zR) 5;unfold jq;rw[uK (fun p:bT×List Int=>qJ p.1 p.2) (oG g e) zR];exact this
 obtain⟨q,f,rfl⟩:=eE.1 hx;exact Zh (cT.1 G q f) (hw.prev q f)
theorem Nc{α:Type}{f:α->α}:∀{l:List α},l.map f=l->∀z,z∈l->f z=z
 |x::l,h,z,hz=>by
  injection h with h1 h2;rcases cD.1 hz with rfl|hz;·exact h1
  exact Nc h2 z hz
theorem Zj{cn rn:List ByteArray}(x:aU):iV cn rn x=false->lC cn rn x=x->∀y,y∈iZ x->sO cn rn y.kind y.name=false/\qW cn rn y.kind y.name y.n=y.n:=by
 induction x using iY with
 |_ x ih=>
  intro e g;rw[xG,iN,nP,List.any_eq_false]at e;have hx:qW cn rn x.kind x.name x.n=x.n/\E5 cn rn x.l=x.l:=by cases x;rw[lC]at g;injection g with _ _ h1 _ h2;exact⟨h1,h2⟩
  rw[xH]at hx;exact o_ (Q:=fun y=>sO cn rn y.kind y.name=false/\qW cn rn y.kind y.name y.n=y.n) ⟨e.1,hx.1⟩ fun z f=>ih z f (by simpa using e.2 z f) (Nc hx.2 z f)
theorem agh{r:aS}{x:aJ}(hs:Sound r)(hx:r.rounds[k]?=some x)(hp:x.2.2.2.2.1=false):∀y,y∈iZ (au x)->YD r.aT.length k y:=by
 intro y j;have o:=bh hx;have z:=(hs.2.1.rounds x o).2.2.2.2.2 hp y j;obtain⟨-,p,t,-⟩:=hs.1.rounds x o;obtain⟨f,g⟩:=Zj _ p t y j;refine⟨z,fun e=>?_,fun e=>?_⟩;·rw[e]at f g;obtain⟨u,D,C⟩:=DC (nm:=dP r) (s:=y.name) (n:=y.n) ⟨f,g⟩;rw[ck]at C;omega
 have hb:=(hs.2.2.2 k x hx).1 y j e;rw[e]at f g;obtain⟨u,D,-⟩:=DC (nm:=dQ r) (s:=y.name) (n:=y.n) ⟨f,g⟩;omega
section
open Go.RowKit Go.Shelf
attribute [local go_sem] cX
theorem Sl.qat{M:List Nat}{w:World}{A:Option Addr}{n c:Nat}(h:Sl fC w M A n c (ls.map jd))(hk:ls[k]?=some q):
 ∃b o A1 n1 c1 A2 n2 c2,A=some ⟨b,o,none⟩/\w.cell? ⟨b,o+k*4,none⟩=some (.bool (aG q.num))/\w.cell? ⟨b,o+k*4+1,none⟩=some (.slice A1 n1 c1)/\w.cell? ⟨b,o+k*4+2,none⟩=some (.bool (aG q.den))/\w.cell? ⟨b,o+k*4+3,none⟩=some (.slice A2 n2 c2)/\QW w M (.agg #[.bool (aG q.num),.slice A1 n1 c1,.bool (aG q.den),.slice A2 n2 c2]) q:=by
 obtain⟨b,o,A1,n1,c1,A2,n2,c2,rfl,e,f,g,j,s1,s2⟩:=h.MG (x:=jd q) (by rw[cM,hk];rfl);exact⟨b,o,A1,n1,c1,A2,n2,c2,rfl,e,f,g,j,A1,n1,c1,A2,n2,c2,rfl,s1,s2⟩
theorem Y9(x y:Rt): -1<=rW x y/\rW x y<=1:=by unfold rW;split<;>(try split)<;>omega
theorem Aa{M:List Nat}{A:Option Addr}{n c:Nat}{w:World}(hM:b_ M w)(hs:Sl fC w M A n c (ls.map jd))(h0:ls[0]?=some a)(h1:ls[1]?=some b)(oa:a.ok)(ob:b.ok)(hf:Fine a b)(hsg:s=1\/s= -1):
 CB 75 #[.slice A n c,s] (.bool (decide (s*rW a b<=0))) w:=by
 refine wid ?_;have ae:=hs.small;have S:1<n:=by rw[<-hs.len,ck];exact(bu.1 h1).1
 have aa:0<n:=pj;have ab:(1:Int)<(n:Int):=pj;have ac:(1:Int).toNat<n:=S;have ad:¬n<=1:=pj;have g:Below w w w.drew:=pE.drew;obtain⟨b1,o1,V,n1,c1,W,n2,c2,rfl,p,t,C,D,O⟩:=hs.qat h0;obtain⟨b2,o2,Y,n3,c3,A4,n4,c4,R,E,F,G,H,P⟩:=hs.qat h1;cases R;simp only[fX,eB]at p t C D;simp only[fh]at E F G H;have u0:=ah p;have u1:=ah t;have u2:=ah C;have u3:=ah D;have v0:=ah E;have v1:=ah F;have v2:=ah G;have v3:=ah H;have X:=WZ (w:=w.drew) (hM.le pD) (O.go g) (P.go g) oa ob hf;obtain⟨z,o⟩:=aC (rW a b);rw[o]at X |-;have HX:=Hd X;clear p t C D E F G H O P X hs h0 h1 oa ob hf g;have T: -1<=z/\z<=1:=by rw[<-o];exact Y9 _ _
 clear o;obtain⟨Z,f⟩:=aC (s*z);have hw:IntKind.i64.wrap (s*z)=Z:=by rw[cA,f];rcases hsg with rfl|rfl<;>omega
 rw[f];clear f hsg T hM;refine ent func75 ntmps75 ?_;gi_wp2;refine ak [] [0,1,2,3,4,5,6,7,8,9,10,11] pk pk ?_;refine eH ?_;refine aH fun K J=>aA rfl rfl wy fun Q N=>?_;gi_wp2;refine Cl 14 HX.out ?_;rintro e w2 ⟨rfl,j⟩;have HB:=Hd ((bL w w).drew.trans j);refine N _ _ ⟨?_,J _ _ ?_⟩;clear N Q J K;·exact bq j _
 clear j;refine lit ?_;refine eH ?_;refine aK ?_;refine lit ?_
 gi_wp2_with (first
  |(refine Cl 39 (rP _) ?_;rintro e w3 ⟨rfl,rfl⟩)
  |fail)
 go_ret;exact⟨rfl,HB.out⟩
abbrev exV(x:aU)(B:Option Addr)(m d:Nat):List Value:= [x.kind,x.name,x.n,x.d,.slice B m d]
def Au(M:List Nat)(q:Rt)(w:World)(e:Ending)(w':World):Prop:=∃u,e=.returned u/\QW w' M u q/\Below w w w'
section
variable {M:List Nat}{r:aS}{s1 s2 s3 s4 s5 s6 s7:dK}{c:dS}{t1 t2 t3 t4:dK}{i:Nat}{x:aU}{A B:Option Addr}{n cp m d:Nat}{w:World}
theorem Y_(hM:b_ M w)(hn:i64 x.n)(hd:i64 x.d)(h0:x.d≠0):
 Calls prog 76 #[.agg (pY r s1 s2 s3 s4 s5 s6 s7 i t1 t2 t3 t4).toArray,.agg (exV x B m d).toArray,.slice A n cp] w (Au M (eP x.n x.d) w):=by
 refine wid ?_;obtain⟨W1,O,F1⟩:=dR ((((Fr.nil w).a w (pY r s1 s2 s3 s4 s5 s6 s7 i t1 t2 t3 t4) 93).a (w+1) (exV x B m d) 66).a (w+2) [false,.slice none 0 0,false,.slice none 0 0] 48);have F:=Hd F1;have P:=aW F1;have HM:=Hd2 (hM.le F1.bl.size) ((hM.le F1.bl.size).cons (F1.mJ 2));have HX:=Hd (uP (M:=(w+2)::M) HM.u hn hd h0);clear F1 hM hn hd h0;refine ent func76 ntmps76 ?_
 gi_wp2_with (first
  |(have g:=HG.out;clear g;refine Cl 77 HG.out ?_;rintro e S ⟨u,rfl,j,f⟩;obtain⟨K,N,p,H,Q,t,E,C,rfl,o⟩:=QC.of j;have W:=F.out.go f;have J:=aW W;have G:=Hd2 W o;clear j W o f)
  |(refine Cl 78 HX.out ?_;rintro e R ⟨u,rfl,j,f⟩;have HG:=Hd (wJ (M:=(w+2)::M) (HM.u.le f.size) j);have W:=F.out.go f;have J:=aW W;replace F:=Hd W;clear W j f)
  |fail)
 obtain⟨T,D,t0,t1,t2,t3,hQ,z⟩:=nN (M:=M) (G.a.aQ 2 0) (G.a.aQ 2 1) (G.a.aQ 2 2) (G.a.aQ 2 3) (x:=_) G.u.num.sl G.u.den.sl G.u.num.neg G.u.den.neg G.a.bl pj;try rw[D]
 exact⟨rfl,.agg #[K,.slice p H Q,N,.slice t E C],by simp[results,go_sem,t0,t1,t2,t3],_,rfl,hQ,z⟩
theorem Za(hM:b_ M w)(hr:dG w M r s1 s2 s3 s4 s5 s6 s7)(hc:jE w M c t1 t2 t3 t4)(hi:∀x,x∈r.bonus->mQ x)(hb:dV r.bonus c.bonus=true)(hl:c.bonus.length<=70):
 Calls prog 81 #[.agg (pY r s1 s2 s3 s4 s5 s6 s7 i t1 t2 t3 t4).toArray,.agg (exV x B m d).toArray,.slice A n cp] w (Au M (eP (Ey r.bonus c.bonus) 1) w):=by
 refine wid ?_;obtain⟨W1,K,F1⟩:=dR ((((Fr.nil w).a w (pY r s1 s2 s3 s4 s5 s6 s7 i t1 t2 t3 t4) 93).a (w+1) (exV x B m d) 66).a (w+2) [false,.slice none 0 0,false,.slice none 0 0] 48);have F:=Hd F1;have N:=aW F1;have HM:=Hd2 (hM.le F1.bl.size) ((hM.le F1.bl.size).cons (F1.mJ 2));have HX:=Hd (Na (M:=(w+2)::M) HM.u ((hr.bonus.more (b:=w+2) pj).go F1.bl) ((hc.bonus.more (b:=w+2) pj).go F1.bl) hi hb hl);clear F1 hM hr hc hi hb hl;refine ent func81 ntmps81 ?_;exact AL
theorem Zb(hM:b_ M w)(hr:dG w M r s1 s2 s3 s4 s5 s6 s7)(hc:jE w M c t1 t2 t3 t4)(hi:∀x,x∈r.malus->mQ x)(hb:dV r.malus c.malus=true)(hl:c.malus.length<=70):
 Calls prog 83 #[.agg (pY r s1 s2 s3 s4 s5 s6 s7 i t1 t2 t3 t4).toArray,.agg (exV x B m d).toArray,.slice A n cp] w (Au M (eP (Ey r.malus c.malus) 1) w):=by
 refine wid ?_;obtain⟨W1,K,F1⟩:=dR ((((Fr.nil w).a w (pY r s1 s2 s3 s4 s5 s6 s7 i t1 t2 t3 t4) 93).a (w+1) (exV x B m d) 66).a (w+2) [false,.slice none 0 0,false,.slice none 0 0] 48);have F:=Hd F1;have N:=aW F1;have HM:=Hd2 (hM.le F1.bl.size) ((hM.le F1.bl.size).cons (F1.mJ 2));have HX:=Hd (Na (M:=(w+2)::M) HM.u ((hr.malus.more (b:=w+2) pj).go F1.bl) ((hc.malus.more (b:=w+2) pj).go F1.bl) hi hb hl);clear F1 hM hr hc hi hb hl;refine ent func83 ntmps83 ?_;exact AL
end
section
variable {M:List Nat}{r:aS}{s1 s2 s3 s4 s5 s6 s7:dK}{c:dS}{t1 t2 t3 t4:dK}{i:Nat}{x:aU}{A B:Option Addr}{n cp m d:Nat}{w:World}
theorem Zc{y:bT}(hM:b_ M w)(hr:dG w M r s1 s2 s3 s4 s5 s6 s7)(hc:jE w M c t1 t2 t3 t4)(hg:f_ r i c)(hm:eY c.marks=0)(hx:x.n=k)(hy:r.aT[k]?=some y)(hl:c.marks[k]?=some l):
 Calls prog 79 #[.agg (pY r s1 s2 s3 s4 s5 s6 s7 i t1 t2 t3 t4).toArray,.agg (exV x B m d).toArray,.slice A n cp] w (Au M (qJ y l) w):=by
 refine wid ?_;obtain⟨W1,N,F1⟩:=dR ((((Fr.nil w).a w (pY r s1 s2 s3 s4 s5 s6 s7 i t1 t2 t3 t4) 93).a (w+1) (exV x B m d) 66).a (w+2) [false,.slice none 0 0,false,.slice none 0 0] 48);have F:=Hd F1;have O:=aW F1;have X:=adr ((hr.moreL [w.heap.size+2] (fun q f=>by simp at f;omega)).go F1.bl) ((hc.moreL [w.heap.size+2] (fun q f=>by simp at f;omega)).go F1.bl) hg hm hy hl ((hM.le F1.bl.size).cons (F1.mJ 2));rw[<-hx]at X;have HX:=Hd X;clear X hx F1 hM hr hc hg hm hy hl;refine ent func79 ntmps79 ?_
 gi_wp2_with (first
  |(refine Cl 80 HX.out ?_;rintro e R ⟨u,rfl,o,g⟩;obtain⟨J,K,p,H,Q,t,E,C,rfl,j⟩:=QC.of o;have W:=F.out.go g;have P:=aW W;have G:=Hd2 W j;clear o W j g)
  |fail)
 obtain⟨S,D,t0,t1,t2,t3,hQ,z⟩:=nN (M:=M) (G.a.aQ 2 0) (G.a.aQ 2 1) (G.a.aQ 2 2) (G.a.aQ 2 3) (x:=_) G.u.num.sl G.u.den.sl G.u.num.neg G.u.den.neg G.a.bl pj;try rw[D]
 exact⟨rfl,.agg #[J,.slice p H Q,K,.slice t E C],by simp[results,go_sem,t0,t1,t2,t3],_,rfl,hQ,z⟩
theorem Zd(hM:b_ M w)(hs:Sl fC w M A n cp (ls.map jd))(h0:ls[0]?=some a)(h1:ls[1]?=some b)(oa:a.ok)(ob:b.ok)(hf:Fine a b):
 Calls prog 85 #[.agg (pY r s1 s2 s3 s4 s5 s6 s7 i t1 t2 t3 t4).toArray,.agg (exV x B m d).toArray,.slice A n cp] w (Au M (Js a b) w):=by
 refine wid ?_;obtain⟨W1,ac,F1⟩:=dR ((((Fr.nil w).a w (pY r s1 s2 s3 s4 s5 s6 s7 i t1 t2 t3 t4) 93).a (w+1) (exV x B m d) 66).a (w+2) [false,.slice none 0 0,false,.slice none 0 0] 48);have F:=Hd F1;have ag:=hs.small;have ae:1<n:=by rw[<-hs.len,ck];exact(bu.1 h1).1
 have ad:0<n:=pj;have af:(1:Int)<(n:Int):=pj;have p:b_ ((w.heap.size+2)::M) W1:=(hM.le F1.bl.size).cons (F1.mJ 2);have C:=(hs.more (b:=w+2) pj).go F1.bl;have t:Below W1 W1 W1.drew:=pE.drew;obtain⟨b1,o1,A1,n1,c1,Q,S,R,rfl,D,E,H,J,T⟩:=C.qat h0;obtain⟨b2,o2,A3,n3,c3,A4,n4,c4,e2,N,O,Z,P,V⟩:=C.qat h1;cases e2;simp only[fX,eB]at D E H J;simp only[fh]at N O Z P;have u0:=ah D;have u1:=ah E;have u2:=ah H;have u3:=ah J;have v0:=ah N;have v1:=ah O;have v2:=ah Z;have v3:=ah P;have HX:=Hd (MZ (w:=W1.drew) (p.le pD) (T.go t) (V.go t) oa ob hf);have aa:=Hd p;clear D E H J N O Z P T V hs C h0 h1 oa ob hf t p hM F1;refine ent func85 ntmps85 ?_;gi_wp2;refine iF [] 10 1 [0,1,2,3,4,5,6,7,8,9] pk pk rfl ?_;refine eH ?_;refine aH fun K g=>aA rfl rfl wy fun z j=>?_;gi_wp2;refine Cl 86 HX.out ?_;rintro e w2 ⟨u,rfl,o,f⟩;have Y:=Hd (F.out.drew.go f);have HG:=Hd (wJ (M:=(w+2)::M) (aa.out.le (cF pD f.size)) o);refine j _ _ ⟨?_,g _ _ ?_⟩;clear j z g K;·exact bq f _
 clear f o;refine lit ?_;refine eH ?_;refine aH fun K g=>aA rfl rfl wy fun z j=>?_;gi_wp2;refine Cl 77 HG.out ?_;rintro e w3 ⟨u,rfl,o,f⟩;obtain⟨p2,q2,Q,S,R,X,m2,d2,rfl,W⟩:=QC.of o;have G:=Hd2 (Y.out.go f) W;refine j _ _ ⟨?_,g _ _ ?_⟩;clear j z g K;·exact bq f _
 clear f o W;refine lit ?_;refine aK ?_;have o2:=aW G.a;refine jW fun K g z j=>?_;gi_wp2;refine et _ ?_;gi_wp2;obtain⟨wF,ab,t0,t1,t2,t3,hQ,bF⟩:=nN (M:=M) (G.a.aQ 2 0) (G.a.aQ 2 1) (G.a.aQ 2 2) (G.a.aQ 2 3) (x:=_) G.u.num.sl G.u.den.sl G.u.num.neg G.u.den.neg G.a.bl pj;try rw[ab]
 exact⟨rfl,.agg #[p2,.slice Q S R,q2,.slice X m2 d2],by simp[results,go_sem,t0,t1,t2,t3],_,rfl,hQ,bF⟩
theorem Ze(hM:b_ M w)(hs:Sl fC w M A n cp (ls.map jd))(h0:ls[0]?=some a)(h1:ls[1]?=some b)(oa:a.ok)(ob:b.ok)(hf:Fine a b):
 Calls prog 87 #[.agg (pY r s1 s2 s3 s4 s5 s6 s7 i t1 t2 t3 t4).toArray,.agg (exV x B m d).toArray,.slice A n cp] w (Au M (OG a b) w):=by
 refine wid ?_;obtain⟨W1,ac,F1⟩:=dR ((((Fr.nil w).a w (pY r s1 s2 s3 s4 s5 s6 s7 i t1 t2 t3 t4) 93).a (w+1) (exV x B m d) 66).a (w+2) [false,.slice none 0 0,false,.slice none 0 0] 48);have F:=Hd F1;have ag:=hs.small;have ae:1<n:=by rw[<-hs.len,ck];exact(bu.1 h1).1
 have ad:0<n:=pj;have af:(1:Int)<(n:Int):=pj;have p:b_ ((w.heap.size+2)::M) W1:=(hM.le F1.bl.size).cons (F1.mJ 2);have C:=(hs.more (b:=w+2) pj).go F1.bl;have t:Below W1 W1 W1.drew:=pE.drew;obtain⟨b1,o1,A1,n1,c1,Q,S,R,rfl,D,E,H,J,T⟩:=C.qat h0;obtain⟨b2,o2,A3,n3,c3,A4,n4,c4,e2,N,O,Z,P,V⟩:=C.qat h1;cases e2;simp only[fX,eB]at D E H J;simp only[fh]at N O Z P;have u0:=ah D;have u1:=ah E;have u2:=ah H;have u3:=ah J;have v0:=ah N;have v1:=ah O;have v2:=ah Z;have v3:=ah P;have HX:=Hd (Xl (w:=W1.drew) (p.le pD) (T.go t) (V.go t) oa ob hf);have aa:=Hd p;clear D E H J N O Z P T V hs C h0 h1 oa ob hf t p hM F1;refine ent func87 ntmps87 ?_;gi_wp2;refine iF [] 10 1 [0,1,2,3,4,5,6,7,8,9] pk pk rfl ?_;refine eH ?_;refine aH fun K g=>aA rfl rfl wy fun z j=>?_;gi_wp2;refine Cl 88 HX.out ?_;rintro e w2 ⟨u,rfl,o,f⟩;have Y:=Hd (F.out.drew.go f);have HG:=Hd (wJ (M:=(w+2)::M) (aa.out.le (cF pD f.size)) o);refine j _ _ ⟨?_,g _ _ ?_⟩;clear j z g K;·exact bq f _
 clear f o;refine lit ?_;refine eH ?_;refine aH fun K g=>aA rfl rfl wy fun z j=>?_;gi_wp2;refine Cl 77 HG.out ?_;rintro e w3 ⟨u,rfl,o,f⟩;obtain⟨p2,q2,Q,S,R,X,m2,d2,rfl,W⟩:=QC.of o;have G:=Hd2 (Y.out.go f) W;refine j _ _ ⟨?_,g _ _ ?_⟩;clear j z g K;·exact bq f _
 clear f o W;refine lit ?_;refine aK ?_;have o2:=aW G.a;refine jW fun K g z j=>?_;gi_wp2;refine et _ ?_;gi_wp2;obtain⟨wF,ab,t0,t1,t2,t3,hQ,bF⟩:=nN (M:=M) (G.a.aQ 2 0) (G.a.aQ 2 1) (G.a.aQ 2 2) (G.a.aQ 2 3) (x:=_) G.u.num.sl G.u.den.sl G.u.num.neg G.u.den.neg G.a.bl pj;try rw[ab]
 exact⟨rfl,.agg #[p2,.slice Q S R,q2,.slice X m2 d2],by simp[results,go_sem,t0,t1,t2,t3],_,rfl,hQ,bF⟩
end
theorem Sl.PI{M:List Nat}{w:World}{A:Option Addr}{n c:Nat}(h:Sl fC w M A n c (ls.map jd))(hk:ls[k]?=some q):
 ∃b o A1 n1 c1 A2 n2 c2,A=some ⟨b,o,none⟩/\w.cell? ⟨b,o+k*4,none⟩=some (.bool (aG q.num))/\w.cell? ⟨b,o+k*4+1,none⟩=some (.slice A1 n1 c1)/\w.cell? ⟨b,o+k*4+2,none⟩=some (.bool (aG q.den))/\w.cell? ⟨b,o+k*4+3,none⟩=some (.slice A2 n2 c2)/\QC w M q (aG q.num) (aG q.den) A1 n1 c1 A2 n2 c2:=by
 obtain⟨b,o,A1,n1,c1,A2,n2,c2,rfl,e,f,g,j,s1,s2⟩:=h.MG (x:=jd q) (by rw[cM,hk];rfl);exact⟨b,o,A1,n1,c1,A2,n2,c2,rfl,e,f,g,j,⟨⟨rfl,s1⟩,⟨rfl,s2⟩⟩⟩
theorem Zf{M:List Nat}{r:aS}{s1 s2 s3 s4 s5 s6 s7:dK}{c:dS}{t1 t2 t3 t4:dK}{i:Nat}{xk xd:Int}{xs:ByteArray}{A B:Option Addr}{n cp m d:Nat}{ps:List Rt}{w:World}(hc:jE w M c t1 t2 t3 t4)(hp:c.prev=ps.map jd)(hk:ps[k]?=some q):
 Calls prog 84 #[.agg (pY r s1 s2 s3 s4 s5 s6 s7 i t1 t2 t3 t4).toArray,.agg #[xk,xs,k,xd,.slice B m d],.slice A n cp] w (Au M q w):=by
 refine wid ?_;obtain⟨g,f,j⟩:=t4;have e:Sl fC w M g f j c.prev:=hc.prev;rw[hp]at e;have O:=e.small;have N:k<f:=by rw[<-e.len,ck];exact(bu.1 hk).1
 obtain⟨W1,K,F1⟩:=dR ((((Fr.nil w).a w (pY r s1 s2 s3 s4 s5 s6 s7 i t1 t2 t3 ⟨g,f,j⟩) 93).a (w+1) [xk,xs,k,xd,.slice B m d] 66).a (w+2) [false,.slice none 0 0,false,.slice none 0 0] 48);have F:=Hd F1;have P:=aW F1;obtain⟨b,o,t,H,D,z,J,Q,rfl,S,T,V,W,p⟩:=((e.more (b:=w+2) pj).go F1.bl).PI hk;have G:=Hd2 F1 p;clear p e hc hp hk F1;refine ent func84 ntmps84 ?_;gi_wp2;obtain⟨R,E,t0,t1,t2,t3,hQ,C⟩:=nN (M:=M) (G.a.aQ 2 0) (G.a.aQ 2 1) (G.a.aQ 2 2) (G.a.aQ 2 3) (x:=q) G.u.num.sl G.u.den.sl G.u.num.neg G.u.den.neg G.a.bl pj;try rw[E]
 exact⟨rfl,.agg #[.bool (aG q.num),.slice t H D,.bool (aG q.den),.slice z J Q],by simp[results,go_sem,t0,t1,t2,t3],_,rfl,hQ,C⟩
theorem Ir{M:List Nat}{r:aS}{s1 s2 s3 s4 s5 s6 s7:dK}{t1 t2 t3 t4:dK}{i:Nat}{x:aU}{A B:Option Addr}{n cp m d:Nat}{w:World}{bs:Nat}(hM:b_ M w)(hs:Sl fC w M A n cp (ls.map jd))(h0:ls[0]?=some a)(h1:ls[1]?=some b)(oa:a.ok)(ob:b.ok)(hf:Fine a b)(hsg:s=1\/s= -1)(hbs:w.cell? ⟨bs,0,none⟩=some (.int .i64 s)):
 Calls prog 74 #[.agg (pY r s1 s2 s3 s4 s5 s6 s7 i t1 t2 t3 t4).toArray,.agg (exV x B m d).toArray,.slice A n cp,.pointer (some ⟨bs,0,none⟩)] w (Au M (if s*rW a b<=0 then(ls[0]?).getD zR else(ls[1]?).getD zR) w):=by
 refine wid ?_;obtain⟨W1,aa,F1⟩:=dR ((((Fr.nil w).a w (pY r s1 s2 s3 s4 s5 s6 s7 i t1 t2 t3 t4) 93).a (w+1) (exV x B m d) 66).a (w+2) [false,.slice none 0 0,false,.slice none 0 0] 48);have F:=Hd F1;have Z:=aW F1;have v0:=(F1.bl.cell (p:=⟨bs,0,none⟩) (bw w _ hbs)).trans hbs;have af:=hs.small;obtain⟨P,z⟩:∃q,ls[0]?=some q:=⟨_,by assumption⟩;obtain⟨R,o⟩:∃q,ls[1]?=some q:=⟨_,by assumption⟩;have ac:1<n:=by rw[<-hs.len,ck];exact(bu.1 o).1
 have ab:0<n:=pj;have ad:(1:Int)<(n:Int):=pj;have ae:(0:Int)<(n:Int):=pj;have C:=(hs.more (b:=w+2) pj).go F1.bl;have X:=Aa (s:=s) ((hM.le F1.bl.size).cons (F1.mJ 2)) C h0 h1 oa ob hf hsg;have t:=fB C z o;rw[z,o];by_cases g:s*rW a b<=0
 ·rw[cx g]at X;rw[if_pos g];have HX:=Hd X;clear X hs C h0 h1 oa ob hf z o hM F1 g;refine ent func74 ntmps74 ?_
  gi_wp2_with (first
   |(refine Cl 75 HX.out ?_;rintro e w2 ⟨rfl,f⟩;obtain⟨b1,Z,D,N,J,E,O,Q,rfl,S,T,V,Y,j⟩:=(t.a.go f).PI t.b;try simp only[show 2*4=8 from rfl,show 3*4=12 from rfl,fX,fh,eB]at S T V Y
     have W:=F.out.go f;have o2:=aW W;have G:=Hd2 W j;clear j W f)
   |fail)
  obtain⟨wF,K,t0,t1,t2,t3,hQ,H⟩:=nN (M:=M) (G.a.aQ 2 0) (G.a.aQ 2 1) (G.a.aQ 2 2) (G.a.aQ 2 3) (x:=P) G.u.num.sl G.u.den.sl G.u.num.neg G.u.den.neg G.a.bl pj;try rw[K]
  exact⟨rfl,.agg #[.bool (aG P.num),.slice D N J,.bool (aG P.den),.slice E O Q],by simp[results,go_sem,t0,t1,t2,t3],_,rfl,hQ,H⟩
 ·rw[cE g]at X;rw[if_neg g];have HX:=Hd X;clear X hs C h0 h1 oa ob hf z o hM F1 g;refine ent func74 ntmps74 ?_
  gi_wp2_with (first
   |(refine Cl 75 HX.out ?_;rintro e w2 ⟨rfl,f⟩;obtain⟨b1,Z,D,N,J,E,O,Q,rfl,S,T,V,Y,j⟩:=(t.a.go f).PI t.v;try simp only[show 2*4=8 from rfl,show 3*4=12 from rfl,fX,fh,eB]at S T V Y
     have W:=F.out.go f;have o2:=aW W;have G:=Hd2 W j;clear j W f)
   |fail)
  obtain⟨wF,K,t0,t1,t2,t3,hQ,H⟩:=nN (M:=M) (G.a.aQ 2 0) (G.a.aQ 2 1) (G.a.aQ 2 2) (G.a.aQ 2 3) (x:=R) G.u.num.sl G.u.den.sl G.u.num.neg G.u.den.neg G.a.bl pj;try rw[K]
  exact⟨rfl,.agg #[.bool (aG R.num),.slice D N J,.bool (aG R.den),.slice E O Q],by simp[results,go_sem,t0,t1,t2,t3],_,rfl,hQ,H⟩
theorem Xq{M:List Nat}{r:aS}{s1 s2 s3 s4 s5 s6 s7:dK}{t1 t2 t3 t4:dK}{i:Nat}{x:aU}{A B:Option Addr}{n cp m d:Nat}{w:World}{a2 b2:Rt}(hM:b_ M w)(hs:Sl fC w M A n cp (ls.map jd))(h0:ls[0]?=some a)(h1:ls[1]?=some b)(oa:a.ok)(ob:b.ok)(hf:Fine a b)(h2:ls[2]?=some a2)(h3:ls[3]?=some b2):
 Calls prog 91 #[.agg (pY r s1 s2 s3 s4 s5 s6 s7 i t1 t2 t3 t4).toArray,.agg (exV x B m d).toArray,.slice A n cp] w (Au M (if 1*rW a b<=0 then(ls[2]?).getD zR else(ls[3]?).getD zR) w):=by
 refine wid ?_;obtain⟨W1,aa,F1⟩:=dR ((((Fr.nil w).a w (pY r s1 s2 s3 s4 s5 s6 s7 i t1 t2 t3 t4) 93).a (w+1) (exV x B m d) 66).a (w+2) [false,.slice none 0 0,false,.slice none 0 0] 48);have F:=Hd F1;have Y:=aW F1
 skip
 have af:=hs.small;obtain⟨O,t⟩:∃q,ls[2]?=some q:=⟨_,by assumption⟩;obtain⟨P,o⟩:∃q,ls[3]?=some q:=⟨_,by assumption⟩;have ac:3<n:=by rw[<-hs.len,ck];exact(bu.1 o).1
 have ab:2<n:=pj;have ad:(3:Int)<(n:Int):=pj;have ae:(2:Int)<(n:Int):=pj;have z:=(hs.more (b:=w+2) pj).go F1.bl;have X:=Aa (s:=1) ((hM.le F1.bl.size).cons (F1.mJ 2)) z h0 h1 oa ob hf (.inl rfl);have p:=fB z t o;rw[t,o];by_cases g:1*rW a b<=0
 ·rw[cx g]at X;rw[if_pos g];have HX:=Hd X;clear X hs z h0 h1 oa ob hf t o hM F1 g;refine ent func91 ntmps91 ?_
  gi_wp2_with (first
   |(refine Cl 75 HX.out ?_;rintro e w2 ⟨rfl,f⟩;obtain⟨b1,Y,C,K,H,D,N,Q,rfl,R,S,T,V,j⟩:=(p.a.go f).PI p.b;try simp only[show 2*4=8 from rfl,show 3*4=12 from rfl,fX,fh,eB]at R S T V
     have W:=F.out.go f;have Z:=aW W;have G:=Hd2 W j;clear j W f)
   |fail)
  obtain⟨wF,J,t0,t1,t2,t3,hQ,E⟩:=nN (M:=M) (G.a.aQ 2 0) (G.a.aQ 2 1) (G.a.aQ 2 2) (G.a.aQ 2 3) (x:=O) G.u.num.sl G.u.den.sl G.u.num.neg G.u.den.neg G.a.bl pj;try rw[J]
  exact⟨rfl,.agg #[.bool (aG O.num),.slice C K H,.bool (aG O.den),.slice D N Q],by simp[results,go_sem,t0,t1,t2,t3],_,rfl,hQ,E⟩
 ·rw[cE g]at X;rw[if_neg g];have HX:=Hd X;clear X hs z h0 h1 oa ob hf t o hM F1 g;refine ent func91 ntmps91 ?_
  gi_wp2_with (first
   |(refine Cl 75 HX.out ?_;rintro e w2 ⟨rfl,f⟩;obtain⟨b1,Y,C,K,H,D,N,Q,rfl,R,S,T,V,j⟩:=(p.a.go f).PI p.v;try simp only[show 2*4=8 from rfl,show 3*4=12 from rfl,fX,fh,eB]at R S T V
     have W:=F.out.go f;have Z:=aW W;have G:=Hd2 W j;clear j W f)
   |fail)
  obtain⟨wF,J,t0,t1,t2,t3,hQ,E⟩:=nN (M:=M) (G.a.aQ 2 0) (G.a.aQ 2 1) (G.a.aQ 2 2) (G.a.aQ 2 3) (x:=P) G.u.num.sl G.u.den.sl G.u.num.neg G.u.den.neg G.a.bl pj;try rw[J]
  exact⟨rfl,.agg #[.bool (aG P.num),.slice C K H,.bool (aG P.den),.slice D N Q],by simp[results,go_sem,t0,t1,t2,t3],_,rfl,hQ,E⟩
theorem Zg{M:List Nat}{r:aS}{s1 s2 s3 s4 s5 s6 s7:dK}{t1 t2 t3 t4:dK}{i:Nat}{x:aU}{A B:Option Addr}{n cp m d:Nat}{w:World}(hM:b_ M w)(hn:i64 x.n)(hd:i64 x.d)(hx0:x.d≠0)(hs:Sl fC w M A n cp (ls.map jd))(h0:ls[0]?=some a)(oa:a.ok)(ob:(eP x.n x.d).ok)(hf:Fine (eP x.n x.d) a):
 Calls prog 89 #[.agg (pY r s1 s2 s3 s4 s5 s6 s7 i t1 t2 t3 t4).toArray,.agg (exV x B m d).toArray,.slice A n cp] w (Au M (VQ (eP x.n x.d) a) w):=by
 refine wid ?_;obtain⟨W1,ac,F1⟩:=dR ((((Fr.nil w).a w (pY r s1 s2 s3 s4 s5 s6 s7 i t1 t2 t3 t4) 93).a (w+1) (exV x B m d) 66).a (w+2) [false,.slice none 0 0,false,.slice none 0 0] 48);have F:=Hd F1;have ae:=hs.small;have ad:0<n:=by rw[<-hs.len,ck];exact(bu.1 h0).1
 have t:b_ ((w.heap.size+2)::M) W1:=(hM.le F1.bl.size).cons (F1.mJ 2);have O:=(hs.more (b:=w+2) pj).go F1.bl;obtain⟨b1,o1,A1,n1,c1,A2,n2,c2,rfl,D,E,J,N,P⟩:=O.qat h0;simp only[fX,eB]at D E J N;have u0:=ah D;have u1:=ah E;have u2:=ah J;have u3:=ah N;have y2:=ah (F1.aQ 1 2);have y3:=ah (F1.aQ 1 3);have HX:=Hd (uP (w:=W1.drew) (M:=(w+2)::M) (t.le pD) hn hd hx0);have H:=oK t (P.go pE.drew) oa ob hf;clear D E J N P hs O h0 oa ob hf t hM F1 hn hd hx0;refine ent func89 ntmps89 ?_;gi_wp2;refine iF [] 15 1 [0,1,2,3,8,9,10,4,5,6,7,11,12,13,14] pk pk rfl ?_;refine eH ?_;refine aH fun K f=>aA rfl rfl wy fun z j=>?_;gi_wp2;refine Cl 78 HX.out ?_;rintro e w2 ⟨u,rfl,R,p⟩;have Y:=Hd (F.out.drew.go p);have o:=Hd p;have HG:=Hd (wJ (M:=(w+2)::M) (H.a.le (cF pD p.size)) R);refine j _ _ ⟨?_,f _ _ ?_⟩;clear j z f K;·exact bq p _
 clear p R;refine lit ?_;refine eH ?_;refine aH fun K f=>aA rfl rfl wy fun z j=>?_;gi_wp2;refine Cl 77 HG.out ?_;rintro e w3 ⟨af,rfl,S,g⟩;have F3:=Hd (Y.out.go g);have aa:=Hd (Xk (H.a.le (cF o.out.size g.size)) S (H.b.go (o.out.trans (g.mono o.out.size))) H.d H.c H.x);have W:=Hd (o.out.trans (g.mono o.out.size));refine j _ _ ⟨?_,f _ _ ?_⟩;clear j z f K;·exact bq g _
 clear g S;refine lit ?_;refine eH ?_;refine aH fun K f=>aA rfl rfl wy fun z j=>?_;gi_wp2;refine Cl 90 aa.out ?_;rintro e w4 ⟨u4,rfl,T,hb4⟩;have F4:=Hd (F3.out.go hb4);have Z:=Hd (wJ (M:=(w+2)::M) (H.a.le (cF W.out.size hb4.size)) T);refine j _ _ ⟨?_,f _ _ ?_⟩;clear j z f K;·exact bq hb4 _
 clear hb4 T;refine lit ?_;refine eH ?_;refine aH fun K f=>aA rfl rfl wy fun z j=>?_;gi_wp2;refine Cl 77 Z.out ?_;rintro e w5 ⟨u5,rfl,V,C⟩;obtain⟨p2,q2,A5,n5,c5,X,m5,d5,rfl,Q⟩:=QC.of V;have G:=Hd2 (F4.out.go C) Q;refine j _ _ ⟨?_,f _ _ ?_⟩;clear j z f K;·exact bq C _
 clear C V Q;refine lit ?_;refine aK ?_;have o2:=aW G.a;refine jW fun K f z j=>?_;gi_wp2;refine et _ ?_;gi_wp2;obtain⟨wF,ab,t0,t1,t2,t3,hQ,bF⟩:=nN (M:=M) (G.a.aQ 2 0) (G.a.aQ 2 1) (G.a.aQ 2 2) (G.a.aQ 2 3) (x:=_) G.u.num.sl G.u.den.sl G.u.num.neg G.u.den.neg G.a.bl pj;try rw[ab]
 exact⟨rfl,.agg #[p2,.slice A5 n5 c5,q2,.slice X m5 d5],by simp[results,go_sem,t0,t1,t2,t3],_,rfl,hQ,bF⟩
theorem Nb(s:Int)(w:World):Calls prog 73 #[s] w fun e w'=>e=.returned (.agg #[.func (.func 74) #[] #[.pointer (some ⟨w,0,none⟩)]])/\
 ((w.alloc (.cells #[s] 3)).alloc (.cells #[.nilFunc] 129)).setCell ⟨w+1,0,none⟩ (.func (.func 74) #[] #[.pointer (some ⟨w,0,none⟩)])=w':=by
 refine wid ?_;obtain⟨W1,f,F1⟩:=dR (((Fr.nil w).a w [s] 3).a (w+1) [.nilFunc] 129);have g:=aW F1;clear F1;refine ent func73 ntmps73 ?_;gi_wp2;refine⟨rfl,_,by simp[results,go_sem,g],rfl,?_⟩;rw[<-f]
theorem Xr(w:World):(Instr.makeMap 95 none).run prog w=.ok (.map (some w.heap.size)) (w.alloc (.map #[] 0)):=by rfl
theorem gX{w w':World}{b:Nat}(h:w.mapTurned w' b):w'.heap.size=w.heap.size:=by obtain⟨_,_,_,_,_,rfl⟩:=h;exact Array.size_setIfInBounds
theorem turned_cell{w w':World}{b o:Nat}{v:Value}(h:w.mapTurned w' b)(hk:k≠b)(hc:w.cell? ⟨k,o,none⟩=some v):w'.cell? ⟨k,o,none⟩=some v:=by rw[eZ (w:=w) (h.grown.block k (bw w _ hc) (fun e=>hk (by cases e;rfl)))];exact hc
abbrev PK(w:World):List Value:= [.agg #[.nilFunc],.agg #[.func (.func 76) #[] #[]],.agg #[.func (.func 79) #[] #[]],.agg #[.func (.func 81) #[] #[]],.agg #[.func (.func 83) #[] #[]],.agg #[.func (.func 84) #[] #[]],.agg #[.func (.func 85) #[] #[]],.agg #[.func (.func 87) #[] #[]],.agg #[.func (.func 89) #[] #[]],.agg #[.func (.func 74) #[] #[.pointer (some ⟨w+1,0,none⟩)]],.agg #[.func (.func 74) #[] #[.pointer (some ⟨w+1+2,0,none⟩)]],.agg #[.func (.func 91) #[] #[]]]
def PL(w:World):List (Int×Value):= [(11,.agg #[.func (.func 91) #[] #[]]),(10,.agg #[.func (.func 74) #[] #[.pointer (some ⟨w.heap.size+1+2,0,none⟩)]]),(9,.agg #[.func (.func 74) #[] #[.pointer (some ⟨w.heap.size+1,0,none⟩)]]),(8,.agg #[.func (.func 89) #[] #[]]),(7,.agg #[.func (.func 87) #[] #[]]),(6,.agg #[.func (.func 85) #[] #[]]),(5,.agg #[.func (.func 84) #[] #[]]),(4,.agg #[.func (.func 83) #[] #[]]),(3,.agg #[.func (.func 81) #[] #[]]),(2,.agg #[.func (.func 79) #[] #[]]),(1,.agg #[.func (.func 76) #[] #[]])]
theorem TS(w:World):Calls prog 43 #[] w fun e w'=>∃n,e=.returned (.map (some w.heap.size))/\MV (PK w) w' w.heap.size n (qZ (PL w))/\w'.cell? ⟨w+1,0,none⟩=some (.int .i64 1)/\w'.cell? ⟨w+1+2,0,none⟩=some (.int .i64 (-1))/\Below w w w':=by
 refine wid ?_;have mm:=Xr;obtain⟨w0,K⟩:=aC (w.alloc (.map #[] 0));have P:MV (PK w) w0 w.heap.size 0 (fun _=>none):=by rw[<-K];exact MV.new _ w
 have z0:w0.heap.size=w.heap.size+1:=by rw[<-K];simp
 have b:Below w w w0:=by rw[<-K];exact(bL _ w).alloc pD _
 obtain⟨w1,r1,Q,t1⟩:=P.store (k:=1) underlying95 pA (v:=.agg #[.func (.func 76) #[] #[]]) po pj;replace b:=b.grown t1.grown (cY P.lt) (fun q f=>by cases f;exact bj _);obtain⟨w2,r2,S,t2⟩:=Q.store (k:=2) underlying95 pA (v:=.agg #[.func (.func 79) #[] #[]]) po pj;replace b:=b.grown t2.grown (cY Q.lt) (fun q f=>by cases f;exact bj _);obtain⟨w3,r3,T,t3⟩:=S.store (k:=3) underlying95 pA (v:=.agg #[.func (.func 81) #[] #[]]) po pj;replace b:=b.grown t3.grown (cY S.lt) (fun q f=>by cases f;exact bj _);obtain⟨w4,r4,V,t4⟩:=T.store (k:=4) underlying95 pA (v:=.agg #[.func (.func 83) #[] #[]]) po pj;replace b:=b.grown t4.grown (cY T.lt) (fun q f=>by cases f;exact bj _);obtain⟨w5,r5,W,t5⟩:=V.store (k:=5) underlying95 pA (v:=.agg #[.func (.func 84) #[] #[]]) po pj;replace b:=b.grown t5.grown (cY V.lt) (fun q f=>by cases f;exact bj _);obtain⟨w6,r6,X,t6⟩:=W.store (k:=6) underlying95 pA (v:=.agg #[.func (.func 85) #[] #[]]) po pj;replace b:=b.grown t6.grown (cY W.lt) (fun q f=>by cases f;exact bj _);obtain⟨w7,r7,Y,t7⟩:=X.store (k:=7) underlying95 pA (v:=.agg #[.func (.func 87) #[] #[]]) po pj;replace b:=b.grown t7.grown (cY X.lt) (fun q f=>by cases f;exact bj _);obtain⟨o,r8,m8,t8⟩:=Y.store (k:=8) underlying95 pA (v:=.agg #[.func (.func 89) #[] #[]]) po pj;replace b:=b.grown t8.grown (cY Y.lt) (fun q f=>by cases f;exact bj _);have F:o.heap.size=w.heap.size+1:=by rw[gX t8,gX t7,gX t6,gX t5,gX t4,gX t3,gX t2,gX t1,z0]
 obtain⟨wA,t⟩:=aC (((o.alloc (.cells #[.int .i64 1] 3)).alloc (.cells #[.nilFunc] 129)).setCell ⟨o+1,0,none⟩ (.func (.func 74) #[] #[.pointer (some ⟨o,0,none⟩)]));have aa:Below o o wA:=by rw[<-t];exact(((pE.alloc pD _).alloc po _).setCell (p:=⟨o+1,0,none⟩) (ja _) _)
 have ac:wA.heap.size=o.heap.size+2:=by rw[<-t];simp
 have H:wA.cell? ⟨o,0,none⟩=some (.int .i64 1):=by rw[<-t];simp[go_sem]
 have Z:=m8.go aa;replace b:=b.trans (aa.mono b.size);obtain⟨j,r9,m9,E⟩:=Z.store (k:=9) underlying95 pA (v:=.agg #[.func (.func 74) #[] #[.pointer (some ⟨w+1,0,none⟩)]]) po pj;replace b:=b.grown E.grown (cY Z.lt) (fun q f=>by cases f;exact bj _);have z9:j.heap.size=w.heap.size+1+2:=by rw[gX E,ac,F]
 obtain⟨wB,z⟩:=aC (((j.alloc (.cells #[.int .i64 (-1)] 3)).alloc (.cells #[.nilFunc] 129)).setCell ⟨j+1,0,none⟩ (.func (.func 74) #[] #[.pointer (some ⟨j,0,none⟩)]));have G:Below j j wB:=by rw[<-z];exact(((pE.alloc pD _).alloc po _).setCell (p:=⟨j+1,0,none⟩) (ja _) _)
 have ah:wB.heap.size=j.heap.size+2:=by rw[<-z];simp
 have J:wB.cell? ⟨j,0,none⟩=some (.int .i64 (-1)):=by rw[<-z];simp[go_sem]
 have mB:=m9.go G;replace b:=b.trans (G.mono b.size);obtain⟨af,ad,R,C⟩:=mB.store (k:=10) underlying95 pA (v:=.agg #[.func (.func 74) #[] #[.pointer (some ⟨w+1+2,0,none⟩)]]) po pj;replace b:=b.grown C.grown (cY mB.lt) (fun q f=>by cases f;exact bj _);obtain⟨ag,ae,ab,D⟩:=R.store (k:=11) underlying95 pA (v:=.agg #[.func (.func 91) #[] #[]]) po pj;replace b:=b.grown D.grown (cY R.lt) (fun q f=>by cases f;exact bj _);have HA:=Hd (Nb 1 o);have HB:=Hd (Nb (-1) j);rw[F]at HA;rw[z9]at HB;rw[F]at H;rw[z9]at J;have O:=turned_cell E pj H;have kB:=(G.cell (p:=⟨w+1,0,none⟩) (bw j _ O)).trans O;have HF:=h_ ab (turned_cell D pj (turned_cell C pj kB)) (turned_cell D pj (turned_cell C pj J)) b;clear O kB H J b ab E C D;clear P Q S T V W X Y m8 m9 Z mB R z0 t1 t2 t3 t4 t5 t6 t7 t8;refine ent func43 ntmps43 ?_
 gi_wp2_with (first
  |(have g:=G1.out;clear g;refine Cl 73 HB.out ?_;rintro e wC ⟨rfl,N⟩;rw[z9]at z;obtain rfl:=z.symm.trans N)
  |(refine Cl 73 HA.out ?_;rintro e wC ⟨rfl,N⟩;rw[F]at t;obtain rfl:=t.symm.trans N;have G1:=Hd trivial)
  |fail)
 go_ret;exact⟨11,rfl,HF.a,HF.b,HF.c,HF.w⟩
structure Zk(w:World)(M:List Nat)(r:aS)(s1 s2 s3 s4 s5 s6 s7:dK)(c:dS)(t1 t2 t3 t4:dK)(u:World)(n:Nat):Prop where
 r:dG w M r s1 s2 s3 s4 s5 s6 s7
 c:jE w M c t1 t2 t3 t4
 mv:MV (PK u) w u.heap.size n (qZ (PL u))
 p1:w.cell? ⟨u+1,0,none⟩=some (.int .i64 1)
 p2:w.cell? ⟨u+1+2,0,none⟩=some (.int .i64 (-1))
 bM:b_ M w
section
variable {w w' u:World}{M:List Nat}{r:aS}{s1 s2 s3 s4 s5 s6 s7:dK}{c:dS}{t1 t2 t3 t4:dK}{n i:Nat}
theorem Zk.go(h:Zk w M r s1 s2 s3 s4 s5 s6 s7 c t1 t2 t3 t4 u n)(hb:Below w w w'):Zk w' M r s1 s2 s3 s4 s5 s6 s7 c t1 t2 t3 t4 u n:=⟨h.r.go hb,h.c.go hb,h.mv.go hb,(hb.cell (p:=⟨u+1,0,none⟩) (bw w _ h.p1)).trans h.p1,(hb.cell (p:=⟨u+1+2,0,none⟩) (bw w _ h.p2)).trans h.p2,h.bM.le hb.size⟩
theorem Zk.up(h:Zk w M r s1 s2 s3 s4 s5 s6 s7 c t1 t2 t3 t4 u n)(L:List Nat)(hL:∀k,k∈L->w.heap.size<=k/\k<w'.heap.size)(hb:Below w w w'):Zk w' (L++M) r s1 s2 s3 s4 s5 s6 s7 c t1 t2 t3 t4 u n:=
 have g:=h.go hb
 ⟨(h.r.moreL L fun k hk=>(hL k hk).1).go hb,(h.c.moreL L fun k hk=>(hL k hk).1).go hb,g.mv,g.p1,g.p2,fun q hq=>(cK.1 hq).elim (fun hq=>(hL q hq).2) (g.bM q)⟩
theorem Zl{l:List fC}(h:l.all dF=true):(l.map OE).map jd=l:=by
 rw[nF];conv=>rhs;rw[<-List.map_id l]
 exact List.map_congr_left fun x hx=>by obtain⟨y,-,rfl⟩:=(zx x).1 (cT.1 h x hx);exact gT jd (Lm y)
theorem getD_at(h:ls[k]?=some q):ls.getD k zR=q:=by rw[cC,h];rfl
def KdG(r:aS)(s1 s2 s3 s4 s5 s6 s7:dK)(c:dS)(t1 t2 t3 t4:dK)(u:World)(n i:Nat)(x:aU):Prop:=∃f caps,qZ (PL u) x.kind=some (.agg #[.func (.func f) #[] caps])/\(∀args w,(callFunc f args).run prog w=.ok (.enter f args) w)/\∀(W:World) (M:List Nat) (A B:Option Addr) (m d k cp:Nat),Zk W M r s1 s2 s3 s4 s5 s6 s7 c t1 t2 t3 t4 u n->Sl fC W M A k cp ((nH (kW r c) x.l).map jd)->Calls prog f (#[.agg (pY r s1 s2 s3 s4 s5 s6 s7 i t1 t2 t3 t4).toArray,.agg (exV x B m d).toArray,.slice A k cp]++caps) W (Au M (rG (kW r c) x) W)
theorem uQ(ha:yx a k)(hb:yx b k)(hk:k<=600):Fine a b:=(ha.sh hk).fine (hb.sh hk)
theorem qN{l:List aU}(h:∀y,y∈l->yx (rG I y) 300)(hk:k<l.length):∃q,(nH I l)[k]?=some q/\yx q 300:=⟨_,by rw[oC,cM,cd hk];rfl,h _ (fN hk)⟩
theorem Nh(h:pX y):y.kind=1\/y.kind=2\/y.kind=3\/y.kind=4\/y.kind=5\/y.kind=6\/y.kind=7\/y.kind=8\/y.kind=9\/y.kind=10\/y.kind=11:=by
 have e:=DW h;unfold mV at e
 repeat' split at e
 all_goals omega
theorem TU(hg:f_ r i c)(hw:yI r c)(hm:eY c.marks=0)(x:aU)(hi:i64 x.kind/\i64 x.n/\i64 x.d)(hp:YD r.aT.length i x)(hs:∀y,y∈x.l->yx (rG (kW r c) y) 300):KdG r s1 s2 s3 s4 s5 s6 s7 c t1 t2 t3 t4 u n i x:=by
 have f:=DW hp.sh;have t:=VU hp.sh;obtain⟨Y,J,K,Z,N⟩:=wK hg;unfold KdG;rw[Qy];rcases Nh hp.sh with e|e|e|e|e|e|e|e|e|e|e;all_goals rw[e]at f |-
 ·obtain⟨O,Q,R,S⟩:=t (.inl e);refine⟨_,_,rfl,eR (P:=prog) func76 pk rfl,fun W M A B m d k cp V _=>?_⟩;exact Y_ V.bM hi.2.1 hi.2.2 pj
 ·obtain⟨G,H⟩:=hp.c e;obtain⟨k,o⟩:∃k:Nat,x.n=(k:Int):=⟨x.n.toNat,pj⟩;have C:=cd (show k<r.aT.length by omega);have g:=cd (show k<c.marks.length by omega);refine⟨_,_,rfl,eR (P:=prog) func79 pk rfl,fun W M A B m d j cp V _=>?_⟩;have:=Zc (x:=x) (i:=i) (A:=A) (B:=B) (m:=m) (d:=d) (n:=j) (cp:=cp) V.bM V.r V.c hg hm o C g;rw[show Uf (kW r c) 2 x.n x.d (nH (kW r c) x.l)=qJ (r.aT[k]) (c.marks[k]) by
   rw[o];exact uK (fun p:bT×List Int=>qJ p.1 p.2) (oG C g) zR]
  exact this
 ·refine⟨_,_,rfl,eR (P:=prog) func81 pk rfl,fun W M A B m d k cp V _=>?_⟩;exact Za V.bM V.r V.c hg.1.2.1.bonus J hw.lens.2.1
 ·refine⟨_,_,rfl,eR (P:=prog) func83 pk rfl,fun W M A B m d k cp V _=>?_⟩;exact Zb V.bM V.r V.c hg.1.2.1.malus K hw.lens.2.2.1
 ·obtain⟨G,H⟩:=hp.r e;obtain⟨k,o⟩:∃k:Nat,x.n=(k:Int):=⟨x.n.toNat,pj⟩;obtain⟨q,z⟩:=dW (c.prev.map OE) k (show k<(c.prev.map OE).length by rw[ck];omega);refine⟨_,_,rfl,eR (P:=prog) func84 pk rfl,fun W M A B m d j cp V _=>?_⟩;have:=Zf (r:=r) (s1:=s1) (s2:=s2) (s3:=s3) (s4:=s4) (s5:=s5) (s6:=s6) (s7:=s7) (i:=i) (xk:=5) (xs:=x.name) (xd:=x.d) (A:=A) (B:=B) (m:=m) (d:=d) (n:=j) (cp:=cp) V.c (Zl N).symm z;rw[show Uf (kW r c) 5 x.n x.d (nH (kW r c) x.l)=q by rw[o];exact getD_at z];rw[<-o,<-e]at this;exact this
 ·obtain⟨a,a1,a2⟩:=qN hs (k:=0) (by have:((x.l.length:Nat):Int)=2:=f;omega);obtain⟨b,b1,b2⟩:=qN hs (k:=1) (by have:((x.l.length:Nat):Int)=2:=f;omega);refine⟨_,_,rfl,eR (P:=prog) func85 pk rfl,fun W M A B m d k cp V g=>?_⟩;have:=Zd (x:=x) (i:=i) (r:=r) (s1:=s1) (s2:=s2) (s3:=s3) (s4:=s4) (s5:=s5) (s6:=s6) (s7:=s7) (t1:=t1) (t2:=t2) (t3:=t3) (t4:=t4) (B:=B) (m:=m) (d:=d) V.bM g a1 b1 a2.ok b2.ok (uQ a2 b2 pj);rw[show Uf (kW r c) 6 x.n x.d (nH (kW r c) x.l)=Js a b by rw[<-getD_at a1,<-getD_at b1];rfl];exact this
 ·obtain⟨a,a1,a2⟩:=qN hs (k:=0) (by have:((x.l.length:Nat):Int)=2:=f;omega);obtain⟨b,b1,b2⟩:=qN hs (k:=1) (by have:((x.l.length:Nat):Int)=2:=f;omega);refine⟨_,_,rfl,eR (P:=prog) func87 pk rfl,fun W M A B m d k cp V g=>?_⟩;have:=Ze (x:=x) (i:=i) (r:=r) (s1:=s1) (s2:=s2) (s3:=s3) (s4:=s4) (s5:=s5) (s6:=s6) (s7:=s7) (t1:=t1) (t2:=t2) (t3:=t3) (t4:=t4) (B:=B) (m:=m) (d:=d) V.bM g a1 b1 a2.ok b2.ok (uQ a2 b2 pj);rw[show Uf (kW r c) 7 x.n x.d (nH (kW r c) x.l)=OG a b by rw[<-getD_at a1,<-getD_at b1];rfl];exact this
 ·obtain⟨a,a1,a2⟩:=qN hs (k:=0) (by have:((x.l.length:Nat):Int)=1:=f;omega);have D:=OH (t (.inr e));obtain⟨O,Q,R,S⟩:=t (.inr e);refine⟨_,_,rfl,eR (P:=prog) func89 pk rfl,fun W M A B m d k cp V g=>?_⟩;have:=Zg (x:=x) (i:=i) (r:=r) (s1:=s1) (s2:=s2) (s3:=s3) (s4:=s4) (s5:=s5) (s6:=s6) (s7:=s7) (t1:=t1) (t2:=t2) (t3:=t3) (t4:=t4) (B:=B) (m:=m) (d:=d) V.bM hi.2.1 hi.2.2 pj g a1 a2.ok D.ok (uQ (D.up pj) a2 pj);rw[show Uf (kW r c) 8 x.n x.d (nH (kW r c) x.l)=VQ (eP x.n x.d) a by rw[<-getD_at a1];rfl];exact this
 ·obtain⟨a,a1,a2⟩:=qN hs (k:=0) (by have:((x.l.length:Nat):Int)=2:=f;omega);obtain⟨b,b1,b2⟩:=qN hs (k:=1) (by have:((x.l.length:Nat):Int)=2:=f;omega);refine⟨_,_,rfl,eR (P:=prog) func74 pk rfl,fun W M A B m d k cp V g=>?_⟩;have:=Ir (x:=x) (i:=i) (r:=r) (s1:=s1) (s2:=s2) (s3:=s3) (s4:=s4) (s5:=s5) (s6:=s6) (s7:=s7) (t1:=t1) (t2:=t2) (t3:=t3) (t4:=t4) (B:=B) (m:=m) (d:=d) V.bM g a1 b1 a2.ok b2.ok (uQ a2 b2 pj) (.inl rfl) V.p1;rw[a1,b1]at this;rw[show Uf (kW r c) 9 x.n x.d (nH (kW r c) x.l)=if 1*rW a b<=0 then a else b by rw[Int.one_mul,<-getD_at a1,<-getD_at b1];rfl];exact this
 ·obtain⟨a,a1,a2⟩:=qN hs (k:=0) (by have:((x.l.length:Nat):Int)=2:=f;omega);obtain⟨b,b1,b2⟩:=qN hs (k:=1) (by have:((x.l.length:Nat):Int)=2:=f;omega);refine⟨_,_,rfl,eR (P:=prog) func74 pk rfl,fun W M A B m d k cp V g=>?_⟩;have:=Ir (x:=x) (i:=i) (r:=r) (s1:=s1) (s2:=s2) (s3:=s3) (s4:=s4) (s5:=s5) (s6:=s6) (s7:=s7) (t1:=t1) (t2:=t2) (t3:=t3) (t4:=t4) (B:=B) (m:=m) (d:=d) V.bM g a1 b1 a2.ok b2.ok (uQ a2 b2 pj) (.inr rfl) V.p2;rw[a1,b1]at this;rw[show Uf (kW r c) 10 x.n x.d (nH (kW r c) x.l)=if-1*rW a b<=0 then a else b by rw[Int.neg_mul,Int.one_mul,<-getD_at a1,<-getD_at b1];rfl];exact this
 obtain⟨a,a1,a2⟩:=qN hs (k:=0) (by have:((x.l.length:Nat):Int)=4:=f;omega);obtain⟨b,b1,b2⟩:=qN hs (k:=1) (by have:((x.l.length:Nat):Int)=4:=f;omega);obtain⟨E,a3,T⟩:=qN hs (k:=2) (by have:((x.l.length:Nat):Int)=4:=f;omega);obtain⟨F,b3,X⟩:=qN hs (k:=3) (by have:((x.l.length:Nat):Int)=4:=f;omega);refine⟨_,_,rfl,eR (P:=prog) func91 pk rfl,fun W M A B m d k cp V g=>?_⟩;have:=Xq (x:=x) (i:=i) (r:=r) (s1:=s1) (s2:=s2) (s3:=s3) (s4:=s4) (s5:=s5) (s6:=s6) (s7:=s7) (t1:=t1) (t2:=t2) (t3:=t3) (t4:=t4) (B:=B) (m:=m) (d:=d) V.bM g a1 b1 a2.ok b2.ok (uQ a2 b2 pj) a3 b3;rw[a3,b3]at this;rw[show Uf (kW r c) 11 x.n x.d (nH (kW r c) x.l)=if 1*rW a b<=0 then E else F by rw[Int.one_mul,<-getD_at a1,<-getD_at b1,<-getD_at a3,<-getD_at b3];rfl];exact this
end
structure TW(M:List Nat)(w u:World)(L:List (Nat×List Value))(v:Value)(xs:List Rt)(wr:World):Prop where
 own:bD fC 48 wr M u.heap.size v xs.length (xs.map jd)
 fr:Fr w wr L
 bb:Below u u wr
 hL:∀b vs,(b,vs)∈L->b<u.heap.size
 hW:w.heap.size<=u.heap.size
 bM:b_ M u
section
variable {M:List Nat}{w u wr wz:World}{L:List (Nat×List Value)}{v:Value}{xs:List Rt}
theorem TW.go(h:TW M w u L v xs wr)(hb:Below wr wr wz):TW M w u L v xs wz:=⟨h.own.go hb,h.fr.go hb,h.bb.trans (hb.mono h.bb.size),h.hL,h.hW,h.bM⟩
theorem TW.bel(h:TW M w u L v xs wr):b_ (bP v++M) wr:=fun q hq=>by
 rcases cK.1 hq with hq|hq;·exact(h.own.lt (bJ.1 hq)).2
 exact bX (h.bM q hq) h.bb.size
theorem TW.app(h:TW M w u L v xs wr){p r:Bool}{A B:Option Addr}{n c m d:Nat}(hq:QC wr (bP v++M) q p r A n c B m d)(hn:xs.length<=1000):
 ∃v' w',(Builtin.append_ #[37,37] 37 #[v,.slice (some ⟨wr,0,none⟩) 1 1]).run prog (wr.alloc (.cells #[.bool p,.slice A n c,.bool r,.slice B m d] 48))=.ok v' w'/\TW M w u L v' (xs++ [q]) w':=by
 obtain⟨⟨rfl,s1⟩,⟨rfl,s2⟩⟩:=hq;obtain⟨v',w',z,T,f,D,E⟩:=h.own.app1 (t:=37) underlying37 Iq h.bb.size (fun q hq=>h.bel q (cP _ hq)) (x:=jd q) (JB s1 s2) pj;have j:=h.fr.ZI f (fun g P=>⟨cF h.hW (h.own.lt P).1,fun b vs o e=>by have C:=(h.own.lt P).1;have:=h.hL b vs o;omega⟩);exact⟨v',w',z,⟨by simpa using T,j,h.bb.grown f h.bb.size (fun g P=>(h.own.lt P).1),h.hL,h.hW,h.bM⟩⟩
theorem TW.sl(h:TW M w u L v xs wr)(hn:xs.length<=1000):∃A c,v=.slice A xs.length c/\Sl fC wr M A xs.length c (xs.map jd):=h.own.sl pj h.bM
end
def VaR(M:List Nat)(w u:World)(L:List (Nat×List Value))(F:Nat->List Rt)(n:Nat)(v i:Value)(wr:World):Prop:=∃(k:Nat) (v':Value),k<=n/\i=k/\v'=v/\Hid (TW M w u L v' (F k) wr)
attribute [irreducible] VaR
theorem TY(w:World):(zeroValue 129).run prog w=.ok (.agg #[.nilFunc]) w:=pk
theorem Xv(f:Nat)(caps:Array Value)(w:World):(Instr.field 129 (.agg #[.func (.func f) #[] caps]) 0).run prog w=.ok (.func (.func f) #[] caps) w:=pk
theorem T_{l:List aU}(h:l[k]?=some y):(nH I l).take (k+1)=(nH I l).take k++ [rG I y]:=by rw[oC];exact take_snoc (by rw[cM,h];rfl)
section
variable {u:World}{r:aS}{s1 s2 s3 s4 s5 s6 s7:dK}{c:dS}{t1 t2 t3 t4:dK}{n i:Nat}
theorem Ua(hg:f_ r i c)(hw:yI r c)(hm:eY c.marks=0):∀(x:aU),nodes x<=60->(∀y,y∈iZ x->YD r.aT.length i y)->∀{M:List Nat}{A:Option Addr}{m d:Nat}{w:World},Zk w M r s1 s2 s3 s4 s5 s6 s7 c t1 t2 t3 t4 u n->(i64 x.kind/\i64 x.n/\i64 x.d)->Sl aU w M A m d x.l->
 Calls prog 42 #[.agg (pY r s1 s2 s3 s4 s5 s6 s7 i t1 t2 t3 t4).toArray,.agg (exV x A m d).toArray,.map (some u.heap.size)] w (Au M (rG (kW r c) x) w):=by
 intro x
 induction x using iY with
 |_ x ih=>
 intro hn R M A m d w V hi hs;refine wid ?_;have ar:=hs.small;obtain⟨I,Q⟩:=aC (kW r c);have ai:=fun y=>ae5 (ae6 hg hw hm) y;have an:=gV x;have H:=jX x.l;have ag:∀y,y∈x.l->yx (rG (kW r c) y) 300:=fun y p=>(ai y (by have:=fK p;omega) (fun z hz=>R z (by rw[lW];exact bE _ (qF p hz)))).up (by have:=fK p;omega);obtain⟨f,ak,kf,eg,kg⟩:=TU (s1:=s1) (s2:=s2) (s3:=s3) (s4:=s4) (s5:=s5) (s6:=s6) (s7:=s7) (t1:=t1) (t2:=t2) (t3:=t3) (t4:=t4) (u:=u) (n:=n) hg hw hm x hi (R x (by rw[lW];exact cw)) ag;have IH:=Hd (fun y (p:y∈x.l)=> @ih y p (by have:=fK p;omega) (fun z hz=>R z (by rw[lW];exact bE _ (qF p hz))));rw[Q]at kg;obtain⟨L,hL⟩:∃L:List (Nat×List Value), [(w.heap.size,pY r s1 s2 s3 s4 s5 s6 s7 i t1 t2 t3 t4),(w.heap.size+1,exV x A m d),(w.heap.size+2, [false,.slice none 0 0,false,.slice none 0 0])]=L:=⟨_,rfl⟩;obtain⟨W1,ap,F1⟩:=dR ((((Fr.nil w).a w (pY r s1 s2 s3 s4 s5 s6 s7 i t1 t2 t3 t4) 93).a (w+1) (exV x A m d) 66).a (w+2) [false,.slice none 0 0,false,.slice none 0 0] 48);have o1:=aW F1;have C:=Hd2 (V.up (w':=W1) [w.heap.size+2] (fun k hk=>by rw[bz]at hk;subst hk;exact⟨pj,F1.mJ 2⟩) F1.bl) ((hs.more (b:=w+2) pj).go F1.bl);have aa:=Hd (show ∀V,Fr w V L->Fr w V [(w,pY r s1 s2 s3 s4 s5 s6 s7 i t1 t2 t3 t4),(w+1,exV x A m d),(w+2, [false,.slice none 0 0,false,.slice none 0 0])]from fun V h=>by rw[hL];exact h);have O:Fr w W1 L:=by rw[<-hL];exact F1
 have R0:=Hd (show TW ([w.heap.size+2]++M) w W1 L (.slice none 0 0) [] W1 from⟨bD.nil _ _ _,O,bL _ _,fun b vs hm=>O.lt b vs hm,O.bl.size,C.a.bM⟩);have KG:=Hd2 kf kg;have HX:=Hd2 hs.len (show x.l.length<=60 by omega);have HI:=Hd Q;clear F1 O V hs hL R ih ai an H ag kf kg hg hw hm hn;rw[Q];clear Q;refine ent func42 ntmps42 ?_;gi_wp2;gi_loopw[7,13] (fun v j wr=>VaR ([w.heap.size+2]++M) w W1 L (fun k=>(nH I x.l).take k) m v j wr) (fun _ j _=>m-(intOf j).toNat);case atStart=>unfold VaR;exact⟨0,_,cf _,rfl,rfl,R0⟩
 case round=>
  unfold VaR at hrel;obtain⟨k,v,hk,rfl,T,S⟩:=hrel;subst T;replace S:Hid (TW ([w.heap.size+2]++M) w W1 L v ((nH I x.l).take k) wr):=S;have o2:=aW (aa.out _ S.out.fr);by_cases am:k<m
  ·obtain⟨y,p⟩:=dW x.l k (by rw[HX.a];exact am);have F:=S.out.bb;obtain⟨b,o,B,n',d',rfl,⟨h0,h1,h2,h3,h4⟩,hyi,hys⟩:=(C.u.go F).qQ p;obtain⟨W5,CZ,F5⟩:=dR ((aa.out _ S.out.fr).a wr (exV y B n' d') 66);have E:Below wr wr W5:=by rw[<-CZ];exact(bL _ wr).alloc pD _
   have o5:=aW F5;have ac:∀q,q∈bP v->W1.heap.size<=q/\q<W5.heap.size:=fun q hq=>by have h1:=S.out.own.lt (bJ.1 hq);exact⟨h1.1,bX h1.2 E.size⟩
   have t:=C.a.up (w':=W5) (bP v) ac (F.trans (E.mono F.size));have aj:=((C.u.moreL (bP v) (fun q hq=>(ac q hq).1)).go F).qQ p;obtain⟨b',o',W,n2,d2,e2,⟨-,-,-,-,g4⟩,-,Xw⟩:=aj;cases e2;rw[h4]at g4;cases g4;have P:=Hd (IH.out y (bh p) t hyi (Xw.go E));rw[HI.out]at P;have ah:=T_ (I:=I) p;have ae:=Hd2 ah (show((nH I x.l).take k).length=k by rw[cI,oC,ck,HX.a];omega);have al:=Hd (S.out.go E);clear p ah F hys Xw ac t E F5 hyi
   gi_wp2_with (first
    |(have g:=Z;clear g;gi_at_builtin;refine c_ rfl fun K af=>?_;have X:=Z.a;refine aI _ _ _ rfl rfl rfl X (af _ _ ?_);clear af K X)
    |(refine Cl 42 P.out ?_;rintro e w6 ⟨u6,rfl,N,D⟩;obtain⟨p2,q2,A2,n2,c2,W,m2,d2,rfl,J⟩:=QC.of N;obtain⟨v',wA,r1,R1⟩:=(al.out.go D).app J (by rw[ae.u];have:=HX.out;omega);rw[<-ae.a]at R1;have Z:=Hd2 r1 R1;clear r1 R1 N J D)
    |fail)
   exact⟨by unfold VaR;exact⟨k+1,_,pj,by go_num,rfl,Z.u⟩,by simp[intOf];omega⟩
  ·obtain rfl:k=m:=pj;have ab:(nH I x.l).take k=nH I x.l:=bR (by rw[oC,ck,HX.a];exact bj _);have H:(nH I x.l).length=k:=by rw[oC,ck,HX.a]
   obtain⟨A',c',T,ad⟩:=S.out.sl (by rw[ab,H];have:=HX.out;omega);rw[ab,H]at T ad;have t:=C.a.go S.out.bb;have hl:=t.mv.look (k:=x.kind) underlying95 (TY wr) po hi.1;rw[KG.a]at hl;simp only[eK]at hl;have P:=Hd (KG.u wr _ A' A k d k c' t ad);have HF:=Hd (aa.out _ S.out.fr);have aq:=Xv f ak;subst T;clear ab H ad t S
   gi_wp2_with (first
    |(refine Cl f P.out ?_;rintro e w3 ⟨u3,rfl,N,D⟩;obtain⟨p2,q2,A2,n2,c2,W,m2,d2,rfl,J⟩:=QC.of N;have Y:=HF.out.go D;have o3:=aW Y;have G:=Hd2 Y J;clear N Y J D)
    |fail)
   obtain⟨wF,ao,t0,t1,t2,t3,hQ,bF⟩:=nN (M:=M) (G.a.aQ 2 0) (G.a.aQ 2 1) (G.a.aQ 2 2) (G.a.aQ 2 3) (x:=_) G.u.num.sl G.u.den.sl G.u.num.neg G.u.den.neg G.a.bl pj;try rw[ao]
   exact⟨rfl,.agg #[p2,.slice A2 n2 c2,q2,.slice W m2 d2],by simp[results,go_sem,t0,t1,t2,t3],_,rfl,hQ,bF⟩
end
section
variable {M:List Nat}{r:aS}{s1 s2 s3 s4 s5 s6 s7:dK}{c:dS}{t1 t2 t3 t4:dK}{w:World}
theorem Nj{x:aJ}{i:Nat}(hr:dG w M r s1 s2 s3 s4 s5 s6 s7)(hc:jE w M c t1 t2 t3 t4)(hg:f_ r i c)(hw:yI r c)(hx:r.rounds[i]?=some x)(hp:x.2.2.2.2.1=false)(hm:eY c.marks=0)(ht:Tab w)(hM:b_ M w):
 Calls prog 12 #[.agg (aV r s1 s2 s3 s4 s5 s6 s7).toArray,i,.agg (dI t1 t2 t3 t4).toArray] w fun e w'=>∃u,e=.returned (.tuple #[u,.int .i64 0])/\QW w' M u (rG (kW r c) (au x))/\Below w w w':=by
 refine wid ?_;obtain⟨W1,aj,F1⟩:=dR (((((Fr.nil w).a w (aV r s1 s2 s3 s4 s5 s6 s7) 28).a (w+1) (dI t1 t2 t3 t4) 42).a (w+2) [false,.slice none 0 0,false,.slice none 0 0] 48).a (w+3) [.int .i64 0] 32);have o1:=aW F1;have F:=Hd F1;obtain⟨A5,P,c5⟩:=s5;have R:Sl aJ w M A5 P c5 r.rounds:=hr.rounds;have ak:i<P:=by rw[<-R.len];exact(bu.1 hx).1
 have JC:=R.small;obtain⟨Q,T,-,-,-,Zm,-⟩:=R.iw hx;subst Zm;clear R;have HC:=Hd (adq (i:=(i:Int)) (hr.go F1.bl) (hc.go F1.bl) hg (tab_below ht F1.bl) (hM.le F1.bl.size));have H:=oK hr hc hg hw hM;have HX:=Hd hx;have HP:=Hd hp;clear F1 hr hc hg hw hM ht hx hp;have ab:=Hd hm;clear hm;refine qj func12 rfl ntmps12 ?_
 gi_wp2_with (first
  |(have g:=G2.out;clear g;have X:=M_ (r:=r) (s1:=s1) (s2:=s2) (s3:=s3) (s4:=s4) (s5:=⟨some ⟨Q,T,none⟩,P,c5⟩) (s6:=s6) (s7:=s7) (i:=i) (H.b.go F.out.bl) ab.out (fun l hl=>cF (H.d.mark l hl) pj);refine Cl 41 X ?_;clear X;rintro e C ⟨rfl,hb4⟩;have W:=F.out.go hb4;have o4:=aW W;replace F:=Hd W;clear W hb4 o1 o2 o3)
  |(have g:=G1.out;clear g;refine Cl 39 (rP _) ?_;rintro e aw ⟨rfl,rfl⟩;obtain⟨b3,ZU,D,m3,e3,J,⟨-,-,-,-,y4,-⟩,⟨Y,Z,y8,y9,o⟩,-,-,hyi,hys⟩:=(H.a.rounds.go F.out.bl).iw HX.out;cases J;rw[HP.out]at y4;obtain⟨w3,am,F3⟩:=dR (F.out.a w2 (pY r s1 s2 s3 s4 ⟨some ⟨Q,T,none⟩,P,c5⟩ s6 s7 i t1 t2 t3 t4) 93);have o3:=aW F3;replace F:=Hd F3;clear F3;have G2:=Hd trivial)
  |(refine Cl 40 HC.out ?_;rintro e w2 ⟨rfl,ad⟩;have W:=F.out.go ad;have al:w.heap.size+3<w2.heap.size:=W.mJ 3;have o2:=aW W;replace F:=Hd W;have G1:=Hd trivial;clear W ad)
  |fail)
 clear y4 Y Z y8 y9 o hys hyi;obtain⟨b3,ZU,D,m3,e3,J,-,⟨Y,Z,y8,y9,o⟩,-,-,hyi,hys⟩:=(H.a.rounds.go F.out.bl).iw HX.out;cases J;have v6:=ah Y;have v7:=ah Z;have v8:=ah y8;have v9:=ah y9;have ae:=ah o;have z5:=ah (F.out.aQ 0 5);have k0:=ah (F.out.aQ 4 0);have k1:=ah (F.out.aQ 4 1);have k2:=ah (F.out.aQ 4 2);have k3:=ah (F.out.aQ 4 3);have k4:=ah (F.out.aQ 4 4);have k5:=ah (F.out.aQ 4 5);have k6:=ah (F.out.aQ 4 6);have k7:=ah (F.out.aQ 4 7);have k8:=ah (F.out.aQ 4 8);have k9:=ah (F.out.aQ 4 9);have an:=ah (F.out.aQ 4 10);have ao:=ah (F.out.aQ 4 11);have ap:=ah (F.out.aQ 4 12);have aq:=ah (F.out.aQ 4 13);have af:=Hd2 hyi hys;clear Y Z y8 y9 o hyi hys o4;refine iF [] 9 2 [0,1,2,3,4,5,6,7,8] pk pk rfl ?_;refine eH ?_;refine aH fun K t=>aA rfl rfl wy fun E z=>?_;gi_wp2;refine Cl 43 (TS C.drew) ?_;rintro e w5 ⟨n,rfl,mv,p1,V,S⟩;have ac:=(bL C C).drew.trans S;have F5:=F.out.go ac;have N:∀k,k∈ [w.heap.size+2,w.heap.size+3]->w.heap.size<=k/\k<w5.heap.size:=fun k j=>by simp only[cD,eo,iB]at j;have h1:=F5.mJ 2;have h2:=F5.mJ 3;rcases j with rfl|rfl<;>omega
 have V5:Zk w5 ([w.heap.size+2,w.heap.size+3]++M) r s1 s2 s3 s4 ⟨some ⟨Q,T,none⟩,P,c5⟩ s6 s7 c t1 t2 t3 t4 C.drew n:=⟨(H.a.moreL _ fun k j=>(N k j).1).go F5.bl,(H.b.moreL _ fun k j=>(N k j).1).go F5.bl,mv,p1,V,fun q O=>(cK.1 O).elim (fun O=>(N q O).2) (fun O=>H.x.le F5.bl.size q O)⟩;obtain⟨b3,ZU,D',ar,ai,J,-,⟨-,-,-,-,o⟩,-,-,-,Xw⟩:=((H.a.moreL [w.heap.size+2,w.heap.size+3] fun k j=>(N k j).1).rounds.go F5.bl).iw HX.out;cases J;have eD:=(S.cell (p:=⟨Q,T+i*13+10,none⟩) (bw C.drew _ (ae C.drew (cG _ _)))).trans (ae C.drew (cG _ _));rw[o]at eD;cases eD;have HV:=Hd (Ua H.c H.d ab.out (au x) (H.d.parts x (bh HX.out)) (agh H.out.2.2.1.1 HX.out HP.out) V5 af.a Xw);replace F:=Hd F5;refine z _ _ ⟨?_,t _ _ ?_⟩;clear z E t K;·exact bq S _
 clear S mv p1 V ac F5 N V5 Xw o;refine lit ?_;refine eH ?_;refine aH fun K t=>aA rfl rfl wy fun E z=>?_;gi_wp2;refine Cl 42 HV.out ?_;rintro e w6 ⟨u6,rfl,z2,aa⟩;obtain⟨V,q2,A2,n2,c2,B2,m2,d2,rfl,qc⟩:=QC.of z2;have G:=Hd2 (F.out.go aa) z2;refine z _ _ ⟨?_,t _ _ ?_⟩;clear z E t K;·exact bq aa _
 clear aa qc z2;refine lit ?_;refine aK ?_;have o6:=aW G.a;refine jW fun K t E z=>?_;gi_wp2;refine jW fun K t E z=>?_;gi_wp2;refine et _ ?_;gi_wp2;obtain⟨wF,ag,t0,t1,t2,t3,t5,hQ,bF⟩:=WM (M:=M) (G.a.aQ 2 0) (G.a.aQ 2 1) (G.a.aQ 2 2) (G.a.aQ 2 3) (G.a.aQ 3 0) G.u (fun k j=>by simp[j]) po po pj G.a.bl pj pj;rw[ag];clear o6;refine eS (f:=38) (args:=#[.pointer (some ⟨w+1+1+1,0,none⟩)]) po po pB (fun _ _=>bO) ?_;refine(rQ ⟨w+1+1+1,0,none⟩ _).mono ?_;rintro e u' av ⟨rfl,rfl,rfl⟩;refine⟨.tuple #[.agg #[V,.slice A2 n2 c2,q2,.slice B2 m2 d2],.int .i64 0],?_,_,rfl,hQ,bF⟩;simp[results,results12,go_sem,t0,t1,t2,t3,t5]
end
end
