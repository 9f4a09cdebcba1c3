/- Lemmas. -/
import Derived.Test.YtfdmnogfflcllaaGreatDoorM36
set_option linter.unusedVariables false
set_option linter.unusedSimpArgs false
set_option maxRecDepth 100000
set_option maxHeartbeats 20000000
namespace Go.Proofs.YtfdmnogfflcllaaGreatDoor
open Go.Proofs.Tryz
theorem AB{p:Prop}(h:p:=by
 gi_wp2_with (first
  |(refine Cl 82 HX.out ?_;rintro e P ⟨u,rfl,W,f⟩;obtain⟨E,H,h,D,p,j,C,t,rfl,g⟩:=QC.of W;have U:=F.out.go f;have O:=aW U;have G:=Hd2 U g;clear W U g f)
  |fail)
 obtain⟨Q,z,J,t1,t2,t3,hQ,o⟩:=nN (M:=M) (G.a.aQ 2 0) (G.a.aQ 2 1) (G.a.aQ 2 2) (G.a.aQ 2 3) (x:=_) G.u.num.sl G.u.den.sl G.u.num.neg G.u.den.neg G.a.bl oE;try rw[z]
 exact⟨rfl,.agg #[.bool E,.slice h D p,.bool H,.slice j C t],by simp[results,go_sem,J,t1,t2,t3],_,rfl,hQ,o⟩):p:=h
variable {l:List Int}{k:Nat}{ls:List Rt}{q a b:Rt}{s:Int}{y:aU}{I:Fv}
section
open Go.RowKit Go.Shelf
attribute [local go_sem] cK
def Ey(xs:List bW)(l:List Int):Int:=((xs.zip l).map fun p=>p.2*p.1.2.1).sum
theorem Na{M:List Nat}{A B:Option Addr}{n c m d:Nat}{xs:List bW}{w:World}(hM:b_ M w)(hx:Sl bW w M A n c xs)(hs:Sl Int w M B m d l)(hi:∀x,x∈xs->mQ x)(hc:dV xs l=true)(hl:l.length<=70):
 Calls prog 82 #[.slice A n c,.slice B m d] w fun e w'=>∃u,e=.returned u/\QW w' M u (eP (Ey xs l) 1)/\Below w w w':=by
 refine wid ?_;unfold dV at hc;rw[cJ]at hc;obtain⟨W1,ag,F1⟩:=dR ((Fr.nil w).a w [.bool false,.slice none 0 0,.bool false,.slice none 0 0] 48);have F:=Hd F1;have o1:=aW F1;have ab:m=n:=by rw[<-hs.len,<-hx.len];exact cW hc.1
 subst ab;have ae:m<=70:=by rw[<-hs.len];exact hl
 have H:=h_ (hx.go F1.bl) hx.len (hs.go F1.bl) hs.len;have HB:=Hd2 (hM.le F1.bl.size) ((hM.le F1.bl.size).cons (F1.mJ 0));have N:=Hd2 hi (cQ.1 hc.2);clear hx hs hi hc hM F1 hl;refine ent func82 rfl ntmps82 ?_;gi_wp2;gi_loopw[5,10] (fun s i wr=>∃(k:Nat) (S:Int),k<=m/\s=.int .i64 S/\i=.int .i64 k/\W1=wr/\(0<=S/\S<=104857600*(k:Int))/\Hid (S+(((xs.zip l).map fun p=>p.2*p.1.2.1).drop k).sum=Ey xs l)) (fun _ i _=>m-(intOf i).toNat);case atStart=>exact⟨0,0,bO _,rfl,rfl,rfl,oO,Hd (by simp[Ey])⟩
 case round=>
  obtain⟨k,S,hk,rfl,rfl,rfl,af,C⟩:=hrel;by_cases J:k<m
  ·obtain⟨x,hx⟩:=dW xs k (by rw[H.b];exact J);obtain⟨b,o,y,rfl,c0,-,-,K⟩:=H.c.pR J;obtain⟨b2,V,rfl,-,x1,-⟩:=H.a.NQ hx;have E:=N.a x (aR hx);have j:=N.u (x,y) (aR (oG hx K));unfold countB at j;simp only[cJ]at j;have T:=cW j.1;have ad:=cW j.2;obtain⟨t,z⟩:=aC x.2.1;rw[z]at x1;have R:=JI (x:=y) (y:=t) (a:=100) (b:=1048576) ⟨T,by have:=E.2.2.2;omega⟩ ⟨by rw[<-z];exact E.1,by rw[<-z];exact E.2.1⟩;have Q:=Hd (show S+y*t+(((xs.zip l).map fun p=>p.2*p.1.2.1).drop (k+1)).sum=Ey xs l by
    have h:=C.out;have hz:((xs.zip l).map fun p=>p.2*p.1.2.1)[k]?=some (y*x.2.1):=by rw[cP,oG hx K];rfl
    obtain⟨aa,e⟩:=bj.1 hz;rw[cT aa,mf,e,z]at h;omega)
   obtain⟨Y,D⟩:=aC (y*t);have hw:IntKind.i64.wrap (y*t)=Y:=by rw[bR,D];rw[D]at R;omega
   rw[D]at R Q;clear C hx K E j T ad z D;gi_wp2;exact⟨⟨k+1,S+Y,oE,by go_num,by go_num,bq,oE,Q⟩,by simp[intOf];omega⟩
  ·obtain rfl:k=m:=oE;have P:S=Ey xs l:=by have h:=C.out;rw[cA (by rw[cC,jx,H.b,H.w];omega)]at h;simpa using h
   have O:=Hd2 (show i64 S by unfold i64;omega) P;clear hk J C P
   gi_wp2_with (first
    |(have g:=HG.out;clear g;refine Cl 77 HG.out ?_;rintro e w3 ⟨u,rfl,W,f⟩;obtain⟨p2,q2,Z,n2,c2,B2,m2,d2,rfl,X⟩:=QC.of W;have U:=F.out.go f;have V:=aW U;have G:=Hd2 U X;clear W U X f)
    |(refine Cl 78 (uP (M:=w::M) (n:=S) (d:=1) HB.u O.a oV oE) ?_;rintro e w2 ⟨u,rfl,W,f⟩;have HG:=Hd (wJ (M:=w::M) (HB.u.le f.size) W);have U:=F.out.go f;have V:=aW U;replace F:=Hd U;clear U W f)
    |fail)
   obtain⟨wF,ac,t0,t1,t2,t3,hQ,bF⟩:=nN (M:=M) (G.a.aQ 0 0) (G.a.aQ 0 1) (G.a.aQ 0 2) (G.a.aQ 0 3) (x:=eP S 1) G.u.num.sl G.u.den.sl G.u.num.neg G.u.den.neg G.a.bl pc;try rw[ac]
   rw[O.u]at hQ;exact⟨rfl,.agg #[.bool p2,.slice Z n2 c2,.bool q2,.slice B2 m2 d2],by simp[results,go_sem,t0,t1,t2,t3],_,rfl,hQ,bF⟩
end
theorem PN{b:Int}:∀{l:List Int},(∀m,m∈l->0<=m/\m<=b)->0<=l.sum/\l.sum<=b*(l.length:Int)
 | [],_=>by simp
 |x::l,h=>by have h1:=h x cd;have h2:=PN fun m hm=>h m (bz x hm);rw[mf,et,ju,ml];omega
theorem PO{c:bT}(hr:fJ (rX c)=true)(ho:∀m,m∈l->Nv (rX c) m=true)(h0:0<l.length)(ht:2*c.2.2.2.2.2.1<l.length):
 0<(rU c l).length/\(rU c l).length<=l.length/\∀m,m∈rU c l->0<=m/\m<=1000:=by
 obtain⟨-,-,⟨f,-⟩,-⟩:=kP hr;unfold rX at f;simp only at f;have hb:∀m,m∈gI (l.map (kC c))->0<=m/\m<=1000:=fun m e=>by obtain⟨h,g,rfl⟩:=ev.1 (wI.1 e);exact JJ hr (ho h g)
 have j:(gI (l.map (kC c))).length=l.length:=by rw[oJ,cC]
 unfold rU;split;·exact⟨oE,oE,hb⟩
 split;all_goals exact⟨by rw[eC,cI];omega,by rw[eC,cI];omega,fun m e=>hb m (nx (kI e))⟩
theorem agU{c:bT}(hr:fJ (rX c)=true)(ho:∀m,m∈l->Nv (rX c) m=true)(h0:0<l.length)(ht:2*c.2.2.2.2.2.1<l.length)(hn:l.length<=256):yx (qJ c l) 5:=by obtain⟨f,g,e⟩:=PO hr ho h0 ht;have hs:=PN e;unfold qJ;refine(wo (k:=2) oE oE (pG ?_) (pG oE)).up oE;have:=JI (x:=(rU c l).sum) (a:=256000) (y:=if c.2.2.2.2.1=1 then(l.length:Int)else 1) (b:=256) ⟨hs.1,oE⟩ (by split<;>omega);omega
theorem Xt{xs:List bW}(hi:∀x,x∈xs->mQ x)(hc:dV xs l=true)(hl:l.length<=70):(Ey xs l).natAbs<=1152921504606846975:=by
 unfold dV at hc;rw[cJ]at hc;have g:=cQ.1 hc.2;have h:=PN (b:=104857600) (l:=(xs.zip l).map fun p=>p.2*p.1.2.1) fun m j=>by obtain⟨⟨x,y⟩,hp,rfl⟩:=ev.1 j;have e:=hi x (List.of_mem_zip hp).1;have f:=g _ hp;unfold countB at f;simp only[cJ,du]at f;exact JI (a:=100) (b:=1048576) ⟨f.1,by have:=e.2.2.2;omega⟩ ⟨e.1,e.2.1⟩
 rw[cC,jx]at h;unfold Ey;omega
theorem Zh{r:fC}(hr:dF r=true)(h:MK r=true):yx (OE r) 5:=by
 obtain⟨x,hx,rfl⟩:=(zx r).1 hr;rw[Lm];have e:∀z:Int,fits z=true->zF (ints (bG z))=true->z.natAbs<BB^5:=fun z f D=>by have g:(bG z).length<=2048:=cW f;unfold zF at D;rw[show(ints (bG z)).length=(bG z).length by simp[ints]]at D;simp only[ik,cJ,du]at D;exact(lY z.natAbs 5).2 (show(bG z).length<=5 by omega)
 unfold MK at h;rw[cJ]at h;exact⟨hx,e _ hx.fn h.1,e _ hx.fd h.2⟩
def kW(r:aS)(c:dS):Fv:=⟨fun n=>(jq r c).getD n zR,Ey r.bonus c.bonus,Ey r.malus c.malus,c.prev.map OE⟩
theorem Zi{r:aS}{c:dS}(h:f_ r k c):∃x,r.rounds[k]?=some x/\kS r k x.2.1 c=true:=by obtain⟨-,j,x,e,hx,f⟩:=h;obtain rfl:k=j:=oE;exact⟨x,hx,f⟩
theorem wK{r:aS}{c:dS}(h:f_ r k c):c.marks.length=r.aT.length/\dV r.bonus c.bonus=true/\dV r.malus c.malus=true/\c.prev.length=k/\c.prev.all dF=true:=by obtain⟨x,-,e⟩:=Zi h;unfold kS at e;simp only[cJ,du]at e;exact⟨e.1.1.1.1.1,e.1.1.1.1.2,e.1.1.1.2,e.1.1.2,e.2⟩
theorem aeN{r:aS}{c:dS}(h:f_ r k c)(hw:yI r c)(hm:eY c.marks=0):ahO (kW r c) r.aT.length k:=by
 obtain⟨G,z,C,D,K⟩:=wK h;refine⟨fun n F=>?_,by simp[kW,D],fun x hx=>?_,Xt h.1.2.1.bonus z hw.lens.2.1,Xt h.1.2.1.malus C hw.lens.2.2.1⟩;·have g:=bX F;have e:=bX (show n<c.marks.length by omega);obtain⟨E,P,j,o,t⟩:=Ez h hm g e;have:=agU E P j t o;show yx ((jq r c).getD n zR) 5;unfold jq;rw[uK (fun p:bT×List Int=>qJ p.1 p.2) (oG g e) zR];exact this
 obtain⟨q,f,rfl⟩:=ev.1 hx;exact Zh (cQ.1 K q f) (hw.prev q f)
theorem Nc{α:Type}{f:α->α}:∀{l:List α},l.map f=l->∀z,z∈l->f z=z
 |x::l,h,z,hz=>by
  injection h with h1 h2;rcases cB.1 hz with rfl|hz;·exact h1
  exact Nc h2 z hz
theorem Zj{cn rn:List ByteArray}(x:aU):iV cn rn x=false->lC cn rn x=x->∀y,y∈iZ x->sO cn rn y.kind y.name=false/\qW cn rn y.kind y.name y.n=y.n:=by
 induction x using iY with
 |_ x ih=>
  intro e g;rw[xG,iv,nP,List.any_eq_false]at e;have hx:qW cn rn x.kind x.name x.n=x.n/\E5 cn rn x.l=x.l:=by cases x;rw[lC]at g;injection g with _ _ h1 _ h2;exact⟨h1,h2⟩
  rw[xH]at hx;exact o_ (Q:=fun y=>sO cn rn y.kind y.name=false/\qW cn rn y.kind y.name y.n=y.n) ⟨e.1,hx.1⟩ fun z f=>ih z f (by simpa using e.2 z f) (Nc hx.2 z f)
theorem afS{r:aS}{x:aJ}(hs:Sound r)(hx:r.rounds[k]?=some x)(hp:x.2.2.2.2.1=false):∀y,y∈iZ (au x)->YD r.aT.length k y:=by
 intro y h;have j:=aR hx;have p:=(hs.2.1.rounds x j).2.2.2.2.2 hp y h;obtain⟨-,P,o,-⟩:=hs.1.rounds x j;obtain⟨f,g⟩:=Zj _ P o y h;refine⟨p,fun e=>?_,fun e=>?_⟩;·rw[e]at f g;obtain⟨u,z,t⟩:=DC (nm:=dP r) (s:=y.name) (n:=y.n) ⟨f,g⟩;rw[cC]at t;omega
 have hb:=(hs.2.2.2 k x hx).1 y h e;rw[e]at f g;obtain⟨u,z,-⟩:=DC (nm:=dQ r) (s:=y.name) (n:=y.n) ⟨f,g⟩;omega
section
open Go.RowKit Go.Shelf
attribute [local go_sem] cK
theorem Sl.qat{M:List Nat}{w:World}{A:Option Addr}{n c:Nat}(h:Sl fC w M A n c (ls.map jd))(hk:ls[k]?=some q):
 ∃b o A1 n1 c1 A2 n2 c2,A=some ⟨b,o,none⟩/\w.cell? ⟨b,o+k*4,none⟩=some (.bool (aG q.num))/\w.cell? ⟨b,o+k*4+1,none⟩=some (.slice A1 n1 c1)/\w.cell? ⟨b,o+k*4+2,none⟩=some (.bool (aG q.den))/\w.cell? ⟨b,o+k*4+3,none⟩=some (.slice A2 n2 c2)/\QW w M (.agg #[.bool (aG q.num),.slice A1 n1 c1,.bool (aG q.den),.slice A2 n2 c2]) q:=by
 obtain⟨b,o,A1,n1,c1,A2,n2,c2,rfl,e,f,g,j,s1,s2⟩:=h.MG (x:=jd q) (by rw[cP,hk];rfl);exact⟨b,o,A1,n1,c1,A2,n2,c2,rfl,e,f,g,j,A1,n1,c1,A2,n2,c2,rfl,s1,s2⟩
theorem Y9(x y:Rt): -1<=rW x y/\rW x y<=1:=by unfold rW;split<;>(try split)<;>omega
theorem abR{M:List Nat}{A:Option Addr}{n c:Nat}{w:World}(hM:b_ M w)(hs:Sl fC w M A n c (ls.map jd))(h0:ls[0]?=some a)(h1:ls[1]?=some b)(oa:a.ok)(ob:b.ok)(hf:Fine a b)(hsg:s=1\/s= -1):
 CB 75 #[.slice A n c,.int .i64 s] (.bool (decide (s*rW a b<=0))) w:=by
 refine wid ?_;have ae:=hs.small;have R:1<n:=by rw[<-hs.len,cC];exact(bj.1 h1).1
 have aa:0<n:=oE;have ab:(1:Int)<(n:Int):=oE;have ac:(1:Int).toNat<n:=R;have ad:¬n<=1:=oE;have g:Below w w w.drew:=pd.drew;obtain⟨b1,o1,T,n1,Y,U,n2,c2,rfl,o,p,t,C,N⟩:=hs.qat h0;obtain⟨b2,o2,V,n3,c3,W,n4,c4,Q,D,E,F,G,O⟩:=hs.qat h1;cases Q;simp only[fN,ed]at o p t C;simp only[fi]at D E F G;have u0:=ah o;have u1:=ah p;have u2:=ah t;have u3:=ah C;have v0:=ah D;have v1:=ah E;have v2:=ah F;have v3:=ah G;have X:=WZ (w:=w.drew) (hM.le pc) (N.go g) (O.go g) oa ob hf;obtain⟨z,j⟩:=aC (rW a b);rw[j]at X |-;have HX:=Hd X;clear o p t C D E F G N O X hs h0 h1 oa ob hf g;have S: -1<=z/\z<=1:=by rw[<-j];exact Y9 _ _
 clear j;obtain⟨Z,f⟩:=aC (s*z);have hw:IntKind.i64.wrap (s*z)=Z:=by rw[bR,f];rcases hsg with rfl|rfl<;>omega
 rw[f];clear f hsg S hM;refine ent func75 rfl ntmps75 ?_;gi_wp2;refine ak [] [0,1,2,3,4,5,6,7,8,9,10,11] oF oF ?_;refine eH ?_;refine aH fun K H=>aA rfl rfl wy fun P J=>?_;gi_wp2;refine Cl 14 HX.out ?_;rintro e w2 ⟨rfl,h⟩;have HB:=Hd ((bw w w).drew.trans h);refine J _ _ ⟨?_,H _ _ ?_⟩;clear J P H K;·exact a_ h _
 clear h;refine lit ?_;refine eH ?_;refine aK ?_;refine lit ?_
 gi_wp2_with (first
  |(refine Cl 39 (rP _) ?_;rintro e w3 ⟨rfl,rfl⟩)
  |fail)
 go_ret;exact⟨rfl,HB.out⟩
abbrev exV(x:aU)(B:Option Addr)(m d:Nat):List Value:= [.int .i64 x.kind,.string x.name,.int .i64 x.n,.int .i64 x.d,.slice B m d]
def Au(M:List Nat)(q:Rt)(w:World)(e:Ending)(w':World):Prop:=∃u,e=.returned u/\QW w' M u q/\Below w w w'
section
variable {M:List Nat}{r:aS}{s1 s2 s3 s4 s5 s6 s7:dK}{c:dS}{t1 t2 t3 t4:dK}{i:Nat}{x:aU}{A B:Option Addr}{n cp m d:Nat}{w:World}
theorem Y_(hM:b_ M w)(hn:i64 x.n)(hd:i64 x.d)(h0:x.d≠0):
 Calls prog 76 #[.agg (pY r s1 s2 s3 s4 s5 s6 s7 i t1 t2 t3 t4).toArray,.agg (exV x B m d).toArray,.slice A n cp] w (Au M (eP x.n x.d) w):=by
 refine wid ?_;obtain⟨W1,O,F1⟩:=dR ((((Fr.nil w).a w (pY r s1 s2 s3 s4 s5 s6 s7 i t1 t2 t3 t4) 93).a (w+1) (exV x B m d) 66).a (w+2) [.bool false,.slice none 0 0,.bool false,.slice none 0 0] 48);have F:=Hd F1;have P:=aW F1;have HM:=Hd2 (hM.le F1.bl.size) ((hM.le F1.bl.size).cons (F1.mJ 2));have HX:=Hd (uP (M:=(w+2)::M) HM.u hn hd h0);clear F1 hM hn hd h0;refine ent func76 rfl ntmps76 ?_
 gi_wp2_with (first
  |(have g:=HG.out;clear g;refine Cl 77 HG.out ?_;rintro e R ⟨u,rfl,W,f⟩;obtain⟨J,K,j,E,t,o,D,z,rfl,h⟩:=QC.of W;have U:=F.out.go f;have H:=aW U;have G:=Hd2 U h;clear W U h f)
  |(refine Cl 78 HX.out ?_;rintro e Q ⟨u,rfl,W,f⟩;have HG:=Hd (wJ (M:=(w+2)::M) (HM.u.le f.size) W);have U:=F.out.go f;have H:=aW U;replace F:=Hd U;clear U W f)
  |fail)
 obtain⟨S,C,N,t1,t2,t3,hQ,p⟩:=nN (M:=M) (G.a.aQ 2 0) (G.a.aQ 2 1) (G.a.aQ 2 2) (G.a.aQ 2 3) (x:=_) G.u.num.sl G.u.den.sl G.u.num.neg G.u.den.neg G.a.bl oE;try rw[C]
 exact⟨rfl,.agg #[.bool J,.slice j E t,.bool K,.slice o D z],by simp[results,go_sem,N,t1,t2,t3],_,rfl,hQ,p⟩
theorem Za(hM:b_ M w)(hr:dG w M r s1 s2 s3 s4 s5 s6 s7)(hc:jE w M c t1 t2 t3 t4)(hi:∀x,x∈r.bonus->mQ x)(hb:dV r.bonus c.bonus=true)(hl:c.bonus.length<=70):
 Calls prog 81 #[.agg (pY r s1 s2 s3 s4 s5 s6 s7 i t1 t2 t3 t4).toArray,.agg (exV x B m d).toArray,.slice A n cp] w (Au M (eP (Ey r.bonus c.bonus) 1) w):=by
 refine wid ?_;obtain⟨W1,K,F1⟩:=dR ((((Fr.nil w).a w (pY r s1 s2 s3 s4 s5 s6 s7 i t1 t2 t3 t4) 93).a (w+1) (exV x B m d) 66).a (w+2) [.bool false,.slice none 0 0,.bool false,.slice none 0 0] 48);have F:=Hd F1;have N:=aW F1;have HM:=Hd2 (hM.le F1.bl.size) ((hM.le F1.bl.size).cons (F1.mJ 2));have HX:=Hd (Na (M:=(w+2)::M) HM.u ((hr.bonus.more (b:=w+2) oE).go F1.bl) ((hc.bonus.more (b:=w+2) oE).go F1.bl) hi hb hl);clear F1 hM hr hc hi hb hl;refine ent func81 rfl ntmps81 ?_;exact AB
theorem Zb(hM:b_ M w)(hr:dG w M r s1 s2 s3 s4 s5 s6 s7)(hc:jE w M c t1 t2 t3 t4)(hi:∀x,x∈r.malus->mQ x)(hb:dV r.malus c.malus=true)(hl:c.malus.length<=70):
 Calls prog 83 #[.agg (pY r s1 s2 s3 s4 s5 s6 s7 i t1 t2 t3 t4).toArray,.agg (exV x B m d).toArray,.slice A n cp] w (Au M (eP (Ey r.malus c.malus) 1) w):=by
 refine wid ?_;obtain⟨W1,K,F1⟩:=dR ((((Fr.nil w).a w (pY r s1 s2 s3 s4 s5 s6 s7 i t1 t2 t3 t4) 93).a (w+1) (exV x B m d) 66).a (w+2) [.bool false,.slice none 0 0,.bool false,.slice none 0 0] 48);have F:=Hd F1;have N:=aW F1;have HM:=Hd2 (hM.le F1.bl.size) ((hM.le F1.bl.size).cons (F1.mJ 2));have HX:=Hd (Na (M:=(w+2)::M) HM.u ((hr.malus.more (b:=w+2) oE).go F1.bl) ((hc.malus.more (b:=w+2) oE).go F1.bl) hi hb hl);clear F1 hM hr hc hi hb hl;refine ent func83 rfl ntmps83 ?_;exact AB
end
section
variable {M:List Nat}{r:aS}{s1 s2 s3 s4 s5 s6 s7:dK}{c:dS}{t1 t2 t3 t4:dK}{i:Nat}{x:aU}{A B:Option Addr}{n cp m d:Nat}{w:World}
theorem Zc{y:bT}(hM:b_ M w)(hr:dG w M r s1 s2 s3 s4 s5 s6 s7)(hc:jE w M c t1 t2 t3 t4)(hg:f_ r i c)(hm:eY c.marks=0)(hx:x.n=k)(hy:r.aT[k]?=some y)(hl:c.marks[k]?=some l):
 Calls prog 79 #[.agg (pY r s1 s2 s3 s4 s5 s6 s7 i t1 t2 t3 t4).toArray,.agg (exV x B m d).toArray,.slice A n cp] w (Au M (qJ y l) w):=by
 refine wid ?_;obtain⟨W1,N,F1⟩:=dR ((((Fr.nil w).a w (pY r s1 s2 s3 s4 s5 s6 s7 i t1 t2 t3 t4) 93).a (w+1) (exV x B m d) 66).a (w+2) [.bool false,.slice none 0 0,.bool false,.slice none 0 0] 48);have F:=Hd F1;have O:=aW F1;have X:=Ac ((hr.moreL [w.heap.size+2] (fun q f=>by simp at f;omega)).go F1.bl) ((hc.moreL [w.heap.size+2] (fun q f=>by simp at f;omega)).go F1.bl) hg hm hy hl ((hM.le F1.bl.size).cons (F1.mJ 2));rw[<-hx]at X;have HX:=Hd X;clear X hx F1 hM hr hc hg hm hy hl;refine ent func79 rfl ntmps79 ?_
 gi_wp2_with (first
  |(refine Cl 80 HX.out ?_;rintro e Q ⟨u,rfl,W,g⟩;obtain⟨H,J,j,E,t,o,D,z,rfl,h⟩:=QC.of W;have U:=F.out.go g;have P:=aW U;have G:=Hd2 U h;clear W U h g)
  |fail)
 obtain⟨R,C,K,t1,t2,t3,hQ,p⟩:=nN (M:=M) (G.a.aQ 2 0) (G.a.aQ 2 1) (G.a.aQ 2 2) (G.a.aQ 2 3) (x:=_) G.u.num.sl G.u.den.sl G.u.num.neg G.u.den.neg G.a.bl oE;try rw[C]
 exact⟨rfl,.agg #[.bool H,.slice j E t,.bool J,.slice o D z],by simp[results,go_sem,K,t1,t2,t3],_,rfl,hQ,p⟩
theorem Zd(hM:b_ M w)(hs:Sl fC w M A n cp (ls.map jd))(h0:ls[0]?=some a)(h1:ls[1]?=some b)(oa:a.ok)(ob:b.ok)(hf:Fine a b):
 Calls prog 85 #[.agg (pY r s1 s2 s3 s4 s5 s6 s7 i t1 t2 t3 t4).toArray,.agg (exV x B m d).toArray,.slice A n cp] w (Au M (Js a b) w):=by
 refine wid ?_;obtain⟨W1,ab,F1⟩:=dR ((((Fr.nil w).a w (pY r s1 s2 s3 s4 s5 s6 s7 i t1 t2 t3 t4) 93).a (w+1) (exV x B m d) 66).a (w+2) [.bool false,.slice none 0 0,.bool false,.slice none 0 0] 48);have F:=Hd F1;have af:=hs.small;have ad:1<n:=by rw[<-hs.len,cC];exact(bj.1 h1).1
 have ac:0<n:=oE;have ae:(1:Int)<(n:Int):=oE;have o:b_ ((w.heap.size+2)::M) W1:=(hM.le F1.bl.size).cons (F1.mJ 2);have t:=(hs.more (b:=w+2) oE).go F1.bl;have p:Below W1 W1 W1.drew:=pd.drew;obtain⟨b1,o1,A1,n1,c1,P,R,Q,rfl,z,C,D,E,S⟩:=t.qat h0;obtain⟨b2,o2,A3,n3,c3,A4,n4,c4,e2,H,J,N,O,T⟩:=t.qat h1;cases e2;simp only[fN,ed]at z C D E;simp only[fi]at H J N O;have u0:=ah z;have u1:=ah C;have u2:=ah D;have u3:=ah E;have v0:=ah H;have v1:=ah J;have v2:=ah N;have v3:=ah O;have HX:=Hd (MZ (w:=W1.drew) (o.le pc) (S.go p) (T.go p) oa ob hf);have Y:=Hd o;clear z C D E H J N O S T hs t h0 h1 oa ob hf p o hM F1;refine ent func85 rfl ntmps85 ?_;gi_wp2;refine iF [] 10 1 [0,1,2,3,4,5,6,7,8,9] oF oF rfl ?_;refine eH ?_;refine aH fun K g=>aA rfl rfl wy fun j h=>?_;gi_wp2;refine Cl 86 HX.out ?_;rintro e w2 ⟨u,rfl,W,f⟩;have X:=Hd (F.out.drew.go f);have HG:=Hd (wJ (M:=(w+2)::M) (Y.out.le (cD pc f.size)) W);refine h _ _ ⟨?_,g _ _ ?_⟩;clear h j g K;·exact a_ f _
 clear f W;refine lit ?_;refine eH ?_;refine aH fun K g=>aA rfl rfl wy fun j h=>?_;gi_wp2;refine Cl 77 HG.out ?_;rintro e w3 ⟨u,rfl,W,f⟩;obtain⟨p2,q2,P,R,Q,V,m2,d2,rfl,U⟩:=QC.of W;have G:=Hd2 (X.out.go f) U;refine h _ _ ⟨?_,g _ _ ?_⟩;clear h j g K;·exact a_ f _
 clear f W U;refine lit ?_;refine aK ?_;have o2:=aW G.a;refine jW fun K g j h=>?_;gi_wp2;refine dC _ ?_;gi_wp2;obtain⟨wF,aa,t0,t1,t2,t3,hQ,Z⟩:=nN (M:=M) (G.a.aQ 2 0) (G.a.aQ 2 1) (G.a.aQ 2 2) (G.a.aQ 2 3) (x:=_) G.u.num.sl G.u.den.sl G.u.num.neg G.u.den.neg G.a.bl oE;try rw[aa]
 exact⟨rfl,.agg #[.bool p2,.slice P R Q,.bool q2,.slice V m2 d2],by simp[results,go_sem,t0,t1,t2,t3],_,rfl,hQ,Z⟩
theorem Ze(hM:b_ M w)(hs:Sl fC w M A n cp (ls.map jd))(h0:ls[0]?=some a)(h1:ls[1]?=some b)(oa:a.ok)(ob:b.ok)(hf:Fine a b):
 Calls prog 87 #[.agg (pY r s1 s2 s3 s4 s5 s6 s7 i t1 t2 t3 t4).toArray,.agg (exV x B m d).toArray,.slice A n cp] w (Au M (OG a b) w):=by
 refine wid ?_;obtain⟨W1,ab,F1⟩:=dR ((((Fr.nil w).a w (pY r s1 s2 s3 s4 s5 s6 s7 i t1 t2 t3 t4) 93).a (w+1) (exV x B m d) 66).a (w+2) [.bool false,.slice none 0 0,.bool false,.slice none 0 0] 48);have F:=Hd F1;have af:=hs.small;have ad:1<n:=by rw[<-hs.len,cC];exact(bj.1 h1).1
 have ac:0<n:=oE;have ae:(1:Int)<(n:Int):=oE;have o:b_ ((w.heap.size+2)::M) W1:=(hM.le F1.bl.size).cons (F1.mJ 2);have t:=(hs.more (b:=w+2) oE).go F1.bl;have p:Below W1 W1 W1.drew:=pd.drew;obtain⟨b1,o1,A1,n1,c1,P,R,Q,rfl,z,C,D,E,S⟩:=t.qat h0;obtain⟨b2,o2,A3,n3,c3,A4,n4,c4,e2,H,J,N,O,T⟩:=t.qat h1;cases e2;simp only[fN,ed]at z C D E;simp only[fi]at H J N O;have u0:=ah z;have u1:=ah C;have u2:=ah D;have u3:=ah E;have v0:=ah H;have v1:=ah J;have v2:=ah N;have v3:=ah O;have HX:=Hd (Xl (w:=W1.drew) (o.le pc) (S.go p) (T.go p) oa ob hf);have Y:=Hd o;clear z C D E H J N O S T hs t h0 h1 oa ob hf p o hM F1;refine ent func87 rfl ntmps87 ?_;gi_wp2;refine iF [] 10 1 [0,1,2,3,4,5,6,7,8,9] oF oF rfl ?_;refine eH ?_;refine aH fun K g=>aA rfl rfl wy fun j h=>?_;gi_wp2;refine Cl 88 HX.out ?_;rintro e w2 ⟨u,rfl,W,f⟩;have X:=Hd (F.out.drew.go f);have HG:=Hd (wJ (M:=(w+2)::M) (Y.out.le (cD pc f.size)) W);refine h _ _ ⟨?_,g _ _ ?_⟩;clear h j g K;·exact a_ f _
 clear f W;refine lit ?_;refine eH ?_;refine aH fun K g=>aA rfl rfl wy fun j h=>?_;gi_wp2;refine Cl 77 HG.out ?_;rintro e w3 ⟨u,rfl,W,f⟩;obtain⟨p2,q2,P,R,Q,V,m2,d2,rfl,U⟩:=QC.of W;have G:=Hd2 (X.out.go f) U;refine h _ _ ⟨?_,g _ _ ?_⟩;clear h j g K;·exact a_ f _
 clear f W U;refine lit ?_;refine aK ?_;have o2:=aW G.a;refine jW fun K g j h=>?_;gi_wp2;refine dC _ ?_;gi_wp2;obtain⟨wF,aa,t0,t1,t2,t3,hQ,Z⟩:=nN (M:=M) (G.a.aQ 2 0) (G.a.aQ 2 1) (G.a.aQ 2 2) (G.a.aQ 2 3) (x:=_) G.u.num.sl G.u.den.sl G.u.num.neg G.u.den.neg G.a.bl oE;try rw[aa]
 exact⟨rfl,.agg #[.bool p2,.slice P R Q,.bool q2,.slice V m2 d2],by simp[results,go_sem,t0,t1,t2,t3],_,rfl,hQ,Z⟩
end
theorem Sl.PI{M:List Nat}{w:World}{A:Option Addr}{n c:Nat}(h:Sl fC w M A n c (ls.map jd))(hk:ls[k]?=some q):
 ∃b o A1 n1 c1 A2 n2 c2,A=some ⟨b,o,none⟩/\w.cell? ⟨b,o+k*4,none⟩=some (.bool (aG q.num))/\w.cell? ⟨b,o+k*4+1,none⟩=some (.slice A1 n1 c1)/\w.cell? ⟨b,o+k*4+2,none⟩=some (.bool (aG q.den))/\w.cell? ⟨b,o+k*4+3,none⟩=some (.slice A2 n2 c2)/\QC w M q (aG q.num) (aG q.den) A1 n1 c1 A2 n2 c2:=by
 obtain⟨b,o,A1,n1,c1,A2,n2,c2,rfl,e,f,g,j,s1,s2⟩:=h.MG (x:=jd q) (by rw[cP,hk];rfl);exact⟨b,o,A1,n1,c1,A2,n2,c2,rfl,e,f,g,j,⟨⟨rfl,s1⟩,⟨rfl,s2⟩⟩⟩
theorem Zf{M:List Nat}{r:aS}{s1 s2 s3 s4 s5 s6 s7:dK}{c:dS}{t1 t2 t3 t4:dK}{i:Nat}{xk xd:Int}{xs:ByteArray}{A B:Option Addr}{n cp m d:Nat}{ps:List Rt}{w:World}(hc:jE w M c t1 t2 t3 t4)(hp:c.prev=ps.map jd)(hk:ps[k]?=some q):
 Calls prog 84 #[.agg (pY r s1 s2 s3 s4 s5 s6 s7 i t1 t2 t3 t4).toArray,.agg #[.int .i64 xk,.string xs,.int .i64 k,.int .i64 xd,.slice B m d],.slice A n cp] w (Au M q w):=by
 refine wid ?_;obtain⟨f,e,g⟩:=t4;have D:Sl fC w M f e g c.prev:=hc.prev;rw[hp]at D;have P:=D.small;have O:k<e:=by rw[<-D.len,cC];exact(bj.1 hk).1
 obtain⟨W1,N,F1⟩:=dR ((((Fr.nil w).a w (pY r s1 s2 s3 s4 s5 s6 s7 i t1 t2 t3 ⟨f,e,g⟩) 93).a (w+1) [.int .i64 xk,.string xs,.int .i64 k,.int .i64 xd,.slice B m d] 66).a (w+2) [.bool false,.slice none 0 0,.bool false,.slice none 0 0] 48);have F:=Hd F1;have Q:=aW F1;obtain⟨b,o,j,H,C,p,J,z,rfl,S,T,U,V,h⟩:=((D.more (b:=w+2) oE).go F1.bl).PI hk;have G:=Hd2 F1 h;clear h D hc hp hk F1;refine ent func84 rfl ntmps84 ?_;gi_wp2;obtain⟨R,E,K,t1,t2,t3,hQ,t⟩:=nN (M:=M) (G.a.aQ 2 0) (G.a.aQ 2 1) (G.a.aQ 2 2) (G.a.aQ 2 3) (x:=q) G.u.num.sl G.u.den.sl G.u.num.neg G.u.den.neg G.a.bl oE;try rw[E]
 exact⟨rfl,.agg #[.bool (aG q.num),.slice j H C,.bool (aG q.den),.slice p J z],by simp[results,go_sem,K,t1,t2,t3],_,rfl,hQ,t⟩
theorem Ir{M:List Nat}{r:aS}{s1 s2 s3 s4 s5 s6 s7:dK}{t1 t2 t3 t4:dK}{i:Nat}{x:aU}{A B:Option Addr}{n cp m d:Nat}{w:World}{bs:Nat}(hM:b_ M w)(hs:Sl fC w M A n cp (ls.map jd))(h0:ls[0]?=some a)(h1:ls[1]?=some b)(oa:a.ok)(ob:b.ok)(hf:Fine a b)(hsg:s=1\/s= -1)(hbs:w.cell? ⟨bs,0,none⟩=some (.int .i64 s)):
 Calls prog 74 #[.agg (pY r s1 s2 s3 s4 s5 s6 s7 i t1 t2 t3 t4).toArray,.agg (exV x B m d).toArray,.slice A n cp,.pointer (some ⟨bs,0,none⟩)] w (Au M (if s*rW a b<=0 then(ls[0]?).getD zR else(ls[1]?).getD zR) w):=by
 refine wid ?_;obtain⟨W1,aa,F1⟩:=dR ((((Fr.nil w).a w (pY r s1 s2 s3 s4 s5 s6 s7 i t1 t2 t3 t4) 93).a (w+1) (exV x B m d) 66).a (w+2) [.bool false,.slice none 0 0,.bool false,.slice none 0 0] 48);have F:=Hd F1;have Y:=aW F1;have v0:=(F1.bl.cell (p:=⟨bs,0,none⟩) (bu w _ hbs)).trans hbs;have af:=hs.small;obtain⟨P,t⟩:∃q,ls[0]?=some q:=⟨_,by assumption⟩;obtain⟨Q,j⟩:∃q,ls[1]?=some q:=⟨_,by assumption⟩;have ac:1<n:=by rw[<-hs.len,cC];exact(bj.1 j).1
 have ab:0<n:=oE;have ad:(1:Int)<(n:Int):=oE;have ae:(0:Int)<(n:Int):=oE;have z:=(hs.more (b:=w+2) oE).go F1.bl;have X:=abR (s:=s) ((hM.le F1.bl.size).cons (F1.mJ 2)) z h0 h1 oa ob hf hsg;have o:=fB z t j;rw[t,j];by_cases g:s*rW a b<=0
 ·rw[cw g]at X;rw[if_pos g];have HX:=Hd X;clear X hs z h0 h1 oa ob hf t j hM F1 g;refine ent func74 rfl ntmps74 ?_
  gi_wp2_with (first
   |(refine Cl 75 HX.out ?_;rintro e w2 ⟨rfl,f⟩;obtain⟨b1,Y,C,N,H,D,O,J,rfl,S,T,V,W,h⟩:=(o.a.go f).PI o.b;try simp only[show 2*4=8 from rfl,show 3*4=12 from rfl,fN,fi,ed]at S T V W
     have U:=F.out.go f;have Z:=aW U;have G:=Hd2 U h;clear h U f)
   |fail)
  obtain⟨wF,K,R,t1,t2,t3,hQ,E⟩:=nN (M:=M) (G.a.aQ 2 0) (G.a.aQ 2 1) (G.a.aQ 2 2) (G.a.aQ 2 3) (x:=P) G.u.num.sl G.u.den.sl G.u.num.neg G.u.den.neg G.a.bl oE;try rw[K]
  exact⟨rfl,.agg #[.bool (aG P.num),.slice C N H,.bool (aG P.den),.slice D O J],by simp[results,go_sem,R,t1,t2,t3],_,rfl,hQ,E⟩
 ·rw[cE g]at X;rw[if_neg g];have HX:=Hd X;clear X hs z h0 h1 oa ob hf t j hM F1 g;refine ent func74 rfl ntmps74 ?_
  gi_wp2_with (first
   |(refine Cl 75 HX.out ?_;rintro e w2 ⟨rfl,f⟩;obtain⟨b1,Y,C,N,H,D,O,J,rfl,S,T,V,W,h⟩:=(o.a.go f).PI o.v;try simp only[show 2*4=8 from rfl,show 3*4=12 from rfl,fN,fi,ed]at S T V W
     have U:=F.out.go f;have Z:=aW U;have G:=Hd2 U h;clear h U f)
   |fail)
  obtain⟨wF,K,R,t1,t2,t3,hQ,E⟩:=nN (M:=M) (G.a.aQ 2 0) (G.a.aQ 2 1) (G.a.aQ 2 2) (G.a.aQ 2 3) (x:=Q) G.u.num.sl G.u.den.sl G.u.num.neg G.u.den.neg G.a.bl oE;try rw[K]
  exact⟨rfl,.agg #[.bool (aG Q.num),.slice C N H,.bool (aG Q.den),.slice D O J],by simp[results,go_sem,R,t1,t2,t3],_,rfl,hQ,E⟩
theorem Xq{M:List Nat}{r:aS}{s1 s2 s3 s4 s5 s6 s7:dK}{t1 t2 t3 t4:dK}{i:Nat}{x:aU}{A B:Option Addr}{n cp m d:Nat}{w:World}{a2 b2:Rt}(hM:b_ M w)(hs:Sl fC w M A n cp (ls.map jd))(h0:ls[0]?=some a)(h1:ls[1]?=some b)(oa:a.ok)(ob:b.ok)(hf:Fine a b)(h2:ls[2]?=some a2)(h3:ls[3]?=some b2):
 Calls prog 91 #[.agg (pY r s1 s2 s3 s4 s5 s6 s7 i t1 t2 t3 t4).toArray,.agg (exV x B m d).toArray,.slice A n cp] w (Au M (if 1*rW a b<=0 then(ls[2]?).getD zR else(ls[3]?).getD zR) w):=by
 refine wid ?_;obtain⟨W1,aa,F1⟩:=dR ((((Fr.nil w).a w (pY r s1 s2 s3 s4 s5 s6 s7 i t1 t2 t3 t4) 93).a (w+1) (exV x B m d) 66).a (w+2) [.bool false,.slice none 0 0,.bool false,.slice none 0 0] 48);have F:=Hd F1;have W:=aW F1
 skip
 have af:=hs.small;obtain⟨O,p⟩:∃q,ls[2]?=some q:=⟨_,by assumption⟩;obtain⟨P,j⟩:∃q,ls[3]?=some q:=⟨_,by assumption⟩;have ac:3<n:=by rw[<-hs.len,cC];exact(bj.1 j).1
 have ab:2<n:=oE;have ad:(3:Int)<(n:Int):=oE;have ae:(2:Int)<(n:Int):=oE;have t:=(hs.more (b:=w+2) oE).go F1.bl;have X:=abR (s:=1) ((hM.le F1.bl.size).cons (F1.mJ 2)) t h0 h1 oa ob hf (.inl rfl);have o:=fB t p j;rw[p,j];by_cases g:1*rW a b<=0
 ·rw[cw g]at X;rw[if_pos g];have HX:=Hd X;clear X hs t h0 h1 oa ob hf p j hM F1 g;refine ent func91 rfl ntmps91 ?_
  gi_wp2_with (first
   |(refine Cl 75 HX.out ?_;rintro e Z ⟨rfl,f⟩;obtain⟨b1,W,z,K,E,C,N,H,rfl,R,S,T,V,h⟩:=(o.a.go f).PI o.b;try simp only[show 2*4=8 from rfl,show 3*4=12 from rfl,fN,fi,ed]at R S T V
     have U:=F.out.go f;have Y:=aW U;have G:=Hd2 U h;clear h U f)
   |fail)
  obtain⟨wF,J,Q,t1,t2,t3,hQ,D⟩:=nN (M:=M) (G.a.aQ 2 0) (G.a.aQ 2 1) (G.a.aQ 2 2) (G.a.aQ 2 3) (x:=O) G.u.num.sl G.u.den.sl G.u.num.neg G.u.den.neg G.a.bl oE;try rw[J]
  exact⟨rfl,.agg #[.bool (aG O.num),.slice z K E,.bool (aG O.den),.slice C N H],by simp[results,go_sem,Q,t1,t2,t3],_,rfl,hQ,D⟩
 ·rw[cE g]at X;rw[if_neg g];have HX:=Hd X;clear X hs t h0 h1 oa ob hf p j hM F1 g;refine ent func91 rfl ntmps91 ?_
  gi_wp2_with (first
   |(refine Cl 75 HX.out ?_;rintro e Z ⟨rfl,f⟩;obtain⟨b1,W,z,K,E,C,N,H,rfl,R,S,T,V,h⟩:=(o.a.go f).PI o.v;try simp only[show 2*4=8 from rfl,show 3*4=12 from rfl,fN,fi,ed]at R S T V
     have U:=F.out.go f;have Y:=aW U;have G:=Hd2 U h;clear h U f)
   |fail)
  obtain⟨wF,J,Q,t1,t2,t3,hQ,D⟩:=nN (M:=M) (G.a.aQ 2 0) (G.a.aQ 2 1) (G.a.aQ 2 2) (G.a.aQ 2 3) (x:=P) G.u.num.sl G.u.den.sl G.u.num.neg G.u.den.neg G.a.bl oE;try rw[J]
  exact⟨rfl,.agg #[.bool (aG P.num),.slice z K E,.bool (aG P.den),.slice C N H],by simp[results,go_sem,Q,t1,t2,t3],_,rfl,hQ,D⟩
theorem Zg{M:List Nat}{r:aS}{s1 s2 s3 s4 s5 s6 s7:dK}{t1 t2 t3 t4:dK}{i:Nat}{x:aU}{A B:Option Addr}{n cp m d:Nat}{w:World}(hM:b_ M w)(hn:i64 x.n)(hd:i64 x.d)(hx0:x.d≠0)(hs:Sl fC w M A n cp (ls.map jd))(h0:ls[0]?=some a)(oa:a.ok)(ob:(eP x.n x.d).ok)(hf:Fine (eP x.n x.d) a):
 Calls prog 89 #[.agg (pY r s1 s2 s3 s4 s5 s6 s7 i t1 t2 t3 t4).toArray,.agg (exV x B m d).toArray,.slice A n cp] w (Au M (VQ (eP x.n x.d) a) w):=by
 refine wid ?_;obtain⟨W1,ab,F1⟩:=dR ((((Fr.nil w).a w (pY r s1 s2 s3 s4 s5 s6 s7 i t1 t2 t3 t4) 93).a (w+1) (exV x B m d) 66).a (w+2) [.bool false,.slice none 0 0,.bool false,.slice none 0 0] 48);have F:=Hd F1;have ad:=hs.small;have ac:0<n:=by rw[<-hs.len,cC];exact(bj.1 h0).1
 have t:b_ ((w.heap.size+2)::M) W1:=(hM.le F1.bl.size).cons (F1.mJ 2);have N:=(hs.more (b:=w+2) oE).go F1.bl;obtain⟨b1,o1,A1,n1,c1,A2,n2,c2,rfl,C,D,E,J,O⟩:=N.qat h0;simp only[fN,ed]at C D E J;have u0:=ah C;have u1:=ah D;have u2:=ah E;have u3:=ah J;have y2:=ah (F1.aQ 1 2);have y3:=ah (F1.aQ 1 3);have HX:=Hd (uP (w:=W1.drew) (M:=(w+2)::M) (t.le pc) hn hd hx0);have H:=oK t (O.go pd.drew) oa ob hf;clear C D E J O hs N h0 oa ob hf t hM F1 hn hd hx0;refine ent func89 rfl ntmps89 ?_;gi_wp2;refine iF [] 15 1 [0,1,2,3,8,9,10,4,5,6,7,11,12,13,14] oF oF rfl ?_;refine eH ?_;refine aH fun K f=>aA rfl rfl wy fun h g=>?_;gi_wp2;refine Cl 78 HX.out ?_;rintro e w2 ⟨u,rfl,W,o⟩;have V:=Hd (F.out.drew.go o);have j:=Hd o;have HG:=Hd (wJ (M:=(w+2)::M) (H.a.le (cD pc o.size)) W);refine g _ _ ⟨?_,f _ _ ?_⟩;clear g h f K;·exact a_ o _
 clear o W;refine lit ?_;refine eH ?_;refine aH fun K f=>aA rfl rfl wy fun h g=>?_;gi_wp2;refine Cl 77 HG.out ?_;rintro e w3 ⟨ae,rfl,Q,p⟩;have F3:=Hd (V.out.go p);have Y:=Hd (Xk (H.a.le (cD j.out.size p.size)) Q (H.b.go (j.out.trans (p.mono j.out.size))) H.d H.c H.x);have T:=Hd (j.out.trans (p.mono j.out.size));refine g _ _ ⟨?_,f _ _ ?_⟩;clear g h f K;·exact a_ p _
 clear p Q;refine lit ?_;refine eH ?_;refine aH fun K f=>aA rfl rfl wy fun h g=>?_;gi_wp2;refine Cl 90 Y.out ?_;rintro e w4 ⟨u4,rfl,R,hb4⟩;have F4:=Hd (F3.out.go hb4);have X:=Hd (wJ (M:=(w+2)::M) (H.a.le (cD T.out.size hb4.size)) R);refine g _ _ ⟨?_,f _ _ ?_⟩;clear g h f K;·exact a_ hb4 _
 clear hb4 R;refine lit ?_;refine eH ?_;refine aH fun K f=>aA rfl rfl wy fun h g=>?_;gi_wp2;refine Cl 77 X.out ?_;rintro e w5 ⟨u5,rfl,S,z⟩;obtain⟨p2,q2,A5,n5,c5,U,m5,d5,rfl,P⟩:=QC.of S;have G:=Hd2 (F4.out.go z) P;refine g _ _ ⟨?_,f _ _ ?_⟩;clear g h f K;·exact a_ z _
 clear z S P;refine lit ?_;refine aK ?_;have o2:=aW G.a;refine jW fun K f h g=>?_;gi_wp2;refine dC _ ?_;gi_wp2;obtain⟨wF,aa,t0,t1,t2,t3,hQ,Z⟩:=nN (M:=M) (G.a.aQ 2 0) (G.a.aQ 2 1) (G.a.aQ 2 2) (G.a.aQ 2 3) (x:=_) G.u.num.sl G.u.den.sl G.u.num.neg G.u.den.neg G.a.bl oE;try rw[aa]
 exact⟨rfl,.agg #[.bool p2,.slice A5 n5 c5,.bool q2,.slice U m5 d5],by simp[results,go_sem,t0,t1,t2,t3],_,rfl,hQ,Z⟩
theorem Nb(s:Int)(w:World):Calls prog 73 #[.int .i64 s] w fun e w'=>e=.returned (.agg #[.func (.func 74) #[] #[.pointer (some ⟨w,0,none⟩)]])/\
 ((w.alloc (.cells #[.int .i64 s] 3)).alloc (.cells #[.nilFunc] 129)).setCell ⟨w+1,0,none⟩ (.func (.func 74) #[] #[.pointer (some ⟨w,0,none⟩)])=w':=by
 refine wid ?_;obtain⟨W1,f,F1⟩:=dR (((Fr.nil w).a w [.int .i64 s] 3).a (w+1) [.nilFunc] 129);have z:=aW F1;clear F1;refine ent func73 rfl ntmps73 ?_;gi_wp2;refine⟨rfl,_,by simp[results,go_sem,z],rfl,?_⟩;rw[<-f]
theorem Xr(w:World):(Instr.makeMap 95 none).run prog w=.ok (.map (some w.heap.size)) (w.alloc (.map #[] 0)):=by rfl
theorem gX{w w':World}{b:Nat}(h:w.mapTurned w' b):w'.heap.size=w.heap.size:=by obtain⟨_,_,_,_,_,rfl⟩:=h;exact Array.size_setIfInBounds
theorem turned_cell{w w':World}{b o:Nat}{v:Value}(h:w.mapTurned w' b)(hk:k≠b)(hc:w.cell? ⟨k,o,none⟩=some v):w'.cell? ⟨k,o,none⟩=some v:=by rw[eR (w:=w) (h.grown.block k (bu w _ hc) (fun e=>hk (by cases e;rfl)))];exact hc
abbrev PK(w:World):List Value:= [.agg #[.nilFunc],.agg #[.func (.func 76) #[] #[]],.agg #[.func (.func 79) #[] #[]],.agg #[.func (.func 81) #[] #[]],.agg #[.func (.func 83) #[] #[]],.agg #[.func (.func 84) #[] #[]],.agg #[.func (.func 85) #[] #[]],.agg #[.func (.func 87) #[] #[]],.agg #[.func (.func 89) #[] #[]],.agg #[.func (.func 74) #[] #[.pointer (some ⟨w+1,0,none⟩)]],.agg #[.func (.func 74) #[] #[.pointer (some ⟨w+1+2,0,none⟩)]],.agg #[.func (.func 91) #[] #[]]]
def PL(w:World):List (Int×Value):= [(11,.agg #[.func (.func 91) #[] #[]]),(10,.agg #[.func (.func 74) #[] #[.pointer (some ⟨w+1+2,0,none⟩)]]),(9,.agg #[.func (.func 74) #[] #[.pointer (some ⟨w+1,0,none⟩)]]),(8,.agg #[.func (.func 89) #[] #[]]),(7,.agg #[.func (.func 87) #[] #[]]),(6,.agg #[.func (.func 85) #[] #[]]),(5,.agg #[.func (.func 84) #[] #[]]),(4,.agg #[.func (.func 83) #[] #[]]),(3,.agg #[.func (.func 81) #[] #[]]),(2,.agg #[.func (.func 79) #[] #[]]),(1,.agg #[.func (.func 76) #[] #[]])]
theorem TS(w:World):Calls prog 43 #[] w fun e w'=>∃n,e=.returned (.map (some w.heap.size))/\MV (PK w) w' w.heap.size n (qZ (PL w))/\w'.cell? ⟨w+1,0,none⟩=some (.int .i64 1)/\w'.cell? ⟨w+1+2,0,none⟩=some (.int .i64 (-1))/\Below w w w':=by
 refine wid ?_;have mm:=Xr;obtain⟨w0,J⟩:=aC (w.alloc (.map #[] 0));have O:MV (PK w) w0 w.heap.size 0 (fun _=>none):=by rw[<-J];exact MV.new _ w
 have z0:w0.heap.size=w.heap.size+1:=by rw[<-J];simp
 have b:Below w w w0:=by rw[<-J];exact(bw _ w).alloc pc _
 obtain⟨w1,r1,P,t1⟩:=O.store (k:=1) underlying95 oV (v:=.agg #[.func (.func 76) #[] #[]]) oO oE;replace b:=b.grown t1.grown (cX O.lt) (fun q f=>by cases f;exact bh _);obtain⟨w2,r2,R,t2⟩:=P.store (k:=2) underlying95 oV (v:=.agg #[.func (.func 79) #[] #[]]) oO oE;replace b:=b.grown t2.grown (cX P.lt) (fun q f=>by cases f;exact bh _);obtain⟨w3,r3,S,t3⟩:=R.store (k:=3) underlying95 oV (v:=.agg #[.func (.func 81) #[] #[]]) oO oE;replace b:=b.grown t3.grown (cX R.lt) (fun q f=>by cases f;exact bh _);obtain⟨w4,r4,T,t4⟩:=S.store (k:=4) underlying95 oV (v:=.agg #[.func (.func 83) #[] #[]]) oO oE;replace b:=b.grown t4.grown (cX S.lt) (fun q f=>by cases f;exact bh _);obtain⟨w5,r5,U,Z⟩:=T.store (k:=5) underlying95 oV (v:=.agg #[.func (.func 84) #[] #[]]) oO oE;replace b:=b.grown Z.grown (cX T.lt) (fun q f=>by cases f;exact bh _);obtain⟨w6,r6,V,t6⟩:=U.store (k:=6) underlying95 oV (v:=.agg #[.func (.func 85) #[] #[]]) oO oE;replace b:=b.grown t6.grown (cX U.lt) (fun q f=>by cases f;exact bh _);obtain⟨w7,r7,W,t7⟩:=V.store (k:=7) underlying95 oV (v:=.agg #[.func (.func 87) #[] #[]]) oO oE;replace b:=b.grown t7.grown (cX V.lt) (fun q f=>by cases f;exact bh _);obtain⟨j,r8,m8,t8⟩:=W.store (k:=8) underlying95 oV (v:=.agg #[.func (.func 89) #[] #[]]) oO oE;replace b:=b.grown t8.grown (cX W.lt) (fun q f=>by cases f;exact bh _);have E:j.heap.size=w.heap.size+1:=by rw[gX t8,gX t7,gX t6,gX Z,gX t4,gX t3,gX t2,gX t1,z0]
 obtain⟨wA,o⟩:=aC (((j.alloc (.cells #[.int .i64 1] 3)).alloc (.cells #[.nilFunc] 129)).setCell ⟨j+1,0,none⟩ (.func (.func 74) #[] #[.pointer (some ⟨j,0,none⟩)]));have aa:Below j j wA:=by rw[<-o];exact(((pd.alloc pc _).alloc oO _).setCell (p:=⟨j+1,0,none⟩) (iH _) _)
 have ac:wA.heap.size=j.heap.size+2:=by rw[<-o];simp
 have G:wA.cell? ⟨j,0,none⟩=some (.int .i64 1):=by rw[<-o];simp[go_sem]
 have X:=m8.go aa;replace b:=b.trans (aa.mono b.size);obtain⟨h,r9,m9,D⟩:=X.store (k:=9) underlying95 oV (v:=.agg #[.func (.func 74) #[] #[.pointer (some ⟨w+1,0,none⟩)]]) oO oE;replace b:=b.grown D.grown (cX X.lt) (fun q f=>by cases f;exact bh _);have z9:h.heap.size=w.heap.size+1+2:=by rw[gX D,ac,E]
 obtain⟨wB,t⟩:=aC (((h.alloc (.cells #[.int .i64 (-1)] 3)).alloc (.cells #[.nilFunc] 129)).setCell ⟨h+1,0,none⟩ (.func (.func 74) #[] #[.pointer (some ⟨h,0,none⟩)]));have F:Below h h wB:=by rw[<-t];exact(((pd.alloc pc _).alloc oO _).setCell (p:=⟨h+1,0,none⟩) (iH _) _)
 have ah:wB.heap.size=h.heap.size+2:=by rw[<-t];simp
 have H:wB.cell? ⟨h,0,none⟩=some (.int .i64 (-1)):=by rw[<-t];simp[go_sem]
 have Y:=m9.go F;replace b:=b.trans (F.mono b.size);obtain⟨af,ad,Q,z⟩:=Y.store (k:=10) underlying95 oV (v:=.agg #[.func (.func 74) #[] #[.pointer (some ⟨w+1+2,0,none⟩)]]) oO oE;replace b:=b.grown z.grown (cX Y.lt) (fun q f=>by cases f;exact bh _);obtain⟨ag,ae,ab,C⟩:=Q.store (k:=11) underlying95 oV (v:=.agg #[.func (.func 91) #[] #[]]) oO oE;replace b:=b.grown C.grown (cX Q.lt) (fun q f=>by cases f;exact bh _);have HA:=Hd (Nb 1 j);have HB:=Hd (Nb (-1) h);rw[E]at HA;rw[z9]at HB;rw[E]at G;rw[z9]at H;have N:=turned_cell D oE G;have kB:=(F.cell (p:=⟨w+1,0,none⟩) (bu h _ N)).trans N;have HF:=h_ ab (turned_cell C oE (turned_cell z oE kB)) (turned_cell C oE (turned_cell z oE H)) b;clear N kB G H b ab D z C;clear O P R S T U V W m8 m9 X Y Q z0 t1 t2 t3 t4 Z t6 t7 t8;refine ent func43 rfl ntmps43 ?_
 gi_wp2_with (first
  |(have g:=G1.out;clear g;refine Cl 73 HB.out ?_;rintro e wC ⟨rfl,K⟩;rw[z9]at t;obtain rfl:=t.symm.trans K)
  |(refine Cl 73 HA.out ?_;rintro e wC ⟨rfl,K⟩;rw[E]at o;obtain rfl:=o.symm.trans K;have G1:=Hd trivial)
  |fail)
 go_ret;exact⟨11,rfl,HF.a,HF.b,HF.c,HF.w⟩
structure Zk(w:World)(M:List Nat)(r:aS)(s1 s2 s3 s4 s5 s6 s7:dK)(c:dS)(t1 t2 t3 t4:dK)(u:World)(n:Nat):Prop where
 r:dG w M r s1 s2 s3 s4 s5 s6 s7
 c:jE w M c t1 t2 t3 t4
 mv:MV (PK u) w u.heap.size n (qZ (PL u))
 p1:w.cell? ⟨u+1,0,none⟩=some (.int .i64 1)
 p2:w.cell? ⟨u+1+2,0,none⟩=some (.int .i64 (-1))
 bM:b_ M w
section
variable {w w' u:World}{M:List Nat}{r:aS}{s1 s2 s3 s4 s5 s6 s7:dK}{c:dS}{t1 t2 t3 t4:dK}{n i:Nat}
theorem Zk.go(h:Zk w M r s1 s2 s3 s4 s5 s6 s7 c t1 t2 t3 t4 u n)(hb:Below w w w'):Zk w' M r s1 s2 s3 s4 s5 s6 s7 c t1 t2 t3 t4 u n:=⟨h.r.go hb,h.c.go hb,h.mv.go hb,(hb.cell (p:=⟨u+1,0,none⟩) (bu w _ h.p1)).trans h.p1,(hb.cell (p:=⟨u+1+2,0,none⟩) (bu w _ h.p2)).trans h.p2,h.bM.le hb.size⟩
theorem Zk.up(h:Zk w M r s1 s2 s3 s4 s5 s6 s7 c t1 t2 t3 t4 u n)(L:List Nat)(hL:∀k,k∈L->w.heap.size<=k/\k<w'.heap.size)(hb:Below w w w'):Zk w' (L++M) r s1 s2 s3 s4 s5 s6 s7 c t1 t2 t3 t4 u n:=
 have g:=h.go hb
 ⟨(h.r.moreL L fun k hk=>(hL k hk).1).go hb,(h.c.moreL L fun k hk=>(hL k hk).1).go hb,g.mv,g.p1,g.p2,fun q hq=>(cR.1 hq).elim (fun hq=>(hL q hq).2) (g.bM q)⟩
theorem Zl{l:List fC}(h:l.all dF=true):(l.map OE).map jd=l:=by
 rw[List.map_map];conv=>rhs;rw[<-List.map_id l]
 exact List.map_congr_left fun x hx=>by obtain⟨y,-,rfl⟩:=(zx x).1 (cQ.1 h x hx);exact gM jd (Lm y)
theorem getD_at(h:ls[k]?=some q):ls.getD k zR=q:=by rw[cx,h];rfl
def KdG(r:aS)(s1 s2 s3 s4 s5 s6 s7:dK)(c:dS)(t1 t2 t3 t4:dK)(u:World)(n i:Nat)(x:aU):Prop:=∃f caps,qZ (PL u) x.kind=some (.agg #[.func (.func f) #[] caps])/\(∀args w,(callFunc f args).run prog w=.ok (.enter f args) w)/\∀(W:World) (M:List Nat) (A B:Option Addr) (m d k cp:Nat),Zk W M r s1 s2 s3 s4 s5 s6 s7 c t1 t2 t3 t4 u n->Sl fC W M A k cp ((nH (kW r c) x.l).map jd)->Calls prog f (#[.agg (pY r s1 s2 s3 s4 s5 s6 s7 i t1 t2 t3 t4).toArray,.agg (exV x B m d).toArray,.slice A k cp]++caps) W (Au M (rG (kW r c) x) W)
theorem uQ(ha:yx a k)(hb:yx b k)(hk:k<=600):Fine a b:=(ha.sh hk).fine (hb.sh hk)
theorem qN{l:List aU}(h:∀y,y∈l->yx (rG I y) 300)(hk:k<l.length):∃q,(nH I l)[k]?=some q/\yx q 300:=⟨_,by rw[oC,cP,bX hk];rfl,h _ (gm hk)⟩
theorem Nh(h:pX y):y.kind=1\/y.kind=2\/y.kind=3\/y.kind=4\/y.kind=5\/y.kind=6\/y.kind=7\/y.kind=8\/y.kind=9\/y.kind=10\/y.kind=11:=by
 have e:=DW h;unfold mV at e
 repeat' split at e
 all_goals omega
theorem TU(hg:f_ r i c)(hw:yI r c)(hm:eY c.marks=0)(x:aU)(hi:i64 x.kind/\i64 x.n/\i64 x.d)(hp:YD r.aT.length i x)(hs:∀y,y∈x.l->yx (rG (kW r c) y) 300):KdG r s1 s2 s3 s4 s5 s6 s7 c t1 t2 t3 t4 u n i x:=by
 have f:=DW hp.sh;have o:=VU hp.sh;obtain⟨U,H,J,X,K⟩:=wK hg;unfold KdG;rw[Qy];rcases Nh hp.sh with e|e|e|e|e|e|e|e|e|e|e;all_goals rw[e]at f |-
 ·obtain⟨N,O,Q,R⟩:=o (.inl e);refine⟨_,_,rfl,eK (P:=prog) func76 oF rfl,fun W M A B m d k cp V _=>?_⟩;exact Y_ V.bM hi.2.1 hi.2.2 oE
 ·obtain⟨F,G⟩:=hp.c e;obtain⟨k,h⟩:∃k:Nat,x.n=(k:Int):=⟨x.n.toNat,oE⟩;have z:=bX (show k<r.aT.length by omega);have g:=bX (show k<c.marks.length by omega);refine⟨_,_,rfl,eK (P:=prog) func79 oF rfl,fun W M A B m d j cp V _=>?_⟩;have:=Zc (x:=x) (i:=i) (A:=A) (B:=B) (m:=m) (d:=d) (n:=j) (cp:=cp) V.bM V.r V.c hg hm h z g;rw[show Uf (kW r c) 2 x.n x.d (nH (kW r c) x.l)=qJ (r.aT[k]) (c.marks[k]) by
   rw[h];exact uK (fun p:bT×List Int=>qJ p.1 p.2) (oG z g) zR]
  exact this
 ·refine⟨_,_,rfl,eK (P:=prog) func81 oF rfl,fun W M A B m d k cp V _=>?_⟩;exact Za V.bM V.r V.c hg.1.2.1.bonus H hw.lens.2.1
 ·refine⟨_,_,rfl,eK (P:=prog) func83 oF rfl,fun W M A B m d k cp V _=>?_⟩;exact Zb V.bM V.r V.c hg.1.2.1.malus J hw.lens.2.2.1
 ·obtain⟨F,G⟩:=hp.r e;obtain⟨k,h⟩:∃k:Nat,x.n=(k:Int):=⟨x.n.toNat,oE⟩;obtain⟨q,t⟩:=dW (c.prev.map OE) k (show k<(c.prev.map OE).length by rw[cC];omega);refine⟨_,_,rfl,eK (P:=prog) func84 oF rfl,fun W M A B m d j cp V _=>?_⟩;have:=Zf (r:=r) (s1:=s1) (s2:=s2) (s3:=s3) (s4:=s4) (s5:=s5) (s6:=s6) (s7:=s7) (i:=i) (xk:=5) (xs:=x.name) (xd:=x.d) (A:=A) (B:=B) (m:=m) (d:=d) (n:=j) (cp:=cp) V.c (Zl K).symm t;rw[show Uf (kW r c) 5 x.n x.d (nH (kW r c) x.l)=q by rw[h];exact getD_at t];rw[<-h,<-e]at this;exact this
 ·obtain⟨a,a1,a2⟩:=qN hs (k:=0) (by have:((x.l.length:Nat):Int)=2:=f;omega);obtain⟨b,b1,b2⟩:=qN hs (k:=1) (by have:((x.l.length:Nat):Int)=2:=f;omega);refine⟨_,_,rfl,eK (P:=prog) func85 oF rfl,fun W M A B m d k cp V g=>?_⟩;have:=Zd (x:=x) (i:=i) (r:=r) (s1:=s1) (s2:=s2) (s3:=s3) (s4:=s4) (s5:=s5) (s6:=s6) (s7:=s7) (t1:=t1) (t2:=t2) (t3:=t3) (t4:=t4) (B:=B) (m:=m) (d:=d) V.bM g a1 b1 a2.ok b2.ok (uQ a2 b2 oE);rw[show Uf (kW r c) 6 x.n x.d (nH (kW r c) x.l)=Js a b by rw[<-getD_at a1,<-getD_at b1];rfl];exact this
 ·obtain⟨a,a1,a2⟩:=qN hs (k:=0) (by have:((x.l.length:Nat):Int)=2:=f;omega);obtain⟨b,b1,b2⟩:=qN hs (k:=1) (by have:((x.l.length:Nat):Int)=2:=f;omega);refine⟨_,_,rfl,eK (P:=prog) func87 oF rfl,fun W M A B m d k cp V g=>?_⟩;have:=Ze (x:=x) (i:=i) (r:=r) (s1:=s1) (s2:=s2) (s3:=s3) (s4:=s4) (s5:=s5) (s6:=s6) (s7:=s7) (t1:=t1) (t2:=t2) (t3:=t3) (t4:=t4) (B:=B) (m:=m) (d:=d) V.bM g a1 b1 a2.ok b2.ok (uQ a2 b2 oE);rw[show Uf (kW r c) 7 x.n x.d (nH (kW r c) x.l)=OG a b by rw[<-getD_at a1,<-getD_at b1];rfl];exact this
 ·obtain⟨a,a1,a2⟩:=qN hs (k:=0) (by have:((x.l.length:Nat):Int)=1:=f;omega);have C:=OH (o (.inr e));obtain⟨N,O,Q,R⟩:=o (.inr e);refine⟨_,_,rfl,eK (P:=prog) func89 oF rfl,fun W M A B m d k cp V g=>?_⟩;have:=Zg (x:=x) (i:=i) (r:=r) (s1:=s1) (s2:=s2) (s3:=s3) (s4:=s4) (s5:=s5) (s6:=s6) (s7:=s7) (t1:=t1) (t2:=t2) (t3:=t3) (t4:=t4) (B:=B) (m:=m) (d:=d) V.bM hi.2.1 hi.2.2 oE g a1 a2.ok C.ok (uQ (C.up oE) a2 oE);rw[show Uf (kW r c) 8 x.n x.d (nH (kW r c) x.l)=VQ (eP x.n x.d) a by rw[<-getD_at a1];rfl];exact this
 ·obtain⟨a,a1,a2⟩:=qN hs (k:=0) (by have:((x.l.length:Nat):Int)=2:=f;omega);obtain⟨b,b1,b2⟩:=qN hs (k:=1) (by have:((x.l.length:Nat):Int)=2:=f;omega);refine⟨_,_,rfl,eK (P:=prog) func74 oF rfl,fun W M A B m d k cp V g=>?_⟩;have:=Ir (x:=x) (i:=i) (r:=r) (s1:=s1) (s2:=s2) (s3:=s3) (s4:=s4) (s5:=s5) (s6:=s6) (s7:=s7) (t1:=t1) (t2:=t2) (t3:=t3) (t4:=t4) (B:=B) (m:=m) (d:=d) V.bM g a1 b1 a2.ok b2.ok (uQ a2 b2 oE) (.inl rfl) V.p1;rw[a1,b1]at this;rw[show Uf (kW r c) 9 x.n x.d (nH (kW r c) x.l)=if 1*rW a b<=0 then a else b by rw[Int.one_mul,<-getD_at a1,<-getD_at b1];rfl];exact this
 ·obtain⟨a,a1,a2⟩:=qN hs (k:=0) (by have:((x.l.length:Nat):Int)=2:=f;omega);obtain⟨b,b1,b2⟩:=qN hs (k:=1) (by have:((x.l.length:Nat):Int)=2:=f;omega);refine⟨_,_,rfl,eK (P:=prog) func74 oF rfl,fun W M A B m d k cp V g=>?_⟩;have:=Ir (x:=x) (i:=i) (r:=r) (s1:=s1) (s2:=s2) (s3:=s3) (s4:=s4) (s5:=s5) (s6:=s6) (s7:=s7) (t1:=t1) (t2:=t2) (t3:=t3) (t4:=t4) (B:=B) (m:=m) (d:=d) V.bM g a1 b1 a2.ok b2.ok (uQ a2 b2 oE) (.inr rfl) V.p2;rw[a1,b1]at this;rw[show Uf (kW r c) 10 x.n x.d (nH (kW r c) x.l)=if-1*rW a b<=0 then a else b by rw[Int.neg_mul,Int.one_mul,<-getD_at a1,<-getD_at b1];rfl];exact this
 obtain⟨a,a1,a2⟩:=qN hs (k:=0) (by have:((x.l.length:Nat):Int)=4:=f;omega);obtain⟨b,b1,b2⟩:=qN hs (k:=1) (by have:((x.l.length:Nat):Int)=4:=f;omega);obtain⟨D,a3,S⟩:=qN hs (k:=2) (by have:((x.l.length:Nat):Int)=4:=f;omega);obtain⟨E,b3,T⟩:=qN hs (k:=3) (by have:((x.l.length:Nat):Int)=4:=f;omega);refine⟨_,_,rfl,eK (P:=prog) func91 oF rfl,fun W M A B m d k cp V g=>?_⟩;have:=Xq (x:=x) (i:=i) (r:=r) (s1:=s1) (s2:=s2) (s3:=s3) (s4:=s4) (s5:=s5) (s6:=s6) (s7:=s7) (t1:=t1) (t2:=t2) (t3:=t3) (t4:=t4) (B:=B) (m:=m) (d:=d) V.bM g a1 b1 a2.ok b2.ok (uQ a2 b2 oE) a3 b3;rw[a3,b3]at this;rw[show Uf (kW r c) 11 x.n x.d (nH (kW r c) x.l)=if 1*rW a b<=0 then D else E by rw[Int.one_mul,<-getD_at a1,<-getD_at b1,<-getD_at a3,<-getD_at b3];rfl];exact this
end
structure TW(M:List Nat)(w u:World)(L:List (Nat×List Value))(v:Value)(xs:List Rt)(wr:World):Prop where
 own:bD fC 48 wr M u.heap.size v xs.length (xs.map jd)
 fr:Fr w wr L
 bb:Below u u wr
 hL:∀b vs,(b,vs)∈L->b<u.heap.size
 hW:w.heap.size<=u.heap.size
 bM:b_ M u
section
variable {M:List Nat}{w u wr wz:World}{L:List (Nat×List Value)}{v:Value}{xs:List Rt}
theorem TW.go(h:TW M w u L v xs wr)(hb:Below wr wr wz):TW M w u L v xs wz:=⟨h.own.go hb,h.fr.go hb,h.bb.trans (hb.mono h.bb.size),h.hL,h.hW,h.bM⟩
theorem TW.bel(h:TW M w u L v xs wr):b_ (bP v++M) wr:=fun q hq=>by
 rcases cR.1 hq with hq|hq;·exact(h.own.lt (bJ.1 hq)).2
 exact cf (h.bM q hq) h.bb.size
theorem TW.app(h:TW M w u L v xs wr){p r:Bool}{A B:Option Addr}{n c m d:Nat}(hq:QC wr (bP v++M) q p r A n c B m d)(hn:xs.length<=1000):
 ∃v' w',(Builtin.append_ #[37,37] 37 #[v,.slice (some ⟨wr,0,none⟩) 1 1]).run prog (wr.alloc (.cells #[.bool p,.slice A n c,.bool r,.slice B m d] 48))=.ok v' w'/\TW M w u L v' (xs++ [q]) w':=by
 obtain⟨⟨rfl,s1⟩,⟨rfl,s2⟩⟩:=hq;obtain⟨v',w',z,V,f,E,F⟩:=h.own.app1 (t:=37) underlying37 Iq h.bb.size (fun q hq=>h.bel q (cL _ hq)) (x:=jd q) (JB s1 s2) oE;have j:=h.fr.ZI f (fun g O=>⟨cD h.hW (h.own.lt O).1,fun b C o e=>by have D:=(h.own.lt O).1;have:=h.hL b C o;omega⟩);exact⟨v',w',z,⟨by simpa using V,j,h.bb.grown f h.bb.size (fun g O=>(h.own.lt O).1),h.hL,h.hW,h.bM⟩⟩
theorem TW.sl(h:TW M w u L v xs wr)(hn:xs.length<=1000):∃A c,v=.slice A xs.length c/\Sl fC wr M A xs.length c (xs.map jd):=h.own.sl oE h.bM
end
def VaR(M:List Nat)(w u:World)(L:List (Nat×List Value))(F:Nat->List Rt)(n:Nat)(v i:Value)(wr:World):Prop:=∃(k:Nat) (v':Value),k<=n/\i=.int .i64 k/\v'=v/\Hid (TW M w u L v' (F k) wr)
attribute [irreducible] VaR
theorem TY(w:World):(zeroValue 129).run prog w=.ok (.agg #[.nilFunc]) w:=oF
theorem Xv(f:Nat)(caps:Array Value)(w:World):(Instr.field 129 (.agg #[.func (.func f) #[] caps]) 0).run prog w=.ok (.func (.func f) #[] caps) w:=oF
theorem T_{l:List aU}(h:l[k]?=some y):(nH I l).take (k+1)=(nH I l).take k++ [rG I y]:=by rw[oC];exact take_snoc (by rw[cP,h];rfl)
section
variable {u:World}{r:aS}{s1 s2 s3 s4 s5 s6 s7:dK}{c:dS}{t1 t2 t3 t4:dK}{n i:Nat}
theorem Ua(hg:f_ r i c)(hw:yI r c)(hm:eY c.marks=0):∀(x:aU),nodes x<=60->(∀y,y∈iZ x->YD r.aT.length i y)->∀{M:List Nat}{A:Option Addr}{m d:Nat}{w:World},Zk w M r s1 s2 s3 s4 s5 s6 s7 c t1 t2 t3 t4 u n->(i64 x.kind/\i64 x.n/\i64 x.d)->Sl aU w M A m d x.l->
 Calls prog 42 #[.agg (pY r s1 s2 s3 s4 s5 s6 s7 i t1 t2 t3 t4).toArray,.agg (exV x A m d).toArray,.map (some u.heap.size)] w (Au M (rG (kW r c) x) w):=by
 intro x
 induction x using iY with
 |_ x ih=>
 intro hn R M A m d w V hi hs;refine wid ?_;have aq:=hs.small;obtain⟨I,P⟩:=aC (kW r c);have ah:=fun y=>aeM (aeN hg hw hm) y;have am:=gV x;have H:=jX x.l;have af:∀y,y∈x.l->yx (rG (kW r c) y) 300:=fun y p=>(ah y (by have:=fK p;omega) (fun z hz=>R z (by rw[lW];exact bz _ (qF p hz)))).up (by have:=fK p;omega);obtain⟨f,aj,kf,eg,kg⟩:=TU (s1:=s1) (s2:=s2) (s3:=s3) (s4:=s4) (s5:=s5) (s6:=s6) (s7:=s7) (t1:=t1) (t2:=t2) (t3:=t3) (t4:=t4) (u:=u) (n:=n) hg hw hm x hi (R x (by rw[lW];exact cd)) af;have IH:=Hd (fun y (p:y∈x.l)=> @ih y p (by have:=fK p;omega) (fun z hz=>R z (by rw[lW];exact bz _ (qF p hz))));rw[P]at kg;obtain⟨L,hL⟩:∃L:List (Nat×List Value), [(w.heap.size,pY r s1 s2 s3 s4 s5 s6 s7 i t1 t2 t3 t4),(w+1,exV x A m d),(w+2, [.bool false,.slice none 0 0,.bool false,.slice none 0 0])]=L:=⟨_,rfl⟩;obtain⟨W1,ao,F1⟩:=dR ((((Fr.nil w).a w (pY r s1 s2 s3 s4 s5 s6 s7 i t1 t2 t3 t4) 93).a (w+1) (exV x A m d) 66).a (w+2) [.bool false,.slice none 0 0,.bool false,.slice none 0 0] 48);have o1:=aW F1;have C:=Hd2 (V.up (w':=W1) [w.heap.size+2] (fun k hk=>by rw[bE]at hk;subst hk;exact⟨oE,F1.mJ 2⟩) F1.bl) ((hs.more (b:=w+2) oE).go F1.bl);have Z:=Hd (show ∀V,Fr w V L->Fr w V [(w,pY r s1 s2 s3 s4 s5 s6 s7 i t1 t2 t3 t4),(w+1,exV x A m d),(w+2, [.bool false,.slice none 0 0,.bool false,.slice none 0 0])]from fun V h=>by rw[hL];exact h);have N:Fr w W1 L:=by rw[<-hL];exact F1
 have R0:=Hd (show TW ([w.heap.size+2]++M) w W1 L (.slice none 0 0) [] W1 from⟨bD.nil _ _ _,N,bw _ _,fun b vs hm=>N.lt b vs hm,N.bl.size,C.a.bM⟩);have KG:=Hd2 kf kg;have HX:=Hd2 hs.len (show x.l.length<=60 by omega);have HI:=Hd P;clear F1 N V hs hL R ih ah am H af kf kg hg hw hm hn;rw[P];clear P;refine ent func42 rfl ntmps42 ?_;gi_wp2;gi_loopw[7,13] (fun v j wr=>VaR ([w.heap.size+2]++M) w W1 L (fun k=>(nH I x.l).take k) m v j wr) (fun _ j _=>m-(intOf j).toNat);case atStart=>unfold VaR;exact⟨0,_,bO _,rfl,rfl,R0⟩
 case round=>
  unfold VaR at hrel;obtain⟨k,v,hk,rfl,S,Q⟩:=hrel;subst S;replace Q:Hid (TW ([w.heap.size+2]++M) w W1 L v ((nH I x.l).take k) wr):=Q;have o2:=aW (Z.out _ Q.out.fr);by_cases al:k<m
  ·obtain⟨y,p⟩:=dW x.l k (by rw[HX.a];exact al);have F:=Q.out.bb;obtain⟨b,o,B,n',d',rfl,⟨h0,h1,h2,h3,h4⟩,hyi,hys⟩:=(C.u.go F).qQ p;obtain⟨W5,CZ,F5⟩:=dR ((Z.out _ Q.out.fr).a wr (exV y B n' d') 66);have E:Below wr wr W5:=by rw[<-CZ];exact(bw _ wr).alloc pc _
   have o5:=aW F5;have ab:∀q,q∈bP v->W1.heap.size<=q/\q<W5.heap.size:=fun q hq=>by have h1:=Q.out.own.lt (bJ.1 hq);exact⟨h1.1,cf h1.2 E.size⟩
   have t:=C.a.up (w':=W5) (bP v) ab (F.trans (E.mono F.size));have ai:=((C.u.moreL (bP v) (fun q hq=>(ab q hq).1)).go F).qQ p;obtain⟨b',o',T,n2,d2,e2,⟨-,-,-,-,g4⟩,-,Xw⟩:=ai;cases e2;rw[h4]at g4;cases g4;have O:=Hd (IH.out y (aR p) t hyi (Xw.go E));rw[HI.out]at O;have ag:=T_ (I:=I) p;have ad:=Hd2 ag (show((nH I x.l).take k).length=k by rw[cI,oC,cC,HX.a];omega);have ak:=Hd (Q.out.go E);clear p ag F hys Xw ab t E F5 hyi
   gi_wp2_with (first
    |(have g:=Y;clear g;gi_at_builtin;refine cY rfl fun K ae=>?_;have X:=Y.a;refine aI _ _ _ rfl rfl rfl X (ae _ _ ?_);clear ae K X)
    |(refine Cl 42 O.out ?_;rintro e w6 ⟨u6,rfl,W,D⟩;obtain⟨p2,q2,A2,n2,c2,T,m2,d2,rfl,J⟩:=QC.of W;obtain⟨v',wA,r1,R1⟩:=(ak.out.go D).app J (by rw[ad.u];have:=HX.out;omega);rw[<-ad.a]at R1;have Y:=Hd2 r1 R1;clear r1 R1 W J D)
    |fail)
   exact⟨by unfold VaR;exact⟨k+1,_,oE,by go_num,rfl,Y.u⟩,by simp[intOf];omega⟩
  ·obtain rfl:k=m:=oE;have aa:(nH I x.l).take k=nH I x.l:=bL (by rw[oC,cC,HX.a];exact bh _);have H:(nH I x.l).length=k:=by rw[oC,cC,HX.a]
   obtain⟨A',c',S,ac⟩:=Q.out.sl (by rw[aa,H];have:=HX.out;omega);rw[aa,H]at S ac;have t:=C.a.go Q.out.bb;have hl:=t.mv.look (k:=x.kind) underlying95 (TY wr) oO hi.1;rw[KG.a]at hl;simp only[eT]at hl;have O:=Hd (KG.u wr _ A' A k d k c' t ac);have HF:=Hd (Z.out _ Q.out.fr);have ap:=Xv f aj;subst S;clear aa H ac t Q
   gi_wp2_with (first
    |(refine Cl f O.out ?_;rintro e w3 ⟨u3,rfl,W,D⟩;obtain⟨p2,q2,A2,n2,c2,T,m2,d2,rfl,J⟩:=QC.of W;have U:=HF.out.go D;have o3:=aW U;have G:=Hd2 U J;clear W U J D)
    |fail)
   obtain⟨wF,an,t0,t1,t2,t3,hQ,bF⟩:=nN (M:=M) (G.a.aQ 2 0) (G.a.aQ 2 1) (G.a.aQ 2 2) (G.a.aQ 2 3) (x:=_) G.u.num.sl G.u.den.sl G.u.num.neg G.u.den.neg G.a.bl oE;try rw[an]
   exact⟨rfl,.agg #[.bool p2,.slice A2 n2 c2,.bool q2,.slice T m2 d2],by simp[results,go_sem,t0,t1,t2,t3],_,rfl,hQ,bF⟩
end
section
variable {M:List Nat}{r:aS}{s1 s2 s3 s4 s5 s6 s7:dK}{c:dS}{t1 t2 t3 t4:dK}{w:World}
theorem Nj{x:aJ}{i:Nat}(hr:dG w M r s1 s2 s3 s4 s5 s6 s7)(hc:jE w M c t1 t2 t3 t4)(hg:f_ r i c)(hw:yI r c)(hx:r.rounds[i]?=some x)(hp:x.2.2.2.2.1=false)(hm:eY c.marks=0)(ht:Tab w)(hM:b_ M w):
 Calls prog 12 #[.agg (aV r s1 s2 s3 s4 s5 s6 s7).toArray,.int .i64 i,.agg (dI t1 t2 t3 t4).toArray] w fun e w'=>∃u,e=.returned (.tuple #[u,.int .i64 0])/\QW w' M u (rG (kW r c) (au x))/\Below w w w':=by
 refine wid ?_;obtain⟨W1,aj,F1⟩:=dR (((((Fr.nil w).a w (aV r s1 s2 s3 s4 s5 s6 s7) 28).a (w+1) (dI t1 t2 t3 t4) 42).a (w+2) [.bool false,.slice none 0 0,.bool false,.slice none 0 0] 48).a (w+3) [.int .i64 0] 32);have o1:=aW F1;have F:=Hd F1;obtain⟨A5,N,c5⟩:=s5;have P:Sl aJ w M A5 N c5 r.rounds:=hr.rounds;have ak:i<N:=by rw[<-P.len];exact(bj.1 hx).1
 have JC:=P.small;obtain⟨O,R,-,-,-,Zm,-⟩:=P.iw hx;subst Zm;clear P;have HC:=Hd (ada (i:=(i:Int)) (hr.go F1.bl) (hc.go F1.bl) hg (tab_below ht F1.bl) (hM.le F1.bl.size));have H:=oK hr hc hg hw hM;have HX:=Hd hx;have HP:=Hd hp;clear F1 hr hc hg hw hM ht hx hp;have ab:=Hd hm;clear hm;refine qj func12 rfl ntmps12 ?_
 gi_wp2_with (first
  |(have g:=G2.out;clear g;have X:=M_ (r:=r) (s1:=s1) (s2:=s2) (s3:=s3) (s4:=s4) (s5:=⟨some ⟨O,R,none⟩,N,c5⟩) (s6:=s6) (s7:=s7) (i:=i) (H.b.go F.out.bl) ab.out (fun l hl=>cD (H.d.mark l hl) oE);refine Cl 41 X ?_;clear X;rintro e T ⟨rfl,hb4⟩;have U:=F.out.go hb4;have o4:=aW U;replace F:=Hd U;clear U hb4 o1 o2 o3)
  |(have g:=G1.out;clear g;refine Cl 39 (rP _) ?_;rintro e aw ⟨rfl,rfl⟩;obtain⟨b3,ZU,D,m3,e3,C,⟨-,-,-,-,y4,-⟩,⟨V,W,Y,Z,j⟩,-,-,hyi,hys⟩:=(H.a.rounds.go F.out.bl).iw HX.out;cases C;rw[HP.out]at y4;obtain⟨w3,am,F3⟩:=dR (F.out.a w2 (pY r s1 s2 s3 s4 ⟨some ⟨O,R,none⟩,N,c5⟩ s6 s7 i t1 t2 t3 t4) 93);have o3:=aW F3;replace F:=Hd F3;clear F3;have G2:=Hd trivial)
  |(refine Cl 40 HC.out ?_;rintro e w2 ⟨rfl,ad⟩;have U:=F.out.go ad;have al:w.heap.size+3<w2.heap.size:=U.mJ 3;have o2:=aW U;replace F:=Hd U;have G1:=Hd trivial;clear U ad)
  |fail)
 clear y4 V W Y Z j hys hyi;obtain⟨b3,ZU,D,m3,e3,C,-,⟨V,W,Y,Z,j⟩,-,-,hyi,hys⟩:=(H.a.rounds.go F.out.bl).iw HX.out;cases C;have v6:=ah V;have v7:=ah W;have v8:=ah Y;have v9:=ah Z;have ae:=ah j;have z5:=ah (F.out.aQ 0 5);have k0:=ah (F.out.aQ 4 0);have k1:=ah (F.out.aQ 4 1);have k2:=ah (F.out.aQ 4 2);have k3:=ah (F.out.aQ 4 3);have k4:=ah (F.out.aQ 4 4);have k5:=ah (F.out.aQ 4 5);have k6:=ah (F.out.aQ 4 6);have k7:=ah (F.out.aQ 4 7);have k8:=ah (F.out.aQ 4 8);have k9:=ah (F.out.aQ 4 9);have an:=ah (F.out.aQ 4 10);have ao:=ah (F.out.aQ 4 11);have ap:=ah (F.out.aQ 4 12);have aq:=ah (F.out.aQ 4 13);have af:=Hd2 hyi hys;clear V W Y Z j hyi hys o4;refine iF [] 9 2 [0,1,2,3,4,5,6,7,8] oF oF rfl ?_;refine eH ?_;refine aH fun K o=>aA rfl rfl wy fun z t=>?_;gi_wp2;refine Cl 43 (TS T.drew) ?_;rintro e w5 ⟨n,rfl,mv,p1,S,Q⟩;have ac:=(bw T T).drew.trans Q;have F5:=F.out.go ac;have E:∀k,k∈ [w.heap.size+2,w.heap.size+3]->w.heap.size<=k/\k<w5.heap.size:=fun k h=>by simp only[cB,dz,il]at h;have h1:=F5.mJ 2;have h2:=F5.mJ 3;rcases h with rfl|rfl<;>omega
 have V5:Zk w5 ([w.heap.size+2,w.heap.size+3]++M) r s1 s2 s3 s4 ⟨some ⟨O,R,none⟩,N,c5⟩ s6 s7 c t1 t2 t3 t4 T.drew n:=⟨(H.a.moreL _ fun k h=>(E k h).1).go F5.bl,(H.b.moreL _ fun k h=>(E k h).1).go F5.bl,mv,p1,S,fun q J=>(cR.1 J).elim (fun J=>(E q J).2) (fun J=>H.x.le F5.bl.size q J)⟩;obtain⟨b3,ZU,D',ar,ai,C,-,⟨-,-,-,-,j⟩,-,-,-,Xw⟩:=((H.a.moreL [w.heap.size+2,w.heap.size+3] fun k h=>(E k h).1).rounds.go F5.bl).iw HX.out;cases C;have eD:=(Q.cell (p:=⟨O,R+i*13+10,none⟩) (bu T.drew _ (ae T.drew (cF _ _)))).trans (ae T.drew (cF _ _));rw[j]at eD;cases eD;have HV:=Hd (Ua H.c H.d ab.out (au x) (H.d.parts x (aR HX.out)) (afS H.out.2.2.1.1 HX.out HP.out) V5 af.a Xw);replace F:=Hd F5;refine t _ _ ⟨?_,o _ _ ?_⟩;clear t z o K;·exact a_ Q _
 clear Q mv p1 S ac F5 E V5 Xw j;refine lit ?_;refine eH ?_;refine aH fun K o=>aA rfl rfl wy fun z t=>?_;gi_wp2;refine Cl 42 HV.out ?_;rintro e w6 ⟨u6,rfl,z2,aa⟩;obtain⟨S,q2,A2,n2,c2,B2,m2,d2,rfl,qc⟩:=QC.of z2;have G:=Hd2 (F.out.go aa) z2;refine t _ _ ⟨?_,o _ _ ?_⟩;clear t z o K;·exact a_ aa _
 clear aa qc z2;refine lit ?_;refine aK ?_;have o6:=aW G.a;refine jW fun K o z t=>?_;gi_wp2;refine jW fun K o z t=>?_;gi_wp2;refine dC _ ?_;gi_wp2;obtain⟨wF,ag,t0,t1,t2,t3,t5,hQ,bF⟩:=WM (M:=M) (G.a.aQ 2 0) (G.a.aQ 2 1) (G.a.aQ 2 2) (G.a.aQ 2 3) (G.a.aQ 3 0) G.u (fun k h=>by simp[h]) oO oO oE G.a.bl oE oE;rw[ag];clear o6;refine eM (f:=38) (args:=#[.pointer (some ⟨w+1+1+1,0,none⟩)]) oO oO oX (fun _ _=>bq) ?_;refine(rQ ⟨w+1+1+1,0,none⟩ _).mono ?_;rintro e u' av ⟨rfl,rfl,rfl⟩;refine⟨.tuple #[.agg #[.bool S,.slice A2 n2 c2,.bool q2,.slice B2 m2 d2],.int .i64 0],?_,_,rfl,hQ,bF⟩;simp[results,results12,go_sem,t0,t1,t2,t3,t5]
end
end
