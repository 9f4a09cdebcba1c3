/- Lemmas. -/
import Derived.Test.YtfdmnogfflcllaaGreatDoorM43
import Derived.Test.YtfdmnogfflcllaaGreatDoorM45
set_option linter.unusedVariables false
set_option linter.unusedSimpArgs false
set_option maxRecDepth 100000
set_option maxHeartbeats 20000000
namespace Go.Proofs.YtfdmnogfflcllaaGreatDoor
open Go.Proofs.Tryz Go.RowKit Go.Shelf
theorem FK{p:Prop}(h:p:=by
 simp only[ScM,cB,cR,dz,il]at m;rcases m with(m|m|m|m)|m;·omega
 ·omega
 ·have:=Q q m;omega
 ·omega
 have:=hMw q m;omega):p:=h
section
variable {M:List Nat}{base n vb i:Nat}{v:Value}{l:List Rt}{x:Rt}{p q:Bool}{A B:Option Addr}{n1 c1 m1 d1:Nat}{w:World}
theorem adN(h:bD fC 48 w M base v n (l.map jd))(hb:base<=w.heap.size)(hM:b_ M w)(hn:n<=10000)(hi:i<=n)(hv:w.heap[vb]?=some (.cells (usQ p q A B n1 c1 m1 d1).toArray 48 (0,0)))(hg:vb∉bP v)(hvM:vb∉M)(qx:QC w (bP v++M) x p q A n1 c1 B m1 d1):
 Calls prog 70 #[v,.int .i64 i,.slice (some ⟨vb,0,none⟩) 1 1] w (adL M base n v (l.take i++x::l.drop i) w):=by
 have z:l.length=n:=by have:=h.len;rwa [cC]at this
 by_cases o:i<n
 ·obtain⟨g,b,rfl⟩:=qA h oE;have f:vb≠g:=fun e=>hg (bJ.2 (by rw[e];rfl));by_cases m:n+1<=b;·exact ac3 h hn o m hv f qx
  exact ado h hn o oE hb hM hv qx
 ·obtain rfl:i=n:=oE;have s:Rep.rd w (bP v++M) (jd x) (usQ p q A B n1 c1 m1 d1):=by
   have G:(jd x).1.1=p:=qx.num.neg;have N:(jd x).2.1=q:=qx.den.neg;rw[<-G,<-N];exact JB (x:=jd x) qx.num.sl qx.den.sl
  have:=adM h hb hn (x:=x) (vb:=vb) ⟨rfl,bh _,by unfold jG;omega,oE,.inr ⟨vb,0,rfl,fun k y a=>by
   match k,a with
   |0,a=>cases a;exact⟨usQ p q A B n1 c1 m1 d1,s,fun d=>(cR.1 d).elim hg hvM,fun j u t=>by rw[fN,dm];exact ace hv t⟩⟩⟩
  rwa [bL oE,cA oE]
end
theorem good_row{r:aS}{i:Int}{c:dS}{l:List Int}(h:f_ r i c)(hl:l∈c.marks):0<l.length/\l.length<=256:=by obtain⟨hs,j,x,rfl,hx,I⟩:=h;have a:=hs.2.1.rounds x (aR hx);unfold kS at I;simp only[cJ,du]at I;obtain⟨k,e⟩:=fS hl;obtain⟨y,g⟩:=dW r.aT k (by rw[<-I.1.1.1.1.1];exact(bj.1 e).1);have b:=cQ.1 I.1.2 _ (aR (oG g e));unfold jc at b;simp only[cJ]at b;have d:=cW b.1;have f:=a.1;omega
theorem acf{r:aS}{i:Int}{c:dS}(h:f_ r i c):c.marks.length=r.aT.length:=by obtain⟨hs,j,x,rfl,hx,I⟩:=h;unfold kS at I;simp only[cJ,du]at I;exact I.1.1.1.1.1
theorem acg{i:Nat}:∀{l:List Int}{k:Nat},(an i k l).length<=l.length
 | [],_=>bh _
 |m::l,k=>by have:= @acg i l (k+1);unfold an;split<;>simp<;>omega
theorem ach:∀{s:List (List Int)}{i:Nat},(∀l,l∈s->l.length<=20)->(aa i s).length<=20*s.length
 | [],_,_=>bO _
 |l::s,i,h=>by have h1:= @ach s (i+1) (fun x hx=>h x (bz _ hx));have h2:=h l cd;have h3:= @acg i l 0;unfold aa;simp;omega
theorem ae8{r:aS}{i:Int}{c:dS}(h:f_ r i c):ShM (aa 0 c.marks) r.aT.length c.marks:=fun q hq=>by obtain⟨a,b⟩:=q;obtain⟨h1,l,h2,h3⟩:=aaV.1 hq;rw[Nat.sub_zero]at h2;refine⟨?_,l,h2,(bj.1 h3).1⟩;rw[<-acf h];exact(bj.1 h2).1
theorem ae9{w:World}{M:List Nat}{y:Rt}{p q:Bool}{A B:Option Addr}{n c m d:Nat}(h:QC w M y p q A n c B m d)(hs:yx y 300):n<=300/\m<=300:=by have b:=h.num.sl.len;have a:=h.den.sl.len;unfold ints at b a;rw[cC]at b a;exact⟨by rw[<-b];exact(lY _ _).1 hs.num,by rw[<-a];exact(lY _ _).1 hs.den⟩
theorem acP{f:List (List Int)->Rt}{pre:List (List (List Int))}{x:List (List Int)}:aaf [] ((pre++ [x]).map f)=abo (f x) (aaf [] (pre.map f)):=by unfold aaf;rw[eO,List.foldl_append];rfl
theorem adp{x:Rt}:∀{l:List Rt},(abo x l).length<=l.length+1
 | []=>bh _
 |y::l=>by
  have:= @adp x l;unfold abo;split;·simp;omega
  split<;>simp
theorem aci:∀{xs:List Rt}{l:List Rt},(aaf l xs).length<=l.length+xs.length
 | [],_=>bh _
 |x::xs,l=>by have h1:= @aci xs (abo x l);have h2:= @adp x l;unfold aaf at h1 |-;rw[oc,et];omega
section
attribute [local go_sem] cK
abbrev ScM(w3:World)(N:List Nat)(bl:Nat)(M:List Nat):List Nat:=(w3.heap.size::(w3.heap.size+1)::(N++ [bl]))++M
def ScI(w w3:World)(M N:List Nat)(L:List (Nat×List Value))(bl:Nat)(xs:List (List (List Int)))(f:List (List Int)->Rt)(rest:List (List (List Int)))(o:Option Nat)(W:World):Prop:=∃v pre,xs=pre++rest/\o=v.ownBlock/\bD fC 48 W (ScM w3 N bl M) (w3.heap.size+2) v (aaf [] (pre.map f)).length ((aaf [] (pre.map f)).map jd)/\Fr w W (L++ [(bl, [v])])/\w3.heap.size<=W.heap.size
theorem ScI.kpo{w w3 W W':World}{M N K:List Nat}{L:List (Nat×List Value)}{bl:Nat}{xs:List (List (List Int))}{f:List (List Int)->Rt}{rest:List (List (List Int))}{o:Option Nat}(h:ScI w w3 M N L bl xs f rest o W)(k:KpO K W W')(hK:∀q,q∈K->(q∈N\/q=w3.heap.size\/q=w3.heap.size+1)/\w.heap.size<=q/\q<w3.heap.size+2/\q≠bl)(hL:∀c vs,(c,vs)∈L->c∉K):ScI w w3 M N L bl xs f rest o W':=by
 obtain⟨v,m,G,e,d,j,hs⟩:=h;refine⟨v,m,G,e,d.acI k.k (fun q b=>?_) (fun g O b=>?_),j.kpo k (fun q b=>(hK q b).2.1) (fun c vs a I=>?_),cD hs k.k.size⟩
 ·rcases(hK q b).1 with h|h|h;·exact df _ (bz _ (bz _ (df _ h)))
  ·rw[h];exact df _ cd
  rw[h];exact df _ (bz _ cd)
 ·have:=(d.lt O).1;have:=(hK g b).2.2.1;omega
 rcases cR.1 a with a|a;·exact hL c vs a I
 simp only[bE,eV]at a;exact(hK c I).2.2.2 a.1
theorem QC.acj{w:World}{M M':List Nat}{r:Rt}{p q:Bool}{A B:Option Addr}{n c m d:Nat}(h:QC w M r p q A n c B m d)(hs:∀k,k∈M'->k∈M):QC w M' r p q A n c B m d:=⟨⟨h.num.neg,h.num.sl.less hs⟩,⟨h.den.neg,h.den.sl.less hs⟩⟩
theorem jE.afF{w w0:World}{c:dS}{t1 t2 t3 t4 H:dK}{x:List (List Int)}{M:List Nat}(hc:jE w M c t1 t2 t3 t4)(hb:Below w w w0)(hm:Sl (List Int) w0 [] H.A H.n H.c x)(L:List Nat)(hL:∀k,k∈L->w.heap.size<=k):jE w0 (L++M) (mkC c x) H t2 t3 t4:=by have h:=hc.moreL L hL;have g:=h.go hb;exact⟨hm,g.bonus,g.malus,g.prev⟩
theorem dG.acj{w:World}{M M':List Nat}{r:aS}{s1 s2 s3 s4 s5 s6 s7:dK}(h:dG w M r s1 s2 s3 s4 s5 s6 s7)(k:∀q,q∈M'->q∈M):dG w M' r s1 s2 s3 s4 s5 s6 s7:=⟨h.aT.less k,h.bonus.less k,h.malus.less k,h.ties.less k,h.rounds.less k,h.prizes.less k,h.points.less k,h.best⟩
theorem jE.acj{w:World}{M M':List Nat}{c:dS}{t1 t2 t3 t4:dK}(h:jE w M c t1 t2 t3 t4)(k:∀q,q∈M'->q∈M):jE w M' c t1 t2 t3 t4:=⟨h.marks,h.bonus.less k,h.malus.less k,h.prev.less k⟩
section
variable {M:List Nat}{r:aS}{s1 s2 s3 s4 s5 s6 s7:dK}{c:dS}{t1 t2 t3 t4:dK}{w:World}{k:Nat}{rd:aJ}
theorem abT(hr:dG w M r s1 s2 s3 s4 s5 s6 s7)(hc:jE w M c t1 t2 t3 t4)(hg:f_ r k c)(hw:yI r c)(hx:r.rounds[k]?=some rd)(hp:rd.2.2.2.2.1=false)(ht:Tab w)(hMw:b_ M w):
 Calls prog 33 #[.agg (evV r s1 s2 s3 s4 s5 s6 s7 k).toArray,.agg (dI t1 t2 t3 t4).toArray] w fun e w'=>((aah r c<=5040/\∃A n cp,e=.returned (.slice A n cp)/\SlR w' M A n cp (af r rd c))\/(5040<aah r c/\e=Wx 2))/\Below w w w':=by
 refine wid ?_;obtain⟨W1,bo,F1⟩:=dR ((((Fr.nil w).a w (evV r s1 s2 s3 s4 s5 s6 s7 k) 79).a (w+1) (dI t1 t2 t3 t4) 42).a (w+2) [.slice none 0 0] 37);have o1:=aW F1;have F:=Hd F1;have ar:=acf hg;have bi:=hw.lens.1;have am:dG w [w.heap.size+2] r s1 s2 s3 s4 s5 s6 s7:=(hr.moreL [w.heap.size+2] (fun q m=>by simp at m;omega)).acj (fun q m=>df _ m);have a2:jE w [w.heap.size+2] c t1 t2 t3 t4:=(hc.moreL [w.heap.size+2] (fun q m=>by simp at m;omega)).acj (fun q m=>df _ m);have bc:=Hd (abW (i:=k) (am.go F1.bl) (a2.go F1.bl) (fun q m=>by simp at m;subst m;exact F1.mJ 2) hg.1.2.1.aT oE oE (fun l hl=>⟨(good_row hg hl).1,by have:=(good_row hg hl).2;omega⟩) (cD (ach hw.mark) oE));have H:=Hd7 hr hc hg hw hx hp ht;clear F1 hr hc hg hw hx hp ht am a2 ar bi;refine sH func33 rfl ntmps33 ?_
 gi_wp2_with (first
  |(refine Cl 68 bc.out ?_;rintro e J ⟨⟨al,N,bm,bf,bv,br,HH,Am,nm,cm,hs,rfl,ao,a7,hN⟩|⟨hgt,rfl⟩,hb3⟩)
  |fail)
 rotate_left;·exact⟨.inr ⟨hgt,rfl⟩,(F.out.go hb3).bl⟩
 have F3:=F.out.go hb3;have bg:W1.heap.size=w.heap.size+3:=by rw[<-bo];simp
 have Q:∀q,q∈N->w.heap.size+3<=q/\q<J.heap.size:=fun q m=>⟨by rw[<-bg];exact hN q m,ao.nl q m⟩;have bE:w.heap.size+2<J.heap.size:=F3.mJ 2;have aZ:∀q,q∈ [w.heap.size+2]->q<J.heap.size:=fun q m=>by simp at m;omega
 have hY:=ac1 ao (fun q m t=>by have:=Q q m;simp at t;omega) aZ H.out.2.2.1.1.2.1.aT a7 (ae8 H.c);have a3:∀b T,(b,T)∈ [(w.heap.size,evV r s1 s2 s3 s4 s5 s6 s7 k),(w.heap.size+1,dI t1 t2 t3 t4)]->w.heap.size<=b/\b<w.heap.size+2:=fun b T t=>by simp at t;omega
 refine acN rfl (eK func122 oF rfl) hY (cF _ _) aZ (fun q m=>(Q q m).2) (fun _=>rfl) (ScI w J M N [(w,evV r s1 s2 s3 s4 s5 s6 s7 k),(w+1,dI t1 t2 t3 t4)] (w.heap.size+2) (aal r c) (aaG r rd c)) ?hI ?hIo ?hIn ⟨.slice none 0 0, [],rfl,rfl,bD.nil _ _ _,F3,bh _⟩ ?round ?done;case hI=>
  rintro aP o W W'-h hk;refine h.kpo hk (fun q m=>?_) (fun b T t m=>?_)
  ·rcases cB.1 m with rfl|m;·exact⟨.inr (.inr rfl),oE,oE,oE⟩
   have:=Q q m;exact⟨.inl m,oE,oE,oE⟩
  ·have:=a3 b T t;rcases cB.1 m with rfl|m;·omega
   have:=Q b m;omega
 case hIo=>rintro aP q W ⟨v,E,Y,e2,K,hF,a9⟩;exact⟨by have:=(K.lt e2.symm).1;omega,aaC K e2.symm⟩
 case hIn=>
  rintro aP o W W' h hk;refine h.kpo hk (fun q m=>?_) (fun b T t m=>?_);·have:=Q q m;exact⟨.inl m,oE,oE,oE⟩
  ·have:=a3 b T t;have:=Q b m;omega
 case done=>
  rintro o W hh bs;have kD:KpO [J] W (W.putObj J.heap.size (.deferred none)):=⟨⟨by rw[jt];exact bh _,fun q _ t=>fu (fun e=>t (by simp[e]))⟩,rfl,rfl,rfl⟩;obtain⟨v,E,Y,-,K,hF,a9⟩:=hh;rw[ef]at Y;subst Y;have ap:=K.acI kD.k (fun q m=>by simp at m;simp[m]) (fun g hg m=>by have:=(K.lt hg).1;simp at m;omega);have aD:=hF.kpo kD (fun q m=>by simp at m;omega) (fun b T t m=>by simp at t m;omega);have bG:(af r rd c).length<=5040:=by have P:= @aci ((aal r c).map (aaG r rd c)) [];rw[cC,gh,dm]at P;have h2:(aal r c).length=aah r c:=abb _ _ _;have al:aah r c<=5040:=al;exact cD P oE
  change bD fC _ _ _ _ v (af r rd c).length ((af r rd c).map jd)at ap;obtain⟨A6,c6,rfl,aa⟩:=aaZ ap oE (fun q m t=>by have P:=(ap.lt (bJ.1 t)).1;exact FK);have bp:=hF.aQ 2 0;have bF:=hF.zN 2 0;have bq:=aD.aQ 2 0;have q0:=aN bp;have HB:=Hd2 (aa.less (M':=M) (fun q m=>cL _ m)) aD.bl;clear hY K hF ap aD aa kD F3;gi_wp2;refine⟨oO,.inl ⟨_,_,rfl,jf bs,?_⟩⟩;exact⟨.slice A6 (af r rd c).length c6,by simp[results,results33,go_sem,bq],.inl ⟨al,_,_,_,rfl,HB.a⟩,HB.u⟩
 case round=>
  rintro x aP o W ⟨lc,aL⟩ ⟨a8,a5⟩ ⟨v,E,Y,rfl,K,hF,a9⟩;obtain⟨V1,bn,X,O⟩:=fP (w:=W) ((Fr.nil W).a W (dI HH t2 t3 t4) 42);gi_wp2;refine⟨a_ X _,?_⟩;rintro U ⟨lr,bt⟩ S;have bk:J.heap.size+1<W.heap.size:=(cS.1 aL).1;have aA:x∈aal r c:=by rw[Y];simp
  have aF:=abv H.c H.d H.e H.f aA;obtain⟨a4,ah⟩:=acK H.c aA;have aO:(aaf [] (E.map (aaG r rd c))).length<=5040:=by have P:= @aci (E.map (aaG r rd c)) [];rw[cC,gh,dm]at P;have h2:(aal r c).length=aah r c:=abb _ _ _;have al:aah r c<=5040:=al;rw[Y,cH]at h2;omega
  have az:∀y,y∈E.map (aaG r rd c)->yx y 300:=fun y D=>by obtain⟨s,hs,rfl⟩:=ev.1 D;exact abv H.c H.d H.e H.f (by rw[Y];exact df _ hs)
  have aK:ail (aaf [] (E.map (aaG r rd c))):=by
   have t:∀y,y∈aaf [] (E.map (aaG r rd c))->yx y 300:=fun y D=>by
    rcases(abG (fun y D=>by cases D) (fun y D=>(az y D).ok)).1 D with h|h;·exact az y h
    cases h
   exact⟨fun y D=>(t y D).ok,fun y D=>(t y D).sh oE,abI (fun y D=>by cases D) (fun y D=>(az y D).ok) trivial⟩
  have ay:=fun(fd:aas (aaG r rd c x) (aaf [] (E.map (aaG r rd c)))=true)=>(show aaf [] ((E++ [x]).map (aaG r rd c))=aaf [] (E.map (aaG r rd c)) by rw[acP,acV,if_pos fd]);have ax:=fun(fd:aas (aaG r rd c x) (aaf [] (E.map (aaG r rd c)))=false)=>(show aaf [] ((E++ [x]).map (aaG r rd c))=_ by rw[acP,acV,if_neg (by rw[fd];decide)]);have an:=acU (aaG r rd c x) (aaf [] (E.map (aaG r rd c)));obtain⟨l,hl⟩:=aC (aaf [] (E.map (aaG r rd c)));obtain⟨y,D⟩:=aC (aaG r rd c x);rw[hl]at K aO aK ay ax an;rw[D]at aF ay ax an;have aq:=(K.go X).acI S.k (fun q m=>by simp at m;simp[m]) (fun g hg m=>by simp at m;subst m;obtain⟨ob,P,h2⟩:=aaC (K.go X) hg;have h3:=(X.block (J.heap.size+1) bk).trans aL;rw[h3]at P;cases P;cases h2);have ag:=(hF.go X).kpo S (fun q m=>by simp at m;omega) (fun b T t m=>by simp at t m;omega);have bH:W.heap.size<=U.heap.size:=cD X.size S.k.size;have aG:∀q,q<J.heap.size->U.heap[q]?=W.heap[q]?:=fun q m=>(S.k.block q (cf oE X.size) oS).trans (X.block q oE);have kU:Keeps (N++ [w.heap.size+2]) J U:=⟨oE,fun q m t=>(aG q m).trans (a5.block q m t)⟩;have a6:=a8.turn (W':=U) (fun b hb=>aG b (Q b hb).2);have aU:=ao.keep kU;have aw:W.heap.size≠J.heap.size+1:=oE;have x0:=S.k.cell (by simp;exact aw) (O.aQ 0 0);have x1:=S.k.cell (by simp;exact aw) (O.aQ 0 1);have x2:=S.k.cell (by simp;exact aw) (O.aQ 0 2);have x3:=S.k.cell (by simp;exact aw) (O.aQ 0 3);obtain⟨Av,cv,rfl⟩:=aq.shape;have aM:=fun q (m:q∈bP (.slice Av l.length cv))=>aq.lt (bJ.1 m);have MX:∀q,q∈bP (.slice Av l.length cv)++(J.heap.size::(J.heap.size+1)::(N++ [w.heap.size+2]))->w.heap.size<=q/\q<U.heap.size:=fun q m=>by
   rcases cR.1 m with m|m;·have:=aM q m;omega
   simp only[cB,cR,dz,il]at m;rcases m with m|m|m|m;·omega
   ·omega
   ·have:=Q q m;omega
   omega
  have aX:b_ (bP (.slice Av l.length cv)++ScM J N (w.heap.size+2) M) U:=fun q m=>by
   rw[<-d_]at m;rcases cR.1 m with m|m;·exact(MX q m).2
   have:=hMw q m;omega
  have Nr:=H.b.afF ag.bl (Sl.afV (aU.hd.less (M':= []) pf) a6.rows) _ (fun q m=>(MX q m).1);rw[d_]at Nr;have am:dG U (bP (.slice Av l.length cv)++ScM J N (w.heap.size+2) M) r s1 s2 s3 s4 s5 s6 s7:=by have:=H.a.moreL _ (fun q m=>(MX q m).1);rw[d_]at this;exact this.go ag.bl
  have aB:=Hd (Nj am Nr a4 (adZ H.d aA) H.e H.f ah (tab_below H.z ag.bl) aX);rw[show rG (kW r (mkC c x)) (au rd)=y from D]at aB;have oU:=aW ag;have aY:∀q,q∈ScM J N (w.heap.size+2) M->q<J.heap.size+2:=fun q m=>by exact FK
  have C:=Hd7 aq ag aF aK aY aM Y;have aj:=fB ay ax aO;have be:=Hd (show aaO y l<=l.length from an);have bz:J.heap.size+2<=U.heap.size:=oE;have bI:W.heap.size<U.heap.size:=by have:=O.mJ 0;have:=S.k.size;omega
  clear aX am Nr a4 ah aF aK ay ax aO an az K hF aq ag kU a6 aU a8 a5 hY MX aM aY aG bt S bn X O aA hl D Y a7 ao F3 aL;rcases hfd:aas y l with _|_
  ·gi_wp2_with (first
     |(have g:=G4.out;clear g;refine Cr 70 bd.out ?_;rintro e w8 ⟨v',rfl,aE,aI,bb⟩;have F8:=(aR.b).kpo aI (fun q m=>by have:=C.f q m;omega) (fun b T t m=>by have:=C.f b m;simp at t;omega);have c8:=F8.aQ 2 0;have f8:=F8.zN 2 0;obtain⟨A9,c9,rfl⟩:=aE.shape;have ae:=h_ aE aI bb F8;clear aE aI bb F8)
     |(have g:=G3.out;clear g;refine Cr 69 ai.out ?_;rintro e w6 ⟨rfl,R⟩;have o7:=aW ((Yu.out).go R);have c7:=(G.b.go R).aQ 2 0;obtain⟨W7,XM,aH,F7⟩:=fP (w:=w6) ((Fr.nil w6).a w6 (usQ p q A B Z ca nb cb) 48);have ak:Below W5 W5 W7:=R.trans (aH.mono R.size);have O7:=G.a.go ak;have ba:W7.heap[w6.heap.size]?=some (.cells (usQ p q A B Z ca nb cb).toArray 48 (0,0)):=by rw[<-XM];exact gl w6 _
       have bB:U.heap.size<=w6.heap.size:=cD G.w.size R.size;have bC:w6.heap.size<=W7.heap.size:=aH.size;have bd:=Hd (adN (i:=aaO y l) O7 oE (fun q m=>by have:=C.e q m;omega) (by have:=aj.v;omega) be.out ba (fun t=>by have:=C.f _ t;omega) (fun t=>by have:=C.e _ t;omega) (G.c.go ak));have aR:=fB O7 (G.b.go ak) (G.w.trans (ak.mono G.w.size));have G4:=Hd trivial;clear R aH F7 ak O7 ba)
     |(have g:=G2.out;clear g;refine Cr 30 (aaq _ _) ?_;rintro e w5 ⟨rfl,rfl⟩;have G3:=Hd trivial)
     |(have g:=O.out;clear g;refine Cr 65 (aax _) ?_;rintro e w5 ⟨rfl,rfl⟩;have G2:=Hd trivial)
     |(refine Cr 12 aB.out ?_;rintro e w4 ⟨u,rfl,qu,hb4⟩;obtain⟨p,q,A,Z,ca,B,nb,cb,rfl,qc⟩:=QC.of qu;obtain⟨bw,bx⟩:=ae9 qc C.c;obtain⟨W5,CZ,ac,F5⟩:=fP (w:=w4) ((Fr.nil w4).a w4 (usQ p q A B Z ca nb cb) 48);have o5:=aW F5;have I:=hb4.trans (ac.mono hb4.size);have V:=C.a.go I;have ab:=C.b.go I;have o6:=ab.aQ 2 0;have ad:=qc.go ac;obtain⟨A',c',e',aa⟩:=aaZ (V.UC (fun q m=>m)) (by have:=aj.v;omega) (fun q m t=>by have P:=(V.lt (bJ.1 t)).1;have h2:=C.e q m;omega);cases e';have ai:=Hd (abS (fun q m=>by have h2:=C.e q m;have:=I.size;omega) aa (ad.acj (fun q m=>cL _ m)).qw C.d C.c.ok (C.c.sh oE));rw[hfd]at ai;have G:=h_ V ab ad I;have ah:max ((Z:Nat):Int) ((nb:Nat):Int)<=1024:=oE;have bu:decide (max ((Z:Nat):Int) ((nb:Nat):Int)<=1024)=true:=cw ah;have O:=Hd trivial;have Yu:=Hd F5;clear V ab qc ad qu aa ac F5 hb4 I)
     |fail)
   have aV:=aR.v;have kp:Keeps [w.heap.size+2] w8 (w8.setCell ⟨w+2,0,none⟩ (.slice A9 (l.length+1) c9)):=(cF _ w8).setCell (p:=⟨w+2,0,none⟩) (.inl oO) _;have h8:W7.heap.size<=w8.heap.size:=ae.b.k.size;have h9:=kp.size;have a0:=ae.a.acI kp (fun q m=>by simp at m;simp[m]) (fun g hg m=>by have:=(ae.a.lt hg).1;simp at m;omega);have ar:=a0.len;rw[cC]at ar;have bj:=Fr.qY (L:= [(w,evV r s1 s2 s3 s4 s5 s6 s7 k),(w+1,dI t1 t2 t3 t4)]) ae.w (fun b T t=>by simp at t;omega) (j:=0) (u0:=.slice Av l.length cv) rfl (.slice A9 (l.length+1) c9);have bA:=aV.size;exact⟨_,⟨.slice A9 (l.length+1) c9,E++ [x],by rw[C.z];simp,rfl,by rw[aj.b hfd,ar];exact a0,bj,cD (show J.heap.size<=w8.heap.size by omega) h9⟩,⟨cD (show U.heap.size<=w8.heap.size by omega) h9,fun q m t ho=>(kp.block q oE t).trans ((ae.b.k.block q oE (fun e=>ho (bJ.1 e))).trans (aV.block q m)),by
     rcases ae.c with e|⟨z,e,hz⟩;·exact .inl e
     exact .inr ⟨z,e,oE⟩⟩⟩
  ·gi_wp2_with (first
     |(have g:=G3.out;clear g;refine Cr 69 ai.out ?_;rintro e w6 ⟨rfl,R⟩)
     |(have g:=G2.out;clear g;refine Cr 30 (aaq _ _) ?_;rintro e w5 ⟨rfl,rfl⟩;have G3:=Hd trivial)
     |(have g:=O.out;clear g;refine Cr 65 (aax _) ?_;rintro e w5 ⟨rfl,rfl⟩;have G2:=Hd trivial)
     |(refine Cr 12 aB.out ?_;rintro e w4 ⟨u,rfl,qu,hb4⟩;obtain⟨p,q,A,Z,ca,B,nb,cb,rfl,qc⟩:=QC.of qu;obtain⟨bw,bx⟩:=ae9 qc C.c;obtain⟨W5,CZ,ac,F5⟩:=fP (w:=w4) ((Fr.nil w4).a w4 (usQ p q A B Z ca nb cb) 48);have o5:=aW F5;have I:=hb4.trans (ac.mono hb4.size);have V:=C.a.go I;have ab:=C.b.go I;have o6:=ab.aQ 2 0;have ad:=qc.go ac;obtain⟨A',c',e',aa⟩:=aaZ (V.UC (fun q m=>m)) (by have:=aj.v;omega) (fun q m t=>by have P:=(V.lt (bJ.1 t)).1;have h2:=C.e q m;omega);cases e';have ai:=Hd (abS (fun q m=>by have h2:=C.e q m;have:=I.size;omega) aa (ad.acj (fun q m=>cL _ m)).qw C.d C.c.ok (C.c.sh oE));rw[hfd]at ai;have G:=h_ V ab ad I;have ah:max ((Z:Nat):Int) ((nb:Nat):Int)<=1024:=oE;have bu:decide (max ((Z:Nat):Int) ((nb:Nat):Int)<=1024)=true:=cw ah;have O:=Hd trivial;clear V ab qc ad qu aa ac F5 hb4 I)
     |fail)
   have a1:=G.w.trans (R.mono G.w.size);exact⟨_,⟨_,E++ [x],by rw[C.z];simp,rfl,by rw[aj.a hfd];exact G.a.go R,G.b.go R,by have:=a1.size;omega⟩,av.of_below a1 _ _⟩
end
end
