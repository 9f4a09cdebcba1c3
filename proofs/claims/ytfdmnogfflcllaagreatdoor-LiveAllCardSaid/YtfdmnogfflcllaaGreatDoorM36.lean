/- Lemmas -/
import Derived.Test.YtfdmnogfflcllaaGreatDoorM33
import Derived.Test.YtfdmnogfflcllaaGreatDoorM35
set_option linter.all false
set_option maxRecDepth 100000
set_option maxHeartbeats 0
namespace Go.Proofs.YtfdmnogfflcllaaGreatDoor
open Go.Proofs.Tryz Go.RowKit Go.Shelf
theorem FV{p:Prop}(h:p:=by
 simp only[ScM,cD,cK,eo,iB]at m;rcases m with(m|m|m|m)|m;·omega
 ·omega
 ·have:=Q q m;omega
 ·omega
 have:=hMw q m;omega):p:=h
section
variable {M:List Nat}{base n vb i:Nat}{v:Value}{l:List Rt}{x:Rt}{p q:Bool}{A B:Option Addr}{n1 c1 m1 d1:Nat}{w:World}
theorem ad6(h:bD fC 48 w M base v n (l.map jd))(hb:base<=w.heap.size)(hM:b_ M w)(hn:n<=10000)(hi:i<=n)(hv:w.heap[vb]?=some (.cells (usQ p q A B n1 c1 m1 d1).toArray 48 (0,0)))(hg:vb∉bP v)(hvM:vb∉M)(qx:QC w (bP v++M) x p q A n1 c1 B m1 d1):
 Calls prog 70 #[v,.int .i64 i,.slice (some ⟨vb,0,none⟩) 1 1] w (ad4 M base n v (l.take i++x::l.drop i) w):=by
 have z:l.length=n:=by have:=h.len;rwa [ck]at this
 by_cases o:i<n
 ·obtain⟨g,b,rfl⟩:=qA h pj;have f:vb≠g:=fun e=>hg (bJ.2 (by rw[e];rfl));by_cases m:n+1<=b;·exact ade h hn o m hv f qx
  exact adC h hn o pj hb hM hv qx
 ·obtain rfl:i=n:=pj;have s:Rep.rd w (bP v++M) (jd x) (usQ p q A B n1 c1 m1 d1):=by
   have H:(jd x).1.1=p:=qx.num.neg;have O:(jd x).2.1=q:=qx.den.neg;rw[<-H,<-O];exact JB (x:=jd x) qx.num.sl qx.den.sl
  have:=ad5 h hb hn (x:=x) (vb:=vb) ⟨rfl,bj _,by unfold jG;omega,pj,.inr ⟨vb,0,rfl,fun k y a=>by
   match k,a with
   |0,a=>cases a;exact⟨usQ p q A B n1 c1 m1 d1,s,fun d=>(cK.1 d).elim hg hvM,fun j u t=>by rw[fX,dC];exact acv hv t⟩⟩⟩
  rwa [bR pj,cB pj]
end
theorem good_row{r:aS}{i:Int}{c:dS}{l:List Int}(h:f_ r i c)(hl:l∈c.marks):0<l.length/\l.length<=256:=by obtain⟨hs,j,x,rfl,hx,K⟩:=h;have a:=hs.2.1.rounds x (bh hx);unfold kS at K;simp only[cS,ef]at K;obtain⟨k,e⟩:=gN hl;obtain⟨y,g⟩:=dW r.aT k (by rw[<-K.1.1.1.1.1];exact(bu.1 e).1);have b:=cT.1 K.1.2 _ (bh (oG g e));unfold jc at b;simp only[cS]at b;have d:=cW b.1;have s:=a.1;omega
theorem abL{r:aS}{i:Int}{c:dS}(h:f_ r i c):c.marks.length=r.aT.length:=by obtain⟨hs,j,x,rfl,hx,K⟩:=h;unfold kS at K;simp only[cS,ef]at K;exact K.1.1.1.1.1
theorem acw{i:Nat}:∀{l:List Int}{k:Nat},(ao i k l).length<=l.length
 | [],_=>bj _
 |m::l,k=>by have:= @acw i l (k+1);unfold ao;split<;>simp<;>omega
theorem acy:∀{s:List (List Int)}{i:Nat},(∀l,l∈s->l.length<=20)->(aa i s).length<=20*s.length
 | [],_,_=>cf _
 |l::s,i,h=>by have h1:= @acy s (i+1) (fun x hx=>h x (bE _ hx));have h2:=h l cw;have h3:= @acw i l 0;unfold aa;simp;omega
theorem afm{r:aS}{i:Int}{c:dS}(h:f_ r i c):ShM (aa 0 c.marks) r.aT.length c.marks:=fun q hq=>by obtain⟨a,b⟩:=q;obtain⟨h1,l,h2,h3⟩:=aby.1 hq;rw[Nat.sub_zero]at h2;refine⟨?_,l,h2,(bu.1 h3).1⟩;rw[<-abL h];exact(bu.1 h2).1
theorem afn{w:World}{M:List Nat}{y:Rt}{p q:Bool}{A B:Option Addr}{n c m d:Nat}(h:QC w M y p q A n c B m d)(hs:yx y 300):n<=300/\m<=300:=by have b:=h.num.sl.len;have a:=h.den.sl.len;unfold ints at b a;rw[ck]at b a;exact⟨by rw[<-b];exact(lY _ _).1 hs.num,by rw[<-a];exact(lY _ _).1 hs.den⟩
theorem acW{f:List (List Int)->Rt}{pre:List (List (List Int))}{x:List (List Int)}:aai [] ((pre++ [x]).map f)=abx (f x) (aai [] (pre.map f)):=by unfold aai;rw[ed,List.foldl_append];rfl
theorem adD{x:Rt}:∀{l:List Rt},(abx x l).length<=l.length+1
 | []=>bj _
 |y::l=>by
  have:= @adD x l;unfold abx;split;·simp;omega
  split<;>simp
theorem acz:∀{xs:List Rt}{l:List Rt},(aai l xs).length<=l.length+xs.length
 | [],_=>bj _
 |x::xs,l=>by have h1:= @acz xs (abx x l);have h2:= @adD x l;unfold aai at h1 |-;rw[nq,eh];omega
section
attribute [local go_sem] cX
abbrev ScM(w3:World)(N:List Nat)(bl:Nat)(M:List Nat):List Nat:=(w3.heap.size::(w3.heap.size+1)::(N++ [bl]))++M
def ScI(w w3:World)(M N:List Nat)(L:List (Nat×List Value))(bl:Nat)(xs:List (List (List Int)))(f:List (List Int)->Rt)(rest:List (List (List Int)))(o:Option Nat)(W:World):Prop:=∃v pre,xs=pre++rest/\o=v.ownBlock/\bD fC 48 W (ScM w3 N bl M) (w3.heap.size+2) v (aai [] (pre.map f)).length ((aai [] (pre.map f)).map jd)/\Fr w W (L++ [(bl, [v])])/\w3.heap.size<=W.heap.size
theorem ScI.kpo{w w3 W W':World}{M N K:List Nat}{L:List (Nat×List Value)}{bl:Nat}{xs:List (List (List Int))}{f:List (List Int)->Rt}{rest:List (List (List Int))}{o:Option Nat}(h:ScI w w3 M N L bl xs f rest o W)(k:KpO K W W')(hK:∀q,q∈K->(q∈N\/q=w3.heap.size\/q=w3.heap.size+1)/\w.heap.size<=q/\q<w3.heap.size+2/\q≠bl)(hL:∀c vs,(c,vs)∈L->c∉K):ScI w w3 M N L bl xs f rest o W':=by
 obtain⟨v,m,H,O,d,j,hs⟩:=h;refine⟨v,m,H,O,d.acO k.k (fun q b=>?_) (fun g P b=>?_),j.kpo k (fun q b=>(hK q b).2.1) (fun c vs a e=>?_),cF hs k.k.size⟩
 ·rcases(hK q b).1 with h|h|h;·exact di _ (bE _ (bE _ (di _ h)))
  ·rw[h];exact di _ cw
  rw[h];exact di _ (bE _ cw)
 ·have:=(d.lt P).1;have:=(hK g b).2.2.1;omega
 rcases cK.1 a with a|a;·exact hL c vs a e
 simp only[bz,fc]at a;exact(hK c e).2.2.2 a.1
theorem QC.abM{w:World}{M M':List Nat}{r:Rt}{p q:Bool}{A B:Option Addr}{n c m d:Nat}(h:QC w M r p q A n c B m d)(hs:∀k,k∈M'->k∈M):QC w M' r p q A n c B m d:=⟨⟨h.num.neg,h.num.sl.less hs⟩,⟨h.den.neg,h.den.sl.less hs⟩⟩
theorem jE.afY{w w0:World}{c:dS}{t1 t2 t3 t4 H:dK}{x:List (List Int)}{M:List Nat}(hc:jE w M c t1 t2 t3 t4)(hb:Below w w w0)(hm:Sl (List Int) w0 [] H.A H.n H.c x)(L:List Nat)(hL:∀k,k∈L->w.heap.size<=k):jE w0 (L++M) (mkC c x) H t2 t3 t4:=by have h:=hc.moreL L hL;have g:=h.go hb;exact⟨hm,g.bonus,g.malus,g.prev⟩
theorem dG.abM{w:World}{M M':List Nat}{r:aS}{s1 s2 s3 s4 s5 s6 s7:dK}(h:dG w M r s1 s2 s3 s4 s5 s6 s7)(k:∀q,q∈M'->q∈M):dG w M' r s1 s2 s3 s4 s5 s6 s7:=⟨h.aT.less k,h.bonus.less k,h.malus.less k,h.ties.less k,h.rounds.less k,h.prizes.less k,h.points.less k,h.best⟩
theorem jE.abM{w:World}{M M':List Nat}{c:dS}{t1 t2 t3 t4:dK}(h:jE w M c t1 t2 t3 t4)(k:∀q,q∈M'->q∈M):jE w M' c t1 t2 t3 t4:=⟨h.marks,h.bonus.less k,h.malus.less k,h.prev.less k⟩
section
variable {M:List Nat}{r:aS}{s1 s2 s3 s4 s5 s6 s7:dK}{c:dS}{t1 t2 t3 t4:dK}{w:World}{k:Nat}{rd:aJ}
theorem ab4(hr:dG w M r s1 s2 s3 s4 s5 s6 s7)(hc:jE w M c t1 t2 t3 t4)(hg:f_ r k c)(hw:yI r c)(hx:r.rounds[k]?=some rd)(hp:rd.2.2.2.2.1=false)(ht:Tab w)(hMw:b_ M w):
 Calls prog 33 #[.agg (evV r s1 s2 s3 s4 s5 s6 s7 k).toArray,.agg (dI t1 t2 t3 t4).toArray] w fun e w'=>((aae r c<=5040/\∃A n cp,e=.returned (.slice A n cp)/\SlR w' M A n cp (an r rd c))\/(5040<aae r c/\e=Wx 2))/\Below w w w':=by
 refine wid ?_;obtain⟨W1,bo,F1⟩:=dR ((((Fr.nil w).a w (evV r s1 s2 s3 s4 s5 s6 s7 k) 79).a (w+1) (dI t1 t2 t3 t4) 42).a (w+2) [.slice none 0 0] 37);have o1:=aW F1;have F:=Hd F1;have ar:=abL hg;have bh:=hw.lens.1;have al:dG w [w.heap.size+2] r s1 s2 s3 s4 s5 s6 s7:=(hr.moreL [w.heap.size+2] (fun q m=>by simp at m;omega)).abM (fun q m=>di _ m);have a3:jE w [w.heap.size+2] c t1 t2 t3 t4:=(hc.moreL [w.heap.size+2] (fun q m=>by simp at m;omega)).abM (fun q m=>di _ m);have bc:=Hd (ab8 (i:=k) (al.go F1.bl) (a3.go F1.bl) (fun q m=>by simp at m;subst m;exact F1.mJ 2) hg.1.2.1.aT pj pj (fun l hl=>⟨(good_row hg hl).1,by have:=(good_row hg hl).2;omega⟩) (cF (acy hw.mark) pj));have H:=Hd7 hr hc hg hw hx hp ht;clear F1 hr hc hg hw hx hp ht al a3 ar bh;refine sH func33 rfl ntmps33 ?_
 gi_wp2_with (first
  |(refine Cl 68 bc.out ?_;rintro e J ⟨⟨ak,N,bm,bf,bv,br,HH,Am,nm,cm,hs,rfl,ao,a8,hN⟩|⟨hgt,rfl⟩,hb3⟩)
  |fail)
 rotate_left;·exact⟨.inr ⟨hgt,rfl⟩,(F.out.go hb3).bl⟩
 have F3:=F.out.go hb3;have bg:W1.heap.size=w.heap.size+3:=by rw[<-bo];simp
 have Q:∀q,q∈N->w.heap.size+3<=q/\q<J.heap.size:=fun q m=>⟨by rw[<-bg];exact hN q m,ao.nl q m⟩;have bF:w.heap.size+2<J.heap.size:=F3.mJ 2;have a0:∀q,q∈ [w.heap.size+2]->q<J.heap.size:=fun q m=>by simp at m;omega
 have hY:=ac_ ao (fun q m t=>by have:=Q q m;simp at t;omega) a0 H.out.2.2.1.1.2.1.aT a8 (afm H.c);have a4:∀b vs,(b,vs)∈ [(w.heap.size,evV r s1 s2 s3 s4 s5 s6 s7 k),(w.heap.size+1,dI t1 t2 t3 t4)]->w.heap.size<=b/\b<w.heap.size+2:=fun b vs t=>by simp at t;omega
 refine acS rfl (eR func122 pk rfl) hY (cG _ _) a0 (fun q m=>(Q q m).2) (fun _=>rfl) (ScI w J M N [(w,evV r s1 s2 s3 s4 s5 s6 s7 k),(w+1,dI t1 t2 t3 t4)] (w.heap.size+2) (av r c) (aao r rd c)) ?hI ?hIo ?hIn ⟨.slice none 0 0, [],rfl,rfl,bD.nil _ _ _,F3,bj _⟩ ?round ?done;case hI=>
  rintro aR o W W'-h hk;refine h.kpo hk (fun q m=>?_) (fun b vs t m=>?_)
  ·rcases cD.1 m with rfl|m;·exact⟨.inr (.inr rfl),pj,pj,pj⟩
   have:=Q q m;exact⟨.inl m,pj,pj,pj⟩
  ·have:=a4 b vs t;rcases cD.1 m with rfl|m;·omega
   have:=Q b m;omega
 case hIo=>rintro aR q W ⟨v,E,X,e2,K,hF,a_⟩;exact⟨by have:=(K.lt e2.symm).1;omega,aaD K e2.symm⟩
 case hIn=>
  rintro aR o W W' h hk;refine h.kpo hk (fun q m=>?_) (fun b vs t m=>?_);·have:=Q q m;exact⟨.inl m,pj,pj,pj⟩
  ·have:=a4 b vs t;have:=Q b m;omega
 case done=>
  rintro o W hh bt;have kD:KpO [J] W (W.putObj J.heap.size (.deferred none)):=⟨⟨by rw[kh];exact bj _,fun q _ t=>fz (fun e=>t (by simp[e]))⟩,rfl,rfl,rfl⟩;obtain⟨v,E,X,-,K,hF,a_⟩:=hh;rw[dx]at X;subst X;have ap:=K.acO kD.k (fun q m=>by simp at m;simp[m]) (fun g hg m=>by have:=(K.lt hg).1;simp at m;omega);have aE:=hF.kpo kD (fun q m=>by simp at m;omega) (fun b vs t m=>by simp at t m;omega);have bH:(an r rd c).length<=5040:=by have P:= @acz ((av r c).map (aao r rd c)) [];rw[ck,gD,dC]at P;have h2:(av r c).length=aae r c:=aad _ _ _;have ak:aae r c<=5040:=ak;exact cF P pj
  change bD fC _ _ _ _ v (an r rd c).length ((an r rd c).map jd)at ap;obtain⟨A6,c6,rfl,aa⟩:=aa5 ap pj (fun q m t=>by have P:=(ap.lt (bJ.1 t)).1;exact FV);have bp:=hF.aQ 2 0;have bG:=hF.zN 2 0;have bs:=aE.aQ 2 0;have q0:=aN bp;have HB:=Hd2 (aa.less (M':=M) (fun q m=>cP _ m)) aE.bl;clear hY K hF ap aE aa kD F3;gi_wp2;refine⟨po,.inl ⟨_,_,rfl,jt bt,?_⟩⟩;exact⟨.slice A6 (an r rd c).length c6,by simp[results,results33,go_sem,bs],.inl ⟨ak,_,_,_,rfl,HB.a⟩,HB.u⟩
 case round=>
  rintro x aR o W ⟨lc,aM⟩ ⟨a9,a6⟩ ⟨v,E,X,rfl,K,hF,a_⟩;obtain⟨V1,bn,V,O⟩:=fP (w:=W) ((Fr.nil W).a W (dI HH t2 t3 t4) 42);gi_wp2;refine⟨bq V _,?_⟩;rintro U ⟨lr,bu⟩ S;have bk:J.heap.size+1<W.heap.size:=(cR.1 aM).1;have aB:x∈av r c:=by rw[X];simp
  have aG:=abH H.c H.d H.e H.f aB;obtain⟨a5,ag⟩:=abV H.c aB;have aP:(aai [] (E.map (aao r rd c))).length<=5040:=by have P:= @acz (E.map (aao r rd c)) [];rw[ck,gD,dC]at P;have h2:(av r c).length=aae r c:=aad _ _ _;have ak:aae r c<=5040:=ak;rw[X,cJ]at h2;omega
  have aA:∀y,y∈E.map (aao r rd c)->yx y 300:=fun y D=>by obtain⟨s,hs,rfl⟩:=eE.1 D;exact abH H.c H.d H.e H.f (by rw[X];exact di _ hs)
  have aL:aiH (aai [] (E.map (aao r rd c))):=by
   have t:∀y,y∈aai [] (E.map (aao r rd c))->yx y 300:=fun y D=>by
    rcases(abU (fun y D=>by cases D) (fun y D=>(aA y D).ok)).1 D with h|h;·exact aA y h
    cases h
   exact⟨fun y D=>(t y D).ok,fun y D=>(t y D).sh pj,abW (fun y D=>by cases D) (fun y D=>(aA y D).ok) trivial⟩
  have ay:=fun(fd:aav (aao r rd c x) (aai [] (E.map (aao r rd c)))=true)=>(show aai [] ((E++ [x]).map (aao r rd c))=aai [] (E.map (aao r rd c)) by rw[acW,ac5,if_pos fd]);have ax:=fun(fd:aav (aao r rd c x) (aai [] (E.map (aao r rd c)))=false)=>(show aai [] ((E++ [x]).map (aao r rd c))=_ by rw[acW,ac5,if_neg (by rw[fd];decide)]);have am:=ac4 (aao r rd c x) (aai [] (E.map (aao r rd c)));obtain⟨l,hl⟩:=aC (aai [] (E.map (aao r rd c)));obtain⟨y,D⟩:=aC (aao r rd c x);rw[hl]at K aP aL ay ax am;rw[D]at aG ay ax am;have aq:=(K.go V).acO S.k (fun q m=>by simp at m;simp[m]) (fun g hg m=>by simp at m;subst m;obtain⟨ob,P,h2⟩:=aaD (K.go V) hg;have h3:=(V.block (J.heap.size+1) bk).trans aM;rw[h3]at P;cases P;cases h2);have af:=(hF.go V).kpo S (fun q m=>by simp at m;omega) (fun b vs t m=>by simp at t m;omega);have bI:W.heap.size<=U.heap.size:=cF V.size S.k.size;have aH:∀q,q<J.heap.size->U.heap[q]?=W.heap[q]?:=fun q m=>(S.k.block q (bX pj V.size) px).trans (V.block q pj);have kU:Keeps (N++ [w.heap.size+2]) J U:=⟨pj,fun q m t=>(aH q m).trans (a6.block q m t)⟩;have a7:=a9.turn (W':=U) (fun b hb=>aH b (Q b hb).2);have aV:=ao.keep kU;have aw:W.heap.size≠J.heap.size+1:=pj;have x0:=S.k.cell (by simp;exact aw) (O.aQ 0 0);have x1:=S.k.cell (by simp;exact aw) (O.aQ 0 1);have x2:=S.k.cell (by simp;exact aw) (O.aQ 0 2);have x3:=S.k.cell (by simp;exact aw) (O.aQ 0 3);obtain⟨Av,cv,rfl⟩:=aq.shape;have aO:=fun q (m:q∈bP (.slice Av l.length cv))=>aq.lt (bJ.1 m);have MX:∀q,q∈bP (.slice Av l.length cv)++(J.heap.size::(J.heap.size+1)::(N++ [w.heap.size+2]))->w.heap.size<=q/\q<U.heap.size:=fun q m=>by
   rcases cK.1 m with m|m;·have:=aO q m;omega
   simp only[cD,cK,eo,iB]at m;rcases m with m|m|m|m;·omega
   ·omega
   ·have:=Q q m;omega
   omega
  have aY:b_ (bP (.slice Av l.length cv)++ScM J N (w.heap.size+2) M) U:=fun q m=>by
   rw[<-dz]at m;rcases cK.1 m with m|m;·exact(MX q m).2
   have:=hMw q m;omega
  have Nr:=H.b.afY af.bl (Sl.agk (aV.hd.less (M':= []) pH) a7.rows) _ (fun q m=>(MX q m).1);rw[dz]at Nr;have al:dG U (bP (.slice Av l.length cv)++ScM J N (w.heap.size+2) M) r s1 s2 s3 s4 s5 s6 s7:=by have:=H.a.moreL _ (fun q m=>(MX q m).1);rw[dz]at this;exact this.go af.bl
  have aD:=Hd (Nj al Nr a5 (ac3 H.d aB) H.e H.f ag (tab_below H.z af.bl) aY);rw[show rG (kW r (mkC c x)) (au rd)=y from D]at aD;have oU:=aW af;have aZ:∀q,q∈ScM J N (w.heap.size+2) M->q<J.heap.size+2:=fun q m=>by exact FV
  have C:=Hd7 aq af aG aL aZ aO X;have ai:=fB ay ax aP;have be:=Hd (show aaR y l<=l.length from am);have bA:J.heap.size+2<=U.heap.size:=pj;have bK:W.heap.size<U.heap.size:=by have:=O.mJ 0;have:=S.k.size;omega
  clear aY al Nr a5 ag aG aL ay ax aP am aA K hF aq af kU a7 aV a9 a6 hY MX aO aZ aH bu S bn V O aB hl D X a8 ao F3 aM;rcases hfd:aav y l with _|_
  ·gi_wp2_with (first
     |(have g:=G4.out;clear g;refine Cr 70 bd.out ?_;rintro e w8 ⟨v',rfl,aF,aK,bb⟩;have F8:=(aU.b).kpo aK (fun q m=>by have:=C.f q m;omega) (fun b vs t m=>by have:=C.f b m;simp at t;omega);have c8:=F8.aQ 2 0;have f8:=F8.zN 2 0;obtain⟨A9,c9,rfl⟩:=aF.shape;have ae:=h_ aF aK bb F8;clear aF aK bb F8)
     |(have g:=G3.out;clear g;refine Cr 69 ah.out ?_;rintro e w6 ⟨rfl,R⟩;have o7:=aW ((Yu.out).go R);have c7:=(G.b.go R).aQ 2 0;obtain⟨W7,XM,aI,F7⟩:=fP (w:=w6) ((Fr.nil w6).a w6 (usQ p q A B Y ca Z cb) 48);have aj:Below W5 W5 W7:=R.trans (aI.mono R.size);have O7:=G.a.go aj;have ba:W7.heap[w6.heap.size]?=some (.cells (usQ p q A B Y ca Z cb).toArray 48 (0,0)):=by rw[<-XM];exact gH w6 _
       have bC:U.heap.size<=w6.heap.size:=cF G.w.size R.size;have bE:w6.heap.size<=W7.heap.size:=aI.size;have bd:=Hd (ad6 (i:=aaR y l) O7 pj (fun q m=>by have:=C.e q m;omega) (by have:=ai.v;omega) be.out ba (fun t=>by have:=C.f _ t;omega) (fun t=>by have:=C.e _ t;omega) (G.c.go aj));have aU:=fB O7 (G.b.go aj) (G.w.trans (aj.mono G.w.size));have G4:=Hd trivial;clear R aI F7 aj O7 ba)
     |(have g:=G2.out;clear g;refine Cr 30 (aas _ _) ?_;rintro e w5 ⟨rfl,rfl⟩;have G3:=Hd trivial)
     |(have g:=O.out;clear g;refine Cr 65 (aay _) ?_;rintro e w5 ⟨rfl,rfl⟩;have G2:=Hd trivial)
     |(refine Cr 12 aD.out ?_;rintro e w4 ⟨u,rfl,qu,hb4⟩;obtain⟨p,q,A,Y,ca,B,Z,cb,rfl,qc⟩:=QC.of qu;obtain⟨bx,bz⟩:=afn qc C.c;obtain⟨W5,CZ,ac,F5⟩:=fP (w:=w4) ((Fr.nil w4).a w4 (usQ p q A B Y ca Z cb) 48);have o5:=aW F5;have I:=hb4.trans (ac.mono hb4.size);have T:=C.a.go I;have ab:=C.b.go I;have o6:=ab.aQ 2 0;have ad:=qc.go ac;obtain⟨A',c',e',aa⟩:=aa5 (T.UC (fun q m=>m)) (by have:=ai.v;omega) (fun q m t=>by have P:=(T.lt (bJ.1 t)).1;have h2:=C.e q m;omega);cases e';have ah:=Hd (ab3 (fun q m=>by have h2:=C.e q m;have:=I.size;omega) aa (ad.abM (fun q m=>cP _ m)).qw C.d C.c.ok (C.c.sh pj));rw[hfd]at ah;have G:=h_ T ab ad I;have ag:max ((Y:Nat):Int) ((Z:Nat):Int)<=1024:=pj;have bw:decide (max ((Y:Nat):Int) ((Z:Nat):Int)<=1024)=true:=cx ag;have O:=Hd trivial;have Yu:=Hd F5;clear T ab qc ad qu aa ac F5 hb4 I)
     |fail)
   have aX:=aU.v;have kp:Keeps [w.heap.size+2] w8 (w8.setCell ⟨w.heap.size+2,0,none⟩ (.slice A9 (l.length+1) c9)):=(cG _ w8).setCell (p:=⟨w.heap.size+2,0,none⟩) (.inl po) _;have h8:W7.heap.size<=w8.heap.size:=ae.b.k.size;have h9:=kp.size;have a1:=ae.a.acO kp (fun q m=>by simp at m;simp[m]) (fun g hg m=>by have:=(ae.a.lt hg).1;simp at m;omega);have ar:=a1.len;rw[ck]at ar;have bi:=Fr.qY (L:= [(w.heap.size,evV r s1 s2 s3 s4 s5 s6 s7 k),(w.heap.size+1,dI t1 t2 t3 t4)]) ae.w (fun b vs t=>by simp at t;omega) (j:=0) (u0:=.slice Av l.length cv) rfl (.slice A9 (l.length+1) c9);have bB:=aX.size;exact⟨_,⟨.slice A9 (l.length+1) c9,E++ [x],by rw[C.z];simp,rfl,by rw[ai.b hfd,ar];exact a1,bi,cF (show J.heap.size<=w8.heap.size by omega) h9⟩,⟨cF (show U.heap.size<=w8.heap.size by omega) h9,fun q m t ho=>(kp.block q pj t).trans ((ae.b.k.block q pj (fun e=>ho (bJ.1 e))).trans (aX.block q m)),by
     rcases ae.c with e|⟨z,e,hz⟩;·exact .inl e
     exact .inr ⟨z,e,pj⟩⟩⟩
  ·gi_wp2_with (first
     |(have g:=G3.out;clear g;refine Cr 69 ah.out ?_;rintro e w6 ⟨rfl,R⟩)
     |(have g:=G2.out;clear g;refine Cr 30 (aas _ _) ?_;rintro e w5 ⟨rfl,rfl⟩;have G3:=Hd trivial)
     |(have g:=O.out;clear g;refine Cr 65 (aay _) ?_;rintro e w5 ⟨rfl,rfl⟩;have G2:=Hd trivial)
     |(refine Cr 12 aD.out ?_;rintro e w4 ⟨u,rfl,qu,hb4⟩;obtain⟨p,q,A,Y,ca,B,Z,cb,rfl,qc⟩:=QC.of qu;obtain⟨bx,bz⟩:=afn qc C.c;obtain⟨W5,CZ,ac,F5⟩:=fP (w:=w4) ((Fr.nil w4).a w4 (usQ p q A B Y ca Z cb) 48);have o5:=aW F5;have I:=hb4.trans (ac.mono hb4.size);have T:=C.a.go I;have ab:=C.b.go I;have o6:=ab.aQ 2 0;have ad:=qc.go ac;obtain⟨A',c',e',aa⟩:=aa5 (T.UC (fun q m=>m)) (by have:=ai.v;omega) (fun q m t=>by have P:=(T.lt (bJ.1 t)).1;have h2:=C.e q m;omega);cases e';have ah:=Hd (ab3 (fun q m=>by have h2:=C.e q m;have:=I.size;omega) aa (ad.abM (fun q m=>cP _ m)).qw C.d C.c.ok (C.c.sh pj));rw[hfd]at ah;have G:=h_ T ab ad I;have ag:max ((Y:Nat):Int) ((Z:Nat):Int)<=1024:=pj;have bw:decide (max ((Y:Nat):Int) ((Z:Nat):Int)<=1024)=true:=cx ag;have O:=Hd trivial;clear T ab qc ad qu aa ac F5 hb4 I)
     |fail)
   have a2:=G.w.trans (R.mono G.w.size);exact⟨_,⟨_,E++ [x],by rw[C.z];simp,rfl,by rw[ai.a hfd];exact G.a.go R,G.b.go R,by have:=a2.size;omega⟩,az.of_below a2 _ _⟩
end
theorem afr{nc:Nat}{l:List Int}(h:abd nc l=true){j:Nat}{y:Int}(hy:l[j]?=some y):y=0\/y=if j=nc+1 then 2 else 1:=by unfold abd at h;rw[cT]at h;have b:=h j (ga.2 (bu.1 hy).1);rw[cC,hy,eK,ie,eW,eW]at b;exact b
section
variable {M:List Nat}{r:aS}{s1 s2 s3 s4 s5 s6 s7:dK}{w:World}{k:Nat}{x:aJ}
theorem aeK(hr:dG w M r s1 s2 s3 s4 s5 s6 s7)(hx:r.rounds[k]?=some x)(hp:x.2.2.2.2.1=false)(hf:x.2.2.2.2.2.1=true):
 Calls prog 32 #[.agg (evV r s1 s2 s3 s4 s5 s6 s7 k).toArray] w fun e w'=>e=Wx 450/\Below w w w':=by
 refine wid ?_;obtain⟨o,n1,c1⟩:=s1;obtain⟨A5,n5,c5⟩:=s5;have t:r.aT.length=n1:=hr.aT.len;have f:Sl aJ w M A5 n5 c5 r.rounds:=hr.rounds;have G:=f.small;have E:k<n5:=by rw[<-f.len];exact(bu.1 hx).1
 obtain⟨g,D,b⟩:=dR ((Fr.nil w).a w (evV r ⟨o,n1,c1⟩ s2 s3 s4 ⟨A5,n5,c5⟩ s6 s7 k) 79);obtain⟨C,I,B,m,d,rfl,⟨K,L,N,O,u,z⟩,⟨x6,x7,x8,x9,x10⟩,⟨x11,x12⟩,-,-,hs⟩:=(f.go b.bl).iw hx;obtain⟨W1,j,s,F1⟩:=fP (w:=g) (b.a g [x.1,x.2.1,x.2.2.1,x.2.2.2.1,x.2.2.2.2.1,x.2.2.2.2.2.1,(au x).kind,(au x).name,(au x).n,(au x).d,.slice B m d,x.2.2.2.2.2.2.2.1,x.2.2.2.2.2.2.2.2] 68);have H:=aW b;have y:=aW F1;have F:=Hd F1;rw[hp]at y u j F;rw[hf]at y z j F;clear b F1 hr f hs hx hp hf s t;refine ent func32 ntmps32 ?_
 gi_wp2_with (first
  |(refine Cl 30 (aaS _ _) ?_;rintro e J ⟨rfl,rfl⟩)
  |(refine⟨bO,?_⟩))
 exact⟨rfl,rfl,F.out.bl⟩
theorem acB(hr:dG w M r s1 s2 s3 s4 s5 s6 s7)(hS:Sound r)(hx:r.rounds[k]?=some x)(hp:x.2.2.2.2.1=false)(hf:x.2.2.2.2.2.1=false)(hlv:abd r.aT.length (aaJ r.aT.length k (au x))=true)(ht:Tab w)(hM:b_ M w)(hc:r.aT.length<=1000)(hk:k<=1000):
 CB 32 #[.agg (evV r s1 s2 s3 s4 s5 s6 s7 k).toArray] (.tuple #[]) w:=by
 refine wid ?_;obtain⟨J,n1,c1⟩:=s1;obtain⟨A5,n5,c5⟩:=s5;have G:r.aT.length=n1:=hr.aT.len;have s:Sl aJ w M A5 n5 c5 r.rounds:=hr.rounds;have ab:=s.small;have aa:k<n5:=by rw[<-s.len];exact(bu.1 hx).1
 obtain⟨D,Z,f⟩:=dR ((Fr.nil w).a w (evV r ⟨J,n1,c1⟩ s2 s3 s4 ⟨A5,n5,c5⟩ s6 s7 k) 79);obtain⟨W,o5,B,m,d,rfl,⟨x0,x1,x2,x3,T,V⟩,⟨x6,x7,x8,x9,x10⟩,⟨x11,x12⟩,-,-,hs⟩:=(s.go f.bl).iw hx;have HX:=Hd2 hx hp;obtain⟨W1,E,P,F1⟩:=fP (w:=D) (f.a D [x.1,x.2.1,x.2.2.1,x.2.2.2.1,x.2.2.2.2.1,x.2.2.2.2.2.1,(au x).kind,(au x).name,(au x).n,(au x).d,.slice B m d,x.2.2.2.2.2.2.2.1,x.2.2.2.2.2.2.2.2] 68);have o0:=aW f;have z:=aW F1;have F:=Hd F1;have C:=Hd (aeJ (hr.go F1.bl) hS hx hp (tab_below ht F1.bl) (hM.le F1.bl.size) hc hk);rw[hp]at z T E F;rw[hf]at z V E F;rw[G]at hlv C hc;have L:=Hd hlv;clear f F1 hr s hs hx hp hf P G hS ht hM hlv;refine ent func32 ntmps32 ?_
 gi_wp2_with (first
  |(have g:=K.out;clear g;refine Cl 65 (aay _) ?_;rintro e I ⟨rfl,rfl⟩)
  |(have g:=N.out;clear g;refine Cl 67 C.out ?_;rintro e S ⟨A,n,c,rfl,Y,hb4⟩;replace F:=Hd (F.out.go hb4);have z:=aW F.out;have hn:=Y.small;have O:=Hd2 Y Y.len;have K:=Hd trivial;clear hb4 Y)
  |(refine Cl 30 (aas _ _) ?_;rintro e w3 ⟨rfl,rfl⟩;have N:=Hd trivial)
  |fail)
 gi_loopw[36] (fun i wr=>∃j:Nat,j<=n/\i=j/\S=wr) (fun i _=>n-(intOf i).toNat);case atStart=>exact⟨0,cf _,rfl,rfl⟩
 case round=>
  obtain⟨j,hj,rfl,rfl⟩:=hrel;by_cases R:j<n
  ·obtain⟨b,o,y,rfl,X,-,-,H⟩:=O.a.pR R;have t:=afr L.out H;clear H;by_cases u:j=n1+1
   ·have Q:(((j:Nat):Int)==((n1:Nat):Int)+1)=true:=px;rw[if_pos u]at t;subst u;rcases t with rfl|rfl
    all_goals
     gi_wp2_with (first
      |(refine Cl 30 (aas _ _) ?_;rintro e I ⟨rfl,rfl⟩)
      |(refine⟨bO,?_⟩))
     exact⟨⟨n1+1+1,pj,by go_num,pC⟩,by simp[intOf];omega⟩
   have Q:(((j:Nat):Int)==((n1:Nat):Int)+1)=false:=px;rw[if_neg u]at t;rcases t with rfl|rfl
   all_goals
    gi_wp2_with (first
     |(refine Cl 30 (aas _ _) ?_;rintro e I ⟨rfl,rfl⟩)
     |(refine⟨bO,?_⟩))
    exact⟨⟨j+1,pj,by go_num,pC⟩,by simp[intOf];omega⟩
  ·obtain rfl:j=n:=pj;gi_wp2;go_end0;exact⟨rfl,F.out.bl⟩
end
section
variable {r:aS}{s1 s2 s3 s4 s5 s6 s7:dK}{c:dS}{t1 t2 t3 t4:dK}{w:World}{k:Nat}{x:aJ}
theorem ad7{i:Int}(hr:dG w [] r s1 s2 s3 s4 s5 s6 s7)(hs:Sound r)(ht:Tab w)(hi:i<0\/(r.rounds.length:Int)<=i):
 CB 10 #[.agg (aV r s1 s2 s3 s4 s5 s6 s7).toArray,i,.agg (dI t1 t2 t3 t4).toArray] (.tuple #[.slice none 0 0,.int .i64 1]) w:=by
 refine wid ?_;obtain⟨W1,j,F1⟩:=dR ((((Fr.nil w).a w (aV r s1 s2 s3 s4 s5 s6 s7) 28).a (w+1) (dI t1 t2 t3 t4) 42).a (w+2) [.int .i64 0] 32);have y:=aW F1;have F:=Hd F1;have HB:=Hd (aeB (hr.go F1.bl) hs (tab_below ht F1.bl) pH hi);clear F1 hr hs ht hi;refine qj func10 rfl ntmps10 ?_
 gi_wp2_with (first
  |(refine Cl 29 HB.out ?_;rintro e s ⟨rfl,d⟩;replace F:=Hd (F.out.go d);clear d)
  |fail)
 have g:=F.out.bl;have b:=F.out.aQ 2 0;have f3:=F.out.zN 2 0;try clear y
 refine eS (f:=28) (args:=#[.pointer (some ⟨w+1+1,0,none⟩)]) po po pB (fun _ _=>bO) ?_;refine(aan ⟨w+1+1,0,none⟩ 1 0 [] _ b f3).mono ?_;rintro e m o ⟨rfl,rfl,rfl⟩;refine⟨.tuple #[.slice none 0 0,.int .i64 1],?_,rfl,g.setCell (p:=⟨w+1+1,0,none⟩) px _⟩;simp[results,results10,go_sem,b]
theorem adG{K:Int}(hr:dG w [] r s1 s2 s3 s4 s5 s6 s7)(hc:jE w [] c t1 t2 t3 t4)(hs:Sound r)(hk:vF r k c=K)(h0:K≠0)(ht:Tab w)(hi:k<r.rounds.length):
 CB 10 #[.agg (aV r s1 s2 s3 s4 s5 s6 s7).toArray,k,.agg (dI t1 t2 t3 t4).toArray] (.tuple #[.slice none 0 0,K]) w:=by
 refine wid ?_;obtain⟨W1,t,F1⟩:=dR ((((Fr.nil w).a w (aV r s1 s2 s3 s4 s5 s6 s7) 28).a (w+1) (dI t1 t2 t3 t4) 42).a (w+2) [.int .i64 0] 32);have y:=aW F1;have F:=Hd F1;have HB:=Hd (abe (hr.go F1.bl) hs (tab_below ht F1.bl) pH hi);have j:=Hd (fun(V:World) (hb:Below w w V)=>aeC (i:=k) (hr.go hb) (hc.go hb) hs hk h0 (tab_below ht hb) pH);clear F1 hr hc hs ht hi hk;refine qj func10 rfl ntmps10 ?_
 gi_wp2_with (first
  |(have g:=N.out;clear g;refine Cl 31 HX.out ?_;rintro e D ⟨rfl,hb4⟩;replace F:=Hd (F.out.go hb4);clear hb4)
  |(refine Cl 29 HB.out ?_;rintro e s ⟨rfl,d⟩;have W:=F.out.go d;have y:=aW W;obtain⟨J,u,F3⟩:=dR (W.a s (evV r s1 s2 s3 s4 s5 s6 s7 k) 79);have o:=aW F3;have HX:=Hd (j.out _ F3.bl);replace F:=Hd F3;have N:=Hd trivial;clear d W F3)
  |fail)
 try clear o
 have m:=F.out.bl;have b:=F.out.aQ 2 0;have f3:=F.out.zN 2 0;try clear y
 refine eS (f:=28) (args:=#[.pointer (some ⟨w+1+1,0,none⟩)]) po po pB (fun _ _=>bO) ?_;refine(aan ⟨w+1+1,0,none⟩ K 0 [] _ b f3).mono ?_;rintro e z C ⟨rfl,rfl,rfl⟩;refine⟨.tuple #[.slice none 0 0,K],?_,rfl,m.setCell (p:=⟨w+1+1,0,none⟩) px _⟩;simp[results,results10,go_sem,b]
theorem adH(hr:dG w [] r s1 s2 s3 s4 s5 s6 s7)(hc:jE w [] c t1 t2 t3 t4)(hs:Sound r)(hk:vF r k c=0)(ht:Tab w)(hx:r.rounds[k]?=some x)(hp:x.2.2.2.2.1=false)(hf:x.2.2.2.2.2.1=true):
 CB 10 #[.agg (aV r s1 s2 s3 s4 s5 s6 s7).toArray,k,.agg (dI t1 t2 t3 t4).toArray] (.tuple #[.slice none 0 0,.int .i64 450]) w:=by
 refine wid ?_;obtain⟨W1,D,F1⟩:=dR ((((Fr.nil w).a w (aV r s1 s2 s3 s4 s5 s6 s7) 28).a (w+1) (dI t1 t2 t3 t4) 42).a (w+2) [.int .i64 0] 32);have y:=aW F1;have F:=Hd F1;have HB:=Hd (abe (hr.go F1.bl) hs (tab_below ht F1.bl) pH (bu.1 hx).1);have s:=Hd (fun(V:World) (hb:Below w w V)=>acs (i:=k) (hr.go hb) (hc.go hb) hs hk (tab_below ht hb) pH);have HL:=Hd (fun(V:World) (hb:Below w w V)=>aeK (hr.go hb) hx hp hf);clear F1 hr hc hs ht hk hx hp hf;refine qj func10 rfl ntmps10 ?_
 gi_wp2_with (first
  |(have g:=m.out;clear g;refine Cl 32 o.out ?_;rintro e K ⟨rfl,j⟩;replace F:=Hd (F.out.go j);clear j)
  |(have g:=N.out;clear g;refine Cl 31 HX.out ?_;rintro e I ⟨rfl,hb4⟩;have W:=F.out.go hb4;have z:=aW W;have o:=Hd (HL.out _ W.bl);replace F:=Hd W;have m:=Hd trivial;clear hb4 W)
  |(refine Cl 29 HB.out ?_;rintro e C ⟨rfl,d⟩;have W:=F.out.go d;have y:=aW W;obtain⟨J,E,F3⟩:=dR (W.a C (evV r s1 s2 s3 s4 s5 s6 s7 k) 79);have u:=aW F3;have HX:=Hd (s.out _ F3.bl);replace F:=Hd F3;have N:=Hd trivial;clear d W F3)
  |fail)
 try clear u z
 have t:=F.out.bl;have b:=F.out.aQ 2 0;have f3:=F.out.zN 2 0;try clear y
 refine eS (f:=28) (args:=#[.pointer (some ⟨w+1+1,0,none⟩)]) po po pB (fun _ _=>bO) ?_;refine(aan ⟨w+1+1,0,none⟩ 450 0 [] _ b f3).mono ?_;rintro e G H ⟨rfl,rfl,rfl⟩;refine⟨.tuple #[.slice none 0 0,.int .i64 450],?_,rfl,t.setCell (p:=⟨w+1+1,0,none⟩) px _⟩;simp[results,results10,go_sem,b]
theorem abo(hr:dG w [] r s1 s2 s3 s4 s5 s6 s7)(hc:jE w [] c t1 t2 t3 t4)(hg:f_ r k c)(hw:yI r c)(hk:vF r k c=0)(ht:Tab w)(hx:r.rounds[k]?=some x)(hp:x.2.2.2.2.1=false)(hf:x.2.2.2.2.2.1=false)(hlv:abd r.aT.length (aaJ r.aT.length k (au x))=true)(hcl:r.aT.length<=1000)(hkl:k<=1000):
 Calls prog 10 #[.agg (aV r s1 s2 s3 s4 s5 s6 s7).toArray,k,.agg (dI t1 t2 t3 t4).toArray] w fun e w'=>((aae r c<=5040/\∃A n cp,e=.returned (.tuple #[.slice A n cp,.int .i64 0])/\SlR w' [] A n cp (an r x c))\/(5040<aae r c/\e=.returned (.tuple #[.slice none 0 0,.int .i64 2])))/\Below w w w':=by
 refine wid ?_;obtain⟨W1,P,F1⟩:=dR ((((Fr.nil w).a w (aV r s1 s2 s3 s4 s5 s6 s7) 28).a (w+1) (dI t1 t2 t3 t4) 42).a (w+2) [.int .i64 0] 32);have y:=aW F1;have F:=Hd F1;have HB:=Hd (abe (hr.go F1.bl) hg.1 (tab_below ht F1.bl) pH (bu.1 hx).1);have E:=Hd (fun(V:World) (hb:Below w w V)=>acs (i:=k) (hr.go hb) (hc.go hb) hg.1 hk (tab_below ht hb) pH);have HL:=Hd (fun(V:World) (hb:Below w w V)=>acB (hr.go hb) hg.1 hx hp hf hlv (tab_below ht hb) pH hcl hkl);have G:=Hd (fun(V:World) (hb:Below w w V)=>ab4 (hr.go hb) (hc.go hb) hg hw hx hp (tab_below ht hb) pH);clear F1 hr hc hg hw ht hk hx hp hf hlv;refine qj func10 rfl ntmps10 ?_
 gi_wp2_with (first
  |(have g:=C.out;clear g;refine Cl 33 H.out ?_;rintro e u ⟨⟨I,A,n,cp,rfl,Y⟩|⟨hgt,rfl⟩,hb6⟩
    all_goals
     have W:=F.out.go hb6;have j:=aW W;replace F:=Hd W)
  |(have g:=z.out;clear g;refine Cl 32 D.out ?_;rintro e T ⟨rfl,o⟩;have W:=F.out.go o;have j:=aW W;have H:=Hd (G.out _ W.bl);replace F:=Hd W;have C:=Hd trivial;clear o W)
  |(have g:=N.out;clear g;refine Cl 31 HX.out ?_;rintro e S ⟨rfl,hb4⟩;have W:=F.out.go hb4;have t:=aW W;have D:=Hd (HL.out _ W.bl);replace F:=Hd W;have z:=Hd trivial;clear hb4 W)
  |(refine Cl 29 HB.out ?_;rintro e O ⟨rfl,m⟩;have W:=F.out.go m;have y:=aW W;obtain⟨R,Q,F3⟩:=dR (W.a O (evV r s1 s2 s3 s4 s5 s6 s7 k) 79);have s:=aW F3;have HX:=Hd (E.out _ F3.bl);replace F:=Hd F3;have N:=Hd trivial;clear m W F3)
  |fail)
 ·have b:=F.out.aQ 2 0;have J:u.setCell ⟨w+1+1,0,none⟩ (.int .i64 0)=u:=aN b;have d:=F.out.bl;try clear y s t j
  try rw[J]
  refine eS (f:=28) (args:=#[.pointer (some ⟨w+1+1,0,none⟩)]) po po pB (fun _ _=>bO) ?_;refine(abJ ⟨w+1+1,0,none⟩ _).mono ?_;rintro e K L ⟨rfl,rfl,rfl⟩;refine⟨.tuple #[.slice A n cp,.int .i64 0],?_,.inl ⟨I,_,_,_,rfl,Y⟩,d⟩;simp[results,results10,go_sem,b]
 ·try clear s t j
  have d:=F.out.bl;have b:=F.out.aQ 2 0;have f3:=F.out.zN 2 0;try clear y
  refine eS (f:=28) (args:=#[.pointer (some ⟨w+1+1,0,none⟩)]) po po pB (fun _ _=>bO) ?_;refine(aan ⟨w+1+1,0,none⟩ 2 0 [] _ b f3).mono ?_;rintro e K L ⟨rfl,rfl,rfl⟩;refine⟨.tuple #[.slice none 0 0,.int .i64 2],?_,.inr ⟨hgt,rfl⟩,d.setCell (p:=⟨w+1+1,0,none⟩) px _⟩;simp[results,results10,go_sem,b]
end
end
