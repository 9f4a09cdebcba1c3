/- Lemmas. -/
import Derived.Test.YtfdmnogfflcllaaGreatDoorM13
set_option linter.unusedVariables false
set_option linter.unusedSimpArgs false
set_option maxRecDepth 100000
set_option maxHeartbeats 20000000
namespace Go.Proofs.YtfdmnogfflcllaaGreatDoor
open Go.Proofs.Tryz Go.RowKit Go.Shelf
theorem TV{p:Prop}(h:p:=by exact((hM.le F1.bl.size).cons (by have:=F1.sz;omega)).cons (by have:=F1.sz;omega)):p:=h
theorem YA{p:Prop}(h:p:=by exact((qb.more (b:=w+1+1+1) oE).more (b:=w+1+1) oE).go F1.bl):p:=h
theorem YB{p:Prop}(h:p:=by exact((qa.more (b:=w+1+1+1) oE).more (b:=w+1+1) oE).go F1.bl):p:=h
variable {M:List Nat}{q1 q2:Bool}{w:World}{va vb:Value}{a b:Rt}
section
attribute [local go_sem] cK
theorem Xj{A B:Option Addr}{k1 c1 k2 c2:Nat}{n d:Int}(hM:b_ M w)(hx:ZC w M n q1 A k1 c1)(hy:ZC w M d q2 B k2 c2)(fn:fits n=true)(fd:fits d=true)(h0:d≠0):
 Calls prog 136 #[.agg #[.bool q1,.slice A k1 c1,.bool q2,.slice B k2 c2]] w fun e w'=>∃p q A n' c B m d',e=.returned (.agg #[.bool p,.slice A n' c,.bool q,.slice B m d'])/\QC w' M (eP n d) p q A n' c B m d'/\Below w w w':=by
 obtain⟨rfl,hx⟩:=hx;obtain⟨rfl,hy⟩:=hy;refine(Ej hM hx hy fn fd h0).mono ?_;rintro e w' ⟨u,rfl,f,hb⟩;obtain⟨p,q,A,n,c,B,m,d,rfl,h⟩:=QC.of f;exact⟨p,q,A,n,c,B,m,d,rfl,h,hb⟩
theorem Xk(hM:b_ M w)(ha:QW w M va a)(hb:QW w M vb b)(oa:a.ok)(ob:b.ok)(hf:Fine a b):
 Calls prog 90 #[va,vb] w (QR w M (VQ a b)):=by
 refine wid ?_;obtain⟨R,q1,q,P,C,s,L,B,rfl,qa⟩:=QC.of ha;obtain⟨S,q2,r,Q,A,t,N,D,rfl,qb⟩:=QC.of hb;obtain⟨W1,ac⟩:=aC (((((w).alloc (.cells #[.bool R,.slice q P C,.bool q1,.slice s L B] 48)).alloc (.cells #[.bool S,.slice r Q A,.bool q2,.slice t N D] 48)).alloc (.cells #[.bool false,.slice none 0 0,.bool false,.slice none 0 0] 48)).alloc (.cells #[.int .i64 0] 32));have F1:FQ w W1 R q1 S q2 (.slice q P C) (.slice s L B) (.slice r Q A) (.slice t N D):=by rw[<-ac];exact FQ.start w _ _ _ _ _ _ _ _
 obtain⟨MM,m⟩:=aC ((w.heap.size+1+1)::(w.heap.size+1+1+1)::M);have G:QC W1 MM a R q1 q P C s L B:=by rw[<-m];exact YB
 have l:QC W1 MM b S q2 r Q A t N D:=by rw[<-m];exact YA
 have E:b_ MM W1:=by rw[<-m];exact TV
 have U:=Sl.YU E G l;have X:=fB G l E;have aa:=Hd U;have h:=fB oa ob hf;have y:=Hd m;have F:=Hd F1;have j:=F1;obtain⟨aG,aH,aI,aJ,aK,aL,aM,aN,aQ,aR,aS,aT,aO,an,ao,au,av,al,-,-⟩:=j;clear ha hb qa qb G l hM E U oa ob hf m;refine qj func90 rfl ntmps90 ?_
 gi_wp2_with (first
  |(refine⟨bq,?_⟩;gi_at_call 47;have g:=i.out;clear g;refine Cn (rM (M:=MM) _ 4 4 2 [a.num,b.num,a.den,b.den] _ ((X.v.le i.u.size).le oO) (Sl.afR (X.v.le i.u.size) (X.a.go i.u).num (X.b.go i.u).num (X.a.go i.u).den (X.b.go i.u).den) (by simp[h.a.fn,h.a.fd,h.b.fn,h.b.fd]) (by simp[mW,h.v.nd,h.v.dn,h.v.dd,h.v.nn]) rfl oE) ?_;rintro e w4 ⟨O,cO,rfl,ad,hb4⟩;have I:Below W1 W1 w4:=(i.u.alloc i.u.size _).trans (hb4.mono (by simp;have:=i.u.size;omega));have F4:=F.out.go I;have z:=F4.drew;have j:=z;obtain⟨bc,bd,be,bf,bg,bh,bi,bj,bm,bn,bo,bp,bk,aB,aD,aE,aF,ar,-,-⟩:=j;obtain⟨b0,o0,s1,S1,i1,j1,s2,S2,i2,j2,rfl,⟨V,Y,Z,k3⟩,hz1,hz2⟩:=Sl.two ad;have o:=h_ z (X.v.le (w':=w4.drew) I.size) hz1.drew hz2.drew;clear hb4 I F4 z)
  |(refine Cl 46 (uO (M:=MM) _ 2 2 [a,b] _ (X.v.le oO) aa.out (by simp[h.a,h.b])) ?_;rintro e w2 ⟨rfl,l⟩;have H:Below W1 W1 w2:=((bw W1 W1).alloc pc _).trans (l.mono oO);have x:=F.out.go H;have j:=x;obtain⟨YN,YO,a2,a3,YP,Td,a4,a5,a7,a8,a9,ba,a6,YW,YX,ap,aq,YV,-,-⟩:=j;have i:=Hd2 x H;clear l H x)
  |fail)
 have v0:=ah V;have v1:=ah Y;have v2:=ah Z;have v3:=ah k3;clear V Y Z k3;refine aP [] 9 oF oF ?_;refine ay 0 ?_;refine ay 1 ?_;refine ay 2 ?_;refine ay 3 ?_;refine ay 4 ?_;refine ay 5 ?_;refine ay 6 ?_;refine ay 7 ?_;refine eU 8 fun K p=>?_;gi_wp2;refine Cm (Xj (n:=a.num*b.num) (d:=a.den*b.den) o.b o.c o.w h.v.nn h.v.dd (by have:=Int.mul_pos h.a.pos h.b.pos;omega)) ?_;rintro e w7 ⟨p7,q7,A7,n7,c7,B7,m7,d7,rfl,W,J⟩;have F7:=o.a.go J;have j:=F7;obtain⟨aU,aV,aW,aX,aY,aZ,a0,a1,ag,ai,aj,ak,af,aw,ax,az,aA,am,-,-⟩:=j;have T:=Hd2 F7 W;clear F7 W;refine p _ _ ⟨?_,?_⟩;clear p K;·exact a_ J []
 refine lit ?_;clear J;refine iq 2 ?_;refine jW fun K p K' ab=>?_;gi_wp2;refine jW fun K p K' ab=>?_;gi_wp2;refine dC _ ?_;simp only[cu];gi_wp2;obtain⟨wF,ae,t0,t1,t2,t3,t5,hQ,bF⟩:=WM (M:=M) (MM:=MM) ag ai aj ak af T.u.qw (fun k hk=>by rw[<-y.out];simp[hk]) (by rw[<-y.out];simp) (by rw[<-y.out];simp) oE T.a.bl oE oE;refine eM (f:=45) (args:=#[.pointer (some ⟨w+1+1+1,0,none⟩)]) oO oO oX (fun _ _=>bq) ?_;rw[ae];refine(kT ⟨w+1+1+1,0,none⟩ _).mono ?_;rintro e u' bb ⟨rfl,rfl,rfl⟩;refine⟨.tuple #[.agg #[.bool p7,.slice A7 n7 c7,.bool q7,.slice B7 m7 d7],.int .i64 0],?_,_,rfl,hQ,bF⟩;simp[results,results90,go_sem,t0,t1,t2,t3,t5]
theorem MZ(hM:b_ M w)(ha:QW w M va a)(hb:QW w M vb b)(oa:a.ok)(ob:b.ok)(hf:Fine a b):
 Calls prog 86 #[va,vb] w (QR w M (Js a b)):=by
 refine wid ?_;obtain⟨V,q1,y,T,G,A,R,I,rfl,qa⟩:=QC.of ha;obtain⟨W,q2,z,U,H,B,S,J,rfl,qb⟩:=QC.of hb;obtain⟨W1,af⟩:=aC (((((w).alloc (.cells #[.bool V,.slice y T G,.bool q1,.slice A R I] 48)).alloc (.cells #[.bool W,.slice z U H,.bool q2,.slice B S J] 48)).alloc (.cells #[.bool false,.slice none 0 0,.bool false,.slice none 0 0] 48)).alloc (.cells #[.int .i64 0] 32));have F1:FQ w W1 V q1 W q2 (.slice y T G) (.slice A R I) (.slice z U H) (.slice B S J):=by rw[<-af];exact FQ.start w _ _ _ _ _ _ _ _
 obtain⟨MM,s⟩:=aC ((w.heap.size+1+1)::(w.heap.size+1+1+1)::M);have N:QC W1 MM a V q1 y T G A R I:=by rw[<-s];exact YB
 have p:QC W1 MM b W q2 z U H B S J:=by rw[<-s];exact YA
 have L:b_ MM W1:=by rw[<-s];exact TV
 have SV:=Sl.YU L N p;have X:=fB N p L;have ac:=Hd SV;have h:=fB oa ob hf;have D:=Hd s;have F:=Hd F1;have m:=F1;obtain⟨aJ,aK,aL,aM,aN,aO,aQ,aR,aT,aU,aV,aW,aS,aq,ar,ax,az,ao,-,-⟩:=m;clear ha hb qa qb N p hM L SV oa ob hf s;refine qj func86 rfl ntmps86 ?_
 gi_wp2_with (first
  |(refine⟨bq,?_⟩;gi_at_call 47;have g:=i.out;clear g;refine Cn (rM (M:=MM) _ 6 6 3 [a.num,b.den,b.num,a.den,a.den,b.den] _ ((X.v.le i.u.size).le oO) (Sl.ah4 (X.v.le i.u.size) (X.a.go i.u).num (X.b.go i.u).den (X.b.go i.u).num (X.a.go i.u).den (X.a.go i.u).den (X.b.go i.u).den) (by simp[h.a.fn,h.a.fd,h.b.fn,h.b.fd]) (by simp[mW,h.v.nd,h.v.dn,h.v.dd,h.v.nn]) rfl oE) ?_;rintro e w4 ⟨O,cO,rfl,ag,hb4⟩;have l:Below W1 W1 w4:=(i.u.alloc i.u.size _).trans (hb4.mono (by simp;have:=i.u.size;omega));have F4:=F.out.go l;have E:=F4.drew;have m:=E;obtain⟨bf,bg,bh,bi,bj,bk,bm,bn,bp,br,bs,bt,bo,aF,aG,aH,aI,aw,-,-⟩:=m;obtain⟨b0,o0,s1,S1,i1,j1,s2,S2,i2,j2,s3,S3,i3,j3,rfl,⟨c0,k1,k2,k3,k4,k5⟩,hz1,hz2,hz3⟩:=Sl.three ag;have o:=oK E (X.v.le (w':=w4.drew) l.size) hz1.drew hz2.drew hz3.drew;clear hb4 l F4 E)
  |(refine Cl 46 (uO (M:=MM) _ 2 2 [a,b] _ (X.v.le oO) ac.out (by simp[h.a,h.b])) ?_;rintro e w2 ⟨rfl,p⟩;have P:Below W1 W1 w2:=((bw W1 W1).alloc pc _).trans (p.mono oO);have C:=F.out.go P;have m:=C;obtain⟨YN,YO,a5,a6,YP,Td,a7,a8,ba,bb,bc,bd,a9,YW,YX,au,av,YV,-,-⟩:=m;have i:=Hd2 C P;clear p P C)
  |fail)
 have v0:=ah c0;have v1:=ah k1;have v2:=ah k2;have v3:=ah k3;have v4:=ah k4;have v5:=ah k5;clear c0 k1 k2 k3 k4 k5;refine aP [] 16 oF oF ?_;refine ay 0 ?_;refine ay 1 ?_;refine ay 2 ?_;refine ay 3 ?_;refine ay 4 ?_;refine ay 5 ?_;refine ay 10 ?_;refine ay 11 ?_;refine ay 12 ?_;refine eU 6 fun K j=>?_;gi_wp2;refine Cm (WG (a:=a.num*b.den) (b:=b.num*a.den) o.b o.c.zv o.d.zv h.v.nd h.v.dn) ?_;rintro e w5 ⟨u5,rfl,Y,l⟩;rw[nJ h.v.ad];rw[nK h.v.ad]at Y;obtain⟨q5,A5,n5,c5,rfl,ab⟩:=ZC.of Y;have r:=h_ (o.a.go l) ab (o.x.go l) (o.b.le l.size);clear Y ab;refine j _ _ ⟨?_,?_⟩;clear j K;·exact a_ l []
 refine lit ?_;clear l;refine ay 7 ?_;refine ay 8 ?_;refine eU 9 fun K j=>?_;gi_wp2;refine Cm (Ei r.b.zv) ?_;rintro e w6 ⟨rfl,-,q⟩;have t:=h_ (r.a.go q) (r.b.go q) (r.c.go q) (r.w.le q.size);refine j _ _ ⟨?_,?_⟩;clear j K;·exact a_ q []
 refine lit ?_;clear q;refine ay 13 ?_;refine ay 14 ?_;refine eU 15 fun K j=>?_;gi_wp2;refine Cm (Xj (n:=a.num*b.den+b.num*a.den) (d:=a.den*b.den) t.w t.b t.c h.v.ad h.v.dd (by have:=Int.mul_pos h.a.pos h.b.pos;omega)) ?_;rintro e w7 ⟨p7,q7,A7,n7,c7,B7,m7,d7,rfl,aa,Q⟩;have F7:=t.a.go Q;have m:=F7;obtain⟨aX,aY,aZ,a0,a1,a2,a3,a4,ak,al,am,an,aj,aA,aB,aD,aE,ap,-,-⟩:=m;have Z:=Hd2 F7 aa;clear F7 aa;refine j _ _ ⟨?_,?_⟩;clear j K;·exact a_ Q []
 refine lit ?_;clear Q;refine iq 2 ?_;refine jW fun K j K' ae=>?_;gi_wp2;refine jW fun K j K' ae=>?_;gi_wp2;refine dC _ ?_;simp only[cu];gi_wp2;obtain⟨wF,ai,t0,t1,t2,t3,t5,hQ,bF⟩:=WM (M:=M) (MM:=MM) ak al am an aj Z.u.qw (fun k hk=>by rw[<-D.out];simp[hk]) (by rw[<-D.out];simp) (by rw[<-D.out];simp) oE Z.a.bl oE oE;refine eM (f:=45) (args:=#[.pointer (some ⟨w+1+1+1,0,none⟩)]) oO oO oX (fun _ _=>bq) ?_;rw[ai];refine(kT ⟨w+1+1+1,0,none⟩ _).mono ?_;rintro e u' be ⟨rfl,rfl,rfl⟩;refine⟨.tuple #[.agg #[.bool p7,.slice A7 n7 c7,.bool q7,.slice B7 m7 d7],.int .i64 0],?_,_,rfl,hQ,bF⟩;simp[results,results86,go_sem,t0,t1,t2,t3,t5]
structure FS(w W:World)(p1 q1 p2 q2:Bool)(u1 v1 u2 v2:Value):Prop where
 a0:W.cell? ⟨w,0,none⟩=some (.bool p1)
 a1:W.cell? ⟨w,1,none⟩=some (u1)
 a2:W.cell? ⟨w,2,none⟩=some (.bool q1)
 a3:W.cell? ⟨w,3,none⟩=some (v1)
 b0:W.cell? ⟨w+1,0,none⟩=some (.bool p2)
 b1:W.cell? ⟨w+1,1,none⟩=some (u2)
 b2:W.cell? ⟨w+1,2,none⟩=some (.bool q2)
 b3:W.cell? ⟨w+1,3,none⟩=some (v2)
 x0:W.cell? ⟨w+1+1,0,none⟩=some (.bool false)
 x1:W.cell? ⟨w+1+1,1,none⟩=some (.slice none 0 0)
 x2:W.cell? ⟨w+1+1,2,none⟩=some (.bool false)
 x3:W.cell? ⟨w+1+1,3,none⟩=some (.slice none 0 0)
 e0:W.cell? ⟨w+1+1+1,0,none⟩=some (.int .i64 0)
 fb0:W.frozen? ⟨w+1,0,none⟩=false
 fb1:W.frozen? ⟨w+1,1,none⟩=false
 fb2:W.frozen? ⟨w+1,2,none⟩=false
 fb3:W.frozen? ⟨w+1,3,none⟩=false
 WR:W.frozen? ⟨w+1+1,0,none⟩=false
 WT:W.frozen? ⟨w+1+1,1,none⟩=false
 fx2:W.frozen? ⟨w+1+1,2,none⟩=false
 fx3:W.frozen? ⟨w+1+1,3,none⟩=false
 fe0:W.frozen? ⟨w+1+1+1,0,none⟩=false
 bl:Below w w W
 sz:w.heap.size+4<=W.heap.size
theorem FS.go{W W':World}{p1 p2:Bool}{u1 v1 u2 v2:Value}(h:FS w W p1 q1 p2 q2 u1 v1 u2 v2)(hb:Below W W W'):FS w W' p1 q1 p2 q2 u1 v1 u2 v2:=by have hs:=h.sz;have c:∀(k o:Nat) (u:Value),k<w.heap.size+4->W.cell? ⟨k,o,none⟩=some u->W'.cell? ⟨k,o,none⟩=some u:=fun k o u e n=>(hb.cell (p:=⟨k,o,none⟩) (show k<_ by omega)).trans n;have f:∀(k o:Nat),k<w.heap.size+4->W.frozen? ⟨k,o,none⟩=false->W'.frozen? ⟨k,o,none⟩=false:=fun k o e n=>(hb.frozen (p:=⟨k,o,none⟩) (show k<_ by omega)).trans n;exact⟨c _ _ _ oE h.a0,c _ _ _ oE h.a1,c _ _ _ oE h.a2,c _ _ _ oE h.a3,c _ _ _ oE h.b0,c _ _ _ oE h.b1,c _ _ _ oE h.b2,c _ _ _ oE h.b3,c _ _ _ oE h.x0,c _ _ _ oE h.x1,c _ _ _ oE h.x2,c _ _ _ oE h.x3,c _ _ _ oE h.e0,f _ _ oE h.fb0,f _ _ oE h.fb1,f _ _ oE h.fb2,f _ _ oE h.fb3,f _ _ oE h.WR,f _ _ oE h.WT,f _ _ oE h.fx2,f _ _ oE h.fx3,f _ _ oE h.fe0,h.bl.trans (hb.mono h.bl.size),by have:=hb.size;omega⟩
theorem FS.start(w:World)(p1 q1 p2 q2:Bool)(u1 v1 u2 v2:Value):FS w (((((w).alloc (.cells #[.bool p1,u1,.bool q1,v1] 48)).alloc (.cells #[.bool p2,u2,.bool q2,v2] 48)).alloc (.cells #[.bool false,.slice none 0 0,.bool false,.slice none 0 0] 48)).alloc (.cells #[.int .i64 0] 32)) p1 q1 p2 q2 u1 v1 u2 v2:=by exact EC
theorem Xl(hM:b_ M w)(ha:QW w M va a)(hb:QW w M vb b)(oa:a.ok)(ob:b.ok)(hf:Fine a b):
 Calls prog 88 #[va,vb] w (QR w M (OG a b)):=by
 refine wid ?_;rw[VT];obtain⟨H,q1,m,G,C,o,D,x,rfl,qa⟩:=QC.of ha;obtain⟨I,q2,h,c,i,q,E,y,rfl,L⟩:=QC.of hb;obtain⟨W1,an⟩:=aC (((((w).alloc (.cells #[.bool H,.slice m G C,.bool q1,.slice o D x] 48)).alloc (.cells #[.bool I,.slice h c i,.bool q2,.slice q E y] 48)).alloc (.cells #[.bool false,.slice none 0 0,.bool false,.slice none 0 0] 48)).alloc (.cells #[.int .i64 0] 32));have F1:FS w W1 H q1 I q2 (.slice m G C) (.slice o D x) (.slice h c i) (.slice q E y):=by rw[<-an];exact FS.start w _ _ _ _ _ _ _ _
 obtain⟨MM,t⟩:=aC ((w.heap.size+1)::(w.heap.size+1+1)::(w.heap.size+1+1+1)::M);have T:QC W1 MM a H q1 m G C o D x:=by rw[<-t];exact(((qa.more (b:=w+1+1+1) oE).more (b:=w+1+1) oE).more (b:=w+1) oE).go F1.bl
 have j:QC W1 MM b I q2 h c i q E y:=by rw[<-t];exact(((L.more (b:=w+1+1+1) oE).more (b:=w+1+1) oE).more (b:=w+1) oE).go F1.bl
 have R:b_ MM W1:=by rw[<-t];exact(((hM.le F1.bl.size).cons (by have:=F1.sz;omega)).cons (by have:=F1.sz;omega)).cons (by have:=F1.sz;omega)
 have SV:=Sl.YU R T j;have X:=fB T j R;have ag:=Hd SV;have s:=fB oa ob hf;have K:=Hd t;have HL:=Hd (JA (z:=b.num) (n:=c) L.num.sl.eu);have ae:=L.num.neg;have F:=Hd F1;have A:=F1;obtain⟨a0,a1,a2,a3,a4,a5,a6,a7,a9,a_,ba,bb,a8,aS,aT,aU,aV,aK,aL,aM,aN,aI,-,-⟩:=A;clear ha hb qa L T j hM R SV oa ob hf t;obtain⟨P,S⟩:=aC (aG (-b.num));have HP:=Hd S;have ac:P=(!I&&decide (0<c)):=by rw[<-S,HL.out,ae]
 clear S ae;cases I<;>by_cases ao:0<c
 all_goals(
 obtain⟨d,ab⟩:∃d,d=P:=⟨_,rfl⟩;have Z:=Hd ab;clear ab;simp only[ao,decide_true,decide_false,Bool.not_true,Bool.not_false,Bool.and_true,Bool.and_false]at ac;subst ac;refine qj func88 rfl ntmps88 ?_
 gi_wp2_with (first
  |(refine⟨bq,?_⟩;gi_at_call 86;have g:=r.out;clear g;have Q:=r.a;have F3:FS w (l.setCell ⟨w+1,0,none⟩ (.bool d)) H q1 d q2 (.slice m G C) (.slice o D x) (.slice h c i) (.slice q E y):=by
     constructor
     all_goals first
      |(simp[go_sem,YN,YO,ax,ay,YP,Td,az,aA,aD,aE,aF,aH,aB,YW,YX,ah,ai,YV,aj,ak,al,am];done)
      |exact Q.bl.setCell (p:=⟨w+1,0,none⟩) oO _
      |(simp;exact Q.sz)
    have B:Keeps MM l (l.setCell ⟨w+1,0,none⟩ (.bool d)):=(cF _ _).setCell (p:=⟨w+1,0,none⟩) (.inl (by rw[<-K.out];simp)) _;have J:=X.a.go r.u;have N:=X.b.go r.u;have V:QC (l.setCell ⟨w+1,0,none⟩ (.bool d)) MM a H q1 m G C o D x:=⟨⟨J.num.neg,J.num.sl.keep B⟩,⟨J.den.neg,J.den.sl.keep B⟩⟩;have W:QC (l.setCell ⟨w+1,0,none⟩ (.bool d)) MM (negR b) d q2 h c i q E y:=⟨⟨HP.out.trans Z.out.symm,by show Sl Int _ MM h c i (ints (bG (-b.num)));rw[tN];exact N.num.sl.keep B⟩,⟨N.den.neg,N.den.sl.keep B⟩⟩;rw[Z.out]at F3 V W;refine Cn (MZ (M:=MM) (a:=a) (b:=negR b) ((X.v.le r.u.size).le oO) V.qw W.qw s.a (VP s.b) s.v.neg) ?_;rintro e w7 ⟨u7,rfl,af,ad⟩;obtain⟨p7,q7,A7,n7,c7,B7,m7,d7,rfl,aa⟩:=QC.of af;have F7:=F3.go ad;have A:=F7;obtain⟨bc,bd,be,bf,bg,bh,bi,bj,ar,au,av,aw,aq,aW,aX,aY,aZ,aO,aP,aQ,aR,aJ,-,-⟩:=A;have Y:=Hd2 F7 aa;clear F7 af aa ad F3 J N V W B Q)
  |(refine Cl 46 (uO (M:=MM) _ 2 2 [a,b] _ (X.v.le oO) ag.out (by simp[s.a,s.b])) ?_;rintro e l ⟨rfl,j⟩;have U:Below W1 W1 l:=((bw W1 W1).alloc pc _).trans (j.mono oO);have O:=F.out.go U;have A:=O;obtain⟨YN,YO,ax,ay,YP,Td,az,aA,aD,aE,aF,aH,aB,aj,ak,al,am,YW,YX,ah,ai,YV,-,-⟩:=A;have r:=Hd2 O U;clear j U O)
  |fail)
 obtain⟨wF,ap,t0,t1,t2,t3,t5,hQ,bF⟩:=WM (M:=M) (MM:=MM) ar au av aw aq Y.u.qw (fun k hk=>by rw[<-K.out];simp[hk]) (by rw[<-K.out];simp) (by rw[<-K.out];simp) oE Y.a.bl oE oE;refine eM (f:=45) (args:=#[.pointer (some ⟨w+1+1+1,0,none⟩)]) oO oO oX (fun _ _=>bq) ?_;rw[ap];refine(kT ⟨w+1+1+1,0,none⟩ _).mono ?_;rintro e u' bk ⟨rfl,rfl,rfl⟩;refine⟨.tuple #[.agg #[.bool p7,.slice A7 n7 c7,.bool q7,.slice B7 m7 d7],.int .i64 0],?_,_,rfl,hQ,bF⟩;simp[results,results88,go_sem,t0,t1,t2,t3,t5])
end
