/- Lemmas and walks; no statement is proved here. -/
import Derived.Test.YtefnknhjlejalaaGreatDoorM15
set_option linter.unusedVariables false
set_option linter.unusedSimpArgs false
set_option maxRecDepth 20000
set_option maxHeartbeats 6000000
namespace Go.Proofs.YtefnknhjlejalaaGreatDoor
open Go.Proofs.Tryz Go.RowKit Go.Shelf
theorem aeG{p:Prop}(h:p:=by rw[<-MX];exact((qa.more (b:=w.heap.size+1+1+1) (by omega)).more (b:=w.heap.size+1+1) (by omega)).go F1.bl):p:=h
theorem aeH{p:Prop}(h:p:=by rw[<-MX];exact((qb.more (b:=w.heap.size+1+1+1) (by omega)).more (b:=w.heap.size+1+1) (by omega)).go F1.bl):p:=h
variable {M:List Nat}{q1 q2:Bool}{w:World}{va vb:Value}{a b:Rt}
section
attribute [local go_sem] Oper.semAt_some
theorem Xj{A B:Option Addr}{k1 c1 k2 c2:Nat}{n d:Int}(hM:b_ M w)(hx:ZC w M n q1 A k1 c1)(hy:ZC w M d q2 B k2 c2)(fn:fits n=true)(fd:fits d=true)(h0:d≠0):
 Calls prog 86 #[.agg #[.bool q1,.slice A k1 c1,.bool q2,.slice B k2 c2]] w fun e w'=>∃p q A n' c B m d',e=.returned (.agg #[.bool p,.slice A n' c,.bool q,.slice B m d'])/\QC w' M (eP n d) p q A n' c B m d'/\Below w.heap.size w w':=by
 obtain⟨rfl,hx⟩:=hx;obtain⟨rfl,hy⟩:=hy;refine(Ej hM hx hy fn fd h0).mono ?_;rintro e w' ⟨u,rfl,hq,hb⟩;obtain⟨p,q,A,n,c,B,m,d,rfl,h⟩:=QC.of hq;exact⟨p,q,A,n,c,B,m,d,rfl,h,hb⟩
theorem Xk(hM:b_ M w)(ha:QW w M va a)(hb:QW w M vb b)(oa:a.ok)(ob:b.ok)(hf:Fine a b):
 Calls prog 49 #[va,vb] w (QR w M (VQ a b)):=by
 refine wid ?_;obtain⟨p1,q1,A1,n1,c1,B1,m1,d1,rfl,qa⟩:=QC.of ha;obtain⟨p2,q2,A2,n2,c2,B2,m2,d2,rfl,qb⟩:=QC.of hb;obtain⟨W1,hW1⟩:=aC (((((w).alloc (.cells #[.bool p1,.slice A1 n1 c1,.bool q1,.slice B1 m1 d1] 30)).alloc (.cells #[.bool p2,.slice A2 n2 c2,.bool q2,.slice B2 m2 d2] 30)).alloc (.cells #[.bool false,.slice none 0 0,.bool false,.slice none 0 0] 30)).alloc (.cells #[.int .i64 0] 31));have F1:FQ w W1 p1 q1 p2 q2 (.slice A1 n1 c1) (.slice B1 m1 d1) (.slice A2 n2 c2) (.slice B2 m2 d2):=by rw[<-hW1];exact FQ.start w _ _ _ _ _ _ _ _
 obtain⟨MM,MX⟩:=aC ((w.heap.size+1+1)::(w.heap.size+1+1+1)::M);have ha2:QC W1 MM a p1 q1 A1 n1 c1 B1 m1 d1:=by exact aeG
 have hb2:QC W1 MM b p2 q2 A2 n2 c2 B2 m2 d2:=by exact aeH
 have hM2:b_ MM W1:=by exact aea
 have SV:=Sl.YU hM2 ha2 hb2;have X:=fB ha2 hb2 hM2;have Zq:=Hd SV;have HO:=fB oa ob hf;have QG:=Hd MX;have F:=Hd F1;have dJ:=F1;obtain⟨T_,Ua,ea2,ea3,Ub,Uc,eb2,eb3,Zj,Zk,ex2,ex3,ee0,EN,EO,aa4,aa5,Zr,-,-⟩:=dJ;clear ha hb qa qb ha2 hb2 hM hM2 SV oa ob hf MX;refine qj func49 rfl ntmps49 ?_
 gi_wp2_with (first
  |(refine⟨trivial,?_⟩;gi_at_call 83;have g:=G2.out;clear g;refine Cn (rM (M:=MM) _ 4 4 2 [a.num,b.num,a.den,b.den] _ ((X.out.2.2.le G2.out.2.size).le (by simp)) (Sl.Xn (X.out.2.2.le G2.out.2.size) (X.out.1.go G2.out.2).num (X.out.2.1.go G2.out.2).num (X.out.1.go G2.out.2).den (X.out.2.1.go G2.out.2).den) (by simp[HO.out.1.fn,HO.out.1.fd,HO.out.2.1.fn,HO.out.2.1.fd]) (by simp[mW,HO.out.2.2.nd,HO.out.2.2.dn,HO.out.2.2.dd,HO.out.2.2.nn]) rfl (by omega)) ?_;rintro e w4 ⟨O,cO,rfl,hs4,hb4⟩;have hb5:Below W1.heap.size W1 w4:=(G2.out.2.alloc G2.out.2.size _).trans (hb4.mono (by simp;have:=G2.out.2.size;omega));have F4:=F.out.go hb5;have Ox:=F4.drew;have dJ:=Ox;obtain⟨Oi,Oj,ya2,ya3,Ol,Om,yb2,yb3,yx0,yx1,yx2,yx3,ye0,I8,I9,abY,abZ,aa3,-,-⟩:=dJ;obtain⟨b0,o0,s1,S1,i1,j1,s2,S2,i2,j2,rfl,⟨c0,k1,k2,k3⟩,hz1,hz2⟩:=Sl.two hs4;have G4:=h_ Ox (X.out.2.2.le (w':=w4.drew) hb5.size) hz1.drew hz2.drew;clear hb4 hb5 F4 Ox)
  |(refine Cl 82 (uO (M:=MM) _ 2 2 [a,b] _ (X.out.2.2.le (by simp)) Zq.out (by simp[HO.out.1,HO.out.2.1])) ?_;rintro e w2 ⟨rfl,hb2⟩;have hb3:Below W1.heap.size W1 w2:=((Below.refl W1.heap.size W1).alloc (Nat.le_refl _) _).trans (hb2.mono (by simp));have F2:=F.out.go hb3;have dJ:=F2;obtain⟨YN,YO,ua2,ua3,YP,Td,ub2,ub3,Sr,Sv,ux2,ux3,ue0,YW,YX,ZT,ZU,YV,-,-⟩:=dJ;have G2:=Hd2 F2 hb3;clear hb2 hb3 F2)
  |fail)
 have v0:=ah c0;have v1:=ah k1;have v2:=ah k2;have v3:=ah k3;clear c0 k1 k2 k3;refine aP [] 9 (by kernel_rfl) (by kernel_rfl) ?_;refine ay 0 ?_;refine ay 1 ?_;refine ay 2 ?_;refine ay 3 ?_;refine ay 4 ?_;refine ay 5 ?_;refine ay 6 ?_;refine ay 7 ?_;refine eU 8 fun K hK=>?_;gi_wp2;refine Cm (Xj (n:=a.num*b.num) (d:=a.den*b.den) G4.out.2.1 G4.out.2.2.1 G4.out.2.2.2 HO.out.2.2.nn HO.out.2.2.dd (by have:=Int.mul_pos HO.out.1.pos HO.out.2.1.pos;omega)) ?_;rintro e w7 ⟨p7,q7,A7,n7,c7,B7,m7,d7,rfl,hq7,hb7⟩;have F7:=G4.out.1.go hb7;have dJ:=F7;obtain⟨ta0,ta1,ta2,ta3,tb0,tb1,tb2,tb3,V8,V9,tx2,tx3,Xo,Oo,Oq,aa6,aa7,Zt,-,-⟩:=dJ;have G7:=Hd2 F7 hq7;clear F7 hq7;refine hK _ _ ⟨?_,?_⟩;clear hK K;·exact Keeps.of_below hb7 []
 refine lit ?_;clear hb7;refine iq 2 ?_;refine jW fun K hK K' hK'=>?_;gi_wp2;refine jW fun K hK K' hK'=>?_;gi_wp2;refine tail_nil _ ?_;simp only[cu];gi_wp2;obtain⟨wF,hwF,t0,t1,t2,t3,t5,hQ,bF⟩:=WM (M:=M) (MM:=MM) V8 V9 tx2 tx3 Xo G7.out.2.qw (fun k hk=>by rw[<-QG.out];simp[hk]) (by rw[<-QG.out];simp) (by rw[<-QG.out];simp) (by omega) G7.out.1.bl (by omega) (by omega);refine leavesIn_cons (f:=81) (args:=#[.pointer (some ⟨w.heap.size+1+1+1,0,none⟩)]) (by simp) (by simp) (by simp[go_sem]) (fun _ _=>trivial) ?_;rw[hwF];refine(kT ⟨w.heap.size+1+1+1,0,none⟩ _).mono ?_;rintro e u' w'' ⟨rfl,rfl,rfl⟩;refine⟨.tuple #[.agg #[.bool p7,.slice A7 n7 c7,.bool q7,.slice B7 m7 d7],.int .i64 0],?_,_,rfl,hQ,bF⟩;simp[results,results49,go_sem,t0,t1,t2,t3,t5]
theorem MZ(hM:b_ M w)(ha:QW w M va a)(hb:QW w M vb b)(oa:a.ok)(ob:b.ok)(hf:Fine a b):
 Calls prog 45 #[va,vb] w (QR w M (Js a b)):=by
 refine wid ?_;obtain⟨p1,q1,A1,n1,c1,B1,m1,d1,rfl,qa⟩:=QC.of ha;obtain⟨p2,q2,A2,n2,c2,B2,m2,d2,rfl,qb⟩:=QC.of hb;obtain⟨W1,hW1⟩:=aC (((((w).alloc (.cells #[.bool p1,.slice A1 n1 c1,.bool q1,.slice B1 m1 d1] 30)).alloc (.cells #[.bool p2,.slice A2 n2 c2,.bool q2,.slice B2 m2 d2] 30)).alloc (.cells #[.bool false,.slice none 0 0,.bool false,.slice none 0 0] 30)).alloc (.cells #[.int .i64 0] 31));have F1:FQ w W1 p1 q1 p2 q2 (.slice A1 n1 c1) (.slice B1 m1 d1) (.slice A2 n2 c2) (.slice B2 m2 d2):=by rw[<-hW1];exact FQ.start w _ _ _ _ _ _ _ _
 obtain⟨MM,MX⟩:=aC ((w.heap.size+1+1)::(w.heap.size+1+1+1)::M);have ha2:QC W1 MM a p1 q1 A1 n1 c1 B1 m1 d1:=by exact aeG
 have hb2:QC W1 MM b p2 q2 A2 n2 c2 B2 m2 d2:=by exact aeH
 have hM2:b_ MM W1:=by exact aea
 have SV:=Sl.YU hM2 ha2 hb2;have X:=fB ha2 hb2 hM2;have Zq:=Hd SV;have HO:=fB oa ob hf;have QG:=Hd MX;have F:=Hd F1;have dJ:=F1;obtain⟨T_,Ua,ea2,ea3,Ub,Uc,eb2,eb3,Zj,Zk,ex2,ex3,ee0,EN,EO,aa4,aa5,Zr,-,-⟩:=dJ;clear ha hb qa qb ha2 hb2 hM hM2 SV oa ob hf MX;refine qj func45 rfl ntmps45 ?_
 gi_wp2_with (first
  |(refine⟨trivial,?_⟩;gi_at_call 83;have g:=G2.out;clear g;refine Cn (rM (M:=MM) _ 6 6 3 [a.num,b.den,b.num,a.den,a.den,b.den] _ ((X.out.2.2.le G2.out.2.size).le (by simp)) (Sl.aa2 (X.out.2.2.le G2.out.2.size) (X.out.1.go G2.out.2).num (X.out.2.1.go G2.out.2).den (X.out.2.1.go G2.out.2).num (X.out.1.go G2.out.2).den (X.out.1.go G2.out.2).den (X.out.2.1.go G2.out.2).den) (by simp[HO.out.1.fn,HO.out.1.fd,HO.out.2.1.fn,HO.out.2.1.fd]) (by simp[mW,HO.out.2.2.nd,HO.out.2.2.dn,HO.out.2.2.dd,HO.out.2.2.nn]) rfl (by omega)) ?_;rintro e w4 ⟨O,cO,rfl,hs4,hb4⟩;have hb5:Below W1.heap.size W1 w4:=(G2.out.2.alloc G2.out.2.size _).trans (hb4.mono (by simp;have:=G2.out.2.size;omega));have F4:=F.out.go hb5;have Ox:=F4.drew;have dJ:=Ox;obtain⟨Oi,Oj,ya2,ya3,Ol,Om,yb2,yb3,yx0,yx1,yx2,yx3,ye0,I8,I9,abY,abZ,aa3,-,-⟩:=dJ;obtain⟨b0,o0,s1,S1,i1,j1,s2,S2,i2,j2,s3,S3,i3,j3,rfl,⟨c0,k1,k2,k3,k4,k5⟩,hz1,hz2,hz3⟩:=Sl.three hs4;have G4:=Hd5 Ox (X.out.2.2.le (w':=w4.drew) hb5.size) hz1.drew hz2.drew hz3.drew;clear hb4 hb5 F4 Ox)
  |(refine Cl 82 (uO (M:=MM) _ 2 2 [a,b] _ (X.out.2.2.le (by simp)) Zq.out (by simp[HO.out.1,HO.out.2.1])) ?_;rintro e w2 ⟨rfl,hb2⟩;have hb3:Below W1.heap.size W1 w2:=((Below.refl W1.heap.size W1).alloc (Nat.le_refl _) _).trans (hb2.mono (by simp));have F2:=F.out.go hb3;have dJ:=F2;obtain⟨YN,YO,ua2,ua3,YP,Td,ub2,ub3,Sr,Sv,ux2,ux3,ue0,YW,YX,ZT,ZU,YV,-,-⟩:=dJ;have G2:=Hd2 F2 hb3;clear hb2 hb3 F2)
  |fail)
 have v0:=ah c0;have v1:=ah k1;have v2:=ah k2;have v3:=ah k3;have v4:=ah k4;have v5:=ah k5;clear c0 k1 k2 k3 k4 k5;refine aP [] 16 (by kernel_rfl) (by kernel_rfl) ?_;refine ay 0 ?_;refine ay 1 ?_;refine ay 2 ?_;refine ay 3 ?_;refine ay 4 ?_;refine ay 5 ?_;refine ay 10 ?_;refine ay 11 ?_;refine ay 12 ?_;refine eU 6 fun K hK=>?_;gi_wp2;refine Cm (WG (a:=a.num*b.den) (b:=b.num*a.den) G4.out.2.1 G4.out.2.2.1.zv G4.out.2.2.2.1.zv HO.out.2.2.nd HO.out.2.2.dn) ?_;rintro e w5 ⟨u5,rfl,r_,hb5⟩;rw[nJ HO.out.2.2.ad];rw[nK HO.out.2.2.ad]at r_;obtain⟨q5,A5,n5,c5,rfl,hy5⟩:=ZC.of r_;have G5:=h_ (G4.out.1.go hb5) hy5 (G4.out.2.2.2.2.go hb5) (G4.out.2.1.le hb5.size);clear r_ hy5;refine hK _ _ ⟨?_,?_⟩;clear hK K;·exact Keeps.of_below hb5 []
 refine lit ?_;clear hb5;refine ay 7 ?_;refine ay 8 ?_;refine eU 9 fun K hK=>?_;gi_wp2;refine Cm (Ei G5.out.2.1.zv) ?_;rintro e w6 ⟨rfl,-,hb6⟩;have G6:=h_ (G5.out.1.go hb6) (G5.out.2.1.go hb6) (G5.out.2.2.1.go hb6) (G5.out.2.2.2.le hb6.size);refine hK _ _ ⟨?_,?_⟩;clear hK K;·exact Keeps.of_below hb6 []
 refine lit ?_;clear hb6;refine ay 13 ?_;refine ay 14 ?_;refine eU 15 fun K hK=>?_;gi_wp2;refine Cm (Xj (n:=a.num*b.den+b.num*a.den) (d:=a.den*b.den) G6.out.2.2.2 G6.out.2.1 G6.out.2.2.1 HO.out.2.2.ad HO.out.2.2.dd (by have:=Int.mul_pos HO.out.1.pos HO.out.2.1.pos;omega)) ?_;rintro e w7 ⟨p7,q7,A7,n7,c7,B7,m7,d7,rfl,hq7,hb7⟩;have F7:=G6.out.1.go hb7;have dJ:=F7;obtain⟨ta0,ta1,ta2,ta3,tb0,tb1,tb2,tb3,V8,V9,tx2,tx3,Xo,Oo,Oq,aa6,aa7,Zt,-,-⟩:=dJ;have G7:=Hd2 F7 hq7;clear F7 hq7;refine hK _ _ ⟨?_,?_⟩;clear hK K;·exact Keeps.of_below hb7 []
 refine lit ?_;clear hb7;refine iq 2 ?_;refine jW fun K hK K' hK'=>?_;gi_wp2;refine jW fun K hK K' hK'=>?_;gi_wp2;refine tail_nil _ ?_;simp only[cu];gi_wp2;obtain⟨wF,hwF,t0,t1,t2,t3,t5,hQ,bF⟩:=WM (M:=M) (MM:=MM) V8 V9 tx2 tx3 Xo G7.out.2.qw (fun k hk=>by rw[<-QG.out];simp[hk]) (by rw[<-QG.out];simp) (by rw[<-QG.out];simp) (by omega) G7.out.1.bl (by omega) (by omega);refine leavesIn_cons (f:=81) (args:=#[.pointer (some ⟨w.heap.size+1+1+1,0,none⟩)]) (by simp) (by simp) (by simp[go_sem]) (fun _ _=>trivial) ?_;rw[hwF];refine(kT ⟨w.heap.size+1+1+1,0,none⟩ _).mono ?_;rintro e u' w'' ⟨rfl,rfl,rfl⟩;refine⟨.tuple #[.agg #[.bool p7,.slice A7 n7 c7,.bool q7,.slice B7 m7 d7],.int .i64 0],?_,_,rfl,hQ,bF⟩;simp[results,results45,go_sem,t0,t1,t2,t3,t5]
structure FS(w W:World)(p1 q1 p2 q2:Bool)(u1 v1 u2 v2:Value):Prop where
 a0:W.cell? ⟨w.heap.size,0,none⟩=some (.bool p1)
 a1:W.cell? ⟨w.heap.size,1,none⟩=some (u1)
 a2:W.cell? ⟨w.heap.size,2,none⟩=some (.bool q1)
 a3:W.cell? ⟨w.heap.size,3,none⟩=some (v1)
 b0:W.cell? ⟨w.heap.size+1,0,none⟩=some (.bool p2)
 b1:W.cell? ⟨w.heap.size+1,1,none⟩=some (u2)
 b2:W.cell? ⟨w.heap.size+1,2,none⟩=some (.bool q2)
 b3:W.cell? ⟨w.heap.size+1,3,none⟩=some (v2)
 x0:W.cell? ⟨w.heap.size+1+1,0,none⟩=some (.bool false)
 x1:W.cell? ⟨w.heap.size+1+1,1,none⟩=some (.slice none 0 0)
 x2:W.cell? ⟨w.heap.size+1+1,2,none⟩=some (.bool false)
 x3:W.cell? ⟨w.heap.size+1+1,3,none⟩=some (.slice none 0 0)
 e0:W.cell? ⟨w.heap.size+1+1+1,0,none⟩=some (.int .i64 0)
 fb0:W.frozen? ⟨w.heap.size+1,0,none⟩=false
 fb1:W.frozen? ⟨w.heap.size+1,1,none⟩=false
 fb2:W.frozen? ⟨w.heap.size+1,2,none⟩=false
 fb3:W.frozen? ⟨w.heap.size+1,3,none⟩=false
 WR:W.frozen? ⟨w.heap.size+1+1,0,none⟩=false
 WT:W.frozen? ⟨w.heap.size+1+1,1,none⟩=false
 fx2:W.frozen? ⟨w.heap.size+1+1,2,none⟩=false
 fx3:W.frozen? ⟨w.heap.size+1+1,3,none⟩=false
 Xh:W.frozen? ⟨w.heap.size+1+1+1,0,none⟩=false
 bl:Below w.heap.size w W
 sz:w.heap.size+4<=W.heap.size
theorem FS.go{W W':World}{p1 p2:Bool}{u1 v1 u2 v2:Value}(h:FS w W p1 q1 p2 q2 u1 v1 u2 v2)(hb:Below W.heap.size W W'):FS w W' p1 q1 p2 q2 u1 v1 u2 v2:=by have hs:=h.sz;have c:∀(k o:Nat) (u:Value),k<w.heap.size+4->W.cell? ⟨k,o,none⟩=some u->W'.cell? ⟨k,o,none⟩=some u:=fun k o u hk hu=>(hb.cell (p:=⟨k,o,none⟩) (show k<_ by omega)).trans hu;have f:∀(k o:Nat),k<w.heap.size+4->W.frozen? ⟨k,o,none⟩=false->W'.frozen? ⟨k,o,none⟩=false:=fun k o hk hu=>(hb.frozen (p:=⟨k,o,none⟩) (show k<_ by omega)).trans hu;exact⟨c _ _ _ (by omega) h.a0,c _ _ _ (by omega) h.a1,c _ _ _ (by omega) h.a2,c _ _ _ (by omega) h.a3,c _ _ _ (by omega) h.b0,c _ _ _ (by omega) h.b1,c _ _ _ (by omega) h.b2,c _ _ _ (by omega) h.b3,c _ _ _ (by omega) h.x0,c _ _ _ (by omega) h.x1,c _ _ _ (by omega) h.x2,c _ _ _ (by omega) h.x3,c _ _ _ (by omega) h.e0,f _ _ (by omega) h.fb0,f _ _ (by omega) h.fb1,f _ _ (by omega) h.fb2,f _ _ (by omega) h.fb3,f _ _ (by omega) h.WR,f _ _ (by omega) h.WT,f _ _ (by omega) h.fx2,f _ _ (by omega) h.fx3,f _ _ (by omega) h.Xh,h.bl.trans (hb.mono h.bl.size),by have:=hb.size;omega⟩
theorem FS.start(w:World)(p1 q1 p2 q2:Bool)(u1 v1 u2 v2:Value):FS w (((((w).alloc (.cells #[.bool p1,u1,.bool q1,v1] 30)).alloc (.cells #[.bool p2,u2,.bool q2,v2] 30)).alloc (.cells #[.bool false,.slice none 0 0,.bool false,.slice none 0 0] 30)).alloc (.cells #[.int .i64 0] 31)) p1 q1 p2 q2 u1 v1 u2 v2:=by exact adB
theorem FS.drew{w W:World}{p1 q1 p2 q2:Bool}{u1 v1 u2 v2:Value}(h:FS w W p1 q1 p2 q2 u1 v1 u2 v2):FS w W.drew p1 q1 p2 q2 u1 v1 u2 v2:=⟨h.a0,h.a1,h.a2,h.a3,h.b0,h.b1,h.b2,h.b3,h.x0,h.x1,h.x2,h.x3,h.e0,h.fb0,h.fb1,h.fb2,h.fb3,h.WR,h.WT,h.fx2,h.fx3,h.Xh,h.bl.drew,h.sz⟩
theorem Xl(hM:b_ M w)(ha:QW w M va a)(hb:QW w M vb b)(oa:a.ok)(ob:b.ok)(hf:Fine a b):
 Calls prog 47 #[va,vb] w (QR w M (OG a b)):=by
 refine wid ?_;rw[VT];obtain⟨p1,q1,A1,n1,c1,B1,m1,d1,rfl,qa⟩:=QC.of ha;obtain⟨p2,q2,A2,n2,c2,B2,m2,d2,rfl,qb⟩:=QC.of hb;obtain⟨W1,hW1⟩:=aC (((((w).alloc (.cells #[.bool p1,.slice A1 n1 c1,.bool q1,.slice B1 m1 d1] 30)).alloc (.cells #[.bool p2,.slice A2 n2 c2,.bool q2,.slice B2 m2 d2] 30)).alloc (.cells #[.bool false,.slice none 0 0,.bool false,.slice none 0 0] 30)).alloc (.cells #[.int .i64 0] 31));have F1:FS w W1 p1 q1 p2 q2 (.slice A1 n1 c1) (.slice B1 m1 d1) (.slice A2 n2 c2) (.slice B2 m2 d2):=by rw[<-hW1];exact FS.start w _ _ _ _ _ _ _ _
 obtain⟨MM,MX⟩:=aC ((w.heap.size+1)::(w.heap.size+1+1)::(w.heap.size+1+1+1)::M);have ha2:QC W1 MM a p1 q1 A1 n1 c1 B1 m1 d1:=by rw[<-MX];exact(((qa.more (b:=w.heap.size+1+1+1) (by omega)).more (b:=w.heap.size+1+1) (by omega)).more (b:=w.heap.size+1) (by omega)).go F1.bl
 have hb2:QC W1 MM b p2 q2 A2 n2 c2 B2 m2 d2:=by rw[<-MX];exact(((qb.more (b:=w.heap.size+1+1+1) (by omega)).more (b:=w.heap.size+1+1) (by omega)).more (b:=w.heap.size+1) (by omega)).go F1.bl
 have hM2:b_ MM W1:=by rw[<-MX];exact(((hM.le F1.bl.size).cons (by have:=F1.sz;omega)).cons (by have:=F1.sz;omega)).cons (by have:=F1.sz;omega)
 have SV:=Sl.YU hM2 ha2 hb2;have X:=fB ha2 hb2 hM2;have Zq:=Hd SV;have HO:=fB oa ob hf;have QG:=Hd MX;have HL:=Hd (JA (z:=b.num) (n:=n2) qb.num.sl.eu);have hp2:=qb.num.neg;have F:=Hd F1;have dJ:=F1;obtain⟨T_,Ua,ea2,ea3,Ub,Uc,eb2,eb3,Zj,Zk,ex2,ex3,ee0,acH,acI,acJ,acK,EN,EO,aa4,aa5,Zr,-,-⟩:=dJ;clear ha hb qa qb ha2 hb2 hM hM2 SV oa ob hf MX;obtain⟨P,hP⟩:=aC (aG (-b.num));have HP:=Hd hP;have hPv:P=(!p2&&decide (0<n2)):=by rw[<-hP,HL.out,hp2]
 clear hP hp2;cases p2<;>by_cases hn2:0<n2
 all_goals(
 obtain⟨P',hP'⟩:∃P',P'=P:=⟨_,rfl⟩;have Yg:=Hd hP';clear hP';simp only[hn2,decide_true,decide_false,Bool.not_true,Bool.not_false,Bool.and_true,Bool.and_false]at hPv;subst hPv;refine qj func47 rfl ntmps47 ?_
 gi_wp2_with (first
  |(refine⟨trivial,?_⟩;gi_at_call 45;have g:=G2.out;clear g;have H2:=G2.out.1;have F3:FS w (w2.setCell ⟨w.heap.size+1,0,none⟩ (.bool P')) p1 q1 P' q2 (.slice A1 n1 c1) (.slice B1 m1 d1) (.slice A2 n2 c2) (.slice B2 m2 d2):=by
     constructor
     all_goals first
      |(simp[go_sem,YN,YO,ua2,ua3,YP,Td,ub2,ub3,Sr,Sv,ux2,ux3,ue0,YW,YX,ZT,ZU,YV,ab1,ab2,ab3,ab4];done)
      |exact H2.bl.setCell (p:=⟨w.heap.size+1,0,none⟩) (by simp) _
      |(simp;exact H2.sz)
    have kp:Keeps MM w2 (w2.setCell ⟨w.heap.size+1,0,none⟩ (.bool P')):=(Keeps.refl _ _).setCell (p:=⟨w.heap.size+1,0,none⟩) (.inl (by rw[<-QG.out];simp)) _;have za:=X.out.1.go G2.out.2;have zb:=X.out.2.1.go G2.out.2;have za3:QC (w2.setCell ⟨w.heap.size+1,0,none⟩ (.bool P')) MM a p1 q1 A1 n1 c1 B1 m1 d1:=⟨⟨za.num.neg,za.num.sl.keep kp⟩,⟨za.den.neg,za.den.sl.keep kp⟩⟩;have zb3:QC (w2.setCell ⟨w.heap.size+1,0,none⟩ (.bool P')) MM (negR b) P' q2 A2 n2 c2 B2 m2 d2:=⟨⟨HP.out.trans Yg.out.symm,by show Sl Int _ MM A2 n2 c2 (ints (bG (-b.num)));rw[tN];exact zb.num.sl.keep kp⟩,⟨zb.den.neg,zb.den.sl.keep kp⟩⟩;rw[Yg.out]at F3 za3 zb3;refine Cn (MZ (M:=MM) (a:=a) (b:=negR b) ((X.out.2.2.le G2.out.2.size).le (by simp)) za3.qw zb3.qw HO.out.1 (VP HO.out.2.1) HO.out.2.2.neg) ?_;rintro e w7 ⟨u7,rfl,hq7,hb7⟩;obtain⟨p7,q7,A7,n7,c7,B7,m7,d7,rfl,aa8⟩:=QC.of hq7;have F7:=F3.go hb7;have dJ:=F7;obtain⟨ta0,ta1,ta2,ta3,tb0,tb1,tb2,tb3,V8,V9,tx2,tx3,Xo,acL,acM,acN,acO,Oo,Oq,aa6,aa7,Zt,-,-⟩:=dJ;have G7:=Hd2 F7 aa8;clear F7 hq7 aa8 hb7 F3 za zb za3 zb3 kp H2)
  |(refine Cl 82 (uO (M:=MM) _ 2 2 [a,b] _ (X.out.2.2.le (by simp)) Zq.out (by simp[HO.out.1,HO.out.2.1])) ?_;rintro e w2 ⟨rfl,hb2⟩;have hb3:Below W1.heap.size W1 w2:=((Below.refl W1.heap.size W1).alloc (Nat.le_refl _) _).trans (hb2.mono (by simp));have F2:=F.out.go hb3;have dJ:=F2;obtain⟨YN,YO,ua2,ua3,YP,Td,ub2,ub3,Sr,Sv,ux2,ux3,ue0,ab1,ab2,ab3,ab4,YW,YX,ZT,ZU,YV,-,-⟩:=dJ;have G2:=Hd2 F2 hb3;clear hb2 hb3 F2)
  |fail)
 obtain⟨wF,hwF,t0,t1,t2,t3,t5,hQ,bF⟩:=WM (M:=M) (MM:=MM) V8 V9 tx2 tx3 Xo G7.out.2.qw (fun k hk=>by rw[<-QG.out];simp[hk]) (by rw[<-QG.out];simp) (by rw[<-QG.out];simp) (by omega) G7.out.1.bl (by omega) (by omega);refine leavesIn_cons (f:=81) (args:=#[.pointer (some ⟨w.heap.size+1+1+1,0,none⟩)]) (by simp) (by simp) (by simp[go_sem]) (fun _ _=>trivial) ?_;rw[hwF];refine(kT ⟨w.heap.size+1+1+1,0,none⟩ _).mono ?_;rintro e u' w'' ⟨rfl,rfl,rfl⟩;refine⟨.tuple #[.agg #[.bool p7,.slice A7 n7 c7,.bool q7,.slice B7 m7 d7],.int .i64 0],?_,_,rfl,hQ,bF⟩;simp[results,results47,go_sem,t0,t1,t2,t3,t5])
end
end Go.Proofs.YtefnknhjlejalaaGreatDoor
