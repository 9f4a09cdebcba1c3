/- Lemmas -/
import Derived.Test.YtfdmnogfflcllaaGreatDoorM11
set_option linter.all false
set_option maxRecDepth 100000
set_option maxHeartbeats 0
namespace Go.Proofs.YtfdmnogfflcllaaGreatDoor
open Go.Proofs.Tryz
theorem akD{p:Prop}(h:p:=by
 gi_wp2_with (gi_at_builtin;refine c_ rfl fun K C=>?_;refine aI _ _ _ rfl rfl rfl E.out (C _ _ ?_);clear C K)
 exact⟨⟨k+1,rq,_,pj,rfl,f.c,f.a,f.b,pj,t.a,t.b,t.c,t.w⟩,by have:=f.w;simp[intOf];omega⟩):p:=h
theorem zn{p:Prop}(h:p:=by
 have e3:(r:Int)%1073741824=((r%BB:Nat):Int):=rfl;have e4:(r:Int)/1073741824=((r/BB:Nat):Int):=rfl;have S:=(o.cell (p:=⟨w,0,none⟩) (e_ _)).trans G;have V:=(o.cell (p:=⟨w,1,none⟩) (e_ _)).trans c1;have X:=(o.frozen (p:=⟨w,0,none⟩) (e_ _)).trans f0;have Z:=(o.frozen (p:=⟨w,1,none⟩) (e_ _)).trans f1;have t:=h_ S V X Z;clear S V X Z G c1 f0 f1;clear D T o ae g F ab;obtain⟨rm,ac⟩:=aC (r%BB);obtain⟨rq,ad⟩:=aC (r/BB);rw[ac]at E f e1 e3 t1 ah;rw[ad]at f e2 e4 t2 yK;clear ac ad;rcases eC rm with rfl|ak;·rw[show((0:Nat):Int)=0 from rfl]at E;exact akD
 have al:¬rm=0:=pj;exact akD):p:=h
theorem zL{p:Prop}(h:p:=by
 refine ent func63 ntmps63 ?_
 gi_wp2_with (first
  |(refine⟨bO,?_⟩;gi_at_call 113;have g:=C.out;clear g;refine Cn (zD _ B m d _ ac.out) ?_;rintro e w4 ⟨rfl,hb4⟩;rw[V.out];have F4:=C.a.go hb4;have o0:=F4.a0;have o1:=F4.a1;have o2:=F4.a2;have o3:=F4.a3;have D:=Hd2 F4 hb4;clear F4 hb4)
  |(refine⟨bO,?_⟩;gi_at_call 112;have g:=t.out;clear g;refine Cn (fZ B m d _ l2 _ ((X.b.go F.out.bl).go t.out.2)) ?_;rintro e w3 ⟨rfl,u⟩;rw[EX.out];have F3:=t.out.1.go u;have y0:=F3.a0;have y1:=F3.a1;have y2:=F3.a2;have y3:=F3.a3;have C:=Hd2 F3 u;clear u F3)
  |(refine Cl 112 (fZ A n c p l1 _ (X.a.go F.out.bl)) ?_;rintro e w2 ⟨rfl,o⟩;rw[H.out];have f:=F.out.go o;have u0:=f.a0;have u1:=f.a1;have u2:=f.a2;have u3:=f.a3;have t:=Hd2 f o;clear f o)
  |(refine⟨bO,?_⟩))
 go_ret;exact⟨by rw[E.out];rfl,D.a.bl⟩):p:=h
theorem AV{p:Prop}(h:p:=by
 clear t C;rw[E.out];refine ent func115 ntmps115 ?_
 gi_wp2_with (first
  |(refine Cl 156 (two_any (a:=a) (b:=b) (M:=M) ⟨A,n,c,by rw[HN.a],X.a⟩ ⟨B,m,d,by rw[HN.u],X.b⟩ HF.a HF.u) ?_;rintro e P ⟨rfl,g⟩;have f:=F.out.go g;have D:=f;obtain⟨J,K,L,I,-,-⟩:=D;have o:=Hd2 f g;clear g f)
  |(refine⟨bO,?_⟩))
 first
  |exact⟨rfl,o.out.1.bl⟩
  |(go_ret2;exact⟨rfl,o.out.1.bl⟩)):p:=h
theorem AY{p:Prop}(h:p:=by have E:=Hd t.out.1;have c3:=c2;refine eS (f:=96) (args:=#[.pointer (some ⟨w+1+1,0,none⟩)]) po po pB (fun _ _=>bO) ?_;refine(iJ ⟨w+1+1,0,none⟩ _).mono ?_;rintro e L P ⟨rfl,rfl,rfl⟩;have T:=cZ (u:=.int .i64 0) c3;refine⟨.tuple #[.int .i64 (tV a b),.int .i64 0],?_,rfl,E.out.bl.setCell (p:=⟨w+1+1,0,none⟩) px _⟩;rw[G.out];simp[results,results49,go_sem,c3]):p:=h
theorem Ba{p:Prop}(h:p:=by have E:=D;refine eS (f:=96) (args:=#[.pointer (some ⟨w+1+1,0,none⟩)]) po po pB (fun _ _=>bO) ?_;refine(iJ ⟨w+1+1,0,none⟩ _).mono ?_;rintro e L P ⟨rfl,rfl,rfl⟩;have T:=cZ (u:=.int .i64 0) c3;refine⟨.tuple #[.int .i64 (tV a b),.int .i64 0],?_,rfl,E.out.bl.setCell (p:=⟨w+1+1,0,none⟩) px _⟩;simp[results,results49,go_sem,c3]):p:=h
theorem DV{p:Prop}(h:p:=by constructor<;>first|(simp[go_sem];done)|(simp;done)|exact bel):p:=h
theorem QM{p:Prop}(h:p:=by cases f;exact⟨_,oI h1.neg h1.sl,fun j u e=>by match j,e with|0,e=>exact e|1,e=>exact e⟩):p:=h
theorem QV{p:Prop}(h:p:=by cases f;exact⟨_,oI h2.neg h2.sl,fun j u e=>by match j,e with|0,e=>exact e|1,e=>exact e⟩):p:=h
theorem SL{p:Prop}(h:p:=by cases f;exact⟨_,oI h3.neg h3.sl,fun j u e=>by match j,e with|0,e=>exact e|1,e=>exact e⟩):p:=h
theorem TD{p:Prop}(h:p:=by cases f;exact⟨_,oI h4.neg h4.sl,fun j u e=>by match j,e with|0,e=>exact e|1,e=>exact e⟩):p:=h
theorem TR{p:Prop}(h:p:=by
 match j,e with
 |0,e=>exact e
 |1,e=>exact e
 |2,e=>exact e
 |3,e=>exact e):p:=h
theorem VA{p:Prop}(h:p:=by exact((hM.le F1.bl.size).cons (by have:=F1.sz;omega)).cons (by have:=F1.sz;omega)):p:=h
theorem XB{p:Prop}(h:p:=by
 first
  |exact⟨rfl,G.out.bl⟩
  |(go_ret2;exact⟨rfl,G.out.bl⟩)):p:=h
theorem Y0{p:Prop}(h:p:=by exact((qb.more (b:=w+1+1+1) pj).more (b:=w+1+1) pj).go F1.bl):p:=h
theorem Y1{p:Prop}(h:p:=by exact((qa.more (b:=w+1+1+1) pj).more (b:=w+1+1) pj).go F1.bl):p:=h
theorem akz{p:Prop}(h:p:=by
 rcases cD.1 J with rfl|J;·omega
 have:=P.b j J;omega):p:=h
variable {z y z1 z2 z3 z4:Int}{k i j s n m base nr cr n1 c1 m1 d1 n2 c2 m2 d2 n3 c3 n4 c4:Nat}{v1 v2 va vb u1 v u2:Value}{W W':World}{na nb q p1 q1 p2 q2 q3 q4 p:Bool}{A B O A1 B1 A2 B2 A3 A4:Option Addr}{l N:List Nat}{x:fC}
def Js(a b:Rt):Rt:=eP (a.num*b.den+b.num*a.den) (a.den*b.den)
def OG(a b:Rt):Rt:=eP (a.num*b.den-b.num*a.den) (a.den*b.den)
def VQ(a b:Rt):Rt:=eP (a.num*b.num) (a.den*b.den)
def rW(a b:Rt):Int:=if a.num*b.den<b.num*a.den then-1 else if b.num*a.den<a.num*b.den then 1 else 0
theorem zy{a b:Nat}(h:a<=b):BB^a<=BB^b:=iH eX h
theorem pF(h:z.natAbs<BB^k)(hk:k<=2048):fits z=true:=cx (cF ((lY _ k).1 h) hk)
def Qx:Nat:=1000
structure Sh(x:Rt):Prop where
 num:x.num.natAbs<BB^Qx
 den:x.den.natAbs<BB^Qx
theorem dL{a b:Int}(ha:a.natAbs<BB^i)(hb:b.natAbs<BB^j):(a*b).natAbs<BB^(i+j):=by rw[Int.natAbs_mul,Nat.pow_add];exact Nat.mul_lt_mul'' ha hb
theorem vZ{a b:Int}(ha:a.natAbs<BB^i)(hb:b.natAbs<BB^i):(a+b).natAbs<BB^(i+1):=by have f:=Int.natAbs_add_le a b;have e:=rE;rw[lR];have g:BB^i*2<=BB^i*BB:=mK _ e;omega
theorem DU{a b:Int}(ha:a.natAbs<BB^i)(hb:b.natAbs<BB^i):(a-b).natAbs<BB^(i+1):=by rw[Int.sub_eq_add_neg];exact vZ ha (by rwa [Int.natAbs_neg])
structure Fine(a b:Rt):Prop where
 nd:fits (a.num*b.den)=true
 dn:fits (b.num*a.den)=true
 dd:fits (a.den*b.den)=true
 nn:fits (a.num*b.num)=true
 ad:fits (a.num*b.den+b.num*a.den)=true
 sb:fits (a.num*b.den-b.num*a.den)=true
theorem Sh.fine{a b:Rt}(ha:Sh a)(hb:Sh b):Fine a b:=⟨pF (dL ha.num hb.den) (by unfold Qx;omega),pF (dL hb.num ha.den) (by unfold Qx;omega),pF (dL ha.den hb.den) (by unfold Qx;omega),pF (dL ha.num hb.num) (by unfold Qx;omega),pF (vZ (dL ha.num hb.den) (dL hb.num ha.den)) (by unfold Qx;omega),pF (DU (dL ha.num hb.den) (dL hb.num ha.den)) (by unfold Qx;omega)⟩
theorem VT(a b:Rt):OG a b=Js a (negR b):=by unfold OG Js negR;simp only[Int.neg_mul,Int.sub_eq_add_neg]
theorem Fine.neg{a b:Rt}(h:Fine a b):Fine a (negR b):=by
 have H:(negR b).num= -b.num:=rfl;have e:(negR b).den=b.den:=rfl;refine⟨h.nd,?_,h.dd,?_,?_,?_⟩;·rw[H,Int.neg_mul];exact DN h.dn
 ·rw[H,Int.mul_neg];exact DN h.nn
 ·rw[H,e,Int.neg_mul,<-Int.sub_eq_add_neg];exact h.sb
 rw[H,e,Int.neg_mul,Int.sub_neg];exact h.ad
theorem aaC(a b:Rt):rW b a= -rW a b:=by
 unfold rW;generalize a.num*b.den=x;generalize b.num*a.den=y
 repeat' split
 all_goals omega
theorem abh(a:Rt):rW a a=0:=by simp[rW]
theorem adV(a b:Rt):rW a b= -1\/rW a b=0\/rW a b=1:=by
 unfold rW
 repeat' split
 all_goals simp
structure Bd(D A:Nat)(x:Rt):Prop where
 ok:x.ok
 dv:x.den∣(D:Int)
 le:x.num.natAbs<=A*x.den.natAbs
section
open Go.RowKit Go.Shelf
attribute [local go_sem] cX
theorem two_any{M:List Nat}{a b:Int}{w:World}(ha:ZV w M v1 a)(hb:ZV w M v2 b)(fa:fits a=true)(fb:fits b=true):
 CB 156 #[v1,v2] (.int .i64 0) w:=by
 refine wid ?_;obtain⟨A,C,c1,rfl,hx⟩:=ha;obtain⟨B,D,c2,rfl,J⟩:=hb;have L:=Hd (show rJ (gZ (aG a,ints (bG a)))=0 by rw[show(aG a,ints (bG a))=jk a from rfl,j_ a fa];rfl);have EX:=Hd (show rJ (gZ (aG b,ints (bG b)))=0 by rw[show(aG b,ints (bG b))=jk b from rfl,j_ b fb];rfl);have X:=Hd2 hx J;generalize aG a=q1 at*
 generalize aG b=q2 at*
 obtain⟨W1,f⟩:=aC ((w.alloc (.cells #[q1,.slice A C c1] 46)).alloc (.cells #[q2,.slice B D c2] 46));have b1:Below w w W1:=by rw[<-f];exact bel
 have K:w.heap.size+1<W1.heap.size:=by rw[<-f];simp
 have Q:W1.cell? ⟨w,0,none⟩=some (.bool q1):=by rw[<-f];simp[go_sem]
 have R:W1.cell? ⟨w,1,none⟩=some (.slice A C c1):=by rw[<-f];simp[go_sem]
 have E:W1.cell? ⟨w+1,0,none⟩=some (.bool q2):=by rw[<-f];simp[go_sem]
 have G:W1.cell? ⟨w+1,1,none⟩=some (.slice B D c2):=by rw[<-f];simp[go_sem]
 have F:=h_ b1 K E G;clear hx J fa fb b1 K E G;refine ent func156 ntmps156 ?_
 gi_wp2_with (first
  |(refine⟨bO,?_⟩;gi_at_call 112;have g:=t.out;clear g;refine Cn (fZ B D c2 _ (ints (bG b)) _ ((X.u.go F.a).go t.out)) ?_;rintro e V ⟨rfl,I⟩;rw[EX.out];have P:=Hd I;clear I)
  |(refine Cl 112 (fZ A C c1 _ (ints (bG a)) _ (X.a.go F.a)) ?_;rintro e T ⟨rfl,o⟩;rw[L.out];have u2:=(o.cell (p:=⟨w+1,0,none⟩) F.b).trans F.c;have S:=(o.cell (p:=⟨w+1,1,none⟩) F.b).trans F.w;have t:=Hd o;clear o)
  |fail)
 go_ret;have H:=F.a.trans (t.out.mono F.a.size);exact⟨rfl,H.trans (P.out.mono H.size)⟩
def tV(a b:Int):Int:=if a<b then-1 else if b<a then 1 else 0
theorem Md{a b:Int}(ha:aG a=true)(hb:aG b=true):qK b.natAbs a.natAbs=tV a b:=by
 have e:=cW ha;have f:=cW hb;unfold qK tV
 repeat' split
 all_goals omega
theorem Me{a b:Int}(ha:aG a=false)(hb:aG b=false):qK a.natAbs b.natAbs=tV a b:=by
 have e:=gp ha;have f:=gp hb;unfold qK tV
 repeat' split
 all_goals omega
theorem Ii{a b:Int}(ha:aG a=true)(hb:aG b=false):tV a b= -1:=by have e:=cW ha;have f:=gp hb;unfold tV;rw[if_pos pj]
theorem Eo{a b:Int}(ha:aG a=false)(hb:aG b=true):tV a b=1:=by have e:=gp ha;have f:=cW hb;unfold tV;rw[if_neg pj,if_pos pj]
structure F3(w W:World)(na nb:Bool)(va vb:Value):Prop where
 a0:W.cell? ⟨w,0,none⟩=some (.bool na)
 a1:W.cell? ⟨w,1,none⟩=some va
 b0:W.cell? ⟨w+1,0,none⟩=some (.bool nb)
 b1:W.cell? ⟨w+1,1,none⟩=some vb
 e0:W.cell? ⟨w+1+1,0,none⟩=some (.int .i64 0)
 fe:W.frozen? ⟨w+1+1,0,none⟩=false
 bl:Below w w W
 sz:w.heap.size+3<=W.heap.size
theorem F3.go{w:World}(h:F3 w W na nb va vb)(hb:Below W W W'):F3 w W' na nb va vb:=by have hs:=h.sz;have c:∀(k o:Nat) (u:Value),k<w.heap.size+3->W.cell? ⟨k,o,none⟩=some u->W'.cell? ⟨k,o,none⟩=some u:=fun k o u g e=>(hb.cell (p:=⟨k,o,none⟩) (show k<_ by omega)).trans e;have f:∀(k o:Nat),k<w.heap.size+3->W.frozen? ⟨k,o,none⟩=false->W'.frozen? ⟨k,o,none⟩=false:=fun k o g e=>(hb.frozen (p:=⟨k,o,none⟩) (show k<_ by omega)).trans e;exact⟨c _ _ _ pj h.a0,c _ _ _ pj h.a1,c _ _ _ pj h.b0,c _ _ _ pj h.b1,c _ _ _ pj h.e0,f _ _ pj h.fe,h.bl.trans (hb.mono h.bl.size),by have:=hb.size;omega⟩
theorem F3.start(w:World)(na nb:Bool)(va vb:Value)(ha:va.cells=#[va])(hb:vb.cells=#[vb]):
 F3 w (((w.alloc (.cells #[na,va] 46)).alloc (.cells #[nb,vb] 46)).alloc (.cells #[.int .i64 0] 32)) na nb va vb:=
 ⟨pB,pB,pB,pB,pB,pB,by exact bel,po⟩
def CR(w:World)(z:Int)(e:Ending)(w':World):Prop:=e=.returned (.tuple #[z,.int .i64 0])/\Below w w w'
theorem WQ{M:List Nat}{a b:Int}{w:World}(hM:b_ M w)(ha:ZV w M va a)(hb:ZV w M vb b)(fa:fits a=true)(fb:fits b=true):
 Calls prog 49 #[va,vb] w (CR w (tV a b)):=by
 refine wid ?_;obtain⟨A,n,c,rfl,hx⟩:=ha;obtain⟨B,m,d,rfl,S⟩:=hb;obtain⟨W1,Y⟩:=aC (((w.alloc (.cells #[.bool (aG a),.slice A n c] 46)).alloc (.cells #[.bool (aG b),.slice B m d] 46)).alloc (.cells #[.int .i64 0] 32));have F1:F3 w W1 (aG a) (aG b) (.slice A n c) (.slice B m d):=by rw[<-Y];exact F3.start w _ _ _ _ rfl rfl
 have J:=hx.keep (bq F1.bl _);have K:=S.keep (bq F1.bl _);have Q:=Sl.QF (na:=aG a) (nb:=aG b) (hM.le F1.bl.size) J K;have X:=Hd2 J K;have F:=Hd F1;have HF:=Hd2 fa fb;have e0:=F1.a0;have e1:=F1.a1;have e2:=F1.b0;have e3:=F1.b1;have I:=Hd (show Sl lG _ M (some ⟨W1,0,none⟩) 2 2 ([a,b].map jk)from Q);clear hx S hM J K F1 fa fb Q;have R:∀na nb,aG a=na->aG b=nb->Sl lG (W1.alloc (.cells #[na,.slice A n c,nb,.slice B m d] 46)) M (some ⟨W1,0,none⟩) 2 2 ([a,b].map jk):=by rintro na nb rfl rfl;exact I.out
 generalize hna:aG a=na at*
 generalize hnb:aG b=nb at*
 replace I:=Hd (R na nb rfl rfl);clear R;cases na<;>cases nb
 case true.true=>
  have G:=Hd (Md hna hnb);clear hna hnb;refine qj func49 rfl ntmps49 ?_
  gi_wp2_with (first
   |(refine Cl 98 (jo B A m d n c b.natAbs a.natAbs _ (X.u.go t.out.2) (X.a.go t.out.2)) ?_;rintro e Z ⟨rfl,o⟩;rw[G.out];have D:=Hd (t.out.1.go o);have c3:=D.out.e0;have V:=D.out.fe;clear o)
   |(refine Cl 97 (iR _ 2 2 [a,b] _ I.out (by simp[HF.a,HF.u])) ?_;rintro e H ⟨rfl,C⟩;have o:Below W1 W1 H:=((bL W1 W1).alloc pD (.cells #[true,.slice A n c,true,.slice B m d] 46)).trans (C.mono po);have g:=F.out.go o;have v0:=g.a0;have v1:=g.a1;have v2:=g.b0;have v3:=g.b1;have c2:=g.e0;have d2:=g.fe;have t:=Hd2 g o;clear C o g)
   |fail)
  exact Ba
 case true.false=>
  have G:=Hd (Ii hna hnb);clear hna hnb;refine qj func49 rfl ntmps49 ?_
  gi_wp2_with (first
   |(refine Cl 97 (iR _ 2 2 [a,b] _ I.out (by simp[HF.a,HF.u])) ?_;rintro e H ⟨rfl,C⟩;have o:Below W1 W1 H:=((bL W1 W1).alloc pD (.cells #[true,.slice A n c,false,.slice B m d] 46)).trans (C.mono po);have g:=F.out.go o;have v0:=g.a0;have v1:=g.a1;have v2:=g.b0;have v3:=g.b1;have c2:=g.e0;have d2:=g.fe;have t:=Hd2 g o;clear C o g)
   |(refine⟨bO,?_⟩))
  exact AY
 case false.true=>
  have G:=Hd (Eo hna hnb);clear hna hnb;refine qj func49 rfl ntmps49 ?_
  gi_wp2_with (first
   |(refine Cl 97 (iR _ 2 2 [a,b] _ I.out (by simp[HF.a,HF.u])) ?_;rintro e H ⟨rfl,C⟩;have o:Below W1 W1 H:=((bL W1 W1).alloc pD (.cells #[false,.slice A n c,true,.slice B m d] 46)).trans (C.mono po);have g:=F.out.go o;have v0:=g.a0;have v1:=g.a1;have v2:=g.b0;have v3:=g.b1;have c2:=g.e0;have d2:=g.fe;have t:=Hd2 g o;clear C o g)
   |(refine⟨bO,?_⟩))
  exact AY
 case false.false=>
  have G:=Hd (Me hna hnb);clear hna hnb;refine qj func49 rfl ntmps49 ?_
  gi_wp2_with (first
   |(refine Cl 98 (jo A B n c m d a.natAbs b.natAbs _ (X.a.go t.out.2) (X.u.go t.out.2)) ?_;rintro e Z ⟨rfl,o⟩;rw[G.out];have D:=Hd (t.out.1.go o);have c3:=D.out.e0;have V:=D.out.fe;clear o)
   |(refine Cl 97 (iR _ 2 2 [a,b] _ I.out (by simp[HF.a,HF.u])) ?_;rintro e H ⟨rfl,C⟩;have o:Below W1 W1 H:=((bL W1 W1).alloc pD (.cells #[false,.slice A n c,false,.slice B m d] 46)).trans (C.mono po);have g:=F.out.go o;have v0:=g.a0;have v1:=g.a1;have v2:=g.b0;have v3:=g.b1;have c2:=g.e0;have d2:=g.fe;have t:=Hd2 g o;clear C o g)
   |fail)
  exact Ba
structure FZ(w W:World)(na nb:Bool)(va vb:Value):Prop where
 a0:W.cell? ⟨w,0,none⟩=some (.bool na)
 a1:W.cell? ⟨w,1,none⟩=some (va)
 b0:W.cell? ⟨w+1,0,none⟩=some (.bool nb)
 b1:W.cell? ⟨w+1,1,none⟩=some (vb)
 x0:W.cell? ⟨w+1+1,0,none⟩=some (.bool false)
 x1:W.cell? ⟨w+1+1,1,none⟩=some (.slice none 0 0)
 WR:W.frozen? ⟨w+1+1,0,none⟩=false
 WT:W.frozen? ⟨w+1+1,1,none⟩=false
 bl:Below w w W
 sz:w.heap.size+3<=W.heap.size
theorem FZ.go{w:World}(h:FZ w W na nb va vb)(hb:Below W W W'):FZ w W' na nb va vb:=by have hs:=h.sz;have c:∀(k o:Nat) (u:Value),k<w.heap.size+3->W.cell? ⟨k,o,none⟩=some u->W'.cell? ⟨k,o,none⟩=some u:=fun k o u g e=>(hb.cell (p:=⟨k,o,none⟩) (show k<_ by omega)).trans e;have f:∀(k o:Nat),k<w.heap.size+3->W.frozen? ⟨k,o,none⟩=false->W'.frozen? ⟨k,o,none⟩=false:=fun k o g e=>(hb.frozen (p:=⟨k,o,none⟩) (show k<_ by omega)).trans e;exact⟨c _ _ _ pj h.a0,c _ _ _ pj h.a1,c _ _ _ pj h.b0,c _ _ _ pj h.b1,c _ _ _ pj h.x0,c _ _ _ pj h.x1,f _ _ pj h.WR,f _ _ pj h.WT,h.bl.trans (hb.mono h.bl.size),by have:=hb.size;omega⟩
theorem FZ.start(w:World)(na nb:Bool)(va vb:Value):FZ w ((((w).alloc (.cells #[na,va] 46)).alloc (.cells #[nb,vb] 46)).alloc (.cells #[false,.slice none 0 0] 46)) na nb va vb:=by exact DV
def ZQ(w:World)(M:List Nat)(z:Int)(e:Ending)(w':World):Prop:=∃u,e=.returned (.tuple #[u,.int .i64 0])/\ZV w' M u z/\Below w w w'
theorem fin2{w V:World}{M:List Nat}{b:Nat}{c:Nat}{u0:Value}(h0:V.cell? ⟨b,0,none⟩=some u0)(h1:V.cell? ⟨b,1,none⟩=some u1)
 (hz:ZV V (b::M) (.agg #[q,.slice A n c]) z) (hb:Below s w V) (hsb:s<=b):
 ∃wF,(V.setCell ⟨b,0,none⟩ q).setCell ⟨b,1,none⟩ (.slice A n c)=wF/\wF.cell? ⟨b,0,none⟩=some (.bool q)/\wF.cell? ⟨b,1,none⟩=some (.slice A n c)/\ZV wF M (.agg #[q,.slice A n c]) z/\Below s w wF:=by
 have t:=((cG (b::M) V).setCell (p:=⟨b,0,none⟩) (.inl po) q).setCell (p:=⟨b,1,none⟩) (.inl po) (.slice A n c);refine⟨_,rfl,by simp[go_sem,h0,h1],by simp[go_sem,h0,h1],?_,(hb.setCell (p:=⟨b,0,none⟩) hsb _).setCell (p:=⟨b,1,none⟩) hsb _⟩;obtain⟨f,n',g,e,hs⟩:=hz;exact⟨f,n',g,e,(hs.keep t).less (fun k o=>bE _ o)⟩
theorem ain{M:List Nat}{c v:Nat}{neg:Bool}{w:World}(hM:b_ M w)(hx:Sl Int w M A n c (ints l))(hg:Good l)(hv:val l=v)(hz:gJ neg v=z)(hf:fits z=true):
 Calls prog 158 #[neg,.slice A n c] w fun e w'=>∃q A' n' c',e=.returned (.tuple #[.agg #[.bool q,.slice A' n' c'],.int .i64 0])/\ZV w' M (.agg #[.bool q,.slice A' n' c']) z/\Below w w w':=by
 subst hz;refine(agX hM hx hg hv).mono ?_;rintro e w' ⟨u,rfl,hz,hb⟩;rw[nJ hf];rw[nK hf]at hz;obtain⟨A',n',c',rfl,h⟩:=hz;exact⟨_,A',n',c',rfl,⟨A',n',c',rfl,h⟩,hb⟩
theorem FZ.begin{w:World}{M:List Nat}(hM:b_ M w){c d:Nat}{a b:Int}(hx:Sl Int w M A n c (ints (bG a)))(hy:Sl Int w M B m d (ints (bG b))):
 ∃W1,(((w).alloc (.cells #[na,.slice A n c] 46)).alloc (.cells #[nb,.slice B m d] 46)).alloc (.cells #[false,.slice none 0 0] 46)=W1/\FZ w W1 na nb (.slice A n c) (.slice B m d)/\Sl Int W1 ((w.heap.size+1+1)::M) A n c (ints (bG a))/\Sl Int W1 ((w.heap.size+1+1)::M) B m d (ints (bG b))/\b_ ((w.heap.size+1+1)::M) W1:=by
 have F1:=FZ.start w na nb (.slice A n c) (.slice B m d);refine⟨_,rfl,F1,(hx.more (b:=w+1+1) pj).go F1.bl,(hy.more (b:=w+1+1) pj).go F1.bl,fun k e=>?_⟩;have:=F1.sz;rcases cD.1 e with rfl|e;·omega
 ·have:=hM k e;omega
structure FY(w W:World)(na nb:Bool)(va vb:Value):Prop where
 a0:W.cell? ⟨w,0,none⟩=some (.bool na)
 a1:W.cell? ⟨w,1,none⟩=some (va)
 b0:W.cell? ⟨w+1,0,none⟩=some (.bool nb)
 b1:W.cell? ⟨w+1,1,none⟩=some (vb)
 bl:Below w w W
 sz:w.heap.size+2<=W.heap.size
theorem FY.go{w:World}(h:FY w W na nb va vb)(hb:Below W W W'):FY w W' na nb va vb:=by have hs:=h.sz;have c:∀(k o:Nat) (u:Value),k<w.heap.size+2->W.cell? ⟨k,o,none⟩=some u->W'.cell? ⟨k,o,none⟩=some u:=fun k o u f e=>(hb.cell (p:=⟨k,o,none⟩) (show k<_ by omega)).trans e;exact⟨c _ _ _ pj h.a0,c _ _ _ pj h.a1,c _ _ _ pj h.b0,c _ _ _ pj h.b1,h.bl.trans (hb.mono h.bl.size),by have:=hb.size;omega⟩
theorem FY.start(w:World)(na nb:Bool)(va vb:Value):FY w (((w).alloc (.cells #[na,va] 46)).alloc (.cells #[nb,vb] 46)) na nb va vb:=by exact DV
theorem WU{M:List Nat}{a b:Int}{w:World}(hM:b_ M w)(ha:ZV w M va a)(hb:ZV w M vb b)(fa:fits a=true)(fb:fits b=true):
 Calls prog 115 #[va,vb] w (CR w (tV a b)):=by
 refine wid ?_;obtain⟨A,n,c,rfl,hx⟩:=ha;obtain⟨B,m,d,rfl,Q⟩:=hb;obtain⟨na,t⟩:=aC (aG a);obtain⟨nb,C⟩:=aC (aG b);rw[t,C];obtain⟨W1,R⟩:=aC (((w).alloc (.cells #[na,.slice A n c] 46)).alloc (.cells #[nb,.slice B m d] 46));have F1:FY w W1 na nb (.slice A n c) (.slice B m d):=by rw[<-R];exact FY.start w _ _ _ _
 have X:=fB (hx.go F1.bl) (Q.go F1.bl) (hM.le F1.bl.size);have HN:=Hd2 t C;have HF:=Hd2 fa fb;have F:=Hd F1;have D:=F1;obtain⟨T,V,Y,Z,-,-⟩:=D;clear hx Q hM fa fb;cases na<;>cases nb
 case true.true=>
  have E:=Hd (Md t C);clear t C;refine ent func115 ntmps115 ?_
  gi_wp2_with (first
   |(refine Cl 159 (tH B A m d n c b.natAbs a.natAbs _ (X.b.go o.out.2) (X.a.go o.out.2)) ?_;rintro e S ⟨rfl,H⟩;rw[E.out];have G:=Hd (o.out.1.go H);clear H)
   |(refine Cl 156 (two_any (a:=a) (b:=b) (M:=M) ⟨A,n,c,by rw[HN.a],X.a⟩ ⟨B,m,d,by rw[HN.u],X.b⟩ HF.a HF.u) ?_;rintro e P ⟨rfl,g⟩;have f:=F.out.go g;have D:=f;obtain⟨J,K,L,I,-,-⟩:=D;have o:=Hd2 f g;clear g f)
   |(refine⟨bO,?_⟩))
  exact XB
 case false.false=>
  have E:=Hd (Me t C);clear t C;refine ent func115 ntmps115 ?_
  gi_wp2_with (first
   |(refine Cl 159 (tH A B n c m d a.natAbs b.natAbs _ (X.a.go o.out.2) (X.b.go o.out.2)) ?_;rintro e S ⟨rfl,H⟩;rw[E.out];have G:=Hd (o.out.1.go H);clear H)
   |(refine Cl 156 (two_any (a:=a) (b:=b) (M:=M) ⟨A,n,c,by rw[HN.a],X.a⟩ ⟨B,m,d,by rw[HN.u],X.b⟩ HF.a HF.u) ?_;rintro e P ⟨rfl,g⟩;have f:=F.out.go g;have D:=f;obtain⟨J,K,L,I,-,-⟩:=D;have o:=Hd2 f g;clear g f)
   |(refine⟨bO,?_⟩))
  exact XB
 case true.false=>have E:=Hd (Ii t C);exact AV
 case false.true=>have E:=Hd (Eo t C);exact AV
theorem O9{a:List Nat}{V:Nat}(ha:Good a)(hm:BB^(m-1)<=V)(hs:a.length<s+m):LD a (List.replicate a.length 0) V s (val (a.drop s)):=by
 refine⟨?_,?_,po,fun d f=>by rw[lL f];decide⟩
 ·have:val ((List.replicate a.length 0).drop s)=0:=by rw[List.drop_replicate];exact zq _
  rw[this];simp
 have e:=jh (a.drop s) (uI ha s);rw[eJ]at e;exact bX e (cF (iH eX pj) hm)
theorem Tz{d:Nat}(h0:0<d)(h:d<=1073741823):bC d= [d]:=by have e:d<BB:=Hy h;rw[iP pj,nL e,nQ e,bU]
theorem Ij{w:World}{M:List Nat}(hM:b_ M w){d:Nat}(h0:0<d)(h:d<=1073741823):Sl Int (w.alloc (.cells #[.int .i64 (d:Int)] 3)) M (some ⟨w,0,none⟩) 1 1 (ints (bC d)):=by rw[Tz h0 h];have P:Good [d]:=nT (Hy h) tu;have f:Row (w.alloc (.cells #[.int .i64 (d:Int)] 3)) w.heap.size (ints [d]):=gH w _;exact f.sl (fun e=>by have:=hM _ e;omega) rfl pj (fU P)
theorem TA:∃i,prog.info? 3=some i/\i.zero=some (.int .i64 0)/\i.size=1/\i.bytes=8:=lB qo
theorem MB{w:World}{M:List Nat}{c:Nat}{xs ys:List Int}(h:bD Int 3 w M base v n xs)(hb:base<=w.heap.size)(hM:∀k,k∈M->k<base)(hy:Sl Int w (bP v++M) A m c ys)(hn:n+m<=100000):
 ∃v' w',(Builtin.append_ #[26,26] 26 #[v,.slice A m c]).run prog w=.ok v' w'/\bD Int 3 w' M base v' (n+m) (xs++ys)/\w.grownBy w' v.ownBlock:=by
 obtain⟨i,e,f,g,F⟩:=TA;obtain⟨v',w',o,T,t,-⟩:=h.append (ty:=26) hb underlying26 e f g rfl hM hy (by rw[F];omega) pj;exact⟨v',w',o,T,t⟩
theorem YQ{w:World}{M:List Nat}(hb:base<=w.heap.size){d:Int}(hd:i64 d):bD Int 3 (w.alloc (.cells #[d] 3)) M base (.slice (some ⟨w,0,none⟩) 1 1) 1 [d]:=⟨rfl, [d],lE (base:=base) (size:=1) (e:=3) w #[d] 1 hb (by simp[maxLen]) rfl,fun k x hk=>by
  match k,hk with
  |0,hk=>cases hk;exact⟨_,⟨rfl,hd⟩,fun j u hu=>by match j,hu with|0,hu=>exact hu⟩⟩
theorem WV{M:List Nat}(hM:b_ M W){d:Nat}(hd:d<=1073741823)(hs:Sl Int W M O nr cr (ints l))(hg:Good l)(hn:nr<=5000):
 ∃O' n' c' W',(Builtin.append_ #[26,26] 26 #[.slice (some ⟨W,0,none⟩) 1 1,.slice O nr cr]).run prog (W.alloc (.cells #[.int .i64 (d:Int)] 3))=.ok (.slice O' n' c') W'/\Sl Int W' M O' n' c' (ints (d::l))/\Below W W W':=by
 have g:=YQ (w:=W) (M:=M) (base:=W.heap.size) pD (VZ (Hy hd));have f:=(hs.more (b:=W) pD).keep (w':=W.alloc (.cells #[.int .i64 (d:Int)] 3)) (bq ((bL W W).alloc pD _) _);obtain⟨u,W',o,T,t⟩:=MB g po hM f pj;obtain⟨A,c,rfl,Y⟩:=T.sl pj hM;refine⟨A,_,c,W',o,by simpa[ints]using Y,?_⟩;exact(((bL W W).alloc pD _).grown t po (fun k e=>by cases e;exact bj _))
theorem WW{M:List Nat}(hM:b_ M W)(hs:Sl Int W M O nr cr (ints l))(hn:nr<=5000):
 ∃O' n' c' W',(Builtin.append_ #[26,26] 26 #[.slice (some ⟨W,0,none⟩) 0 0,.slice O nr cr]).run prog (W.alloc (.cells #[] 3))=.ok (.slice O' n' c') W'/\Sl Int W' M O' n' c' (ints l)/\Below W W W':=by
 have o:=bD.lit (α:=Int) (e:=3) W M (base:=W.heap.size) pD;have g:=(hs.more (b:=W) pD).keep (w':=W.alloc (.cells #[] 3)) (bq ((bL W W).alloc pD _) _);obtain⟨C,W',t,T,u⟩:=MB o po hM g pj;obtain⟨A,c,rfl,Y⟩:=T.sl pj hM;refine⟨A,_,c,W',t,by simpa using Y,?_⟩;exact(((bL W W).alloc pD _).grown u po (fun k f=>by cases f;exact bj _))
theorem WX{q:List Nat}(h:q[j]?=some 0):q.set j 0=q:=by
 apply List.ext_getElem?;intro i;rw[List.getElem?_set];split;·next e=>subst e;rw[h];simp[(bu.1 h).1]
 rfl
theorem MC{q:List Nat}(h:q.take k=List.replicate k 0)(hj:j<k)(hl:j<q.length):q[j]?=some 0:=by have:=gT (fun l=>l[j]?) h;simpa[hj]using this
theorem Ep{q:List Nat}(h:q.take k=List.replicate k 0)(hj:j<=k):q.take j=List.replicate j 0:=by
 have:=gT (List.take j) h
 rwa [List.take_take,gC hj,List.take_replicate,gC hj]at this
theorem TB{q:List Nat}{d:Nat}(h:q.take j=List.replicate j 0):(q.set j d).take j=List.replicate j 0:=by rw[List.take_set_of_le pD];exact h
theorem MF{M:List Nat}{c d x y:Nat}{w:World}(hM:b_ M w)(hx:Sl Int w M A n c (ints (bC x)))(hy:Sl Int w M B m d (ints (bC y)))(hn:n<=2048)(hm:m<=2048)(hy0:0<y):
 Calls prog 157 #[.slice A n c,.slice B m d] w (DR2 w M (x/y) (x%y)):=by
 refine wid ?_;have bs:=hx.small;have l1:=hx.eu;have l2:=hy.eu;have bo:1<=m:=by
  rcases eC m with e|e;·rw[e]at l2;have:=jO.1 (de.1 l2);omega
  exact e
 have hV:BB^(m-1)<=y:=by
  have:=Jo (l:=bC y) (fun e=>by rw[e]at l2;simp at l2;omega) (iQ y)
  rwa [l2,bI]at this
 obtain⟨s,hs⟩:=aC (n+1-m);have aG:s<=n:=pj;have st:=O9 (V:=y) (s:=s) (m:=m) (aO x) hV pj;rw[l1]at st;have an:=qR (t:=26) underlying26 n pj;obtain⟨W1,ag⟩:=aC (w.alloc (.cells ((List.replicate n (0:Int)).map (Value.int .i64)).toArray 3));replace an:=an w;rw[ag]at an;have r1:Row W1 w.heap.size (ints (List.replicate n 0)):=by rw[<-ag,<-lH];exact Row.new _ w
 have b1:Below w w W1:=by rw[<-ag];exact bel
 have s1:W1.heap.size=w.heap.size+1:=by rw[<-ag];simp
 have aQ:b_ (w.heap.size::M) W1:=fun k hk=>by
  rcases cD.1 hk with rfl|hk;·omega
  have:=hM k hk;omega
 have a4:Sl Int W1 (w.heap.size::M) A n c (ints (bC x)):=(hx.more pD).keep (bq b1 _);have bh:Sl Int W1 (w.heap.size::M) B m d (ints (bC y)):=(hy.more pD).keep (bq b1 _);have a_:=NJ (t:=26) underlying26 (sz:=1) (fun w=>by kernel_rfl) A (n:=n) (cp:=c) (k:=s) aG;have aF:=a4.cut (k:=s) aG (sz:=1) rfl;rw[SS]at aF;obtain⟨O3,n3,c3,W3,av,ai,aT⟩:=WW aQ aF pj;rw[s1]at av;have aL:=Hd av;have H:=h_ hx hy hM b1;have L:=h_ l1 l2 r1 st;have T:=Hd2 ai aT;clear hx hy hM a4 bh aQ b1 ag r1 st l1 l2 aF av ai aT hV;have bf:max (0:Int) ((n:Int)-(m:Int)+1)=(s:Int):=pj;have HS:=Hd hs;clear hs;refine ent func157 ntmps157 ?_
 gi_wp2_with (first
  |(gi_at_builtin;refine c_ rfl fun K Z=>?_;refine aI _ _ _ rfl rfl rfl aL.out (Z _ _ ?_);clear Z K)
  |(refine Cl 192 (jy O3 n3 c3 ((bC x).drop s) _ T.a (uI (aO x) s)) ?_;rintro e w4 ⟨q,rfl,G,X,hb4⟩;have T4:=fB G X hb4;clear G X hb4)
  |fail)
 have aw:=L.w;have aE:∀E,E<y->(bC E).length<=m:=fun E h=>by rw[<-L.b];exact kR (cY h)
 have aK:=Hd aE;have b3:Below w w w4:=H.w.trans ((T.u.trans (T4.v.mono T.u.size)).mono pj);have YR:=(T.a.go T4.v).nY T4.a;rw[eG,T4.b]at YR;have Z_:q<=m:=by rw[<-YR.eu];exact aE _ aw.2.1
 have aX:Row w4 w.heap.size (ints (List.replicate n 0)):=(L.c.go T.u pj).go T4.v (by have:=T.u.size;omega);have ST:=oK aw YR aX b3 (show w.heap.size<w4.heap.size by have:=T.u.size;have:=T4.v.size;omega);clear aw aE b3 YR aX T4 T aL a_ bf an;gi_wp2;gi_loopw[8,9] (fun r0 i wr=>∃(k E:Nat) (R:List Nat) (O:Option Addr) (nr cr:Nat),k<=s/\i=.int .i64 ((k:Int)-1)/\r0=.slice O nr cr/\nr<=m/\Hid (LD (bC x) R y k E/\R.take k=List.replicate k 0)/\Hid (Sl Int wr (w.heap.size::M) O nr cr (ints (bC E)))/\Hid (Row wr w.heap.size (ints R))/\Below w w wr/\w.heap.size<wr.heap.size) (fun _ i _=>(intOf i+1).toNat);case atStart=>exact⟨s,_,_,O3,q,c3,bj _,rfl,rfl,Z_,⟨ST.a,by rw[List.take_replicate,gC aG]⟩,ST.b,ST.c,ST.w⟩
 case round=>
  clear ST Z_;obtain⟨k,E,R,O,nr,cr,hk,rfl,rfl,bp,P,hR,hQ,hb,aJ⟩:=hrel;rcases eC k with h0|h0
  ·subst h0;have aB:=QB P.a;rw[bI]at aB;have S:=P.out.1.2.2.2;have hl:=P.out.1.2.2.1;rw[L.a]at hl;have Nw:w.heap.size∉M:=fun e=>by have:=H.c _ e;omega
   have a1:=hQ.out.sl Nw (n:=n) (by rw[jm];exact hl) pj (fU S);have aY:=hR.out.less (M':=M) (fun g S=>bE _ S);have ae:=h_ a1 S aB aY;clear a1 aB S hl Nw aY;gi_wp2_with (refine Cl 192 (jy _ _ _ R _ ae.a ae.b) ?_;rintro e w2 ⟨q2,rfl,G,X,aS⟩;have HT:=fB X G aS;clear X G aS)
   go_ret2;have aZ:=(ae.a.go HT.v).nY HT.b;rw[eG,HT.a,ae.out.2.2.1.1]at aZ;have ai:=ae.w.go HT.v;rw[ae.out.2.2.1.2]at ai;exact⟨_,q2,n,O,nr,cr,rfl,aZ,ai,hb.trans (HT.v.mono pj)⟩
  ·obtain⟨j,rfl⟩:∃j,k=j+1:=⟨k-1,pj⟩;rw[show((j+1:Nat):Int)-1=(j:Int) by omega];have a5:Sl Int wr (w.heap.size::M) A n c (ints (bC x)):=(H.a.more pD).keep (bq hb _);have a6:Sl Int wr (w.heap.size::M) B m d (ints (bC y)):=(H.b.more pD).keep (bq hb _);have ax:b_ (w.heap.size::M) wr:=fun g S=>by
    rcases cD.1 S with rfl|S;·exact aJ
    have:=H.c g S;omega
   obtain⟨b0,o0,dj,rfl,bm,hd,ba,aR⟩:=a5.mG (aO x) (k:=j) pj;obtain⟨O5,n5,c5,W5,aN,hs5,aU⟩:=WV ax hd hR.out (aO E) pj;obtain⟨D,ay⟩:=aC (E*BB+dj);have a3:val (dj::bC E)=D:=by rw[val,bI,<-ay,ke E];omega
   have aW:Good (dj::bC E):=nT (Hy hd) (aO E);have aH:=LG (aO x) P.a (show j<(bC x).length by rw[L.a];omega);rw[aR,ay]at aH;have aP:=Hd aN;have o:=Hd7 hs5 aU a3 aW a6 ax aH;clear a5 hs5 aU a3 aW aN a6 ax aH ba aR;by_cases am:D<y
   ·have aA:=Hd (pI am)
    gi_wp2_with (first
     |(gi_at_builtin;refine c_ rfl fun K Z=>?_;refine aI _ _ _ rfl rfl rfl aP.out (Z _ _ ?_);clear Z K)
     |(refine⟨bO,?_⟩;gi_at_call 159;have g:=F.out;clear g;refine Cn (tH _ B _ c5 m d D y _ F.a (o.e.go F.u)) ?_;rintro e w7 ⟨rfl,ac⟩;rw[aA.out];have J:=Hd2 (F.a.go ac) (F.u.trans (ac.mono F.u.size));clear ac)
     |(refine Cl 192 (jy O5 n5 c5 (dj::bC E) _ o.a o.d) ?_;rintro e w6 ⟨q6,rfl,G,X,ab⟩;have h6:=(o.a.go ab).nY G;rw[eG,X,o.c]at h6;have F:=Hd2 h6 (o.b.trans (ab.mono o.b.size));have aM:=Hd G;clear G X ab h6)
     |fail)
    have af:=o.out.2.2.2.2.2.2.1;have hz:R[j]?=some 0:=MC P.u (e_ _) (by rw[P.out.1.2.2.1,L.a];omega);rw[nQ am,nL am,WX hz]at af;have a9:Below w w w7:=hb.trans (J.u.mono pj);exact⟨⟨j,D,R,_,_,_,pj,rfl,rfl,by rw[<-J.a.eu];exact aK.out _ am,⟨af,Ep P.u pj⟩,J.a,hQ.out.go J.u aJ,a9,by have:=J.u.size;omega⟩,by simp[intOf]⟩
   obtain⟨cz,YS⟩:=aC (qK D y);have bl:¬cz<0:=by
    rcases lP y D with h|h;·rw[<-YS,pJ h];decide
    rw[<-YS,uM pj];decide
   have aA:=Hd YS;clear YS
   gi_wp2_with (first
    |(gi_at_builtin;refine c_ rfl fun K Z=>?_;refine aI _ _ _ rfl rfl rfl aP.out (Z _ _ ?_);clear Z K)
    |(refine⟨bO,?_⟩;gi_at_call 159;have g:=F.out;clear g;refine Cn (tH _ B _ c5 m d D y _ F.a (o.e.go F.u)) ?_;rintro e w7 ⟨rfl,ac⟩;rw[aA.out];have J:=Hd2 (F.a.go ac) (F.u.trans (ac.mono F.u.size));clear ac)
    |(refine Cl 192 (jy O5 n5 c5 (dj::bC E) _ o.a o.d) ?_;rintro e w6 ⟨q6,rfl,G,X,ab⟩;have h6:=(o.a.go ab).nY G;rw[eG,X,o.c]at h6;have F:=Hd2 h6 (o.b.trans (ab.mono o.b.size));have aM:=Hd G;clear G X ab h6)
    |fail)
   have a8:D<(1073741823+1)*y:=by have h1:=P.out.1.2.1;have h2:(E+1)*BB<=y*BB:=dy _ h1;rw[fY,fh]at h2;have h3:BB=1073741824:=rfl;rw[h3]at ay h2;rw[ke];omega
   gi_loopw[10,11] (fun l0 h0 bk=>∃lo Q:Nat,l0=lo/\h0=Q/\lo<=Q/\Q<=1073741823/\Hid (lo*y<=D/\D<(Q+1)*y)/\Below w7 w7 bk) (fun l0 h0 _=>(intOf h0).toNat-(intOf l0).toNat);case atStart=>exact⟨0,1073741823,rfl,rfl,pj,pj,⟨pj,a8⟩,bL _ _⟩
   case round=>
    obtain⟨lo,Q,rfl,rfl,bn,bb,hS,aa⟩:=hrel;have XP:b_ (w.heap.size::M) wr:=o.f.le (cF J.u.size aa.size);have au:Sl Int wr (w.heap.size::M) B m d (ints (bC y)):=(o.e.go J.u).go aa;have aq:Sl Int wr (w.heap.size::M) O5 q6 c5 (ints (bC D)):=J.a.go aa;by_cases hlo:lo<Q
    ·obtain⟨mid,aD⟩:=aC ((lo+Q+1)/2);have bd:0<mid:=pj;have be:mid<=1073741823:=pj;have e1:((lo:Int)+(Q:Int)+1)/2=(mid:Int):=pj;have e2:((lo:Int)+(Q:Int)+1).tdiv 2=(mid:Int):=by rw[eO pj];exact e1
     have a2:=LH hS.a hS.u aD.symm hlo;obtain⟨cm,az⟩:=aC (qK (mid*y) D);have aV:cm<=0↔mid*y<=D:=by
      rw[<-az];rcases Nat.lt_trichotomy (mid*y) D with h|h|h;·rw[pI h];exact⟨fun _=>by omega,fun _=>by decide⟩
      ·rw[uM h];exact⟨fun _=>by omega,fun _=>by decide⟩
      rw[pJ h];exact⟨fun e=>absurd e pt,fun e=>by omega⟩
     have a7:=Hd az;have C:=oK XP au aq a2 aD;clear XP au aq a2 az aD;by_cases hc:cm<=0;all_goals(
     gi_wp2_with (first
      |(refine⟨bO,?_⟩;gi_at_call 159;have g:=I.out;clear g;refine Cn (tH _ _ _ _ _ _ (mid*y) D _ I.a (C.c.go I.u)) ?_;rintro e w9 ⟨rfl,Ns⟩;rw[a7.out];have Y:=Hd (I.u.trans (Ns.mono I.u.size));clear Ns)
      |(refine Cl 193 (D_ (x:=mid) (y:=y) (C.a.le po) (Ij C.a bd be) (C.b.go (by exact bel)) pj pj) ?_;rintro e w8 ⟨A8,n8,c8,rfl,aj,ah⟩;have I:=Hd2 aj (show Below wr wr w8 from(pE.alloc pD _).trans (ah.mono po));clear aj ah)
      |fail))
     ·have ad:=C.out.2.2.2.1.1 (aV.1 hc);exact⟨⟨mid,Q,rfl,rfl,ad.2.2.2,bb,⟨ad.1,ad.2.1⟩,aa.trans (Y.out.mono aa.size)⟩,by simp[intOf];omega⟩
     have ad:=C.out.2.2.2.1.2 (fun h=>by have:=aV.2 h;omega);exact⟨⟨lo,mid-1,rfl,by go_num,ad.2.2.2,pj,⟨ad.1,ad.2.1⟩,aa.trans (Y.out.mono aa.size)⟩,by simp[intOf];omega⟩
    ·obtain rfl:lo=Q:=pj;have ar:=search_end hS.a hS.u;have bc:0<lo:=by
      rw[ar.1];exact Nat.div_pos pj hy0
     have af:=o.out.2.2.2.2.2.2.1;rw[<-ar.1,<-ar.2]at af;have br:q6<=5000:=by have h1:=aM.out;have h2:=o.a.eu;have h3:=hR.out.eu;simp only[eh]at h2;omega
     have hz:R[j]?=some 0:=MC P.u (e_ _) (by rw[P.out.1.2.2.1,L.a];omega);have ak:=J.u.trans (aa.mono J.u.size);have ap:Row wr w.heap.size (ints R):=hQ.out.go ak aJ;have cj:wr.cell? ⟨w,j,none⟩=some (.int .i64 0):=ap.cell (jK hz);have fj:wr.frozen? ⟨w,j,none⟩=false:=ap.free j;have ao:=ap.put j (lo:Int);rw[ints_set]at ao;obtain⟨WS,al⟩:=aC (wr.setCell ⟨w,j,none⟩ (.int .i64 (lo:Int)));have kp:Keeps (w.heap.size::M) wr WS:=by rw[<-al];exact(cG _ _).setCell (p:=⟨w,j,none⟩) (.inl po) _
     rw[al]at ao;have bi:WS.heap.size=wr.heap.size:=by rw[<-al];simp
     have bS:Below w w WS:=by rw[<-al];exact(hb.trans (ak.mono pj)).setCell (p:=⟨w,j,none⟩) pD _
     have C:=Hd (And.intro (show b_ (w.heap.size::M) WS from XP.le pj) (And.intro (au.keep kp) (And.intro (aq.keep kp) (And.intro ao (And.intro bS (And.intro af (And.intro hS.a (show w.heap.size<WS.heap.size by have:=ak.size;omega))))))));clear XP au aq af ak ap ao kp bi bS ar
     gi_wp2_with (first
      |(refine⟨bO,?_⟩;gi_at_call 194;have g:=I.out;clear g;refine Cn (SX (x:=D) (y:=lo*y) (C.a.le I.u.size) (C.c.go I.u) I.a pj C.out.2.2.2.2.2.2.1) ?_;rintro e w9 ⟨A9,n9,c9,rfl,a0,Ns⟩;have Y:=Hd2 a0 (I.u.trans (Ns.mono I.u.size));clear a0 Ns)
      |(refine Cl 193 (D_ (x:=lo) (y:=y) (C.a.le po) (Ij C.a bc pj) (C.b.go (by exact bel)) pj pj) ?_;rintro e w8 ⟨A8,n8,c8,rfl,aj,ah⟩;have I:=Hd2 aj (show Below WS WS w8 from(pE.alloc pD _).trans (ah.mono po));clear aj ah)
      |fail)
     have bg:=C.out.2.2.2.2.2.2.2;exact⟨⟨j,D-lo*y,R.set j lo,_,_,_,pj,rfl,rfl,by rw[<-Y.a.eu];exact aK.out _ C.out.2.2.2.2.2.1.2.1,⟨C.f,TB (Ep P.u pj)⟩,Y.a,C.d.go Y.u bg,C.e.trans (Y.u.mono pj),by have:=Y.u.size;omega⟩,by simp[intOf]⟩
end
abbrev Rg:=Rt×Rt
theorem take_snoc{α:Type}{p:List α}{x:α}(h:p[k]?=some x):p.take (k+1)=p.take k++ [x]:=by rw[dm,h,iA]
section
variable {a b c d r:Rt}
theorem aaY(ha:a.ok)(hb:b.ok):rW a b<0↔rv a<rv b:=by
 rw[ah7 ha hb];unfold rW
 repeat' split
 all_goals omega
theorem ab_(ha:a.ok)(hb:b.ok):rW a b<=0↔rv a<=rv b:=by
 rw[agd ha hb];unfold rW
 repeat' split
 all_goals omega
end
section
open Go.RowKit
def RV(w:World)(M:List Nat)(v:Value)(x:fC):Prop:=∃A n c B m d,v=.agg #[x.1.1,.slice A n c,x.2.1,.slice B m d]/\Sl Int w M A n c x.1.2/\Sl Int w M B m d x.2.2
theorem RV.go{w w':World}{M:List Nat}{v:Value}{x:fC}(h:RV w M v x)(hb:Below w w w'):RV w' M v x:=by obtain⟨A,n,c,B,m,d,rfl,e,f⟩:=h;exact⟨A,n,c,B,m,d,rfl,e.go hb,f.go hb⟩
theorem QW.rv{w:World}{M:List Nat}{r:Rt}(h:QW w M v r):RV w M v (jd r):=h
theorem JB{w:World}{M:List Nat}{c d:Nat}(h1:Sl Int w M A n c x.1.2)(h2:Sl Int w M B m d x.2.2):Rep.rd w M x [x.1.1,.slice A n c,x.2.1,.slice B m d]:=⟨[x.1.1,.slice A n c], [x.2.1,.slice B m d],rfl,⟨[x.1.1], [.slice A n c],rfl,rfl,A,n,c,rfl,h1⟩,⟨[x.2.1], [.slice B m d],rfl,rfl,B,m,d,rfl,h2⟩⟩
theorem Sl.MG{w:World}{M:List Nat}{c:Nat}{xs:List fC}(h:Sl fC w M A n c xs)(hk:xs[k]?=some x):∃b o A1 n1 c1 A2 n2 c2,A=some ⟨b,o,none⟩/\w.cell? ⟨b,o+k*4,none⟩=some (.bool x.1.1)/\w.cell? ⟨b,o+k*4+1,none⟩=some (.slice A1 n1 c1)/\w.cell? ⟨b,o+k*4+2,none⟩=some (.bool x.2.1)/\w.cell? ⟨b,o+k*4+3,none⟩=some (.slice A2 n2 c2)/\Sl Int w M A1 n1 c1 x.1.2/\Sl Int w M A2 n2 c2 x.2.2:=h.aik (p:=x.1.1) (l1:=x.1.2) (q:=x.2.1) (l2:=x.2.2) hk
theorem Sl.lit{α:Type} [kE α] {w:World}{M:List Nat}(hM:b_ M w)(e:TypeId){cs:List Value}{xs:List α}(hn:xs.length=n)(hs:n<=1000000)
 (h:∀k x,xs[k]?=some x->∃es,Rep.rd w M x es/\∀j u,es[j]?=some u->cs[k*Rep.sz α+j]?=some u):Sl α (w.alloc (.cells cs.toArray e)) M (some ⟨w,0,none⟩) n n xs:=by
 have hb:Below w w (w.alloc (.cells cs.toArray e)):=by exact bel
 refine⟨hn,bj _,by unfold jG;omega,pj,.inr ⟨w,0,rfl,fun k x t=>?_⟩⟩;obtain⟨es,f,g⟩:=h k x t;refine⟨es,jf f (bq hb M),fun C=>by have:=hM _ C;omega,fun j u D=>?_⟩;have o:=g j u D;have hn:=gH w (.cells cs.toArray e);generalize w.alloc (.cells cs.toArray e)=W2 at hn |-;generalize w.heap.size=q at hn |-;simp[World.cell?,hn,o]
open Go.Shelf
attribute [local go_sem] cX
theorem WY:(prog.info? 46).map (fun i=>(i.zero,i.size,i.bytes))=some (some (.agg #[false,.slice none 0 0]),2,32):=pk
def mW:List Int->List Int
 |a::b::l=>a*b::mW l
 |_=> []
theorem MH:∀{zs:List Int}{k:Nat}{a b:Int},zs[2*k]?=some a->zs[2*k+1]?=some b->(mW zs)[k]?=some (a*b)
 |x::y::l,0,a,b,ha,hb=>by
  have h1:x=a:=by simpa using ha
  have e:y=b:=by simpa using hb
  subst h1;subst e;rfl
 |x::y::l,k+1,a,b,ha,hb=>by
  have h1:l[2*k]?=some a:=by rw[show 2*(k+1)=2*k+1+1 by omega]at ha;simpa using ha
  have e:l[2*k+1]?=some b:=by rw[show 2*(k+1)+1=2*k+1+1+1 by omega]at hb;simpa using hb
  simpa[mW]using MH h1 e
 | [x],k,a,b,ha,hb=>by simp at hb
 | [],k,a,b,ha,hb=>by simp at hb
theorem Ik:∀{zs:List Int}{m:Nat},zs.length=2*m->(mW zs).length=m
 | [],m,h=>by simp at h;simp[mW];omega
 | [x],m,h=>by simp at h;omega
 |x::y::l,m,h=>by
  obtain⟨k,rfl⟩:∃k,m=k+1:=⟨m-1,by simp at h;omega⟩;have:l.length=2*k:=by simp at h;omega
  simp[mW,Ik this]
theorem oI{w:World}{M:List Nat}{c:Nat}(hq:aG z=q)(h:Sl Int w M A n c (ints (bG z))):Rep.rd w M (jk z) [q,.slice A n c]:=by subst hq;exact⟨[.bool (aG z)], [.slice A n c],rfl,rfl,A,n,c,rfl,h⟩
theorem rM{M:List Nat}(A:Option Addr)(n c m:Nat)(zs:List Int)(w:World)(hM:b_ M w)(hx:Sl lG w M A n c (zs.map jk))(hz:∀z,z∈zs->fits z=true)(hp:∀z,z∈mW zs->fits z=true)(hl:zs.length=2*m)(hm:m<=1000):
 Calls prog 47 #[.slice A n c] w fun e w'=>∃O cO,e=.returned (.slice O m cO)/\Sl lG w' M O m cO ((mW zs).map jk)/\Below w w w':=by
 refine wid ?_;have hs:=hx.small;have hn:n=2*m:=by have:=hx.len;simp at this;omega
 have ao:=Ik hl;have HNM:=Hd hn;have H:=Zw hx hM hz hp hl ao;clear hx hM hz hp hl ao hn;refine ent func47 ntmps47 ?_;gi_wp2;gi_loopw[2,3] (fun v0 i wr=>∃(k:Nat) (v:Value),v=v0/\k<=m/\i=.int .i64 ((2*k:Nat):Int)/\Hid (bD lG 46 wr M w.heap.size v k (((mW zs).take k).map jk))/\Below w w wr) (fun _ i _=>n-(intOf i).toNat);case atStart=>exact⟨0,_,rfl,cf _,rfl,bD.nil _ _ _,bL _ _⟩
 case round=>
  obtain⟨k,v,rfl,Q,rfl,E,hb⟩:=hrel;obtain⟨j,D⟩:=aC (2*k);rw[D];have HJ:=Hd D;have k1:IntKind.i64.wrap ((j:Int)+1)=((j+1:Nat):Int):=by have:=HNM.out;rw[cA];omega
  have k2:IntKind.i64.wrap ((j:Int)+2)=((j+2:Nat):Int):=by have:=HNM.out;rw[cA];omega
  by_cases aE:k<m
  ·have az:j<n:=by have:=HNM.out;omega
   have aD:j+1<n:=by have:=HNM.out;omega
   obtain⟨a,L⟩:=dW zs j (by rw[H.e];omega);obtain⟨b,P⟩:=dW zs (j+1) (by rw[H.e];omega);have aa:=MH (zs:=zs) (k:=k) (by rw[D];exact L) (by rw[D];exact P);have ag:=H.d _ (bh aa);have fa:=H.c _ (bh L);have fb:=H.c _ (bh P);have Z:∀q,q∈bP v->w.heap.size<=q/\q<wr.heap.size:=fun q g=>E.out.lt (bJ.1 g);have ai:b_ (bP v++M) wr:=fun q g=>by
    rcases cK.1 g with g|g;·exact(Z q g).2
    exact H.b.le hb.size q g
   have ad:Sl lG wr (bP v++M) A n c (zs.map jk):=(H.a.moreL (bP v) (fun q g=>(Z q g).1)).keep (bq hb _);obtain⟨b0,o0,A1,n1,c1,rfl,ak,al,ap⟩:=ad.LZ (k:=j) (neg:=aG a) (l:=ints (bG a)) (by rw[cM,L];rfl);obtain⟨ax,aB,A2,n2,c2,e0,am,an,aq⟩:=ad.LZ (k:=j+1) (neg:=aG b) (l:=ints (bG b)) (by rw[cM,P];rfl);obtain⟨rfl,rfl⟩:b0=ax/\o0=aB:=by simpa using e0
   have v0:=ah ak;have v1:=ah al;have v2:=ah am;have v3:=ah an;have S:=Hd7 ap aq ai aa ag fa fb;clear ak al am an e0 ad ap aq ai Z aa ag fa fb L P D;generalize hqa:aG a=qa at*;generalize yK:aG b=qb at*;have HQ:=Hd2 hqa yK;clear hqa yK;gi_wp2;refine aP [] 15 pk pk ?_;refine ay 0 ?_;refine ay 1 ?_;refine ay 2 ?_;refine ay 3 ?_;refine ay 4 ?_;refine ay 5 ?_;refine ay 6 ?_;refine ay 7 ?_;refine ay 8 ?_;refine ay 9 ?_
   refine eU 10 fun K o=>?_;gi_wp2;refine Cm (WC (M:=bP v++M) (a:=a) (b:=b) (S.c.le (w':=wr.drew) pD) ⟨A1,n1,c1,by rw[HQ.a],S.a.keep (cG _ _).drew⟩ ⟨A2,n2,c2,by rw[HQ.u],S.b.keep (cG _ _).drew⟩ S.f S.z) ?_;rintro e w2 ⟨u2,rfl,I,X⟩;rw[nJ S.e];rw[nK S.e]at I;obtain⟨A3,n3,c3,rfl,ar⟩:=I;obtain⟨q3,ab⟩:=aC (aG (a*b));rw[ab];have C:=fB ar ab X;clear ar ab;refine o _ _ ⟨?_,?_⟩;clear o K;·exact bq X []
   refine lit ?_;clear X;refine ay 11 ?_;refine ay 12 ?_;refine eU 13 fun K o=>?_;gi_wp2;refine Cm (Ei (M:=bP v++M) (z:=a*b) ⟨A3,n3,c3,by rw[C.b],C.out.1⟩) ?_;rintro e J ⟨rfl,-,F⟩;have T:Below wr wr J:=(bL _ wr).drew.trans (C.v.trans (F.mono C.v.size));have aj:=E.out.go T;have ae:=(C.out.1.go F);have Y:Below w w J:=hb.trans (T.mono hb.size);have af:Sl lG (J.alloc (.cells #[.bool q3,.slice A3 n3 c3] 46)) (bP v++M) (some ⟨J,0,none⟩) 1 1 [jk (a*b)]:=by
    refine Sl.lit (S.c.le (C.v.trans (F.mono C.v.size)).size) _ (cs:= [q3,.slice A3 n3 c3]) rfl pj fun i y Q=>?_
    match i,Q with
    |0,Q=>cases Q;exact⟨_,oI C.b ae,fun j u G=>by match j,G with|0,G=>exact G|1,G=>exact G⟩
   obtain⟨i0,hi,au,av,I⟩:=lB WY;obtain⟨v4,w4,r1,r2,r3,r4⟩:=(aj.go (w':=J.alloc (.cells #[q3,.slice A3 n3 c3] 46)) (by exact bel)).append (ty:=99) (t:=99) (by simp;have:=Y.size;omega) underlying99 hi au av rfl H.b af (by rw[I];omega) pj;have aw:=Hd r1;have R:=fB r2 r3 Y;clear af aj T ae r1 r2 r3 r4 hi au av I Y;refine o _ _ ⟨?_,?_⟩;clear o K;·exact bq F []
   refine lit ?_;clear F;refine eU 14 fun K o=>?_;gi_wp2;refine⟨bq (by exact bel) _,?_⟩;refine FN 2 pk rfl ?_;refine uj fun K o=>?_;refine oP rfl ?_ (fun K' V=>?_);(focus exact wy);refine aI _ _ _ rfl rfl rfl aw.out (V _ _ (o _ _ ?_));clear V K' o K;refine lit ?_;refine jW fun K o K' V=>?_;gi_wp2;refine et _ ?_;simp only[cu];gi_wp2;refine⟨⟨k+1,_,rfl,pj,by rw[show 2*(k+1)=j+2 by have:=HJ.out;omega];go_num,?_,?_⟩,?_⟩;·rw[take_snoc S.d,ed];exact R.a
   ·exact(R.v.alloc R.v.size _).grown R.b (by simp;have:=R.v.size;omega) (fun q g=>(E.out.lt g).1)
   simp[intOf];omega
  ·have aA:k=m:=pj;subst aA;have az:¬j+1<n:=by have:=HNM.out;have:=HJ.out;omega
   obtain⟨O,cO,rfl,ac⟩:=E.out.sl pj H.b;rw[bR (by rw[H.y];exact bj _)]at ac;have HS:=Hd ac;clear E ac D;gi_wp2;go_ret;exact⟨O,cO,rfl,HS.out,hb⟩
structure FQ(w W:World)(p1 q1 p2 q2:Bool)(u1 v1 u2 v2:Value):Prop where
 a0:W.cell? ⟨w,0,none⟩=some (.bool p1)
 a1:W.cell? ⟨w,1,none⟩=some (u1)
 a2:W.cell? ⟨w,2,none⟩=some (.bool q1)
 a3:W.cell? ⟨w,3,none⟩=some (v1)
 b0:W.cell? ⟨w+1,0,none⟩=some (.bool p2)
 b1:W.cell? ⟨w+1,1,none⟩=some (u2)
 b2:W.cell? ⟨w+1,2,none⟩=some (.bool q2)
 b3:W.cell? ⟨w+1,3,none⟩=some (v2)
 x0:W.cell? ⟨w+1+1,0,none⟩=some (.bool false)
 x1:W.cell? ⟨w+1+1,1,none⟩=some (.slice none 0 0)
 x2:W.cell? ⟨w+1+1,2,none⟩=some (.bool false)
 x3:W.cell? ⟨w+1+1,3,none⟩=some (.slice none 0 0)
 e0:W.cell? ⟨w+1+1+1,0,none⟩=some (.int .i64 0)
 WR:W.frozen? ⟨w+1+1,0,none⟩=false
 WT:W.frozen? ⟨w+1+1,1,none⟩=false
 fx2:W.frozen? ⟨w+1+1,2,none⟩=false
 fx3:W.frozen? ⟨w+1+1,3,none⟩=false
 fe0:W.frozen? ⟨w+1+1+1,0,none⟩=false
 bl:Below w w W
 sz:w.heap.size+4<=W.heap.size
theorem FQ.go{w:World}(h:FQ w W p1 q1 p2 q2 u1 v1 u2 v2)(hb:Below W W W'):FQ w W' p1 q1 p2 q2 u1 v1 u2 v2:=by have hs:=h.sz;have c:∀(k o:Nat) (u:Value),k<w.heap.size+4->W.cell? ⟨k,o,none⟩=some u->W'.cell? ⟨k,o,none⟩=some u:=fun k o u g e=>(hb.cell (p:=⟨k,o,none⟩) (show k<_ by omega)).trans e;have f:∀(k o:Nat),k<w.heap.size+4->W.frozen? ⟨k,o,none⟩=false->W'.frozen? ⟨k,o,none⟩=false:=fun k o g e=>(hb.frozen (p:=⟨k,o,none⟩) (show k<_ by omega)).trans e;exact⟨c _ _ _ pj h.a0,c _ _ _ pj h.a1,c _ _ _ pj h.a2,c _ _ _ pj h.a3,c _ _ _ pj h.b0,c _ _ _ pj h.b1,c _ _ _ pj h.b2,c _ _ _ pj h.b3,c _ _ _ pj h.x0,c _ _ _ pj h.x1,c _ _ _ pj h.x2,c _ _ _ pj h.x3,c _ _ _ pj h.e0,f _ _ pj h.WR,f _ _ pj h.WT,f _ _ pj h.fx2,f _ _ pj h.fx3,f _ _ pj h.fe0,h.bl.trans (hb.mono h.bl.size),by have:=hb.size;omega⟩
theorem FQ.start(w:World)(p1 q1 p2 q2:Bool)(u1 v1 u2 v2:Value):FQ w (((((w).alloc (.cells #[p1,u1,q1,v1] 48)).alloc (.cells #[p2,u2,q2,v2] 48)).alloc (.cells #[false,.slice none 0 0,false,.slice none 0 0] 48)).alloc (.cells #[.int .i64 0] 32)) p1 q1 p2 q2 u1 v1 u2 v2:=by exact DV
theorem FQ.drew{w W:World}{p1 q1 p2 q2:Bool}{u1 v1 u2 v2:Value}(h:FQ w W p1 q1 p2 q2 u1 v1 u2 v2):FQ w W.drew p1 q1 p2 q2 u1 v1 u2 v2:=⟨h.a0,h.a1,h.a2,h.a3,h.b0,h.b1,h.b2,h.b3,h.x0,h.x1,h.x2,h.x3,h.e0,h.WR,h.WT,h.fx2,h.fx3,h.fe0,h.bl.drew,h.sz⟩
structure FC(w W:World)(p1 q1 p2 q2:Bool)(u1 v1 u2 v2:Value):Prop where
 a0:W.cell? ⟨w,0,none⟩=some (.bool p1)
 a1:W.cell? ⟨w,1,none⟩=some (u1)
 a2:W.cell? ⟨w,2,none⟩=some (.bool q1)
 a3:W.cell? ⟨w,3,none⟩=some (v1)
 b0:W.cell? ⟨w+1,0,none⟩=some (.bool p2)
 b1:W.cell? ⟨w+1,1,none⟩=some (u2)
 b2:W.cell? ⟨w+1,2,none⟩=some (.bool q2)
 b3:W.cell? ⟨w+1,3,none⟩=some (v2)
 e0:W.cell? ⟨w+1+1,0,none⟩=some (.int .i64 0)
 fe0:W.frozen? ⟨w+1+1,0,none⟩=false
 bl:Below w w W
 sz:w.heap.size+3<=W.heap.size
theorem FC.go{w:World}(h:FC w W p1 q1 p2 q2 u1 v1 u2 v2)(hb:Below W W W'):FC w W' p1 q1 p2 q2 u1 v1 u2 v2:=by have hs:=h.sz;have c:∀(k o:Nat) (u:Value),k<w.heap.size+3->W.cell? ⟨k,o,none⟩=some u->W'.cell? ⟨k,o,none⟩=some u:=fun k o u g e=>(hb.cell (p:=⟨k,o,none⟩) (show k<_ by omega)).trans e;have f:∀(k o:Nat),k<w.heap.size+3->W.frozen? ⟨k,o,none⟩=false->W'.frozen? ⟨k,o,none⟩=false:=fun k o g e=>(hb.frozen (p:=⟨k,o,none⟩) (show k<_ by omega)).trans e;exact⟨c _ _ _ pj h.a0,c _ _ _ pj h.a1,c _ _ _ pj h.a2,c _ _ _ pj h.a3,c _ _ _ pj h.b0,c _ _ _ pj h.b1,c _ _ _ pj h.b2,c _ _ _ pj h.b3,c _ _ _ pj h.e0,f _ _ pj h.fe0,h.bl.trans (hb.mono h.bl.size),by have:=hb.size;omega⟩
theorem FC.start(w:World)(p1 q1 p2 q2:Bool)(u1 v1 u2 v2:Value):FC w ((((w).alloc (.cells #[p1,u1,q1,v1] 48)).alloc (.cells #[p2,u2,q2,v2] 48)).alloc (.cells #[.int .i64 0] 32)) p1 q1 p2 q2 u1 v1 u2 v2:=by exact DV
theorem FC.drew{w W:World}{p1 q1 p2 q2:Bool}{u1 v1 u2 v2:Value}(h:FC w W p1 q1 p2 q2 u1 v1 u2 v2):FC w W.drew p1 q1 p2 q2 u1 v1 u2 v2:=⟨h.a0,h.a1,h.a2,h.a3,h.b0,h.b1,h.b2,h.b3,h.e0,h.fe0,h.bl.drew,h.sz⟩
section
variable {w:World}{M:List Nat}
theorem Sl.air(hM:b_ M w){a b:Rt}(h1:Sl Int w M A1 n1 c1 (ints (bG a.num)))(h2:Sl Int w M B1 m1 d1 (ints (bG a.den)))(h3:Sl Int w M A2 n2 c2 (ints (bG b.num)))(h4:Sl Int w M B2 m2 d2 (ints (bG b.den))):
 Sl fC (w.alloc (.cells #[.bool (aG a.num),.slice A1 n1 c1,.bool (aG a.den),.slice B1 m1 d1,.bool (aG b.num),.slice A2 n2 c2,.bool (aG b.den),.slice B2 m2 d2] 48)) M (some ⟨w,0,none⟩) 2 2 ([a,b].map jd):=by
 refine Sl.lit hM _ (cs:= [.bool (aG a.num),.slice A1 n1 c1,.bool (aG a.den),.slice B1 m1 d1,.bool (aG b.num),.slice A2 n2 c2,.bool (aG b.den),.slice B2 m2 d2]) rfl pj fun k x f=>?_
 match k,f with
 |0,f=>cases f;exact⟨_,JB (x:=jd a) h1 h2,fun j u e=>by exact TR⟩
 |1,f=>cases f;exact⟨_,JB (x:=jd b) h3 h4,fun j u e=>by exact TR⟩
structure ZC(w:World)(M:List Nat)(z:Int)(q:Bool)(A:Option Addr)(n c:Nat):Prop where
 neg:aG z=q
 sl:Sl Int w M A n c (ints (bG z))
theorem ZC.go{w w':World}{M:List Nat}{z:Int}{q:Bool}{A:Option Addr}{n c:Nat}(h:ZC w M z q A n c)(hb:Below w w w'):ZC w' M z q A n c:=⟨h.neg,h.sl.go hb⟩
theorem Sl.agf(hM:b_ M w)(h1:ZC w M z1 q1 A1 n1 c1)(h2:ZC w M z2 q2 A2 n2 c2)(h3:ZC w M z3 q3 A3 n3 c3)(h4:ZC w M z4 q4 A4 n4 c4):
 Sl lG (w.alloc (.cells #[q1,.slice A1 n1 c1,q2,.slice A2 n2 c2,q3,.slice A3 n3 c3,q4,.slice A4 n4 c4] 46)) M (some ⟨w,0,none⟩) 4 4 ([z1,z2,z3,z4].map jk):=by
 refine Sl.lit hM _ (cs:= [q1,.slice A1 n1 c1,q2,.slice A2 n2 c2,q3,.slice A3 n3 c3,q4,.slice A4 n4 c4]) rfl pj fun k x f=>?_
 match k,f with
 |0,f=>exact QM
 |1,f=>exact QV
 |2,f=>exact SL
 |3,f=>exact TD
theorem Sl.ais(hM:b_ M w){z5 z6:Int}{q5 q6:Bool}{A5 A6:Option Addr}{n5 c5 n6 c6:Nat}(h1:ZC w M z1 q1 A1 n1 c1)(h2:ZC w M z2 q2 A2 n2 c2)(h3:ZC w M z3 q3 A3 n3 c3)(h4:ZC w M z4 q4 A4 n4 c4)(h5:ZC w M z5 q5 A5 n5 c5)(h6:ZC w M z6 q6 A6 n6 c6):
 Sl lG (w.alloc (.cells #[q1,.slice A1 n1 c1,q2,.slice A2 n2 c2,q3,.slice A3 n3 c3,q4,.slice A4 n4 c4,q5,.slice A5 n5 c5,q6,.slice A6 n6 c6] 46)) M (some ⟨w,0,none⟩) 6 6 ([z1,z2,z3,z4,z5,z6].map jk):=by
 refine Sl.lit hM _ (cs:= [q1,.slice A1 n1 c1,q2,.slice A2 n2 c2,q3,.slice A3 n3 c3,q4,.slice A4 n4 c4,q5,.slice A5 n5 c5,q6,.slice A6 n6 c6]) rfl pj fun k x f=>?_
 match k,f with
 |0,f=>exact QM
 |1,f=>exact QV
 |2,f=>exact SL
 |3,f=>exact TD
 |4,f=>cases f;exact⟨_,oI h5.neg h5.sl,fun j u e=>by match j,e with|0,e=>exact e|1,e=>exact e⟩
 |5,f=>cases f;exact⟨_,oI h6.neg h6.sl,fun j u e=>by match j,e with|0,e=>exact e|1,e=>exact e⟩
structure QC(w:World)(M:List Nat)(r:Rt)(p q:Bool)(A:Option Addr)(n c:Nat)(B:Option Addr)(m d:Nat):Prop where
 num:ZC w M r.num p A n c
 den:ZC w M r.den q B m d
theorem QC.go{w w':World}{M:List Nat}{r:Rt}{p q:Bool}{A B:Option Addr}{n c m d:Nat}(h:QC w M r p q A n c B m d)(hb:Below w w w'):QC w' M r p q A n c B m d:=⟨h.num.go hb,h.den.go hb⟩
theorem QC.more{w:World}{M:List Nat}{r:Rt}{p q:Bool}{A B:Option Addr}{n c m d b:Nat}(h:QC w M r p q A n c B m d)(hb:w.heap.size<=b):QC w (b::M) r p q A n c B m d:=⟨⟨h.num.neg,h.num.sl.more hb⟩,⟨h.den.neg,h.den.sl.more hb⟩⟩
theorem QC.qw{w:World}{M:List Nat}{r:Rt}{c d:Nat}(h:QC w M r p q A n c B m d):QW w M (.agg #[p,.slice A n c,q,.slice B m d]) r:=⟨A,n,c,B,m,d,by rw[h.num.neg,h.den.neg],h.num.sl,h.den.sl⟩
theorem QC.of{w:World}{M:List Nat}{r:Rt}(h:QW w M v r):∃p q A n c B m d,v=.agg #[.bool p,.slice A n c,.bool q,.slice B m d]/\QC w M r p q A n c B m d:=by obtain⟨A,n,c,B,m,d,rfl,e,f⟩:=h;exact⟨_,_,A,n,c,B,m,d,rfl,⟨rfl,e⟩,⟨rfl,f⟩⟩
theorem Sl.YU(hM:b_ M w){a b:Rt}(h1:QC w M a p1 q1 A1 n1 c1 B1 m1 d1)(h2:QC w M b p2 q2 A2 n2 c2 B2 m2 d2):
 Sl fC (w.alloc (.cells #[p1,.slice A1 n1 c1,q1,.slice B1 m1 d1,p2,.slice A2 n2 c2,q2,.slice B2 m2 d2] 48)) M (some ⟨w,0,none⟩) 2 2 ([a,b].map jd):=by
 rw[<-h1.num.neg,<-h1.den.neg,<-h2.num.neg,<-h2.den.neg];exact Sl.air hM h1.num.sl h1.den.sl h2.num.sl h2.den.sl
end
def QR(w:World)(M:List Nat)(x:Rt)(e:Ending)(w':World):Prop:=∃u,e=.returned (.tuple #[u,.int .i64 0])/\QW w' M u x/\Below w w w'
theorem b_.cons{M:List Nat}{w:World}{b:Nat}(h:b_ M w)(hb:b<w.heap.size):b_ (b::M) w:=fun k hk=>by
 rcases cD.1 hk with rfl|hk;·exact hb
 exact h k hk
theorem ag3(a b:Rt):tV (a.num*b.den) (b.num*a.den)=rW a b:=rfl
theorem Sl.two{w:World}{M:List Nat}{c:Nat}{x:Int}(h:Sl lG w M O 2 c [jk x,jk y]):
 ∃b o p A n k q B m d,O=some ⟨b,o,none⟩/\(w.cell? ⟨b,o,none⟩=some (.bool p)/\w.cell? ⟨b,o+1,none⟩=some (.slice A n k)/\w.cell? ⟨b,o+2,none⟩=some (.bool q)/\w.cell? ⟨b,o+3,none⟩=some (.slice B m d))/\ZC w M x p A n k/\ZC w M y q B m d:=by
 obtain⟨b,o,A,n,k,rfl,V,g,t⟩:=h.LZ (k:=0) (neg:=aG x) (l:=ints (bG x)) rfl;obtain⟨f,D,B,m,d,e,u,F,C⟩:=h.LZ (k:=1) (neg:=aG y) (l:=ints (bG y)) rfl;obtain⟨rfl,rfl⟩:b=f/\o=D:=by simpa using e
 exact⟨b,o,_,A,n,k,_,B,m,d,rfl,⟨V,g,u,F⟩,⟨rfl,t⟩,⟨rfl,C⟩⟩
theorem Sl.three{w:World}{M:List Nat}{c:Nat}{x:Int}(h:Sl lG w M O 3 c [jk x,jk y,jk z]):
 ∃b o p A n k q B m d r E i j,O=some ⟨b,o,none⟩/\(w.cell? ⟨b,o,none⟩=some (.bool p)/\w.cell? ⟨b,o+1,none⟩=some (.slice A n k)/\w.cell? ⟨b,o+2,none⟩=some (.bool q)/\w.cell? ⟨b,o+3,none⟩=some (.slice B m d)/\w.cell? ⟨b,o+4,none⟩=some (.bool r)/\w.cell? ⟨b,o+5,none⟩=some (.slice E i j))/\ZC w M x p A n k/\ZC w M y q B m d/\ZC w M z r E i j:=by
 obtain⟨b,o,A,n,k,rfl,V,t,u⟩:=h.LZ (k:=0) (neg:=aG x) (l:=ints (bG x)) rfl;obtain⟨f,J,B,m,d,e,C,F,D⟩:=h.LZ (k:=1) (neg:=aG y) (l:=ints (bG y)) rfl;obtain⟨b2,K,E,i,j,g,G,H,I⟩:=h.LZ (k:=2) (neg:=aG z) (l:=ints (bG z)) rfl;obtain⟨rfl,rfl⟩:b=f/\o=J:=by simpa using e
 obtain⟨rfl,rfl⟩:b=b2/\o=K:=by simpa using g
 exact⟨b,o,_,A,n,k,_,B,m,d,_,E,i,j,rfl,⟨V,t,C,F,G,H⟩,⟨rfl,u⟩,⟨rfl,D⟩,⟨rfl,I⟩⟩
theorem ZC.zv{w:World}{M:List Nat}{c:Nat}(h:ZC w M z q A n c):ZV w M (.agg #[q,.slice A n c]) z:=⟨A,n,c,by rw[h.neg],h.sl⟩
theorem ZC.drew{w:World}{M:List Nat}{z:Int}{q:Bool}{A:Option Addr}{n c:Nat}(h:ZC w M z q A n c):ZC w.drew M z q A n c:=⟨h.neg,h.sl.keep (cG _ _).drew⟩
theorem ZC.of{w:World}{M:List Nat}(h:ZV w M v z):∃q A n c,v=.agg #[.bool q,.slice A n c]/\ZC w M z q A n c:=by obtain⟨A,n,c,rfl,h⟩:=h;exact⟨_,A,n,c,rfl,⟨rfl,h⟩⟩
theorem WZ{M:List Nat}{a b:Rt}{w:World}(hM:b_ M w)(ha:QW w M va a)(hb:QW w M vb b)(oa:a.ok)(ob:b.ok)(hf:Fine a b):
 Calls prog 14 #[va,vb] w (CR w (rW a b)):=by
 refine wid ?_;obtain⟨p1,q1,A1,n1,c1,B1,m1,d1,rfl,Z⟩:=QC.of ha;obtain⟨p2,q2,A2,n2,c2,B2,m2,d2,rfl,qb⟩:=QC.of hb;obtain⟨W1,ad⟩:=aC ((((w).alloc (.cells #[p1,.slice A1 n1 c1,q1,.slice B1 m1 d1] 48)).alloc (.cells #[p2,.slice A2 n2 c2,q2,.slice B2 m2 d2] 48)).alloc (.cells #[.int .i64 0] 32));have F1:FC w W1 p1 q1 p2 q2 (.slice A1 n1 c1) (.slice B1 m1 d1) (.slice A2 n2 c2) (.slice B2 m2 d2):=by rw[<-ad];exact FC.start w _ _ _ _ _ _ _ _
 have P:QC W1 ((w.heap.size+1+1)::M) a p1 q1 A1 n1 c1 B1 m1 d1:=(Z.more (b:=w+1+1) pj).go F1.bl;have G:QC W1 ((w.heap.size+1+1)::M) b p2 q2 A2 n2 c2 B2 m2 d2:=(qb.more (b:=w+1+1) pj).go F1.bl;have L:b_ ((w.heap.size+1+1)::M) W1:=(hM.le F1.bl.size).cons (by have:=F1.sz;omega);have R:=Sl.YU L P G;have X:=fB P G L;have ab:=Hd R;have o:=fB oa ob hf;have F:=Hd F1;have C:=F1;obtain⟨aj,ak,al,am,an,ao,ap,aq,ar,af,-,-⟩:=C;clear ha hb Z qb P G hM L R oa ob hf;refine qj func14 rfl ntmps14 ?_
 gi_wp2_with (first
  |(refine⟨bO,?_⟩;gi_at_call 47;have g:=t.out;clear g;refine Cn (rM (M:=(w+1+1)::M) _ 4 4 2 [a.num,b.den,b.num,a.den] _ ((X.v.le t.out.2.size).le po) (Sl.agf (X.v.le t.out.2.size) (X.a.go t.out.2).num (X.b.go t.out.2).den (X.b.go t.out.2).num (X.a.go t.out.2).den) (by simp[o.a.fn,o.a.fd,o.b.fn,o.b.fd]) (by simp[mW,o.v.nd,o.v.dn,o.v.dd,o.v.nn]) rfl pj) ?_;rintro e w4 ⟨O,cO,rfl,ae,hb4⟩;have E:Below W1 W1 w4:=(t.out.2.alloc t.out.2.size _).trans (hb4.mono (by simp;have:=t.out.2.size;omega));have F4:=F.out.go E;have J:=F4.drew;have C:=J;obtain⟨aK,aL,aM,aN,aO,aQ,aR,aS,aT,ai,-,-⟩:=C;obtain⟨b0,o0,s1,S1,i1,j1,s2,S2,i2,j2,rfl,⟨S,T,V,Y⟩,hz1,hz2⟩:=Sl.two ae;have H:=h_ J hz1 hz2 ((X.v.le E.size).le (w':=w4.drew) pD);clear hb4 E F4 J)
  |(refine Cl 46 (uO (M:=(w+1+1)::M) _ 2 2 [a,b] _ (X.v.le po) ab.out (by simp[o.a,o.b])) ?_;rintro e w2 ⟨rfl,G⟩;have Q:Below W1 W1 w2:=((bL W1 W1).alloc pD _).trans (G.mono po);have I:=F.out.go Q;have C:=I;obtain⟨YN,YO,aE,aF,YP,Td,aG,aH,aI,YV,-,-⟩:=C;have t:=Hd2 I Q;clear G Q I)
  |fail)
 have v0:=ah S;have v1:=ah T;have v2:=ah V;have v3:=ah Y;clear S T V Y;refine aP [] 10 pk pk ?_;refine ay 0 ?_;refine ay 1 ?_;refine ay 2 ?_;refine ay 3 ?_;refine ay 4 ?_;refine ay 5 ?_;refine eU 6 fun K D=>?_;gi_wp2;refine Cm (WQ (a:=a.num*b.den) (b:=b.num*a.den) H.w H.b.drew.zv H.c.drew.zv o.v.nd o.v.dn) ?_;rintro e w5 ⟨rfl,E⟩;have F5:=H.a.go E;have C:=F5;obtain⟨au,av,aw,ax,az,aA,aB,aD,aa,ag,-,-⟩:=C;have G5:=Hd F5;clear F5;refine D _ _ ⟨?_,?_⟩;clear D K;·exact bq E []
 refine lit ?_;clear E;refine ay 7 ?_;refine ay 8 ?_;refine eU 9 fun K D=>?_;gi_wp2;refine Cm (WJ _ _) ?_;rintro e w6 ⟨rfl,rfl⟩;refine D _ _ ⟨?_,?_⟩;clear D K;·exact cG _ _
 refine lit ?_;refine iq 2 ?_;refine jW fun K D K' ac=>?_;gi_wp2;refine jW fun K D K' ac=>?_;gi_wp2;refine et _ ?_;simp only[cu];gi_wp2;refine eS (f:=45) (args:=#[.pointer (some ⟨w+1+1,0,none⟩)]) po po pB (fun _ _=>bO) ?_;refine(kT ⟨w+1+1,0,none⟩ _).mono ?_;rintro e u' aJ ⟨rfl,rfl,rfl⟩;have r2:=cZ (u:=.int .i64 0) aa;refine⟨.tuple #[.int .i64 (rW a b),.int .i64 0],?_,rfl,G5.out.bl.setCell (p:=⟨w+1+1,0,none⟩) px _⟩;rw[<-ag3];simp[results,results14,go_sem,aa]
theorem W_{M:List Nat}{a b:Int}{w:World}(hM:b_ M w)(ha:ZV w M va a)(hb:ZV w M vb b)(fa:fits a=true)(fb:fits b=true):
 Calls prog 114 #[va,vb] w (ZQ w M (Int.gcd a b)):=by
 refine wid ?_;obtain⟨A,n,c,rfl,hx⟩:=ha;obtain⟨B,m,d,rfl,S⟩:=hb;have hf:=tK fa fb;have hn:=yG fa hx.eu;have hm:=yG fb S.eu;obtain⟨na,Q⟩:=aC (aG a);obtain⟨nb,R⟩:=aC (aG b);rw[Q,R];obtain⟨W1,au,F1,aa,ab,Z⟩:=FZ.begin (na:=na) (nb:=nb) hM hx S;have X:=fB aa ab Z;have HN:=Hd2 Q R;have HF:=Hd2 fa fb;have Ny:=Hd hf;have F:=Hd F1;have C:=F1;obtain⟨am,an,ao,ap,aq,ar,ai,aj,-,-⟩:=C;clear hx S hM aa ab Z fa fb Q R hf;refine ent func114 ntmps114 ?_;gi_wp2_with ((refine Cl 156 (two_any (a:=a) (b:=b) (M:=(w+1+1)::M) ⟨A,n,c,by rw[HN.a],X.a⟩ ⟨B,m,d,by rw[HN.u],X.b⟩ HF.a HF.u) ?_;rintro e w2 ⟨rfl,P⟩;have J:=F.out.go P;have C:=J;obtain⟨YN,YO,YP,Td,aD,aE,YW,YX,-,-⟩:=C;have G:=Hd2 J P;clear P J))
 have G3:=h_ G.out.1 (X.a.go G.out.2) (X.b.go G.out.2) (X.v.le G.out.2.size);gi_loopg[7,8] (b.natAbs) (fun y s6 s7 wr=>∃(x:Nat) (H:Option Addr) (n' K:Nat) (I:Option Addr) (o L:Nat),s6=.slice H n' K/\s7=.slice I o L/\n'<=2048/\o<=2048/\Hid (Nat.gcd x y=Int.gcd a b/\FZ w wr na nb (.slice A n c) (.slice B m d)/\Sl Int wr ((w.heap.size+1+1)::M) H n' K (ints (bC x))/\Sl Int wr ((w.heap.size+1+1)::M) I o L (ints (bC y))/\b_ ((w.heap.size+1+1)::M) wr));case atStart=>exact⟨a.natAbs,A,n,c,B,m,d,rfl,rfl,hn,hm,rfl,G3.out⟩
 case round=>
  obtain⟨x,H,n',K,I,o,L,rfl,rfl,av,ae,f⟩:=hrel;have t:=f.d.eu;by_cases V:o=0
  ·subst V;have E:gk=0:=jO.1 (de.1 t);subst E;have hg:gJ false x=(Int.gcd a b:Int):=by
    have:=f.a;rw[Nat.gcd_zero_right]at this;rw[<-this];rfl
   clear t;gi_wp2_with (refine Cl 158 (ain (v:=x) (z:=(Int.gcd a b:Int)) f.x f.c (aO _) (bI _) hg Ny.out) ?_;rintro e w3 ⟨q,A4,n4,c4,rfl,T,D⟩;have F4:=f.b.go D;have C:=F4;obtain⟨ay,az,aA,aB,ag,ah,ak,al,-,-⟩:=C;have g:=Hd2 F4 T;clear D T F4)
   obtain⟨wF,af,r0,r1,hz,ad⟩:=fin2 (M:=M) ag ah g.u g.a.bl pj;rw[af];refine⟨rfl,.tuple #[.agg #[q,.slice A4 n4 c4],.int .i64 0],by simp[results,go_sem,r0,r1],_,rfl,hz,ad⟩
  ·have E:0<gk:=by
     rcases eC gk with e|e;·subst e;rw[bU]at t;exact absurd t.symm V
     ·exact e
   have aw:0<o:=pj;have ac:=Hd t;clear t;gi_wp2_with (refine Cl 157 (MF (x:=x) (y:=gk) f.x f.c f.d pj pj E) ?_;rintro e w3 ⟨O,q,cO,O2,q2,Z7,rfl,h1,Y,D⟩;have g:=Hd2 Y D;clear h1 Y D)
   gi_roundg (x%gk);case measure=>exact k_ _ E
   case rel=>
    have ax:q2<=o:=by rw[<-g.a.eu,<-ac.out];exact kR (cY (k_ _ E))
    exact⟨gk,_,_,_,_,_,_,rfl,rfl,ae,pj,⟨by rw[LJ];exact f.a,f.b.go g.u,f.d.go g.u,g.a,f.x.le g.u.size⟩⟩
structure FD(w W:World)(na nb:Bool)(va vb:Value):Prop where
 a0:W.cell? ⟨w,0,none⟩=some (.bool na)
 a1:W.cell? ⟨w,1,none⟩=some (va)
 b0:W.cell? ⟨w+1,0,none⟩=some (.bool nb)
 b1:W.cell? ⟨w+1,1,none⟩=some (vb)
 x0:W.cell? ⟨w+1+1,0,none⟩=some (.bool false)
 x1:W.cell? ⟨w+1+1,1,none⟩=some (.slice none 0 0)
 y0:W.cell? ⟨w+1+1+1,0,none⟩=some (.bool false)
 y1:W.cell? ⟨w+1+1+1,1,none⟩=some (.slice none 0 0)
 WR:W.frozen? ⟨w+1+1,0,none⟩=false
 WT:W.frozen? ⟨w+1+1,1,none⟩=false
 fy0:W.frozen? ⟨w+1+1+1,0,none⟩=false
 fy1:W.frozen? ⟨w+1+1+1,1,none⟩=false
 bl:Below w w W
 sz:w.heap.size+4<=W.heap.size
theorem TF{M:List Nat}{n:Int}{w:World}(hM:b_ M w)(hn:i64 n)(hs:0<=n):
 Calls prog 50 #[n] w fun e w'=>∃u,e=.returned u/\ZV w' M u n/\Below w w w':=by
 refine wid ?_;have L:(bC n.natAbs).length<=3:=BL (by unfold i64 at hn;omega);obtain⟨x,hx⟩:=aC n.natAbs;have an:x<=9223372036854775808:=by unfold i64 at hn;omega
 obtain rfl:n=(x:Int):=pj;have ag:decide (((x:Int):Int)<0)=false:=by simp;try omega
 rw[hx]at L;have P:=h_ L hM hx ag;unfold i64 at hn;clear L hM hx;refine ent func50 ntmps50 ?_;gi_wp2;gi_loopw[3,4] (fun v u wr=>∃(k r:Nat) (out:List Nat),r<=x/\u=.int .i64 ((r:Int))/\Hid (bC x=out++bC r/\out.length=k)/\Hid (wr.ownsRow (w.heap.size+1) 3 1 v k ((ints out).map (Value.int .i64)))/\Below w w wr/\w.heap.size+1<=wr.heap.size/\wr.cell? ⟨w,0,none⟩=some (.bool false)/\wr.cell? ⟨w,1,none⟩=some (.slice none 0 0)/\wr.frozen? ⟨w,0,none⟩=false/\wr.frozen? ⟨w,1,none⟩=false) (fun _ u _=>(intOf u).natAbs);case atStart=>exact Ap
 case round=>
  obtain⟨k,r,out,hr,rfl,g,F,hb,aj,G,c1,f0,f1⟩:=hrel;by_cases ai:0<r
  ·have hk:k<=3:=by have:=P.a;rw[g.a,cJ,g.u]at this;omega
   obtain⟨v',W',D,T,o,gg,cc,rfl⟩:=yC F.out aj pj ((r%BB:Nat):Int);rw[show ints out++ [((r%BB:Nat):Int)]=ints (out++ [r%BB]) by simp[ints]]at T;have ae:bC x=(out++ [r%BB])++bC (r/BB)/\(out++ [r%BB]).length=k+1:=by refine⟨?_,by simp[g.u]⟩;rw[g.a,iP pj];simp
   have ab:r/BB<r:=Nat.div_lt_self ai rE;have E:=Hd D;have f:=h_ T (hb.trans (o.mono pj)) ae ab;have am:=o.size;have ah:r%BB<=1073741823:=g_ (k_ _ eX);have yK:r/BB<=r:=oT _ _;have t1:(r:Int).tmod 1073741824=((r%BB:Nat):Int):=by rw[kO pj];rfl
   have t2:(r:Int).tdiv 1073741824=((r/BB:Nat):Int):=by rw[eO pj];rfl
   have e1:((r:Int)).tmod 1073741824=(r%BB:Nat):=by first|exact t1|(rw[Int.neg_tmod,t1])
   have e2:((r:Int)).tdiv 1073741824=((r/BB:Nat):Int):=by first|exact t2|(rw[Int.neg_tdiv,t2])
   exact zn
  ·obtain rfl:r=0:=pj;have hk:k<=3:=by have:=P.a;rw[g.a,cJ,g.u]at this;omega
   have I:bC x=out:=by have:=g.a;rwa [bU,dx]at this
   have hg:Good out:=by rw[<-I];exact aO x
   obtain⟨O,H,rfl,Y⟩:=Sl.BO F.out (fU hg) pj (M:=w::M) (by intro j J;exact akz);rw[<-I]at Y;have hz:ZV wr (w.heap.size::M) (.agg #[false,.slice O k H]) ((x:Int)):=⟨O,k,H,by rw[show aG ((x:Int))=false from P.w],by rw[show bG ((x:Int))=bC x from by unfold bG;rw[P.c]];exact Y⟩;obtain⟨wF,af,r0,D,R,aa⟩:=fin2 (M:=M) G c1 hz hb pD;have HF:=oK af r0 D R aa;clear af r0 D R aa hz Y F g I hg;gi_wp2
   first
    |rw[HF.a]
    |rw[show decide (0<x)=true from cx pj,HF.a]
   exact⟨rfl,.agg #[false,.slice O k H],by simp[results,go_sem,HF.b,HF.c],_,rfl,HF.d,HF.x⟩
theorem TG{M:List Nat}{n:Int}{w:World}(hM:b_ M w)(hn:i64 n)(hs:n<0):
 Calls prog 50 #[n] w fun e w'=>∃u,e=.returned u/\ZV w' M u n/\Below w w w':=by
 refine wid ?_;have L:(bC n.natAbs).length<=3:=BL (by unfold i64 at hn;omega);obtain⟨x,hx⟩:=aC n.natAbs;have an:x<=9223372036854775808:=by unfold i64 at hn;omega
 obtain rfl:n= -(x:Int):=pj;have ag:decide ((-(x:Int):Int)<0)=true:=by simp;try omega
 rw[hx]at L;have P:=h_ L hM hx ag;unfold i64 at hn;clear L hM hx;refine ent func50 ntmps50 ?_;gi_wp2;gi_loopw[3,4] (fun v u wr=>∃(k r:Nat) (out:List Nat),r<=x/\u=.int .i64 (-(r:Int))/\Hid (bC x=out++bC r/\out.length=k)/\Hid (wr.ownsRow (w.heap.size+1) 3 1 v k ((ints out).map (Value.int .i64)))/\Below w w wr/\w.heap.size+1<=wr.heap.size/\wr.cell? ⟨w,0,none⟩=some (.bool false)/\wr.cell? ⟨w,1,none⟩=some (.slice none 0 0)/\wr.frozen? ⟨w,0,none⟩=false/\wr.frozen? ⟨w,1,none⟩=false) (fun _ u _=>(intOf u).natAbs);case atStart=>exact Ap
 case round=>
  obtain⟨k,r,out,hr,rfl,g,F,hb,aj,G,c1,f0,f1⟩:=hrel;by_cases ai:0<r
  ·have hk:k<=3:=by have:=P.a;rw[g.a,cJ,g.u]at this;omega
   obtain⟨v',W',D,T,o,gg,cc,rfl⟩:=yC F.out aj pj ((r%BB:Nat):Int);rw[show ints out++ [((r%BB:Nat):Int)]=ints (out++ [r%BB]) by simp[ints]]at T;have ae:bC x=(out++ [r%BB])++bC (r/BB)/\(out++ [r%BB]).length=k+1:=by refine⟨?_,by simp[g.u]⟩;rw[g.a,iP pj];simp
   have ab:r/BB<r:=Nat.div_lt_self ai rE;have E:=Hd D;have f:=h_ T (hb.trans (o.mono pj)) ae ab;have am:=o.size;have ah:r%BB<=1073741823:=g_ (k_ _ eX);have yK:r/BB<=r:=oT _ _;have t1:(r:Int).tmod 1073741824=((r%BB:Nat):Int):=by rw[kO pj];rfl
   have t2:(r:Int).tdiv 1073741824=((r/BB:Nat):Int):=by rw[eO pj];rfl
   have e1:(-(r:Int)).tmod 1073741824=(-((r%BB:Nat):Int)):=by first|exact t1|(rw[Int.neg_tmod,t1])
   have e2:(-(r:Int)).tdiv 1073741824= -((r/BB:Nat):Int):=by first|exact t2|(rw[Int.neg_tdiv,t2])
   exact zn
  ·obtain rfl:r=0:=pj;have hk:k<=3:=by have:=P.a;rw[g.a,cJ,g.u]at this;omega
   have I:bC x=out:=by have:=g.a;rwa [bU,dx]at this
   have hg:Good out:=by rw[<-I];exact aO x
   obtain⟨O,H,rfl,Y⟩:=Sl.BO F.out (fU hg) pj (M:=w::M) (by intro j J;exact akz);rw[<-I]at Y;have hz:ZV wr (w.heap.size::M) (.agg #[true,.slice O k H]) (-(x:Int)):=⟨O,k,H,by rw[show aG (-(x:Int))=true from P.w],by rw[show bG (-(x:Int))=bC x from by unfold bG;rw[P.c]];exact Y⟩;obtain⟨wF,af,r0,D,R,aa⟩:=fin2 (M:=M) G c1 hz hb pD;have HF:=oK af r0 D R aa;clear af r0 D R aa hz Y F g I hg;gi_wp2
   first
    |rw[HF.a]
    |rw[show decide (0<x)=true from cx pj,HF.a]
   exact⟨rfl,.agg #[true,.slice O k H],by simp[results,go_sem,HF.b,HF.c],_,rfl,HF.d,HF.x⟩
theorem zC{M:List Nat}{n:Int}{w:World}(hM:b_ M w)(hn:i64 n):
 Calls prog 50 #[n] w fun e w'=>∃u,e=.returned u/\ZV w' M u n/\Below w w w':=by
 by_cases h:n<0;·exact TG hM hn h
 ·exact TF hM hn pj
theorem zD(q:Bool)(A:Option Addr)(n c:Nat)(w:World)(hs:n<=140737488355328):
 CB 113 #[.agg #[q,.slice A n c]] (.bool (decide (n=0))) w:=by
 refine wid ?_;by_cases e:n=0;all_goals(
 refine ent func113 ntmps113 ?_;gi_wp2;go_ret;exact⟨by first|rfl|simp[e]|(simp;omega),by exact bel⟩)
theorem MI{M:List Nat}{c d:Nat}{l1 l2:List Int}{w:World}(hM:b_ M w)(hx:Sl Int w M A n c l1)(hy:Sl Int w M B m d l2):
 CB 63 #[.agg #[p,.slice A n c,q,.slice B m d]] (.int .i64 (qM (dF ((p,l1),(q,l2))))) w:=by
 refine wid ?_;obtain⟨W1,aE⟩:=aC (w.alloc (.cells #[p,.slice A n c,q,.slice B m d] 48));have F1:Bx w W1 p q (.slice A n c) (.slice B m d):=by rw[<-aE];exact Bx.start w _ _ _ _
 have F:=Hd F1;have e0:=F1.a0;have e1:=F1.a1;have e2:=F1.a2;have e3:=F1.a3;have av:l2.length=m:=hy.len;have X:=fB hx hy hM;have ac:=Hd hy.small;clear hx hy hM F1;by_cases P:gZ (p,l1)=true
 ·have H:=Hd (show rJ (gZ (p,l1))=0 by rw[P];rfl);by_cases Q:gZ (q,l2)=true
  ·have EX:=Hd (show rJ (gZ (q,l2))=0 by rw[Q];rfl);obtain⟨z1,Y,af⟩:=(nU _).1 P;obtain⟨z2,Z,ag⟩:=(nU _).1 Q;have ep:aG z1=p:=(gT Prod.fst Y).symm;have G:aG z2=q:=(gT Prod.fst Z).symm;have ao:ints (bG z1)=l1:=(gT Prod.snd Y).symm;have ae:ints (bG z2)=l2:=(gT Prod.snd Z).symm;have ap:DT (p,l1)=z1:=by rw[Y,nG]
   have aq:DT (q,l2)=z2:=by rw[Z,nG]
   have an:(bG z2).length=m:=by rw[<-av,<-ae,jm]
   have ab:m=0↔z2=0:=by
    rw[<-an];constructor;·intro e;have:=jO.1 (de.1 e);omega
    rintro rfl;rw[show bG 0= []from bU];rfl
   have au:=tK af ag;have XO:=fB af ag au;have T:=h_ ep G ao ae;have WL:dF ((p,l1),(q,l2))=(decide (0<z2)&&decide (Int.gcd z1 z2=1)):=by simp[dF,P,Q,ap,aq]
   have Z9:=Hd WL;clear WL af ag au Y Z ao ae ap aq ep av;by_cases I:m=0;·have aA:=ab.1 I;have E:=Hd (show qM (dF ((p,l1),(q,l2)))=100 by rw[Z9.out,aA];rfl);have V:=Hd (show decide (m=0)=true from cx I);clear I ab an aA G;exact zL
   have V:=Hd (show decide (m=0)=false from cE I);have ad:z2≠0:=fun e=>I (ab.2 e);clear I ab an;cases q;case true=>
    have aw:¬0<z2:=by unfold aG at G;have:=cW G;omega
    have E:=Hd (show qM (dF ((p,l1),(true,l2)))=100 by rw[Z9.out,cE aw];rfl);clear G aw ad;exact zL
   case false=>
    have ax:0<z2:=by unfold aG at G;have:=gp G;omega
    obtain⟨cc,am⟩:=aC (tV (Int.gcd z1 z2:Int) 1);have Z8:0<Int.gcd z1 z2:=Int.gcd_pos_iff.2 (.inr ad);have al:cc=0↔Int.gcd z1 z2=1:=by
     rw[<-am];unfold tV
     repeat' split
     all_goals omega
    have aD:=Hd am;have HP:=Hd ax;clear G ax ad am Z8;by_cases ar:cc=0;all_goals(
    first
     |have E:=Hd (show qM (dF ((p,l1),(false,l2)))=0 by rw[Z9.out,cx HP.out,cx (al.1 ar)];rfl)
     |have E:=Hd (show qM (dF ((p,l1),(false,l2)))=100 by rw[Z9.out,cx HP.out,cE (fun e=>ar (al.2 e))];rfl)
    clear al;refine ent func63 ntmps63 ?_
    gi_wp2_with (first
     |(refine Cl 114 (W_ (M:=M) (a:=z1) (b:=z2) (X.v.le D.a.bl.size) ⟨A,n,c,by rw[T.a],by rw[T.c];exact X.a.go D.a.bl⟩ ⟨B,m,d,by rw[T.b],by rw[T.w];exact X.b.go D.a.bl⟩ XO.a XO.b) ?_;rintro e R ⟨u5,rfl,r_,ai⟩;obtain⟨q5,A5,n5,c5,rfl,az⟩:=ZC.of r_;obtain⟨W6,X0⟩:=aC (R.alloc (.cells #[q5,.slice A5 n5 c5] 46));have aj:Below R R W6:=by rw[<-X0];exact bel
       have l0:W6.cell? ⟨R,0,none⟩=some (.bool q5):=by rw[<-X0];simp[go_sem]
       have l1:W6.cell? ⟨R,1,none⟩=some (.slice A5 n5 c5):=by rw[<-X0];simp[go_sem]
       have v0:=ah l0;have v1:=ah l1;have S:=fB ((az.go aj).drew) (((D.a.bl.trans (ai.mono D.a.bl.size)).trans (aj.mono (cF D.a.bl.size ai.size))).drew) trivial;clear r_ az ai aj)
     |(refine⟨bO,?_⟩;gi_at_call 113;have g:=C.out;clear g;refine Cn (zD _ B m d _ ac.out) ?_;rintro e w4 ⟨rfl,hb4⟩;rw[V.out];have F4:=C.a.go hb4;have o0:=F4.a0;have o1:=F4.a1;have o2:=F4.a2;have o3:=F4.a3;have D:=Hd2 F4 hb4;clear F4 hb4)
     |(refine⟨bO,?_⟩;gi_at_call 112;have g:=t.out;clear g;refine Cn (fZ B m d _ l2 _ ((X.b.go F.out.bl).go t.out.2)) ?_;rintro e w3 ⟨rfl,u⟩;rw[EX.out];have F3:=t.out.1.go u;have y0:=F3.a0;have y1:=F3.a1;have y2:=F3.a2;have y3:=F3.a3;have C:=Hd2 F3 u;clear u F3)
     |(refine Cl 112 (fZ A n c p l1 _ (X.a.go F.out.bl)) ?_;rintro e w2 ⟨rfl,o⟩;rw[H.out];have f:=F.out.go o;have u0:=f.a0;have u1:=f.a1;have u2:=f.a2;have u3:=f.a3;have t:=Hd2 f o;clear f o)
     |fail)
    refine aP [] 8 pk pk ?_;refine ay 0 ?_;refine eU 1 fun K L=>?_;gi_wp2;refine Cm (zC (M:=M) (n:=1) (X.v.le S.b.size) pA) ?_;rintro e w7 ⟨u7,rfl,aB,aa⟩;have J:=fB aB (S.a.go aa) (S.b.trans (aa.mono S.b.size));clear aB;refine L _ _ ⟨?_,?_⟩;clear L K;·exact bq aa []
    refine lit ?_;clear aa;refine eU 2 fun K L=>?_;gi_wp2;refine Cm (WU (M:=M) (a:=(Int.gcd z1 z2:Int)) (b:=1) (X.v.le J.v.size) J.b.zv J.a XO.v (En pA)) ?_;rintro e w8 ⟨rfl,ak⟩;rw[aD.out];have G8:=Hd (J.v.trans (ak.mono J.v.size));refine L _ _ ⟨?_,?_⟩;clear L K;·exact bq ak []
    refine lit ?_;clear ak;refine ay 3 ?_;refine ay 4 ?_;refine ay 5 ?_;refine ay 6 ?_;refine ay 7 ?_;refine iq 0 ?_;refine et _ ?_;simp only[cu];gi_wp2;go_ret;exact⟨by rw[E.out];rfl,G8.out⟩)
  have EX:=Hd (show rJ (gZ (q,l2))=90 by simp[Q,rJ]);have E:=Hd (show qM (dF ((p,l1),(q,l2)))=100 by simp[dF,Q,qM]);refine ent func63 ntmps63 ?_
  gi_wp2_with (first
   |(refine⟨bO,?_⟩;gi_at_call 112;have g:=t.out;clear g;refine Cn (fZ B m d _ l2 _ ((X.b.go F.out.bl).go t.out.2)) ?_;rintro e w3 ⟨rfl,u⟩;rw[EX.out];have F3:=t.out.1.go u;have y0:=F3.a0;have y1:=F3.a1;have y2:=F3.a2;have y3:=F3.a3;have C:=Hd2 F3 u;clear u F3)
   |(refine Cl 112 (fZ A n c p l1 _ (X.a.go F.out.bl)) ?_;rintro e w2 ⟨rfl,o⟩;rw[H.out];have f:=F.out.go o;have u0:=f.a0;have u1:=f.a1;have u2:=f.a2;have u3:=f.a3;have t:=Hd2 f o;clear f o)
   |(refine⟨bO,?_⟩))
  go_ret;exact⟨by rw[E.out];rfl,C.a.bl⟩
 ·have H:=Hd (show rJ (gZ (p,l1))=90 by simp[P,rJ]);have E:=Hd (show qM (dF ((p,l1),(q,l2)))=100 by simp[dF,P,qM]);refine ent func63 ntmps63 ?_
  gi_wp2_with (first
   |(refine Cl 112 (fZ A n c p l1 _ (X.a.go F.out.bl)) ?_;rintro e w2 ⟨rfl,o⟩;rw[H.out];have f:=F.out.go o;have u0:=f.a0;have u1:=f.a1;have u2:=f.a2;have u3:=f.a3;have t:=Hd2 f o;clear f o)
   |(refine⟨bO,?_⟩))
  go_ret;exact⟨by rw[E.out];rfl,t.out.1.bl⟩
theorem Xj{M:List Nat}{k1 k2:Nat}{n d:Int}{w:World}(hM:b_ M w)(hx:ZC w M n q1 A k1 c1)(hy:ZC w M d q2 B k2 c2)(fn:fits n=true)(fd:fits d=true)(h0:d≠0):
 Calls prog 136 #[.agg #[q1,.slice A k1 c1,q2,.slice B k2 c2]] w fun e w'=>∃p q A n' c B m d',e=.returned (.agg #[.bool p,.slice A n' c,.bool q,.slice B m d'])/\QC w' M (eP n d) p q A n' c B m d'/\Below w w w':=by
 obtain⟨rfl,hx⟩:=hx;obtain⟨rfl,hy⟩:=hy;refine(Ej hM hx hy fn fd h0).mono ?_;rintro e w' ⟨u,rfl,f,hb⟩;obtain⟨p,q,A,n,c,B,m,d,rfl,h⟩:=QC.of f;exact⟨p,q,A,n,c,B,m,d,rfl,h,hb⟩
theorem Xk{M:List Nat}{a b:Rt}{w:World}(hM:b_ M w)(ha:QW w M va a)(hb:QW w M vb b)(oa:a.ok)(ob:b.ok)(hf:Fine a b):
 Calls prog 90 #[va,vb] w (QR w M (VQ a b)):=by
 refine wid ?_;obtain⟨p1,q1,A1,n1,c1,B1,m1,d1,rfl,qa⟩:=QC.of ha;obtain⟨p2,q2,A2,n2,c2,B2,m2,d2,rfl,qb⟩:=QC.of hb;obtain⟨W1,ad⟩:=aC (((((w).alloc (.cells #[p1,.slice A1 n1 c1,q1,.slice B1 m1 d1] 48)).alloc (.cells #[p2,.slice A2 n2 c2,q2,.slice B2 m2 d2] 48)).alloc (.cells #[false,.slice none 0 0,false,.slice none 0 0] 48)).alloc (.cells #[.int .i64 0] 32));have F1:FQ w W1 p1 q1 p2 q2 (.slice A1 n1 c1) (.slice B1 m1 d1) (.slice A2 n2 c2) (.slice B2 m2 d2):=by rw[<-ad];exact FQ.start w _ _ _ _ _ _ _ _
 obtain⟨MM,E⟩:=aC ((w.heap.size+1+1)::(w.heap.size+1+1+1)::M);have Q:QC W1 MM a p1 q1 A1 n1 c1 B1 m1 d1:=by rw[<-E];exact Y1
 have D:QC W1 MM b p2 q2 A2 n2 c2 B2 m2 d2:=by rw[<-E];exact Y0
 have P:b_ MM W1:=by rw[<-E];exact VA
 have Y:=Sl.YU P Q D;have X:=fB Q D P;have ab:=Hd Y;have o:=fB oa ob hf;have L:=Hd E;have F:=Hd F1;have C:=F1;obtain⟨aH,aI,aJ,aK,aL,aM,aN,aO,aR,aS,aT,aU,aQ,ao,ap,av,aw,am,-,-⟩:=C;clear ha hb qa qb Q D hM P Y oa ob hf E;refine qj func90 rfl ntmps90 ?_
 gi_wp2_with (first
  |(refine⟨bO,?_⟩;gi_at_call 47;have g:=t.out;clear g;refine Cn (rM (M:=MM) _ 4 4 2 [a.num,b.num,a.den,b.den] _ ((X.v.le t.out.2.size).le po) (Sl.agf (X.v.le t.out.2.size) (X.a.go t.out.2).num (X.b.go t.out.2).num (X.a.go t.out.2).den (X.b.go t.out.2).den) (by simp[o.a.fn,o.a.fd,o.b.fn,o.b.fd]) (by simp[mW,o.v.nd,o.v.dn,o.v.dd,o.v.nn]) rfl pj) ?_;rintro e w4 ⟨O,cO,rfl,ae,hb4⟩;have S:Below W1 W1 w4:=(t.out.2.alloc t.out.2.size _).trans (hb4.mono (by simp;have:=t.out.2.size;omega));have F4:=F.out.go S;have J:=F4.drew;have C:=J;obtain⟨bc,bd,be,bf,bg,bh,bi,bj,bm,bn,bo,bp,bk,aD,aE,aF,aG,au,-,-⟩:=C;obtain⟨b0,o0,s1,S1,i1,j1,s2,S2,i2,j2,rfl,⟨Z,k1,k2,k3⟩,hz1,hz2⟩:=Sl.two ae;have G:=h_ J (X.v.le (w':=w4.drew) S.size) hz1.drew hz2.drew;clear hb4 S F4 J)
  |(refine Cl 46 (uO (M:=MM) _ 2 2 [a,b] _ (X.v.le po) ab.out (by simp[o.a,o.b])) ?_;rintro e w2 ⟨rfl,D⟩;have R:Below W1 W1 w2:=((bL W1 W1).alloc pD _).trans (D.mono po);have I:=F.out.go R;have C:=I;obtain⟨YN,YO,a3,a4,YP,Td,a5,a6,a8,a9,a_,ba,a7,YW,YX,aq,ar,YV,-,-⟩:=C;have t:=Hd2 I R;clear D R I)
  |fail)
 have v0:=ah Z;have v1:=ah k1;have v2:=ah k2;have v3:=ah k3;clear Z k1 k2 k3;refine aP [] 9 pk pk ?_;refine ay 0 ?_;refine ay 1 ?_;refine ay 2 ?_;refine ay 3 ?_;refine ay 4 ?_;refine ay 5 ?_;refine ay 6 ?_;refine ay 7 ?_;refine eU 8 fun K H=>?_;gi_wp2;refine Cm (Xj (n:=a.num*b.num) (d:=a.den*b.den) G.b G.c G.w o.v.nn o.v.dd (by have:=Int.mul_pos o.a.pos o.b.pos;omega)) ?_;rintro e w7 ⟨p7,q7,A7,n7,c7,B7,m7,d7,rfl,aa,T⟩;have F7:=G.a.go T;have C:=F7;obtain⟨aV,aW,aX,aY,aZ,a0,a1,a2,ai,aj,ak,al,ag,ax,az,aA,aB,an,-,-⟩:=C;have V:=Hd2 F7 aa;clear F7 aa;refine H _ _ ⟨?_,?_⟩;clear H K;·exact bq T []
 refine lit ?_;clear T;refine iq 2 ?_;refine jW fun K H K' ac=>?_;gi_wp2;refine jW fun K H K' ac=>?_;gi_wp2;refine et _ ?_;simp only[cu];gi_wp2;obtain⟨wF,af,t0,t1,t2,t3,t5,hQ,bF⟩:=WM (M:=M) (MM:=MM) ai aj ak al ag V.u.qw (fun k hk=>by rw[<-L.out];simp[hk]) (by rw[<-L.out];simp) (by rw[<-L.out];simp) pj V.a.bl pj pj;refine eS (f:=45) (args:=#[.pointer (some ⟨w+1+1+1,0,none⟩)]) po po pB (fun _ _=>bO) ?_;rw[af];refine(kT ⟨w+1+1+1,0,none⟩ _).mono ?_;rintro e u' bb ⟨rfl,rfl,rfl⟩;refine⟨.tuple #[.agg #[p7,.slice A7 n7 c7,q7,.slice B7 m7 d7],.int .i64 0],?_,_,rfl,hQ,bF⟩;simp[results,results90,go_sem,t0,t1,t2,t3,t5]
theorem MZ{M:List Nat}{a b:Rt}{w:World}(hM:b_ M w)(ha:QW w M va a)(hb:QW w M vb b)(oa:a.ok)(ob:b.ok)(hf:Fine a b):
 Calls prog 86 #[va,vb] w (QR w M (Js a b)):=by
 refine wid ?_;obtain⟨p1,q1,A1,n1,c1,B1,m1,d1,rfl,qa⟩:=QC.of ha;obtain⟨p2,q2,A2,n2,c2,B2,m2,d2,rfl,qb⟩:=QC.of hb;obtain⟨W1,af⟩:=aC (((((w).alloc (.cells #[p1,.slice A1 n1 c1,q1,.slice B1 m1 d1] 48)).alloc (.cells #[p2,.slice A2 n2 c2,q2,.slice B2 m2 d2] 48)).alloc (.cells #[false,.slice none 0 0,false,.slice none 0 0] 48)).alloc (.cells #[.int .i64 0] 32));have F1:FQ w W1 p1 q1 p2 q2 (.slice A1 n1 c1) (.slice B1 m1 d1) (.slice A2 n2 c2) (.slice B2 m2 d2):=by rw[<-af];exact FQ.start w _ _ _ _ _ _ _ _
 obtain⟨MM,L⟩:=aC ((w.heap.size+1+1)::(w.heap.size+1+1+1)::M);have V:QC W1 MM a p1 q1 A1 n1 c1 B1 m1 d1:=by rw[<-L];exact Y1
 have H:QC W1 MM b p2 q2 A2 n2 c2 B2 m2 d2:=by rw[<-L];exact Y0
 have T:b_ MM W1:=by rw[<-L];exact VA
 have SV:=Sl.YU T V H;have X:=fB V H T;have ac:=Hd SV;have o:=fB oa ob hf;have S:=Hd L;have F:=Hd F1;have E:=F1;obtain⟨aJ,aK,aL,aM,aN,aO,aQ,aR,aT,aU,aV,aW,aS,aq,ar,ax,az,ao,-,-⟩:=E;clear ha hb qa qb V H hM T SV oa ob hf L;refine qj func86 rfl ntmps86 ?_
 gi_wp2_with (first
  |(refine⟨bO,?_⟩;gi_at_call 47;have g:=t.out;clear g;refine Cn (rM (M:=MM) _ 6 6 3 [a.num,b.den,b.num,a.den,a.den,b.den] _ ((X.v.le t.out.2.size).le po) (Sl.ais (X.v.le t.out.2.size) (X.a.go t.out.2).num (X.b.go t.out.2).den (X.b.go t.out.2).num (X.a.go t.out.2).den (X.a.go t.out.2).den (X.b.go t.out.2).den) (by simp[o.a.fn,o.a.fd,o.b.fn,o.b.fd]) (by simp[mW,o.v.nd,o.v.dn,o.v.dd,o.v.nn]) rfl pj) ?_;rintro e w4 ⟨O,cO,rfl,ag,hb4⟩;have D:Below W1 W1 w4:=(t.out.2.alloc t.out.2.size _).trans (hb4.mono (by simp;have:=t.out.2.size;omega));have F4:=F.out.go D;have R:=F4.drew;have E:=R;obtain⟨be,bf,bg,bh,bi,bj,bk,bm,bo,bp,br,bs,bn,aF,aG,aH,aI,aw,-,-⟩:=E;obtain⟨b0,o0,s1,S1,i1,j1,s2,S2,i2,j2,s3,S3,i3,j3,rfl,⟨c0,k1,k2,k3,k4,k5⟩,hz1,hz2,hz3⟩:=Sl.three ag;have G:=oK R (X.v.le (w':=w4.drew) D.size) hz1.drew hz2.drew hz3.drew;clear hb4 D F4 R)
  |(refine Cl 46 (uO (M:=MM) _ 2 2 [a,b] _ (X.v.le po) ac.out (by simp[o.a,o.b])) ?_;rintro e w2 ⟨rfl,H⟩;have Y:Below W1 W1 w2:=((bL W1 W1).alloc pD _).trans (H.mono po);have Q:=F.out.go Y;have E:=Q;obtain⟨YN,YO,a5,a6,YP,Td,a7,a8,a_,ba,bb,bc,a9,YW,YX,au,av,YV,-,-⟩:=E;have t:=Hd2 Q Y;clear H Y Q)
  |fail)
 have v0:=ah c0;have v1:=ah k1;have v2:=ah k2;have v3:=ah k3;have v4:=ah k4;have v5:=ah k5;clear c0 k1 k2 k3 k4 k5;refine aP [] 16 pk pk ?_;refine ay 0 ?_;refine ay 1 ?_;refine ay 2 ?_;refine ay 3 ?_;refine ay 4 ?_;refine ay 5 ?_;refine ay 10 ?_;refine ay 11 ?_;refine ay 12 ?_;refine eU 6 fun K C=>?_;gi_wp2;refine Cm (WG (a:=a.num*b.den) (b:=b.num*a.den) G.b G.c.zv G.d.zv o.v.nd o.v.dn) ?_;rintro e w5 ⟨u5,rfl,r_,D⟩;rw[nJ o.v.ad];rw[nK o.v.ad]at r_;obtain⟨q5,A5,n5,c5,rfl,ab⟩:=ZC.of r_;have J:=h_ (G.a.go D) ab (G.x.go D) (G.b.le D.size);clear r_ ab;refine C _ _ ⟨?_,?_⟩;clear C K;·exact bq D []
 refine lit ?_;clear D;refine ay 7 ?_;refine ay 8 ?_;refine eU 9 fun K C=>?_;gi_wp2;refine Cm (Ei J.b.zv) ?_;rintro e w6 ⟨rfl,-,I⟩;have P:=h_ (J.a.go I) (J.b.go I) (J.c.go I) (J.w.le I.size);refine C _ _ ⟨?_,?_⟩;clear C K;·exact bq I []
 refine lit ?_;clear I;refine ay 13 ?_;refine ay 14 ?_;refine eU 15 fun K C=>?_;gi_wp2;refine Cm (Xj (n:=a.num*b.den+b.num*a.den) (d:=a.den*b.den) P.w P.b P.c o.v.ad o.v.dd (by have:=Int.mul_pos o.a.pos o.b.pos;omega)) ?_;rintro e w7 ⟨p7,q7,A7,n7,c7,B7,m7,d7,rfl,aa,Z⟩;have F7:=P.a.go Z;have E:=F7;obtain⟨aX,aY,aZ,a0,a1,a2,a3,a4,ak,al,am,an,aj,aA,aB,aD,aE,ap,-,-⟩:=E;have G7:=Hd2 F7 aa;clear F7 aa;refine C _ _ ⟨?_,?_⟩;clear C K;·exact bq Z []
 refine lit ?_;clear Z;refine iq 2 ?_;refine jW fun K C K' ae=>?_;gi_wp2;refine jW fun K C K' ae=>?_;gi_wp2;refine et _ ?_;simp only[cu];gi_wp2;obtain⟨wF,ai,t0,t1,t2,t3,t5,hQ,bF⟩:=WM (M:=M) (MM:=MM) ak al am an aj G7.u.qw (fun k hk=>by rw[<-S.out];simp[hk]) (by rw[<-S.out];simp) (by rw[<-S.out];simp) pj G7.a.bl pj pj;refine eS (f:=45) (args:=#[.pointer (some ⟨w+1+1+1,0,none⟩)]) po po pB (fun _ _=>bO) ?_;rw[ai];refine(kT ⟨w+1+1+1,0,none⟩ _).mono ?_;rintro e u' bd ⟨rfl,rfl,rfl⟩;refine⟨.tuple #[.agg #[p7,.slice A7 n7 c7,q7,.slice B7 m7 d7],.int .i64 0],?_,_,rfl,hQ,bF⟩;simp[results,results86,go_sem,t0,t1,t2,t3,t5]
structure FS(w W:World)(p1 q1 p2 q2:Bool)(u1 v1 u2 v2:Value):Prop where
 a0:W.cell? ⟨w,0,none⟩=some (.bool p1)
 a1:W.cell? ⟨w,1,none⟩=some (u1)
 a2:W.cell? ⟨w,2,none⟩=some (.bool q1)
 a3:W.cell? ⟨w,3,none⟩=some (v1)
 b0:W.cell? ⟨w+1,0,none⟩=some (.bool p2)
 b1:W.cell? ⟨w+1,1,none⟩=some (u2)
 b2:W.cell? ⟨w+1,2,none⟩=some (.bool q2)
 b3:W.cell? ⟨w+1,3,none⟩=some (v2)
 x0:W.cell? ⟨w+1+1,0,none⟩=some (.bool false)
 x1:W.cell? ⟨w+1+1,1,none⟩=some (.slice none 0 0)
 x2:W.cell? ⟨w+1+1,2,none⟩=some (.bool false)
 x3:W.cell? ⟨w+1+1,3,none⟩=some (.slice none 0 0)
 e0:W.cell? ⟨w+1+1+1,0,none⟩=some (.int .i64 0)
 fb0:W.frozen? ⟨w+1,0,none⟩=false
 fb1:W.frozen? ⟨w+1,1,none⟩=false
 fb2:W.frozen? ⟨w+1,2,none⟩=false
 fb3:W.frozen? ⟨w+1,3,none⟩=false
 WR:W.frozen? ⟨w+1+1,0,none⟩=false
 WT:W.frozen? ⟨w+1+1,1,none⟩=false
 fx2:W.frozen? ⟨w+1+1,2,none⟩=false
 fx3:W.frozen? ⟨w+1+1,3,none⟩=false
 fe0:W.frozen? ⟨w+1+1+1,0,none⟩=false
 bl:Below w w W
 sz:w.heap.size+4<=W.heap.size
theorem FS.go{w:World}(h:FS w W p1 q1 p2 q2 u1 v1 u2 v2)(hb:Below W W W'):FS w W' p1 q1 p2 q2 u1 v1 u2 v2:=by have hs:=h.sz;have c:∀(k o:Nat) (u:Value),k<w.heap.size+4->W.cell? ⟨k,o,none⟩=some u->W'.cell? ⟨k,o,none⟩=some u:=fun k o u g e=>(hb.cell (p:=⟨k,o,none⟩) (show k<_ by omega)).trans e;have f:∀(k o:Nat),k<w.heap.size+4->W.frozen? ⟨k,o,none⟩=false->W'.frozen? ⟨k,o,none⟩=false:=fun k o g e=>(hb.frozen (p:=⟨k,o,none⟩) (show k<_ by omega)).trans e;exact⟨c _ _ _ pj h.a0,c _ _ _ pj h.a1,c _ _ _ pj h.a2,c _ _ _ pj h.a3,c _ _ _ pj h.b0,c _ _ _ pj h.b1,c _ _ _ pj h.b2,c _ _ _ pj h.b3,c _ _ _ pj h.x0,c _ _ _ pj h.x1,c _ _ _ pj h.x2,c _ _ _ pj h.x3,c _ _ _ pj h.e0,f _ _ pj h.fb0,f _ _ pj h.fb1,f _ _ pj h.fb2,f _ _ pj h.fb3,f _ _ pj h.WR,f _ _ pj h.WT,f _ _ pj h.fx2,f _ _ pj h.fx3,f _ _ pj h.fe0,h.bl.trans (hb.mono h.bl.size),by have:=hb.size;omega⟩
theorem FS.start(w:World)(p1 q1 p2 q2:Bool)(u1 v1 u2 v2:Value):FS w (((((w).alloc (.cells #[p1,u1,q1,v1] 48)).alloc (.cells #[p2,u2,q2,v2] 48)).alloc (.cells #[false,.slice none 0 0,false,.slice none 0 0] 48)).alloc (.cells #[.int .i64 0] 32)) p1 q1 p2 q2 u1 v1 u2 v2:=by exact DV
theorem Xl{M:List Nat}{a b:Rt}{w:World}(hM:b_ M w)(ha:QW w M va a)(hb:QW w M vb b)(oa:a.ok)(ob:b.ok)(hf:Fine a b):
 Calls prog 88 #[va,vb] w (QR w M (OG a b)):=by
 refine wid ?_;rw[VT];obtain⟨p1,q1,A1,n1,c1,B1,m1,d1,rfl,qa⟩:=QC.of ha;obtain⟨p2,q2,A2,n2,c2,B2,m2,d2,rfl,L⟩:=QC.of hb;obtain⟨W1,aq⟩:=aC (((((w).alloc (.cells #[p1,.slice A1 n1 c1,q1,.slice B1 m1 d1] 48)).alloc (.cells #[p2,.slice A2 n2 c2,q2,.slice B2 m2 d2] 48)).alloc (.cells #[false,.slice none 0 0,false,.slice none 0 0] 48)).alloc (.cells #[.int .i64 0] 32));have F1:FS w W1 p1 q1 p2 q2 (.slice A1 n1 c1) (.slice B1 m1 d1) (.slice A2 n2 c2) (.slice B2 m2 d2):=by rw[<-aq];exact FS.start w _ _ _ _ _ _ _ _
 obtain⟨MM,G⟩:=aC ((w.heap.size+1)::(w.heap.size+1+1)::(w.heap.size+1+1+1)::M);have Y:QC W1 MM a p1 q1 A1 n1 c1 B1 m1 d1:=by rw[<-G];exact(((qa.more (b:=w+1+1+1) pj).more (b:=w+1+1) pj).more (b:=w+1) pj).go F1.bl
 have t:QC W1 MM b p2 q2 A2 n2 c2 B2 m2 d2:=by rw[<-G];exact(((L.more (b:=w+1+1+1) pj).more (b:=w+1+1) pj).more (b:=w+1) pj).go F1.bl
 have T:b_ MM W1:=by rw[<-G];exact(((hM.le F1.bl.size).cons (by have:=F1.sz;omega)).cons (by have:=F1.sz;omega)).cons (by have:=F1.sz;omega)
 have SV:=Sl.YU T Y t;have X:=fB Y t T;have aj:=Hd SV;have E:=fB oa ob hf;have K:=Hd G;have HL:=Hd (JA (z:=b.num) (n:=n2) L.num.sl.eu);have ah:=L.num.neg;have F:=Hd F1;have H:=F1;obtain⟨a3,a4,a5,a6,a7,a8,a9,a_,bb,bc,bd,be,ba,aV,aW,aX,aY,aN,aO,aP,aQ,aL,-,-⟩:=H;clear ha hb qa L Y t hM T SV oa ob hf G;obtain⟨P,V⟩:=aC (aG (-b.num));have HP:=Hd V;have af:P=(!p2&&decide (0<n2)):=by rw[<-V,HL.out,ah]
 clear V ah;cases p2<;>by_cases ar:0<n2
 all_goals(
 obtain⟨o,ae⟩:∃o,o=P:=⟨_,rfl⟩;have ac:=Hd ae;clear ae;simp only[ar,decide_true,decide_false,Bool.not_true,Bool.not_false,Bool.and_true,Bool.and_false]at af;subst af;refine qj func88 rfl ntmps88 ?_
 gi_wp2_with (first
  |(refine⟨bO,?_⟩;gi_at_call 86;have g:=D.out;clear g;have S:=D.out.1;have F3:FS w (C.setCell ⟨w+1,0,none⟩ o) p1 q1 o q2 (.slice A1 n1 c1) (.slice B1 m1 d1) (.slice A2 n2 c2) (.slice B2 m2 d2):=by
     constructor
     all_goals first
      |(simp[go_sem,YN,YO,aA,aB,YP,Td,aD,aE,aH,aI,aJ,aK,aF,YW,YX,ak,al,YV,ap,am,an,ao];done)
      |exact S.bl.setCell (p:=⟨w+1,0,none⟩) po _
      |(simp;exact S.sz)
    have I:Keeps MM C (C.setCell ⟨w+1,0,none⟩ o):=(cG _ _).setCell (p:=⟨w+1,0,none⟩) (.inl (by rw[<-K.out];simp)) _;have J:=X.a.go D.out.2;have Q:=X.b.go D.out.2;have aa:QC (C.setCell ⟨w+1,0,none⟩ o) MM a p1 q1 A1 n1 c1 B1 m1 d1:=⟨⟨J.num.neg,J.num.sl.keep I⟩,⟨J.den.neg,J.den.sl.keep I⟩⟩;have ab:QC (C.setCell ⟨w+1,0,none⟩ o) MM (negR b) o q2 A2 n2 c2 B2 m2 d2:=⟨⟨HP.out.trans ac.out.symm,by show Sl Int _ MM A2 n2 c2 (ints (bG (-b.num)));rw[tN];exact Q.num.sl.keep I⟩,⟨Q.den.neg,Q.den.sl.keep I⟩⟩;rw[ac.out]at F3 aa ab;refine Cn (MZ (M:=MM) (a:=a) (b:=negR b) ((X.v.le D.out.2.size).le po) aa.qw ab.qw E.a (VP E.b) E.v.neg) ?_;rintro e w7 ⟨u7,rfl,ai,ag⟩;obtain⟨p7,q7,A7,n7,c7,B7,m7,d7,rfl,ad⟩:=QC.of ai;have F7:=F3.go ag;have H:=F7;obtain⟨bf,bg,bh,bi,bj,bk,bm,bn,aw,ax,ay,az,av,aZ,a0,a1,a2,aR,aS,aT,aU,aM,-,-⟩:=H;have G7:=Hd2 F7 ad;clear F7 ai ad ag F3 J Q aa ab I S)
  |(refine Cl 46 (uO (M:=MM) _ 2 2 [a,b] _ (X.v.le po) aj.out (by simp[E.a,E.b])) ?_;rintro e C ⟨rfl,t⟩;have Z:Below W1 W1 C:=((bL W1 W1).alloc pD _).trans (t.mono po);have R:=F.out.go Z;have H:=R;obtain⟨YN,YO,aA,aB,YP,Td,aD,aE,aH,aI,aJ,aK,aF,ap,am,an,ao,YW,YX,ak,al,YV,-,-⟩:=H;have D:=Hd2 R Z;clear t Z R)
  |fail)
 obtain⟨wF,au,t0,t1,t2,t3,t5,hQ,bF⟩:=WM (M:=M) (MM:=MM) aw ax ay az av G7.u.qw (fun k hk=>by rw[<-K.out];simp[hk]) (by rw[<-K.out];simp) (by rw[<-K.out];simp) pj G7.a.bl pj pj;refine eS (f:=45) (args:=#[.pointer (some ⟨w+1+1+1,0,none⟩)]) po po pB (fun _ _=>bO) ?_;rw[au];refine(kT ⟨w+1+1+1,0,none⟩ _).mono ?_;rintro e u' bo ⟨rfl,rfl,rfl⟩;refine⟨.tuple #[.agg #[p7,.slice A7 n7 c7,q7,.slice B7 m7 d7],.int .i64 0],?_,_,rfl,hQ,bF⟩;simp[results,results88,go_sem,t0,t1,t2,t3,t5])
theorem take_same{l m:List Int}{x:Int}(h:l.take k=m.take k)(h1:l[k]?=some x)(h2:m[k]?=some x):l.take (k+1)=m.take (k+1):=by rw[take_snoc h1,take_snoc h2,h]
theorem zJ{M:List Nat}(q1 q2:Bool)(A B:Option Addr)(n c m d:Nat)(l1 l2:List Int)(w:World)(hx:Sl Int w M A n c l1)(hy:Sl Int w N B m d l2):
 CB 44 #[.agg #[q1,.slice A n c],.agg #[q2,.slice B m d]] (.bool (decide ((q1,l1)=(q2,l2)))) w:=by
 refine wid ?_;have t:=hx.len;have o:=hy.len;have ae:=hx.small;have af:=hy.small;obtain⟨W1,ad,F1⟩:=dR (((Fr.nil w).a w [q1,.slice A n c] 46).a (w+1) [q2,.slice B m d] 46);have I:=F1;refine op1 I ?_;intros;have X:=Hd2 hx hy;have F:=Hd F1;clear hx hy F1 I;by_cases C:q1=q2
 ·subst C;by_cases V:n=m
  ·subst V;have HN:=Hd2 t o;clear t o;refine ent func44 ntmps44 ?_;gi_wp2;gi_loopw[5] (fun i wr=>∃k:Nat,k<=n/\i=k/\Hid (l1.take k=l2.take k)/\Hid (Fr w wr [(w, [q1,.slice A n c]),(w+1, [q1,.slice B n d])])) (fun i _=>n-(intOf i).toNat);case atStart=>exact⟨0,cf _,rfl,Hd rfl,F.out⟩
   case round=>
    obtain⟨k,hk,rfl,Y,L⟩:=hrel;have f:=L.out;refine op1 f ?_;intros;have g:=L.out.drew;refine op1 g ?_;intros;have G:=f.nth 0;have H:=f.nth 1;by_cases S:k<n
    ·obtain⟨b1,o1,x,rfl,Q,-,-,Z⟩:=(X.a.go f.bl).pR S;obtain⟨b2,o2,y,rfl,R,-,-,ab⟩:=(X.u.go f.bl).pR S;have v1:=ah Q;have v2:=ah R;have v3:=ah (G 1 _ rfl);have v4:=ah (H 1 _ rfl);have HX:=Hd2 Z ab;clear Q R Z ab G H;by_cases aa:x=y;·subst aa;have ac:=Hd (take_same Y.out HX.a HX.u);have D:=Hd g;clear f g;gi_wp2;refine aP [] 11 pk pk ?_;refine ay 0 ?_;refine ay 1 ?_;refine ay 2 ?_;refine ay 3 ?_;refine ay 4 ?_;refine ay 5 ?_;refine ay 6 ?_;refine ay 7 ?_;refine ay 8 ?_;refine ay 9 ?_;refine ay 10 ?_;refine iq 0 ?_;refine et _ ?_;simp only[cu];gi_wp2;exact⟨⟨k+1,pj,by go_num,ac,D⟩,by simp[intOf];omega⟩
     have T:decide ((q1,l1)=(q1,l2))=false:=cE (fun e=>by have e2:=(me e).2;have K:=HX.a;rw[e2,HX.u]at K;exact aa (fk K).symm);have J:=Hd T;have D:=Hd g.bl;clear T f g;gi_wp2;refine aP [] 11 pk pk ?_;refine ay 0 ?_;refine ay 1 ?_;refine ay 2 ?_;refine ay 3 ?_;refine ay 4 ?_;refine ay 5 ?_;refine ay 6 ?_;refine ay 7 ?_;refine ay 8 ?_;refine ay 9 ?_;refine ay 10 ?_;refine iq 0 ?_;refine et _ ?_;simp only[cu];gi_wp2;go_ret;exact⟨by first|(rw[J.out];done)|(rw[J.out];rfl),D.out⟩
    ·obtain rfl:k=n:=pj;have P:l1=l2:=by
      have:=Y.out
      rwa [bR (by rw[HN.a];exact bj _),bR (by rw[HN.u];exact bj _)]at this
     have E:=Hd (show decide ((q1,l1)=(q1,l2))=true by rw[P];simp);have HB:=Hd f.bl;clear f g P G H;gi_wp2;go_ret;exact⟨by first|(rw[E.out];done)|(rw[E.out];rfl),HB.out⟩
  have E:=Hd (show decide ((q1,l1)=(q1,l2))=false from cE (fun e=>V (by rw[<-t,<-o,(me e).2])));clear t o;refine ent func44 ntmps44 ?_;gi_wp2;go_ret;exact⟨by first|(rw[E.out];done)|(rw[E.out];rfl),F.out.bl⟩
 ·have E:=Hd (show decide ((q1,l1)=(q2,l2))=false from cE (fun e=>C (me e).1));clear t o;cases q1<;>cases q2
  case neg.false.false=>exact absurd rfl C
  case neg.true.true=>exact absurd rfl C
  all_goals(
  clear C;refine ent func44 ntmps44 ?_;gi_wp2;go_ret;exact⟨by first|(rw[E.out];done)|(rw[E.out];rfl),F.out.bl⟩)
theorem zK{M:List Nat}{y:fC}{w:World}(ha:RV w M va x)(hb:RV w N vb y):
 CB 13 #[va,vb] (.bool (decide (x=y))) w:=by
 refine wid ?_;obtain⟨A1,n1,c1,B1,m1,d1,rfl,a1,a2⟩:=ha;obtain⟨A2,n2,c2,B2,m2,d2,rfl,b1,b2⟩:=hb;obtain⟨⟨p1,t⟩,⟨q1,k1⟩⟩:=x;obtain⟨⟨p2,u⟩,⟨q2,k2⟩⟩:=y;simp only at a1 a2 b1 b2 |-;obtain⟨W1,P,F1⟩:=dR (((Fr.nil w).a w [p1,.slice A1 n1 c1,q1,.slice B1 m1 d1] 48).a (w+1) [p2,.slice A2 n2 c2,q2,.slice B2 m2 d2] 48);refine op1 F1 ?_;intros;have X:=h_ (a1.go F1.bl) (a2.go F1.bl) (b1.go F1.bl) (b2.go F1.bl);have F:=Hd F1;clear a1 a2 b1 b2 F1;by_cases g:(p1,t)=(p2,u)
 ·have D:=Hd (cx g);have H:decide (((p1,t),(q1,k1))=((p2,u),(q2,k2)))=decide ((q1,k1)=(q2,k2)):=by rw[g];simp
  obtain⟨V,G⟩:=aC (decide (((p1,t),(q1,k1))=((p2,u),(q2,k2))));rw[G];have E:=Hd (H.symm.trans G);clear g H G;refine ent func13 ntmps13 ?_
  gi_wp2_with (first
   |(refine⟨bO,?_⟩;gi_at_call 44;have K:=f.out;clear K;refine Cn (zJ q1 q2 B1 B2 m1 d1 m2 d2 k1 k2 _ (X.b.go f.out.2) (X.w.go f.out.2)) ?_;rintro e Q ⟨rfl,I⟩;rw[E.out];have J:=Hd (f.out.1.go I);clear I)
   |(refine Cl 44 (zJ p1 p2 A1 A2 n1 c1 n2 c2 t u _ X.a X.c) ?_;rintro e L ⟨rfl,o⟩;rw[D.out];have C:=F.out.go o;refine op1 C ?_;intros;have f:=Hd2 C o;clear o C)
   |fail)
  go_ret;exact⟨rfl,J.out.bl⟩
 ·have D:=Hd (cE g);have E:=Hd (show decide (((p1,t),(q1,k1))=((p2,u),(q2,k2)))=false from cE (fun e=>g (me e).1));clear g;refine ent func13 ntmps13 ?_
  gi_wp2_with (first
   |(refine Cl 44 (zJ p1 p2 A1 A2 n1 c1 n2 c2 t u _ X.a X.c) ?_;rintro e L ⟨rfl,o⟩;rw[D.out];have f:=Hd (F.out.go o);clear o)
   |(refine⟨bO,?_⟩))
  go_ret;exact⟨by rw[E.out];rfl,f.out.bl⟩
end
