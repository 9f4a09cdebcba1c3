/- Lemmas. -/
import Derived.Test.YtfdmnogfflcllaaGreatDoorM12
set_option linter.unusedVariables false
set_option linter.unusedSimpArgs false
set_option maxRecDepth 100000
set_option maxHeartbeats 20000000
namespace Go.Proofs.YtfdmnogfflcllaaGreatDoor
open Go.Proofs.Tryz
theorem AQ{p:Prop}(h:p:=by
 clear o p;rw[C.out];refine ent func115 rfl ntmps115 ?_
 gi_wp2_with (first
  |(refine Cl 156 (two_any (a:=a) (b:=b) (M:=M) ⟨A,n,c,by rw[HN.a],X.a⟩ ⟨B,m,d,by rw[HN.u],X.b⟩ HF.a HF.u) ?_;rintro e J ⟨rfl,g⟩;have f:=F.out.go g;have t:=f;obtain⟨G,H,I,E,-,-⟩:=t;have h:=Hd2 f g;clear g f)
  |(refine⟨bq,?_⟩))
 first
  |exact⟨rfl,h.a.bl⟩
  |(go_ret2;exact⟨rfl,h.a.bl⟩)):p:=h
theorem AV{p:Prop}(h:p:=by have C:=Hd o.a;have c3:=c2;refine eM (f:=96) (args:=#[.pointer (some ⟨w+1+1,0,none⟩)]) oO oO oX (fun _ _=>bq) ?_;refine(iJ ⟨w+1+1,0,none⟩ _).mono ?_;rintro e J K ⟨rfl,rfl,rfl⟩;have V:=cZ (u:=.int .i64 0) c3;refine⟨.tuple #[.int .i64 (tV a b),.int .i64 0],?_,rfl,C.out.bl.setCell (p:=⟨w+1+1,0,none⟩) oS _⟩;rw[D.out];simp[results,results49,go_sem,c3]):p:=h
theorem AZ{p:Prop}(h:p:=by have C:=Y;refine eM (f:=96) (args:=#[.pointer (some ⟨w+1+1,0,none⟩)]) oO oO oX (fun _ _=>bq) ?_;refine(iJ ⟨w+1+1,0,none⟩ _).mono ?_;rintro e J K ⟨rfl,rfl,rfl⟩;have V:=cZ (u:=.int .i64 0) c3;refine⟨.tuple #[.int .i64 (tV a b),.int .i64 0],?_,rfl,C.out.bl.setCell (p:=⟨w+1+1,0,none⟩) oS _⟩;simp[results,results49,go_sem,c3]):p:=h
theorem EC{p:Prop}(h:p:=by constructor<;>first|(simp[go_sem];done)|(simp;done)|exact bel):p:=h
theorem PU{p:Prop}(h:p:=by cases f;exact⟨_,oI h1.neg h1.sl,fun j u e=>by match j,e with|0,e=>exact e|1,e=>exact e⟩):p:=h
theorem P6{p:Prop}(h:p:=by cases f;exact⟨_,oI h2.neg h2.sl,fun j u e=>by match j,e with|0,e=>exact e|1,e=>exact e⟩):p:=h
theorem QJ{p:Prop}(h:p:=by cases f;exact⟨_,oI h3.neg h3.sl,fun j u e=>by match j,e with|0,e=>exact e|1,e=>exact e⟩):p:=h
theorem QK{p:Prop}(h:p:=by cases f;exact⟨_,oI h4.neg h4.sl,fun j u e=>by match j,e with|0,e=>exact e|1,e=>exact e⟩):p:=h
theorem TI{p:Prop}(h:p:=by
 match j,e with
 |0,e=>exact e
 |1,e=>exact e
 |2,e=>exact e
 |3,e=>exact e):p:=h
theorem Xh{p:Prop}(h:p:=by
 first
  |exact⟨rfl,Y.out.bl⟩
  |(go_ret2;exact⟨rfl,Y.out.bl⟩)):p:=h
variable {z y z1 z2 z3 z4:Int}{k i j s n m base nr cr n1 c1 m1 d1 n2 c2 m2 d2 n3 c3 n4 c4:Nat}{v1 v2 va vb u1 v u2:Value}{W W':World}{na nb q p1 q1 p2 q2 q3 q4:Bool}{A B O A1 B1 A2 B2 A3 A4:Option Addr}{l:List Nat}{x:fC}
def Js(a b:Rt):Rt:=eP (a.num*b.den+b.num*a.den) (a.den*b.den)
def OG(a b:Rt):Rt:=eP (a.num*b.den-b.num*a.den) (a.den*b.den)
def VQ(a b:Rt):Rt:=eP (a.num*b.num) (a.den*b.den)
def rW(a b:Rt):Int:=if a.num*b.den<b.num*a.den then-1 else if b.num*a.den<a.num*b.den then 1 else 0
theorem zy{a b:Nat}(h:a<=b):BB^a<=BB^b:=iu eX h
theorem pF(h:z.natAbs<BB^k)(hk:k<=2048):fits z=true:=cw (cD ((lY _ k).1 h) hk)
def Qx:Nat:=1000
structure Sh(x:Rt):Prop where
 num:x.num.natAbs<BB^Qx
 den:x.den.natAbs<BB^Qx
theorem dL{a b:Int}(ha:a.natAbs<BB^i)(hb:b.natAbs<BB^j):(a*b).natAbs<BB^(i+j):=by rw[Int.natAbs_mul,Nat.pow_add];exact Nat.mul_lt_mul'' ha hb
theorem vZ{a b:Int}(ha:a.natAbs<BB^i)(hb:b.natAbs<BB^i):(a+b).natAbs<BB^(i+1):=by have f:=Int.natAbs_add_le a b;have e:=rE;rw[lj];have g:BB^i*2<=BB^i*BB:=ln _ e;omega
theorem DU{a b:Int}(ha:a.natAbs<BB^i)(hb:b.natAbs<BB^i):(a-b).natAbs<BB^(i+1):=by rw[Int.sub_eq_add_neg];exact vZ ha (by rwa [Int.natAbs_neg])
structure Fine(a b:Rt):Prop where
 nd:fits (a.num*b.den)=true
 dn:fits (b.num*a.den)=true
 dd:fits (a.den*b.den)=true
 nn:fits (a.num*b.num)=true
 ad:fits (a.num*b.den+b.num*a.den)=true
 sb:fits (a.num*b.den-b.num*a.den)=true
theorem Sh.fine{a b:Rt}(ha:Sh a)(hb:Sh b):Fine a b:=⟨pF (dL ha.num hb.den) (by unfold Qx;omega),pF (dL hb.num ha.den) (by unfold Qx;omega),pF (dL ha.den hb.den) (by unfold Qx;omega),pF (dL ha.num hb.num) (by unfold Qx;omega),pF (vZ (dL ha.num hb.den) (dL hb.num ha.den)) (by unfold Qx;omega),pF (DU (dL ha.num hb.den) (dL hb.num ha.den)) (by unfold Qx;omega)⟩
theorem VT(a b:Rt):OG a b=Js a (negR b):=by unfold OG Js negR;simp only[Int.neg_mul,Int.sub_eq_add_neg]
theorem Fine.neg{a b:Rt}(h:Fine a b):Fine a (negR b):=by
 have G:(negR b).num= -b.num:=rfl;have N:(negR b).den=b.den:=rfl;refine⟨h.nd,?_,h.dd,?_,?_,?_⟩;·rw[G,Int.neg_mul];exact DN h.dn
 ·rw[G,Int.mul_neg];exact DN h.nn
 ·rw[G,N,Int.neg_mul,<-Int.sub_eq_add_neg];exact h.sb
 rw[G,N,Int.neg_mul,Int.sub_neg];exact h.ad
theorem aaB(a b:Rt):rW b a= -rW a b:=by
 unfold rW;generalize a.num*b.den=x;generalize b.num*a.den=y
 repeat' split
 all_goals omega
theorem acH(a:Rt):rW a a=0:=by simp[rW]
theorem adz(a b:Rt):rW a b= -1\/rW a b=0\/rW a b=1:=by
 unfold rW
 repeat' split
 all_goals simp
structure Bd(D A:Nat)(x:Rt):Prop where
 ok:x.ok
 dv:x.den∣(D:Int)
 le:x.num.natAbs<=A*x.den.natAbs
section
open Go.RowKit Go.Shelf
attribute [local go_sem] cK
theorem two_any{M:List Nat}{a b:Int}{w:World}(ha:ZV w M v1 a)(hb:ZV w M v2 b)(fa:fits a=true)(fb:fits b=true):
 CB 156 #[v1,v2] (.int .i64 0) w:=by
 refine wid ?_;obtain⟨A,t,c1,rfl,hx⟩:=ha;obtain⟨B,C,c2,rfl,H⟩:=hb;have J:=Hd (show rJ (gZ (aG a,ints (bG a)))=0 by rw[show(aG a,ints (bG a))=jk a from rfl,j_ a fa];rfl);have EX:=Hd (show rJ (gZ (aG b,ints (bG b)))=0 by rw[show(aG b,ints (bG b))=jk b from rfl,j_ b fb];rfl);have X:=Hd2 hx H;generalize aG a=q1 at*
 generalize aG b=q2 at*
 obtain⟨W1,f⟩:=aC ((w.alloc (.cells #[.bool q1,.slice A t c1] 46)).alloc (.cells #[.bool q2,.slice B C c2] 46));have b1:Below w w W1:=by rw[<-f];exact bel
 have I:w.heap.size+1<W1.heap.size:=by rw[<-f];simp
 have K:W1.cell? ⟨w,0,none⟩=some (.bool q1):=by rw[<-f];simp[go_sem]
 have L:W1.cell? ⟨w,1,none⟩=some (.slice A t c1):=by rw[<-f];simp[go_sem]
 have N:W1.cell? ⟨w+1,0,none⟩=some (.bool q2):=by rw[<-f];simp[go_sem]
 have D:W1.cell? ⟨w+1,1,none⟩=some (.slice B C c2):=by rw[<-f];simp[go_sem]
 have F:=h_ b1 I N D;clear hx H fa fb b1 I N D;refine ent func156 rfl ntmps156 ?_
 gi_wp2_with (first
  |(refine⟨bq,?_⟩;gi_at_call 112;have g:=o.out;clear g;refine Cn (fZ B C c2 _ (ints (bG b)) _ ((X.u.go F.a).go o.out)) ?_;rintro e R ⟨rfl,G⟩;rw[EX.out];have Y:=Hd G;clear G)
  |(refine Cl 112 (fZ A t c1 _ (ints (bG a)) _ (X.a.go F.a)) ?_;rintro e Q ⟨rfl,h⟩;rw[J.out];have u2:=(h.cell (p:=⟨w+1,0,none⟩) F.b).trans F.c;have P:=(h.cell (p:=⟨w+1,1,none⟩) F.b).trans F.w;have o:=Hd h;clear h)
  |fail)
 go_ret;have E:=F.a.trans (o.out.mono F.a.size);exact⟨rfl,E.trans (Y.out.mono E.size)⟩
def tV(a b:Int):Int:=if a<b then-1 else if b<a then 1 else 0
theorem Md{a b:Int}(ha:aG a=true)(hb:aG b=true):qK b.natAbs a.natAbs=tV a b:=by
 have e:=cW ha;have f:=cW hb;unfold qK tV
 repeat' split
 all_goals omega
theorem Me{a b:Int}(ha:aG a=false)(hb:aG b=false):qK a.natAbs b.natAbs=tV a b:=by
 have e:=fW ha;have f:=fW hb;unfold qK tV
 repeat' split
 all_goals omega
theorem Ii{a b:Int}(ha:aG a=true)(hb:aG b=false):tV a b= -1:=by have e:=cW ha;have f:=fW hb;unfold tV;rw[if_pos oE]
theorem Eo{a b:Int}(ha:aG a=false)(hb:aG b=true):tV a b=1:=by have e:=fW ha;have f:=cW hb;unfold tV;rw[if_neg oE,if_pos oE]
structure F3(w W:World)(na nb:Bool)(va vb:Value):Prop where
 a0:W.cell? ⟨w,0,none⟩=some (.bool na)
 a1:W.cell? ⟨w,1,none⟩=some va
 b0:W.cell? ⟨w+1,0,none⟩=some (.bool nb)
 b1:W.cell? ⟨w+1,1,none⟩=some vb
 e0:W.cell? ⟨w+1+1,0,none⟩=some (.int .i64 0)
 fe:W.frozen? ⟨w+1+1,0,none⟩=false
 bl:Below w w W
 sz:w.heap.size+3<=W.heap.size
theorem F3.go{w:World}(h:F3 w W na nb va vb)(hb:Below W W W'):F3 w W' na nb va vb:=by have hs:=h.sz;have c:∀(k o:Nat) (u:Value),k<w.heap.size+3->W.cell? ⟨k,o,none⟩=some u->W'.cell? ⟨k,o,none⟩=some u:=fun k o u g e=>(hb.cell (p:=⟨k,o,none⟩) (show k<_ by omega)).trans e;have f:∀(k o:Nat),k<w.heap.size+3->W.frozen? ⟨k,o,none⟩=false->W'.frozen? ⟨k,o,none⟩=false:=fun k o g e=>(hb.frozen (p:=⟨k,o,none⟩) (show k<_ by omega)).trans e;exact⟨c _ _ _ oE h.a0,c _ _ _ oE h.a1,c _ _ _ oE h.b0,c _ _ _ oE h.b1,c _ _ _ oE h.e0,f _ _ oE h.fe,h.bl.trans (hb.mono h.bl.size),by have:=hb.size;omega⟩
theorem F3.start(w:World)(na nb:Bool)(va vb:Value)(ha:va.cells=#[va])(hb:vb.cells=#[vb]):
 F3 w (((w.alloc (.cells #[.bool na,va] 46)).alloc (.cells #[.bool nb,vb] 46)).alloc (.cells #[.int .i64 0] 32)) na nb va vb:=
 ⟨oX,oX,oX,oX,oX,oX,by exact bel,oO⟩
def CR(w:World)(z:Int)(e:Ending)(w':World):Prop:=e=.returned (.tuple #[.int .i64 z,.int .i64 0])/\Below w w w'
theorem WQ{M:List Nat}{a b:Int}{w:World}(hM:b_ M w)(ha:ZV w M va a)(hb:ZV w M vb b)(fa:fits a=true)(fb:fits b=true):
 Calls prog 49 #[va,vb] w (CR w (tV a b)):=by
 refine wid ?_;obtain⟨A,n,c,rfl,hx⟩:=ha;obtain⟨B,m,d,rfl,P⟩:=hb;obtain⟨W1,R⟩:=aC (((w.alloc (.cells #[.bool (aG a),.slice A n c] 46)).alloc (.cells #[.bool (aG b),.slice B m d] 46)).alloc (.cells #[.int .i64 0] 32));have F1:F3 w W1 (aG a) (aG b) (.slice A n c) (.slice B m d):=by rw[<-R];exact F3.start w _ _ _ _ rfl rfl
 have H:=hx.keep (a_ F1.bl _);have I:=P.keep (a_ F1.bl _);have L:=Sl.QF (na:=aG a) (nb:=aG b) (hM.le F1.bl.size) H I;have X:=Hd2 H I;have F:=Hd F1;have HF:=Hd2 fa fb;have e0:=F1.a0;have T:=F1.a1;have U:=F1.b0;have Z:=F1.b1;have G:=Hd (show Sl lG _ M (some ⟨W1,0,none⟩) 2 2 ([a,b].map jk)from L);clear hx P hM H I F1 fa fb L;have N:∀na nb,aG a=na->aG b=nb->Sl lG (W1.alloc (.cells #[.bool na,.slice A n c,.bool nb,.slice B m d] 46)) M (some ⟨W1,0,none⟩) 2 2 ([a,b].map jk):=by rintro na nb rfl rfl;exact G.out
 generalize hna:aG a=na at*
 generalize hnb:aG b=nb at*
 replace G:=Hd (N na nb rfl rfl);clear N;cases na<;>cases nb
 case true.true=>
  have D:=Hd (Md hna hnb);clear hna hnb;refine qj func49 rfl ntmps49 ?_
  gi_wp2_with (first
   |(refine Cl 98 (jo B A m d n c b.natAbs a.natAbs _ (X.u.go o.u) (X.a.go o.u)) ?_;rintro e S ⟨rfl,h⟩;rw[D.out];have Y:=Hd (o.a.go h);have c3:=Y.out.e0;have Q:=Y.out.fe;clear h)
   |(refine Cl 97 (iR _ 2 2 [a,b] _ G.out (by simp[HF.a,HF.u])) ?_;rintro e E ⟨rfl,t⟩;have h:Below W1 W1 E:=((bw W1 W1).alloc pc (.cells #[.bool true,.slice A n c,.bool true,.slice B m d] 46)).trans (t.mono oO);have g:=F.out.go h;have v0:=g.a0;have v1:=g.a1;have v2:=g.b0;have v3:=g.b1;have c2:=g.e0;have d2:=g.fe;have o:=Hd2 g h;clear t h g)
   |fail)
  exact AZ
 case true.false=>
  have D:=Hd (Ii hna hnb);clear hna hnb;refine qj func49 rfl ntmps49 ?_
  gi_wp2_with (first
   |(refine Cl 97 (iR _ 2 2 [a,b] _ G.out (by simp[HF.a,HF.u])) ?_;rintro e E ⟨rfl,t⟩;have h:Below W1 W1 E:=((bw W1 W1).alloc pc (.cells #[.bool true,.slice A n c,.bool false,.slice B m d] 46)).trans (t.mono oO);have g:=F.out.go h;have v0:=g.a0;have v1:=g.a1;have v2:=g.b0;have v3:=g.b1;have c2:=g.e0;have d2:=g.fe;have o:=Hd2 g h;clear t h g)
   |(refine⟨bq,?_⟩))
  exact AV
 case false.true=>
  have D:=Hd (Eo hna hnb);clear hna hnb;refine qj func49 rfl ntmps49 ?_
  gi_wp2_with (first
   |(refine Cl 97 (iR _ 2 2 [a,b] _ G.out (by simp[HF.a,HF.u])) ?_;rintro e E ⟨rfl,t⟩;have h:Below W1 W1 E:=((bw W1 W1).alloc pc (.cells #[.bool false,.slice A n c,.bool true,.slice B m d] 46)).trans (t.mono oO);have g:=F.out.go h;have v0:=g.a0;have v1:=g.a1;have v2:=g.b0;have v3:=g.b1;have c2:=g.e0;have d2:=g.fe;have o:=Hd2 g h;clear t h g)
   |(refine⟨bq,?_⟩))
  exact AV
 case false.false=>
  have D:=Hd (Me hna hnb);clear hna hnb;refine qj func49 rfl ntmps49 ?_
  gi_wp2_with (first
   |(refine Cl 98 (jo A B n c m d a.natAbs b.natAbs _ (X.a.go o.u) (X.u.go o.u)) ?_;rintro e S ⟨rfl,h⟩;rw[D.out];have Y:=Hd (o.a.go h);have c3:=Y.out.e0;have Q:=Y.out.fe;clear h)
   |(refine Cl 97 (iR _ 2 2 [a,b] _ G.out (by simp[HF.a,HF.u])) ?_;rintro e E ⟨rfl,t⟩;have h:Below W1 W1 E:=((bw W1 W1).alloc pc (.cells #[.bool false,.slice A n c,.bool false,.slice B m d] 46)).trans (t.mono oO);have g:=F.out.go h;have v0:=g.a0;have v1:=g.a1;have v2:=g.b0;have v3:=g.b1;have c2:=g.e0;have d2:=g.fe;have o:=Hd2 g h;clear t h g)
   |fail)
  exact AZ
structure FZ(w W:World)(na nb:Bool)(va vb:Value):Prop where
 a0:W.cell? ⟨w,0,none⟩=some (.bool na)
 a1:W.cell? ⟨w,1,none⟩=some (va)
 b0:W.cell? ⟨w+1,0,none⟩=some (.bool nb)
 b1:W.cell? ⟨w+1,1,none⟩=some (vb)
 x0:W.cell? ⟨w+1+1,0,none⟩=some (.bool false)
 x1:W.cell? ⟨w+1+1,1,none⟩=some (.slice none 0 0)
 WR:W.frozen? ⟨w+1+1,0,none⟩=false
 WT:W.frozen? ⟨w+1+1,1,none⟩=false
 bl:Below w w W
 sz:w.heap.size+3<=W.heap.size
theorem FZ.go{w:World}(h:FZ w W na nb va vb)(hb:Below W W W'):FZ w W' na nb va vb:=by have hs:=h.sz;have c:∀(k o:Nat) (u:Value),k<w.heap.size+3->W.cell? ⟨k,o,none⟩=some u->W'.cell? ⟨k,o,none⟩=some u:=fun k o u g e=>(hb.cell (p:=⟨k,o,none⟩) (show k<_ by omega)).trans e;have f:∀(k o:Nat),k<w.heap.size+3->W.frozen? ⟨k,o,none⟩=false->W'.frozen? ⟨k,o,none⟩=false:=fun k o g e=>(hb.frozen (p:=⟨k,o,none⟩) (show k<_ by omega)).trans e;exact⟨c _ _ _ oE h.a0,c _ _ _ oE h.a1,c _ _ _ oE h.b0,c _ _ _ oE h.b1,c _ _ _ oE h.x0,c _ _ _ oE h.x1,f _ _ oE h.WR,f _ _ oE h.WT,h.bl.trans (hb.mono h.bl.size),by have:=hb.size;omega⟩
theorem FZ.start(w:World)(na nb:Bool)(va vb:Value):FZ w ((((w).alloc (.cells #[.bool na,va] 46)).alloc (.cells #[.bool nb,vb] 46)).alloc (.cells #[.bool false,.slice none 0 0] 46)) na nb va vb:=by exact EC
def ZQ(w:World)(M:List Nat)(z:Int)(e:Ending)(w':World):Prop:=∃u,e=.returned (.tuple #[u,.int .i64 0])/\ZV w' M u z/\Below w w w'
theorem fin2{w V:World}{M:List Nat}{b:Nat}{c:Nat}{u0:Value}(h0:V.cell? ⟨b,0,none⟩=some u0)(h1:V.cell? ⟨b,1,none⟩=some u1)
 (hz:ZV V (b::M) (.agg #[.bool q,.slice A n c]) z) (hb:Below s w V) (hsb:s<=b):
 ∃wF,(V.setCell ⟨b,0,none⟩ (.bool q)).setCell ⟨b,1,none⟩ (.slice A n c)=wF/\wF.cell? ⟨b,0,none⟩=some (.bool q)/\wF.cell? ⟨b,1,none⟩=some (.slice A n c)/\ZV wF M (.agg #[.bool q,.slice A n c]) z/\Below s w wF:=by
 have o:=((cF (b::M) V).setCell (p:=⟨b,0,none⟩) (.inl oO) (.bool q)).setCell (p:=⟨b,1,none⟩) (.inl oO) (.slice A n c);refine⟨_,rfl,by simp[go_sem,h0,h1],by simp[go_sem,h0,h1],?_,(hb.setCell (p:=⟨b,0,none⟩) hsb _).setCell (p:=⟨b,1,none⟩) hsb _⟩;obtain⟨f,n',g,e,hs⟩:=hz;exact⟨f,n',g,e,(hs.keep o).less (fun k h=>bz _ h)⟩
theorem ahZ{M:List Nat}{c v:Nat}{neg:Bool}{w:World}(hM:b_ M w)(hx:Sl Int w M A n c (ints l))(hg:Good l)(hv:val l=v)(hz:gJ neg v=z)(hf:fits z=true):
 Calls prog 158 #[.bool neg,.slice A n c] w fun e w'=>∃q A' n' c',e=.returned (.tuple #[.agg #[.bool q,.slice A' n' c'],.int .i64 0])/\ZV w' M (.agg #[.bool q,.slice A' n' c']) z/\Below w w w':=by
 subst hz;refine(agB hM hx hg hv).mono ?_;rintro e w' ⟨u,rfl,hz,hb⟩;rw[nJ hf];rw[nK hf]at hz;obtain⟨A',n',c',rfl,h⟩:=hz;exact⟨_,A',n',c',rfl,⟨A',n',c',rfl,h⟩,hb⟩
theorem FZ.begin{w:World}{M:List Nat}(hM:b_ M w){c d:Nat}{a b:Int}(hx:Sl Int w M A n c (ints (bG a)))(hy:Sl Int w M B m d (ints (bG b))):
 ∃W1,(((w).alloc (.cells #[.bool na,.slice A n c] 46)).alloc (.cells #[.bool nb,.slice B m d] 46)).alloc (.cells #[.bool false,.slice none 0 0] 46)=W1/\FZ w W1 na nb (.slice A n c) (.slice B m d)/\Sl Int W1 ((w.heap.size+1+1)::M) A n c (ints (bG a))/\Sl Int W1 ((w.heap.size+1+1)::M) B m d (ints (bG b))/\b_ ((w.heap.size+1+1)::M) W1:=by
 have F1:=FZ.start w na nb (.slice A n c) (.slice B m d);refine⟨_,rfl,F1,(hx.more (b:=w+1+1) oE).go F1.bl,(hy.more (b:=w+1+1) oE).go F1.bl,fun k e=>?_⟩;have:=F1.sz;rcases cB.1 e with rfl|e;·omega
 ·have:=hM k e;omega
structure FY(w W:World)(na nb:Bool)(va vb:Value):Prop where
 a0:W.cell? ⟨w,0,none⟩=some (.bool na)
 a1:W.cell? ⟨w,1,none⟩=some (va)
 b0:W.cell? ⟨w+1,0,none⟩=some (.bool nb)
 b1:W.cell? ⟨w+1,1,none⟩=some (vb)
 bl:Below w w W
 sz:w.heap.size+2<=W.heap.size
theorem FY.go{w:World}(h:FY w W na nb va vb)(hb:Below W W W'):FY w W' na nb va vb:=by have hs:=h.sz;have c:∀(k o:Nat) (u:Value),k<w.heap.size+2->W.cell? ⟨k,o,none⟩=some u->W'.cell? ⟨k,o,none⟩=some u:=fun k o u f e=>(hb.cell (p:=⟨k,o,none⟩) (show k<_ by omega)).trans e;exact⟨c _ _ _ oE h.a0,c _ _ _ oE h.a1,c _ _ _ oE h.b0,c _ _ _ oE h.b1,h.bl.trans (hb.mono h.bl.size),by have:=hb.size;omega⟩
theorem FY.start(w:World)(na nb:Bool)(va vb:Value):FY w (((w).alloc (.cells #[.bool na,va] 46)).alloc (.cells #[.bool nb,vb] 46)) na nb va vb:=by exact EC
theorem WU{M:List Nat}{a b:Int}{w:World}(hM:b_ M w)(ha:ZV w M va a)(hb:ZV w M vb b)(fa:fits a=true)(fb:fits b=true):
 Calls prog 115 #[va,vb] w (CR w (tV a b)):=by
 refine wid ?_;obtain⟨A,n,c,rfl,hx⟩:=ha;obtain⟨B,m,d,rfl,K⟩:=hb;obtain⟨na,o⟩:=aC (aG a);obtain⟨nb,p⟩:=aC (aG b);rw[o,p];obtain⟨W1,L⟩:=aC (((w).alloc (.cells #[.bool na,.slice A n c] 46)).alloc (.cells #[.bool nb,.slice B m d] 46));have F1:FY w W1 na nb (.slice A n c) (.slice B m d):=by rw[<-L];exact FY.start w _ _ _ _
 have X:=fB (hx.go F1.bl) (K.go F1.bl) (hM.le F1.bl.size);have HN:=Hd2 o p;have HF:=Hd2 fa fb;have F:=Hd F1;have t:=F1;obtain⟨P,Q,R,S,-,-⟩:=t;clear hx K hM fa fb;cases na<;>cases nb
 case true.true=>
  have C:=Hd (Md o p);clear o p;refine ent func115 rfl ntmps115 ?_
  gi_wp2_with (first
   |(refine Cl 159 (tH B A m d n c b.natAbs a.natAbs _ (X.b.go h.u) (X.a.go h.u)) ?_;rintro e N ⟨rfl,D⟩;rw[C.out];have Y:=Hd (h.a.go D);clear D)
   |(refine Cl 156 (two_any (a:=a) (b:=b) (M:=M) ⟨A,n,c,by rw[HN.a],X.a⟩ ⟨B,m,d,by rw[HN.u],X.b⟩ HF.a HF.u) ?_;rintro e J ⟨rfl,g⟩;have f:=F.out.go g;have t:=f;obtain⟨G,H,I,E,-,-⟩:=t;have h:=Hd2 f g;clear g f)
   |(refine⟨bq,?_⟩))
  exact Xh
 case false.false=>
  have C:=Hd (Me o p);clear o p;refine ent func115 rfl ntmps115 ?_
  gi_wp2_with (first
   |(refine Cl 159 (tH A B n c m d a.natAbs b.natAbs _ (X.a.go h.u) (X.b.go h.u)) ?_;rintro e N ⟨rfl,D⟩;rw[C.out];have Y:=Hd (h.a.go D);clear D)
   |(refine Cl 156 (two_any (a:=a) (b:=b) (M:=M) ⟨A,n,c,by rw[HN.a],X.a⟩ ⟨B,m,d,by rw[HN.u],X.b⟩ HF.a HF.u) ?_;rintro e J ⟨rfl,g⟩;have f:=F.out.go g;have t:=f;obtain⟨G,H,I,E,-,-⟩:=t;have h:=Hd2 f g;clear g f)
   |(refine⟨bq,?_⟩))
  exact Xh
 case true.false=>have C:=Hd (Ii o p);exact AQ
 case false.true=>have C:=Hd (Eo o p);exact AQ
theorem adD{a:List Nat}{V:Nat}(ha:Good a)(hm:BB^(m-1)<=V)(hs:a.length<s+m):LD a (List.replicate a.length 0) V s (val (a.drop s)):=by
 refine⟨?_,?_,oO,fun d f=>by rw[ld f];decide⟩
 ·have:val ((List.replicate a.length 0).drop s)=0:=by rw[List.drop_replicate];exact zq _
  rw[this];simp
 have e:=jh (a.drop s) (uI ha s);rw[eC]at e;exact cf e (cD (iu eX oE) hm)
theorem Tz{d:Nat}(h0:0<d)(h:d<=1073741823):bC d= [d]:=by have e:d<BB:=Hy h;rw[iP oE,nq e,nt e,bU]
theorem Ij{w:World}{M:List Nat}(hM:b_ M w){d:Nat}(h0:0<d)(h:d<=1073741823):Sl Int (w.alloc (.cells #[.int .i64 (d:Int)] 3)) M (some ⟨w,0,none⟩) 1 1 (ints (bC d)):=by rw[Tz h0 h];have f:Good [d]:=nT (Hy h) tu;have g:Row (w.alloc (.cells #[.int .i64 (d:Int)] 3)) w.heap.size (ints [d]):=gl w _;exact g.sl (fun e=>by have:=hM _ e;omega) rfl oE (fU f)
theorem TA:∃i,prog.info? 3=some i/\i.zero=some (.int .i64 0)/\i.size=1/\i.bytes=8:=kO qo
theorem MB{w:World}{M:List Nat}{c:Nat}{xs ys:List Int}(h:bD Int 3 w M base v n xs)(hb:base<=w.heap.size)(hM:∀k,k∈M->k<base)(hy:Sl Int w (bP v++M) A m c ys)(hn:n+m<=100000):
 ∃v' w',(Builtin.append_ #[26,26] 26 #[v,.slice A m c]).run prog w=.ok v' w'/\bD Int 3 w' M base v' (n+m) (xs++ys)/\w.grownBy w' v.ownBlock:=by
 obtain⟨i,e,f,g,D⟩:=TA;obtain⟨v',w',o,V,p,-⟩:=h.append (ty:=26) hb underlying26 e f g rfl hM hy (by rw[D];omega) oE;exact⟨v',w',o,V,p⟩
theorem YQ{w:World}{M:List Nat}(hb:base<=w.heap.size){d:Int}(hd:i64 d):bD Int 3 (w.alloc (.cells #[.int .i64 d] 3)) M base (.slice (some ⟨w,0,none⟩) 1 1) 1 [d]:=⟨rfl, [.int .i64 d],k_ (base:=base) (size:=1) (e:=3) w #[.int .i64 d] 1 hb (by simp[maxLen]) rfl,fun k x hk=>by
  match k,hk with
  |0,hk=>cases hk;exact⟨_,⟨rfl,hd⟩,fun j u hu=>by match j,hu with|0,hu=>exact hu⟩⟩
theorem WV{M:List Nat}(hM:b_ M W){d:Nat}(hd:d<=1073741823)(hs:Sl Int W M O nr cr (ints l))(hg:Good l)(hn:nr<=5000):
 ∃O' n' c' W',(Builtin.append_ #[26,26] 26 #[.slice (some ⟨W,0,none⟩) 1 1,.slice O nr cr]).run prog (W.alloc (.cells #[.int .i64 (d:Int)] 3))=.ok (.slice O' n' c') W'/\Sl Int W' M O' n' c' (ints (d::l))/\Below W W W':=by
 have g:=YQ (w:=W) (M:=M) (base:=W.heap.size) pc (VZ (Hy hd));have f:=(hs.more (b:=W) pc).keep (w':=W.alloc (.cells #[.int .i64 (d:Int)] 3)) (a_ ((bw W W).alloc pc _) _);obtain⟨p,W',h,V,o⟩:=MB g oO hM f oE;obtain⟨A,c,rfl,X⟩:=V.sl oE hM;refine⟨A,_,c,W',h,by simpa[ints]using X,?_⟩;exact(((bw W W).alloc pc _).grown o oO (fun k e=>by cases e;exact bh _))
theorem WW{M:List Nat}(hM:b_ M W)(hs:Sl Int W M O nr cr (ints l))(hn:nr<=5000):
 ∃O' n' c' W',(Builtin.append_ #[26,26] 26 #[.slice (some ⟨W,0,none⟩) 0 0,.slice O nr cr]).run prog (W.alloc (.cells #[] 3))=.ok (.slice O' n' c') W'/\Sl Int W' M O' n' c' (ints l)/\Below W W W':=by
 have h:=bD.lit (α:=Int) (e:=3) W M (base:=W.heap.size) pc;have g:=(hs.more (b:=W) pc).keep (w':=W.alloc (.cells #[] 3)) (a_ ((bw W W).alloc pc _) _);obtain⟨t,W',o,V,p⟩:=MB h oO hM g oE;obtain⟨A,c,rfl,X⟩:=V.sl oE hM;refine⟨A,_,c,W',o,by simpa using X,?_⟩;exact(((bw W W).alloc pc _).grown p oO (fun k f=>by cases f;exact bh _))
theorem WX{q:List Nat}(h:q[j]?=some 0):q.set j 0=q:=by
 apply List.ext_getElem?;intro i;rw[mL];split;·next e=>subst e;rw[h];simp[(bj.1 h).1]
 rfl
theorem MC{q:List Nat}(h:q.take k=List.replicate k 0)(hj:j<k)(hl:j<q.length):q[j]?=some 0:=by have:=gM (fun l=>l[j]?) h;simpa[hj]using this
theorem Ep{q:List Nat}(h:q.take k=List.replicate k 0)(hj:j<=k):q.take j=List.replicate j 0:=by
 have:=gM (List.take j) h
 rwa [List.take_take,gd hj,List.take_replicate,gd hj]at this
theorem TB{q:List Nat}{d:Nat}(h:q.take j=List.replicate j 0):(q.set j d).take j=List.replicate j 0:=by rw[List.take_set_of_le pc];exact h
theorem MF{M:List Nat}{c d x y:Nat}{w:World}(hM:b_ M w)(hx:Sl Int w M A n c (ints (bC x)))(hy:Sl Int w M B m d (ints (bC y)))(hn:n<=2048)(hm:m<=2048)(hy0:0<y):
 Calls prog 157 #[.slice A n c,.slice B m d] w (DR2 w M (x/y) (x%y)):=by
 refine wid ?_;have bs:=hx.small;have l1:=hx.eu;have l2:=hy.eu;have bo:1<=m:=by
  rcases eh m with e|e;·rw[e]at l2;have:=jO.1 (c_.1 l2);omega
  exact e
 have hV:BB^(m-1)<=y:=by
  have:=Jo (l:=bC y) (fun e=>by rw[e]at l2;simp at l2;omega) (iQ y)
  rwa [l2,bI]at this
 obtain⟨s,hs⟩:=aC (n+1-m);have aF:s<=n:=oE;have st:=adD (V:=y) (s:=s) (m:=m) (aO x) hV oE;rw[l1]at st;have am:=qR (t:=26) underlying26 n oE;obtain⟨W1,af⟩:=aC (w.alloc (.cells ((List.replicate n (0:Int)).map (Value.int .i64)).toArray 3));replace am:=am w;rw[af]at am;have r1:Row W1 w.heap.size (ints (List.replicate n 0)):=by rw[<-af,<-lH];exact Row.new _ w
 have b1:Below w w W1:=by rw[<-af];exact bel
 have s1:W1.heap.size=w.heap.size+1:=by rw[<-af];simp
 have aP:b_ (w.heap.size::M) W1:=fun k hk=>by
  rcases cB.1 hk with rfl|hk;·omega
  have:=hM k hk;omega
 have a3:Sl Int W1 (w.heap.size::M) A n c (ints (bC x)):=(hx.more pc).keep (a_ b1 _);have bi:Sl Int W1 (w.heap.size::M) B m d (ints (bC y)):=(hy.more pc).keep (a_ b1 _);have a9:=NJ (t:=26) underlying26 (sz:=1) (fun w=>by kernel_rfl) A (n:=n) (cp:=c) (k:=s) aF;have aE:=a3.cut (k:=s) aF (sz:=1) rfl;rw[SS]at aE;obtain⟨O3,n3,c3,W3,au,ah,aS⟩:=WW aP aE oE;rw[s1]at au;have aK:=Hd au;have H:=h_ hx hy hM b1;have L:=h_ l1 l2 r1 st;have U:=Hd2 ah aS;clear hx hy hM a3 bi aP b1 af r1 st l1 l2 aE au ah aS hV;have bf:max (0:Int) ((n:Int)-(m:Int)+1)=(s:Int):=oE;have HS:=Hd hs;clear hs;refine ent func157 rfl ntmps157 ?_
 gi_wp2_with (first
  |(gi_at_builtin;refine cY rfl fun K Y=>?_;refine aI _ _ _ rfl rfl rfl aK.out (Y _ _ ?_);clear Y K)
  |(refine Cl 192 (jy O3 n3 c3 ((bC x).drop s) _ U.a (uI (aO x) s)) ?_;rintro e w4 ⟨q,rfl,G,S,hb4⟩;have T4:=fB G S hb4;clear G S hb4)
  |fail)
 have av:=L.w;have aD:∀E,E<y->(bC E).length<=m:=fun E h=>by rw[<-L.b];exact kR (cX h)
 have aJ:=Hd aD;have b3:Below w w w4:=H.w.trans ((U.u.trans (T4.v.mono U.u.size)).mono oE);have YR:=(U.a.go T4.v).nY T4.a;rw[eG,T4.b]at YR;have Z_:q<=m:=by rw[<-YR.eu];exact aD _ av.2.1
 have aW:Row w4 w.heap.size (ints (List.replicate n 0)):=(L.c.go U.u oE).go T4.v (by have:=U.u.size;omega);have ST:=oK av YR aW b3 (show w.heap.size<w4.heap.size by have:=U.u.size;have:=T4.v.size;omega);clear av aD b3 YR aW T4 U aK a9 bf am;gi_wp2;gi_loopw[8,9] (fun r0 i wr=>∃(k E:Nat) (R:List Nat) (O:Option Addr) (nr cr:Nat),k<=s/\i=.int .i64 ((k:Int)-1)/\r0=.slice O nr cr/\nr<=m/\Hid (LD (bC x) R y k E/\R.take k=List.replicate k 0)/\Hid (Sl Int wr (w.heap.size::M) O nr cr (ints (bC E)))/\Hid (Row wr w.heap.size (ints R))/\Below w w wr/\w.heap.size<wr.heap.size) (fun _ i _=>(intOf i+1).toNat);case atStart=>exact⟨s,_,_,O3,q,c3,bh _,rfl,rfl,Z_,⟨ST.a,by rw[List.take_replicate,gd aF]⟩,ST.b,ST.c,ST.w⟩
 case round=>
  clear ST Z_;obtain⟨k,E,R,O,nr,cr,hk,rfl,rfl,bp,N,hR,hQ,hb,aH⟩:=hrel;rcases eh k with h0|h0
  ·subst h0;have aA:=QB N.a;rw[bI]at aA;have T:=N.out.1.2.2.2;have hl:=N.out.1.2.2.1;rw[L.a]at hl;have Nw:w.heap.size∉M:=fun e=>by have:=H.c _ e;omega
   have a0:=hQ.out.sl Nw (n:=n) (by rw[jm];exact hl) oE (fU T);have aX:=hR.out.less (M':=M) (fun g T=>bz _ T);have ad:=h_ a0 T aA aX;clear a0 aA T hl Nw aX;gi_wp2_with (refine Cl 192 (jy _ _ _ R _ ad.a ad.b) ?_;rintro e w2 ⟨q2,rfl,G,S,aR⟩;have HT:=fB S G aR;clear S G aR)
   go_ret2;have aY:=(ad.a.go HT.v).nY HT.b;rw[eG,HT.a,ad.out.2.2.1.1]at aY;have ah:=ad.w.go HT.v;rw[ad.out.2.2.1.2]at ah;exact⟨_,q2,n,O,nr,cr,rfl,aY,ah,hb.trans (HT.v.mono oE)⟩
  ·obtain⟨j,rfl⟩:∃j,k=j+1:=⟨k-1,oE⟩;rw[show((j+1:Nat):Int)-1=(j:Int) by omega];have a4:Sl Int wr (w.heap.size::M) A n c (ints (bC x)):=(H.a.more pc).keep (a_ hb _);have a5:Sl Int wr (w.heap.size::M) B m d (ints (bC y)):=(H.b.more pc).keep (a_ hb _);have aw:b_ (w.heap.size::M) wr:=fun g T=>by
    rcases cB.1 T with rfl|T;·exact aH
    have:=H.c g T;omega
   obtain⟨b0,o0,dj,rfl,bm,hd,ba,aQ⟩:=a4.mG (aO x) (k:=j) oE;obtain⟨O5,n5,c5,W5,aM,hs5,aT⟩:=WV aw hd hR.out (aO E) oE;obtain⟨D,ax⟩:=aC (E*BB+dj);have a2:val (dj::bC E)=D:=by rw[val,bI,<-ax,js E];omega
   have aV:Good (dj::bC E):=nT (Hy hd) (aO E);have aG:=LG (aO x) N.a (show j<(bC x).length by rw[L.a];omega);rw[aQ,ax]at aG;have aN:=Hd aM;have o:=Hd7 hs5 aT a2 aV a5 aw aG;clear a4 hs5 aT a2 aV aM a5 aw aG ba aQ;by_cases al:D<y
   ·have az:=Hd (pI al)
    gi_wp2_with (first
     |(gi_at_builtin;refine cY rfl fun K Y=>?_;refine aI _ _ _ rfl rfl rfl aN.out (Y _ _ ?_);clear Y K)
     |(refine⟨bq,?_⟩;gi_at_call 159;have g:=F.out;clear g;refine Cn (tH _ B _ c5 m d D y _ F.a (o.e.go F.u)) ?_;rintro e w7 ⟨rfl,ab⟩;rw[az.out];have J:=Hd2 (F.a.go ab) (F.u.trans (ab.mono F.u.size));clear ab)
     |(refine Cl 192 (jy O5 n5 c5 (dj::bC E) _ o.a o.d) ?_;rintro e w6 ⟨q6,rfl,G,S,aa⟩;have h6:=(o.a.go aa).nY G;rw[eG,S,o.c]at h6;have F:=Hd2 h6 (o.b.trans (aa.mono o.b.size));have aL:=Hd G;clear G S aa h6)
     |fail)
    have ae:=o.out.2.2.2.2.2.2.1;have hz:R[j]?=some 0:=MC N.u (eS _) (by rw[N.out.1.2.2.1,L.a];omega);rw[nt al,nq al,WX hz]at ae;have a8:Below w w w7:=hb.trans (J.u.mono oE);exact⟨⟨j,D,R,_,_,_,oE,rfl,rfl,by rw[<-J.a.eu];exact aJ.out _ al,⟨ae,Ep N.u oE⟩,J.a,hQ.out.go J.u aH,a8,by have:=J.u.size;omega⟩,by simp[intOf]⟩
   obtain⟨cz,YS⟩:=aC (qK D y);have bl:¬cz<0:=by
    rcases lh y D with h|h;·rw[<-YS,pJ h];decide
    rw[<-YS,uM oE];decide
   have az:=Hd YS;clear YS
   gi_wp2_with (first
    |(gi_at_builtin;refine cY rfl fun K Y=>?_;refine aI _ _ _ rfl rfl rfl aN.out (Y _ _ ?_);clear Y K)
    |(refine⟨bq,?_⟩;gi_at_call 159;have g:=F.out;clear g;refine Cn (tH _ B _ c5 m d D y _ F.a (o.e.go F.u)) ?_;rintro e w7 ⟨rfl,ab⟩;rw[az.out];have J:=Hd2 (F.a.go ab) (F.u.trans (ab.mono F.u.size));clear ab)
    |(refine Cl 192 (jy O5 n5 c5 (dj::bC E) _ o.a o.d) ?_;rintro e w6 ⟨q6,rfl,G,S,aa⟩;have h6:=(o.a.go aa).nY G;rw[eG,S,o.c]at h6;have F:=Hd2 h6 (o.b.trans (aa.mono o.b.size));have aL:=Hd G;clear G S aa h6)
    |fail)
   have a7:D<(1073741823+1)*y:=by have h1:=N.out.1.2.1;have h2:(E+1)*BB<=y*BB:=dy _ h1;rw[fX,fi]at h2;have h3:BB=1073741824:=rfl;rw[h3]at ax h2;rw[js];omega
   gi_loopw[10,11] (fun l0 h0 bk=>∃lo P:Nat,l0=.int .i64 lo/\h0=.int .i64 P/\lo<=P/\P<=1073741823/\Hid (lo*y<=D/\D<(P+1)*y)/\Below w7 w7 bk) (fun l0 h0 _=>(intOf h0).toNat-(intOf l0).toNat);case atStart=>exact⟨0,1073741823,rfl,rfl,oE,oE,⟨oE,a7⟩,bw _ _⟩
   case round=>
    obtain⟨lo,P,rfl,rfl,bn,bb,hS,Z⟩:=hrel;have XP:b_ (w.heap.size::M) wr:=o.f.le (cD J.u.size Z.size);have ar:Sl Int wr (w.heap.size::M) B m d (ints (bC y)):=(o.e.go J.u).go Z;have ap:Sl Int wr (w.heap.size::M) O5 q6 c5 (ints (bC D)):=J.a.go Z;by_cases hlo:lo<P
    ·obtain⟨Q,aB⟩:=aC ((lo+P+1)/2);have bd:0<Q:=oE;have be:Q<=1073741823:=oE;have e1:((lo:Int)+(P:Int)+1)/2=(Q:Int):=oE;have e2:((lo:Int)+(P:Int)+1).tdiv 2=(Q:Int):=by rw[eB oE];exact e1
     have a1:=LH hS.a hS.u aB.symm hlo;obtain⟨cm,ay⟩:=aC (qK (Q*y) D);have aU:cm<=0↔Q*y<=D:=by
      rw[<-ay];rcases Nat.lt_trichotomy (Q*y) D with h|h|h;·rw[pI h];exact⟨fun _=>by omega,fun _=>by decide⟩
      ·rw[uM h];exact⟨fun _=>by omega,fun _=>by decide⟩
      rw[pJ h];exact⟨fun e=>absurd e oR,fun e=>by omega⟩
     have a6:=Hd ay;have C:=oK XP ar ap a1 aB;clear XP ar ap a1 ay aB;by_cases hc:cm<=0;all_goals(
     gi_wp2_with (first
      |(refine⟨bq,?_⟩;gi_at_call 159;have g:=I.out;clear g;refine Cn (tH _ _ _ _ _ _ (Q*y) D _ I.a (C.c.go I.u)) ?_;rintro e w9 ⟨rfl,Ns⟩;rw[a6.out];have X:=Hd (I.u.trans (Ns.mono I.u.size));clear Ns)
      |(refine Cl 193 (D_ (x:=Q) (y:=y) (C.a.le oO) (Ij C.a bd be) (C.b.go (by exact bel)) oE oE) ?_;rintro e w8 ⟨A8,n8,c8,rfl,ai,ag⟩;have I:=Hd2 ai (show Below wr wr w8 from(pd.alloc pc _).trans (ag.mono oO));clear ai ag)
      |fail))
     ·have ac:=C.out.2.2.2.1.1 (aU.1 hc);exact⟨⟨Q,P,rfl,rfl,ac.2.2.2,bb,⟨ac.1,ac.2.1⟩,Z.trans (X.out.mono Z.size)⟩,by simp[intOf];omega⟩
     have ac:=C.out.2.2.2.1.2 (fun h=>by have:=aU.2 h;omega);exact⟨⟨lo,Q-1,rfl,by go_num,ac.2.2.2,oE,⟨ac.1,ac.2.1⟩,Z.trans (X.out.mono Z.size)⟩,by simp[intOf];omega⟩
    ·obtain rfl:lo=P:=oE;have aq:=search_end hS.a hS.u;have bc:0<lo:=by
      rw[aq.1];exact Nat.div_pos oE hy0
     have ae:=o.out.2.2.2.2.2.2.1;rw[<-aq.1,<-aq.2]at ae;have br:q6<=5000:=by have h1:=aL.out;have h2:=o.a.eu;have h3:=hR.out.eu;simp only[et]at h2;omega
     have hz:R[j]?=some 0:=MC N.u (eS _) (by rw[N.out.1.2.2.1,L.a];omega);have aj:=J.u.trans (Z.mono J.u.size);have ao:Row wr w.heap.size (ints R):=hQ.out.go aj aH;have cj:wr.cell? ⟨w,j,none⟩=some (.int .i64 0):=ao.cell (jK hz);have fj:wr.frozen? ⟨w,j,none⟩=false:=ao.free j;have an:=ao.put j (lo:Int);rw[ints_set]at an;obtain⟨WS,ak⟩:=aC (wr.setCell ⟨w,j,none⟩ (.int .i64 (lo:Int)));have kp:Keeps (w.heap.size::M) wr WS:=by rw[<-ak];exact(cF _ _).setCell (p:=⟨w,j,none⟩) (.inl oO) _
     rw[ak]at an;have bj:WS.heap.size=wr.heap.size:=by rw[<-ak];simp
     have bS:Below w w WS:=by rw[<-ak];exact(hb.trans (aj.mono oE)).setCell (p:=⟨w,j,none⟩) pc _
     have C:=Hd (And.intro (show b_ (w.heap.size::M) WS from XP.le oE) (And.intro (ar.keep kp) (And.intro (ap.keep kp) (And.intro an (And.intro bS (And.intro ae (And.intro hS.a (show w.heap.size<WS.heap.size by have:=aj.size;omega))))))));clear XP ar ap ae aj ao an kp bj bS aq
     gi_wp2_with (first
      |(refine⟨bq,?_⟩;gi_at_call 194;have g:=I.out;clear g;refine Cn (SX (x:=D) (y:=lo*y) (C.a.le I.u.size) (C.c.go I.u) I.a oE C.out.2.2.2.2.2.2.1) ?_;rintro e w9 ⟨A9,n9,c9,rfl,aZ,Ns⟩;have X:=Hd2 aZ (I.u.trans (Ns.mono I.u.size));clear aZ Ns)
      |(refine Cl 193 (D_ (x:=lo) (y:=y) (C.a.le oO) (Ij C.a bc oE) (C.b.go (by exact bel)) oE oE) ?_;rintro e w8 ⟨A8,n8,c8,rfl,ai,ag⟩;have I:=Hd2 ai (show Below WS WS w8 from(pd.alloc pc _).trans (ag.mono oO));clear ai ag)
      |fail)
     have bg:=C.out.2.2.2.2.2.2.2;exact⟨⟨j,D-lo*y,R.set j lo,_,_,_,oE,rfl,rfl,by rw[<-X.a.eu];exact aJ.out _ C.out.2.2.2.2.2.1.2.1,⟨C.f,TB (Ep N.u oE)⟩,X.a,C.d.go X.u bg,C.e.trans (X.u.mono oE),by have:=X.u.size;omega⟩,by simp[intOf]⟩
end
abbrev Rg:=Rt×Rt
theorem take_snoc{α:Type}{p:List α}{x:α}(h:p[k]?=some x):p.take (k+1)=p.take k++ [x]:=by rw[eo,h,ja]
section
variable {a b c d r:Rt}
theorem aaT(ha:a.ok)(hb:b.ok):rW a b<0↔rv a<rv b:=by
 rw[ahM ha hb];unfold rW
 repeat' split
 all_goals omega
theorem abY(ha:a.ok)(hb:b.ok):rW a b<=0↔rv a<=rv b:=by
 rw[afQ ha hb];unfold rW
 repeat' split
 all_goals omega
end
section
open Go.RowKit
def RV(w:World)(M:List Nat)(v:Value)(x:fC):Prop:=∃A n c B m d,v=.agg #[.bool x.1.1,.slice A n c,.bool x.2.1,.slice B m d]/\Sl Int w M A n c x.1.2/\Sl Int w M B m d x.2.2
theorem RV.go{w w':World}{M:List Nat}{v:Value}{x:fC}(h:RV w M v x)(hb:Below w w w'):RV w' M v x:=by obtain⟨A,n,c,B,m,d,rfl,e,f⟩:=h;exact⟨A,n,c,B,m,d,rfl,e.go hb,f.go hb⟩
theorem JB{w:World}{M:List Nat}{c d:Nat}(h1:Sl Int w M A n c x.1.2)(h2:Sl Int w M B m d x.2.2):Rep.rd w M x [.bool x.1.1,.slice A n c,.bool x.2.1,.slice B m d]:=⟨[.bool x.1.1,.slice A n c], [.bool x.2.1,.slice B m d],rfl,⟨[.bool x.1.1], [.slice A n c],rfl,rfl,A,n,c,rfl,h1⟩,⟨[.bool x.2.1], [.slice B m d],rfl,rfl,B,m,d,rfl,h2⟩⟩
theorem Sl.MG{w:World}{M:List Nat}{c:Nat}{xs:List fC}(h:Sl fC w M A n c xs)(hk:xs[k]?=some x):∃b o A1 n1 c1 A2 n2 c2,A=some ⟨b,o,none⟩/\w.cell? ⟨b,o+k*4,none⟩=some (.bool x.1.1)/\w.cell? ⟨b,o+k*4+1,none⟩=some (.slice A1 n1 c1)/\w.cell? ⟨b,o+k*4+2,none⟩=some (.bool x.2.1)/\w.cell? ⟨b,o+k*4+3,none⟩=some (.slice A2 n2 c2)/\Sl Int w M A1 n1 c1 x.1.2/\Sl Int w M A2 n2 c2 x.2.2:=h.ahX (p:=x.1.1) (l1:=x.1.2) (q:=x.2.1) (l2:=x.2.2) hk
theorem Sl.lit{α:Type} [kE α] {w:World}{M:List Nat}(hM:b_ M w)(e:TypeId){cs:List Value}{xs:List α}(hn:xs.length=n)(hs:n<=1000000)
 (h:∀k x,xs[k]?=some x->∃es,Rep.rd w M x es/\∀j u,es[j]?=some u->cs[k*Rep.sz α+j]?=some u):Sl α (w.alloc (.cells cs.toArray e)) M (some ⟨w,0,none⟩) n n xs:=by
 have hb:Below w w (w.alloc (.cells cs.toArray e)):=by exact bel
 refine⟨hn,bh _,by unfold jG;omega,oE,.inr ⟨w,0,rfl,fun k x p=>?_⟩⟩;obtain⟨es,f,g⟩:=h k x p;refine⟨es,iN f (a_ hb M),fun t=>by have:=hM _ t;omega,fun j u C=>?_⟩;have o:=g j u C;have hn:=gl w (.cells cs.toArray e);generalize w.alloc (.cells cs.toArray e)=W2 at hn |-;generalize w.heap.size=q at hn |-;simp[World.cell?,hn,o]
open Go.Shelf
attribute [local go_sem] cK
theorem WY:(prog.info? 46).map (fun i=>(i.zero,i.size,i.bytes))=some (some (.agg #[.bool false,.slice none 0 0]),2,32):=oF
def mW:List Int->List Int
 |a::b::l=>a*b::mW l
 |_=> []
theorem MH:∀{zs:List Int}{k:Nat}{a b:Int},zs[2*k]?=some a->zs[2*k+1]?=some b->(mW zs)[k]?=some (a*b)
 |x::y::l,0,a,b,ha,hb=>by
  have h1:x=a:=by simpa using ha
  have e:y=b:=by simpa using hb
  subst h1;subst e;rfl
 |x::y::l,k+1,a,b,ha,hb=>by
  have h1:l[2*k]?=some a:=by rw[show 2*(k+1)=2*k+1+1 by omega]at ha;simpa using ha
  have e:l[2*k+1]?=some b:=by rw[show 2*(k+1)+1=2*k+1+1+1 by omega]at hb;simpa using hb
  simpa[mW]using MH h1 e
 | [x],k,a,b,ha,hb=>by simp at hb
 | [],k,a,b,ha,hb=>by simp at hb
theorem Ik:∀{zs:List Int}{m:Nat},zs.length=2*m->(mW zs).length=m
 | [],m,h=>by simp at h;simp[mW];omega
 | [x],m,h=>by simp at h;omega
 |x::y::l,m,h=>by
  obtain⟨k,rfl⟩:∃k,m=k+1:=⟨m-1,by simp at h;omega⟩;have:l.length=2*k:=by simp at h;omega
  simp[mW,Ik this]
theorem oI{w:World}{M:List Nat}{c:Nat}(hq:aG z=q)(h:Sl Int w M A n c (ints (bG z))):Rep.rd w M (jk z) [.bool q,.slice A n c]:=by subst hq;exact⟨[.bool (aG z)], [.slice A n c],rfl,rfl,A,n,c,rfl,h⟩
theorem rM{M:List Nat}(A:Option Addr)(n c m:Nat)(zs:List Int)(w:World)(hM:b_ M w)(hx:Sl lG w M A n c (zs.map jk))(hz:∀z,z∈zs->fits z=true)(hp:∀z,z∈mW zs->fits z=true)(hl:zs.length=2*m)(hm:m<=1000):
 Calls prog 47 #[.slice A n c] w fun e w'=>∃O cO,e=.returned (.slice O m cO)/\Sl lG w' M O m cO ((mW zs).map jk)/\Below w w w':=by
 refine wid ?_;have hs:=hx.small;have hn:n=2*m:=by have:=hx.len;simp at this;omega
 have al:=Ik hl;have C:=Hd hn;have H:=Zw hx hM hz hp hl al;clear hx hM hz hp hl al hn;refine ent func47 rfl ntmps47 ?_;gi_wp2;gi_loopw[2,3] (fun v0 i wr=>∃(k:Nat) (v:Value),v=v0/\k<=m/\i=.int .i64 ((2*k:Nat):Int)/\Hid (bD lG 46 wr M w.heap.size v k (((mW zs).take k).map jk))/\Below w w wr) (fun _ i _=>n-(intOf i).toNat);case atStart=>exact⟨0,_,rfl,bO _,rfl,bD.nil _ _ _,bw _ _⟩
 case round=>
  obtain⟨k,v,rfl,N,rfl,D,hb⟩:=hrel;obtain⟨j,p⟩:=aC (2*k);rw[p];have HJ:=Hd p;have k1:IntKind.i64.wrap ((j:Int)+1)=((j+1:Nat):Int):=by have:=C.out;rw[bR];omega
  have k2:IntKind.i64.wrap ((j:Int)+2)=((j+2:Nat):Int):=by have:=C.out;rw[bR];omega
  by_cases aA:k<m
  ·have av:j<n:=by have:=C.out;omega
   have az:j+1<n:=by have:=C.out;omega
   obtain⟨a,I⟩:=dW zs j (by rw[H.e];omega);obtain⟨b,L⟩:=dW zs (j+1) (by rw[H.e];omega);have X:=MH (zs:=zs) (k:=k) (by rw[p];exact I) (by rw[p];exact L);have ad:=H.d _ (aR X);have fa:=H.c _ (aR I);have fb:=H.c _ (aR L);have V:∀q,q∈bP v->w.heap.size<=q/\q<wr.heap.size:=fun q g=>D.out.lt (bJ.1 g);have ae:b_ (bP v++M) wr:=fun q g=>by
    rcases cR.1 g with g|g;·exact(V q g).2
    exact H.b.le hb.size q g
   have aa:Sl lG wr (bP v++M) A n c (zs.map jk):=(H.a.moreL (bP v) (fun q g=>(V q g).1)).keep (a_ hb _);obtain⟨b0,o0,A1,n1,c1,rfl,ag,ai,am⟩:=aa.LZ (k:=j) (neg:=aG a) (l:=ints (bG a)) (by rw[cP,I];rfl);obtain⟨au,ax,A2,n2,c2,e0,aj,ak,an⟩:=aa.LZ (k:=j+1) (neg:=aG b) (l:=ints (bG b)) (by rw[cP,L];rfl);obtain⟨rfl,rfl⟩:b0=au/\o0=ax:=by simpa using e0
   have v0:=ah ag;have v1:=ah ai;have v2:=ah aj;have v3:=ah ak;have S:=Hd7 am an ae X ad fa fb;clear ag ai aj ak e0 aa am an ae V X ad fa fb I L p;generalize hqa:aG a=qa at*;generalize yK:aG b=qb at*;have HQ:=Hd2 hqa yK;clear hqa yK;gi_wp2;refine aP [] 15 oF oF ?_;refine ay 0 ?_;refine ay 1 ?_;refine ay 2 ?_;refine ay 3 ?_;refine ay 4 ?_;refine ay 5 ?_;refine ay 6 ?_;refine ay 7 ?_;refine ay 8 ?_;refine ay 9 ?_
   refine eU 10 fun K h=>?_;gi_wp2;refine Cm (WC (M:=bP v++M) (a:=a) (b:=b) (S.c.le (w':=wr.drew) pc) ⟨A1,n1,c1,by rw[HQ.a],S.a.keep (cF _ _).drew⟩ ⟨A2,n2,c2,by rw[HQ.u],S.b.keep (cF _ _).drew⟩ S.f S.z) ?_;rintro e w2 ⟨u2,rfl,G,T⟩;rw[nJ S.e];rw[nK S.e]at G;obtain⟨A3,n3,c3,rfl,ao⟩:=G;obtain⟨q3,Y⟩:=aC (aG (a*b));rw[Y];have o:=fB ao Y T;clear ao Y;refine h _ _ ⟨?_,?_⟩;clear h K;·exact a_ T []
   refine lit ?_;clear T;refine ay 11 ?_;refine ay 12 ?_;refine eU 13 fun K h=>?_;gi_wp2;refine Cm (Ei (M:=bP v++M) (z:=a*b) ⟨A3,n3,c3,by rw[o.b],o.a⟩) ?_;rintro e J ⟨rfl,-,E⟩;have P:Below wr wr J:=(bw _ wr).drew.trans (o.v.trans (E.mono o.v.size));have af:=D.out.go P;have ab:=(o.a.go E);have U:Below w w J:=hb.trans (P.mono hb.size);have ac:Sl lG (J.alloc (.cells #[.bool q3,.slice A3 n3 c3] 46)) (bP v++M) (some ⟨J,0,none⟩) 1 1 [jk (a*b)]:=by
    refine Sl.lit (S.c.le (o.v.trans (E.mono o.v.size)).size) _ (cs:= [.bool q3,.slice A3 n3 c3]) rfl oE fun i y N=>?_
    match i,N with
    |0,N=>cases N;exact⟨_,oI o.b ab,fun j u F=>by match j,F with|0,F=>exact F|1,F=>exact F⟩
   obtain⟨i0,hi,ap,aq,G⟩:=kO WY;obtain⟨v4,w4,r1,r2,r3,r4⟩:=(af.go (w':=J.alloc (.cells #[.bool q3,.slice A3 n3 c3] 46)) (by exact bel)).append (ty:=99) (t:=99) (by simp;have:=U.size;omega) underlying99 hi ap aq rfl H.b ac (by rw[G];omega) oE;have ar:=Hd r1;have R:=fB r2 r3 U;clear ac af P ab r1 r2 r3 r4 hi ap aq G U;refine h _ _ ⟨?_,?_⟩;clear h K;·exact a_ E []
   refine lit ?_;clear E;refine eU 14 fun K h=>?_;gi_wp2;refine⟨a_ (by exact bel) _,?_⟩;refine FN 2 oF rfl ?_;refine uj fun K h=>?_;refine oP rfl ?_ (fun K' Q=>?_);(focus exact wy);refine aI _ _ _ rfl rfl rfl ar.out (Q _ _ (h _ _ ?_));clear Q K' h K;refine lit ?_;refine jW fun K h K' Q=>?_;gi_wp2;refine dC _ ?_;simp only[cu];gi_wp2;refine⟨⟨k+1,_,rfl,oE,by rw[show 2*(k+1)=j+2 by have:=HJ.out;omega];go_num,?_,?_⟩,?_⟩;·rw[take_snoc S.d,eO];exact R.a
   ·exact(R.v.alloc R.v.size _).grown R.b (by simp;have:=R.v.size;omega) (fun q g=>(D.out.lt g).1)
   simp[intOf];omega
  ·have aw:k=m:=oE;subst aw;have av:¬j+1<n:=by have:=C.out;have:=HJ.out;omega
   obtain⟨O,cO,rfl,Z⟩:=D.out.sl oE H.b;rw[bL (by rw[H.y];exact bh _)]at Z;have HS:=Hd Z;clear D Z p;gi_wp2;go_ret;exact⟨O,cO,rfl,HS.out,hb⟩
structure FQ(w W:World)(p1 q1 p2 q2:Bool)(u1 v1 u2 v2:Value):Prop where
 a0:W.cell? ⟨w,0,none⟩=some (.bool p1)
 a1:W.cell? ⟨w,1,none⟩=some (u1)
 a2:W.cell? ⟨w,2,none⟩=some (.bool q1)
 a3:W.cell? ⟨w,3,none⟩=some (v1)
 b0:W.cell? ⟨w+1,0,none⟩=some (.bool p2)
 b1:W.cell? ⟨w+1,1,none⟩=some (u2)
 b2:W.cell? ⟨w+1,2,none⟩=some (.bool q2)
 b3:W.cell? ⟨w+1,3,none⟩=some (v2)
 x0:W.cell? ⟨w+1+1,0,none⟩=some (.bool false)
 x1:W.cell? ⟨w+1+1,1,none⟩=some (.slice none 0 0)
 x2:W.cell? ⟨w+1+1,2,none⟩=some (.bool false)
 x3:W.cell? ⟨w+1+1,3,none⟩=some (.slice none 0 0)
 e0:W.cell? ⟨w+1+1+1,0,none⟩=some (.int .i64 0)
 WR:W.frozen? ⟨w+1+1,0,none⟩=false
 WT:W.frozen? ⟨w+1+1,1,none⟩=false
 fx2:W.frozen? ⟨w+1+1,2,none⟩=false
 fx3:W.frozen? ⟨w+1+1,3,none⟩=false
 fe0:W.frozen? ⟨w+1+1+1,0,none⟩=false
 bl:Below w w W
 sz:w.heap.size+4<=W.heap.size
theorem FQ.go{w:World}(h:FQ w W p1 q1 p2 q2 u1 v1 u2 v2)(hb:Below W W W'):FQ w W' p1 q1 p2 q2 u1 v1 u2 v2:=by have hs:=h.sz;have c:∀(k o:Nat) (u:Value),k<w.heap.size+4->W.cell? ⟨k,o,none⟩=some u->W'.cell? ⟨k,o,none⟩=some u:=fun k o u g e=>(hb.cell (p:=⟨k,o,none⟩) (show k<_ by omega)).trans e;have f:∀(k o:Nat),k<w.heap.size+4->W.frozen? ⟨k,o,none⟩=false->W'.frozen? ⟨k,o,none⟩=false:=fun k o g e=>(hb.frozen (p:=⟨k,o,none⟩) (show k<_ by omega)).trans e;exact⟨c _ _ _ oE h.a0,c _ _ _ oE h.a1,c _ _ _ oE h.a2,c _ _ _ oE h.a3,c _ _ _ oE h.b0,c _ _ _ oE h.b1,c _ _ _ oE h.b2,c _ _ _ oE h.b3,c _ _ _ oE h.x0,c _ _ _ oE h.x1,c _ _ _ oE h.x2,c _ _ _ oE h.x3,c _ _ _ oE h.e0,f _ _ oE h.WR,f _ _ oE h.WT,f _ _ oE h.fx2,f _ _ oE h.fx3,f _ _ oE h.fe0,h.bl.trans (hb.mono h.bl.size),by have:=hb.size;omega⟩
theorem FQ.start(w:World)(p1 q1 p2 q2:Bool)(u1 v1 u2 v2:Value):FQ w (((((w).alloc (.cells #[.bool p1,u1,.bool q1,v1] 48)).alloc (.cells #[.bool p2,u2,.bool q2,v2] 48)).alloc (.cells #[.bool false,.slice none 0 0,.bool false,.slice none 0 0] 48)).alloc (.cells #[.int .i64 0] 32)) p1 q1 p2 q2 u1 v1 u2 v2:=by exact EC
theorem FQ.drew{w W:World}{p1 q1 p2 q2:Bool}{u1 v1 u2 v2:Value}(h:FQ w W p1 q1 p2 q2 u1 v1 u2 v2):FQ w W.drew p1 q1 p2 q2 u1 v1 u2 v2:=⟨h.a0,h.a1,h.a2,h.a3,h.b0,h.b1,h.b2,h.b3,h.x0,h.x1,h.x2,h.x3,h.e0,h.WR,h.WT,h.fx2,h.fx3,h.fe0,h.bl.drew,h.sz⟩
structure FC(w W:World)(p1 q1 p2 q2:Bool)(u1 v1 u2 v2:Value):Prop where
 a0:W.cell? ⟨w,0,none⟩=some (.bool p1)
 a1:W.cell? ⟨w,1,none⟩=some (u1)
 a2:W.cell? ⟨w,2,none⟩=some (.bool q1)
 a3:W.cell? ⟨w,3,none⟩=some (v1)
 b0:W.cell? ⟨w+1,0,none⟩=some (.bool p2)
 b1:W.cell? ⟨w+1,1,none⟩=some (u2)
 b2:W.cell? ⟨w+1,2,none⟩=some (.bool q2)
 b3:W.cell? ⟨w+1,3,none⟩=some (v2)
 e0:W.cell? ⟨w+1+1,0,none⟩=some (.int .i64 0)
 fe0:W.frozen? ⟨w+1+1,0,none⟩=false
 bl:Below w w W
 sz:w.heap.size+3<=W.heap.size
theorem FC.go{w:World}(h:FC w W p1 q1 p2 q2 u1 v1 u2 v2)(hb:Below W W W'):FC w W' p1 q1 p2 q2 u1 v1 u2 v2:=by have hs:=h.sz;have c:∀(k o:Nat) (u:Value),k<w.heap.size+3->W.cell? ⟨k,o,none⟩=some u->W'.cell? ⟨k,o,none⟩=some u:=fun k o u g e=>(hb.cell (p:=⟨k,o,none⟩) (show k<_ by omega)).trans e;have f:∀(k o:Nat),k<w.heap.size+3->W.frozen? ⟨k,o,none⟩=false->W'.frozen? ⟨k,o,none⟩=false:=fun k o g e=>(hb.frozen (p:=⟨k,o,none⟩) (show k<_ by omega)).trans e;exact⟨c _ _ _ oE h.a0,c _ _ _ oE h.a1,c _ _ _ oE h.a2,c _ _ _ oE h.a3,c _ _ _ oE h.b0,c _ _ _ oE h.b1,c _ _ _ oE h.b2,c _ _ _ oE h.b3,c _ _ _ oE h.e0,f _ _ oE h.fe0,h.bl.trans (hb.mono h.bl.size),by have:=hb.size;omega⟩
theorem FC.start(w:World)(p1 q1 p2 q2:Bool)(u1 v1 u2 v2:Value):FC w ((((w).alloc (.cells #[.bool p1,u1,.bool q1,v1] 48)).alloc (.cells #[.bool p2,u2,.bool q2,v2] 48)).alloc (.cells #[.int .i64 0] 32)) p1 q1 p2 q2 u1 v1 u2 v2:=by exact EC
theorem FC.drew{w W:World}{p1 q1 p2 q2:Bool}{u1 v1 u2 v2:Value}(h:FC w W p1 q1 p2 q2 u1 v1 u2 v2):FC w W.drew p1 q1 p2 q2 u1 v1 u2 v2:=⟨h.a0,h.a1,h.a2,h.a3,h.b0,h.b1,h.b2,h.b3,h.e0,h.fe0,h.bl.drew,h.sz⟩
section
variable {w:World}{M:List Nat}
theorem Sl.ah3(hM:b_ M w){a b:Rt}(h1:Sl Int w M A1 n1 c1 (ints (bG a.num)))(h2:Sl Int w M B1 m1 d1 (ints (bG a.den)))(h3:Sl Int w M A2 n2 c2 (ints (bG b.num)))(h4:Sl Int w M B2 m2 d2 (ints (bG b.den))):
 Sl fC (w.alloc (.cells #[.bool (aG a.num),.slice A1 n1 c1,.bool (aG a.den),.slice B1 m1 d1,.bool (aG b.num),.slice A2 n2 c2,.bool (aG b.den),.slice B2 m2 d2] 48)) M (some ⟨w,0,none⟩) 2 2 ([a,b].map jd):=by
 refine Sl.lit hM _ (cs:= [.bool (aG a.num),.slice A1 n1 c1,.bool (aG a.den),.slice B1 m1 d1,.bool (aG b.num),.slice A2 n2 c2,.bool (aG b.den),.slice B2 m2 d2]) rfl oE fun k x f=>?_
 match k,f with
 |0,f=>cases f;exact⟨_,JB (x:=jd a) h1 h2,fun j u e=>by exact TI⟩
 |1,f=>cases f;exact⟨_,JB (x:=jd b) h3 h4,fun j u e=>by exact TI⟩
structure ZC(w:World)(M:List Nat)(z:Int)(q:Bool)(A:Option Addr)(n c:Nat):Prop where
 neg:aG z=q
 sl:Sl Int w M A n c (ints (bG z))
theorem ZC.go{w w':World}{M:List Nat}{z:Int}{q:Bool}{A:Option Addr}{n c:Nat}(h:ZC w M z q A n c)(hb:Below w w w'):ZC w' M z q A n c:=⟨h.neg,h.sl.go hb⟩
theorem Sl.afR(hM:b_ M w)(h1:ZC w M z1 q1 A1 n1 c1)(h2:ZC w M z2 q2 A2 n2 c2)(h3:ZC w M z3 q3 A3 n3 c3)(h4:ZC w M z4 q4 A4 n4 c4):
 Sl lG (w.alloc (.cells #[.bool q1,.slice A1 n1 c1,.bool q2,.slice A2 n2 c2,.bool q3,.slice A3 n3 c3,.bool q4,.slice A4 n4 c4] 46)) M (some ⟨w,0,none⟩) 4 4 ([z1,z2,z3,z4].map jk):=by
 refine Sl.lit hM _ (cs:= [.bool q1,.slice A1 n1 c1,.bool q2,.slice A2 n2 c2,.bool q3,.slice A3 n3 c3,.bool q4,.slice A4 n4 c4]) rfl oE fun k x f=>?_
 match k,f with
 |0,f=>exact PU
 |1,f=>exact P6
 |2,f=>exact QJ
 |3,f=>exact QK
theorem Sl.ah4(hM:b_ M w){z5 z6:Int}{q5 q6:Bool}{A5 A6:Option Addr}{n5 c5 n6 c6:Nat}(h1:ZC w M z1 q1 A1 n1 c1)(h2:ZC w M z2 q2 A2 n2 c2)(h3:ZC w M z3 q3 A3 n3 c3)(h4:ZC w M z4 q4 A4 n4 c4)(h5:ZC w M z5 q5 A5 n5 c5)(h6:ZC w M z6 q6 A6 n6 c6):
 Sl lG (w.alloc (.cells #[.bool q1,.slice A1 n1 c1,.bool q2,.slice A2 n2 c2,.bool q3,.slice A3 n3 c3,.bool q4,.slice A4 n4 c4,.bool q5,.slice A5 n5 c5,.bool q6,.slice A6 n6 c6] 46)) M (some ⟨w,0,none⟩) 6 6 ([z1,z2,z3,z4,z5,z6].map jk):=by
 refine Sl.lit hM _ (cs:= [.bool q1,.slice A1 n1 c1,.bool q2,.slice A2 n2 c2,.bool q3,.slice A3 n3 c3,.bool q4,.slice A4 n4 c4,.bool q5,.slice A5 n5 c5,.bool q6,.slice A6 n6 c6]) rfl oE fun k x f=>?_
 match k,f with
 |0,f=>exact PU
 |1,f=>exact P6
 |2,f=>exact QJ
 |3,f=>exact QK
 |4,f=>cases f;exact⟨_,oI h5.neg h5.sl,fun j u e=>by match j,e with|0,e=>exact e|1,e=>exact e⟩
 |5,f=>cases f;exact⟨_,oI h6.neg h6.sl,fun j u e=>by match j,e with|0,e=>exact e|1,e=>exact e⟩
structure QC(w:World)(M:List Nat)(r:Rt)(p q:Bool)(A:Option Addr)(n c:Nat)(B:Option Addr)(m d:Nat):Prop where
 num:ZC w M r.num p A n c
 den:ZC w M r.den q B m d
theorem QC.go{w w':World}{M:List Nat}{r:Rt}{p q:Bool}{A B:Option Addr}{n c m d:Nat}(h:QC w M r p q A n c B m d)(hb:Below w w w'):QC w' M r p q A n c B m d:=⟨h.num.go hb,h.den.go hb⟩
theorem QC.more{w:World}{M:List Nat}{r:Rt}{p q:Bool}{A B:Option Addr}{n c m d b:Nat}(h:QC w M r p q A n c B m d)(hb:w.heap.size<=b):QC w (b::M) r p q A n c B m d:=⟨⟨h.num.neg,h.num.sl.more hb⟩,⟨h.den.neg,h.den.sl.more hb⟩⟩
theorem QC.qw{w:World}{M:List Nat}{r:Rt}{p:Bool}{c d:Nat}(h:QC w M r p q A n c B m d):QW w M (.agg #[.bool p,.slice A n c,.bool q,.slice B m d]) r:=⟨A,n,c,B,m,d,by rw[h.num.neg,h.den.neg],h.num.sl,h.den.sl⟩
theorem QC.of{w:World}{M:List Nat}{r:Rt}(h:QW w M v r):∃p q A n c B m d,v=.agg #[.bool p,.slice A n c,.bool q,.slice B m d]/\QC w M r p q A n c B m d:=by obtain⟨A,n,c,B,m,d,rfl,e,f⟩:=h;exact⟨_,_,A,n,c,B,m,d,rfl,⟨rfl,e⟩,⟨rfl,f⟩⟩
theorem Sl.YU(hM:b_ M w){a b:Rt}(h1:QC w M a p1 q1 A1 n1 c1 B1 m1 d1)(h2:QC w M b p2 q2 A2 n2 c2 B2 m2 d2):
 Sl fC (w.alloc (.cells #[.bool p1,.slice A1 n1 c1,.bool q1,.slice B1 m1 d1,.bool p2,.slice A2 n2 c2,.bool q2,.slice B2 m2 d2] 48)) M (some ⟨w,0,none⟩) 2 2 ([a,b].map jd):=by
 rw[<-h1.num.neg,<-h1.den.neg,<-h2.num.neg,<-h2.den.neg];exact Sl.ah3 hM h1.num.sl h1.den.sl h2.num.sl h2.den.sl
end
def QR(w:World)(M:List Nat)(x:Rt)(e:Ending)(w':World):Prop:=∃u,e=.returned (.tuple #[u,.int .i64 0])/\QW w' M u x/\Below w w w'
theorem b_.cons{M:List Nat}{w:World}{b:Nat}(h:b_ M w)(hb:b<w.heap.size):b_ (b::M) w:=fun k hk=>by
 rcases cB.1 hk with rfl|hk;·exact hb
 exact h k hk
theorem agH(a b:Rt):tV (a.num*b.den) (b.num*a.den)=rW a b:=rfl
theorem Sl.two{w:World}{M:List Nat}{c:Nat}{x:Int}(h:Sl lG w M O 2 c [jk x,jk y]):
 ∃b o p A n k q B m d,O=some ⟨b,o,none⟩/\(w.cell? ⟨b,o,none⟩=some (.bool p)/\w.cell? ⟨b,o+1,none⟩=some (.slice A n k)/\w.cell? ⟨b,o+2,none⟩=some (.bool q)/\w.cell? ⟨b,o+3,none⟩=some (.slice B m d))/\ZC w M x p A n k/\ZC w M y q B m d:=by
 obtain⟨b,o,A,n,k,rfl,R,g,t⟩:=h.LZ (k:=0) (neg:=aG x) (l:=ints (bG x)) rfl;obtain⟨f,C,B,m,d,e,u,D,K⟩:=h.LZ (k:=1) (neg:=aG y) (l:=ints (bG y)) rfl;obtain⟨rfl,rfl⟩:b=f/\o=C:=by simpa using e
 exact⟨b,o,_,A,n,k,_,B,m,d,rfl,⟨R,g,u,D⟩,⟨rfl,t⟩,⟨rfl,K⟩⟩
theorem Sl.three{w:World}{M:List Nat}{c:Nat}{x:Int}(h:Sl lG w M O 3 c [jk x,jk y,jk z]):
 ∃b o p A n k q B m d r E i j,O=some ⟨b,o,none⟩/\(w.cell? ⟨b,o,none⟩=some (.bool p)/\w.cell? ⟨b,o+1,none⟩=some (.slice A n k)/\w.cell? ⟨b,o+2,none⟩=some (.bool q)/\w.cell? ⟨b,o+3,none⟩=some (.slice B m d)/\w.cell? ⟨b,o+4,none⟩=some (.bool r)/\w.cell? ⟨b,o+5,none⟩=some (.slice E i j))/\ZC w M x p A n k/\ZC w M y q B m d/\ZC w M z r E i j:=by
 obtain⟨b,o,A,n,k,rfl,R,g,t⟩:=h.LZ (k:=0) (neg:=aG x) (l:=ints (bG x)) rfl;obtain⟨f,H,B,m,d,e,u,D,K⟩:=h.LZ (k:=1) (neg:=aG y) (l:=ints (bG y)) rfl;obtain⟨b2,I,E,i,j,N,C,F,G⟩:=h.LZ (k:=2) (neg:=aG z) (l:=ints (bG z)) rfl;obtain⟨rfl,rfl⟩:b=f/\o=H:=by simpa using e
 obtain⟨rfl,rfl⟩:b=b2/\o=I:=by simpa using N
 exact⟨b,o,_,A,n,k,_,B,m,d,_,E,i,j,rfl,⟨R,g,u,D,C,F⟩,⟨rfl,t⟩,⟨rfl,K⟩,⟨rfl,G⟩⟩
theorem ZC.zv{w:World}{M:List Nat}{c:Nat}(h:ZC w M z q A n c):ZV w M (.agg #[.bool q,.slice A n c]) z:=⟨A,n,c,by rw[h.neg],h.sl⟩
theorem ZC.drew{w:World}{M:List Nat}{z:Int}{q:Bool}{A:Option Addr}{n c:Nat}(h:ZC w M z q A n c):ZC w.drew M z q A n c:=⟨h.neg,h.sl.keep (cF _ _).drew⟩
theorem ZC.of{w:World}{M:List Nat}(h:ZV w M v z):∃q A n c,v=.agg #[.bool q,.slice A n c]/\ZC w M z q A n c:=by obtain⟨A,n,c,rfl,h⟩:=h;exact⟨_,A,n,c,rfl,⟨rfl,h⟩⟩
theorem WZ{M:List Nat}{a b:Rt}{w:World}(hM:b_ M w)(ha:QW w M va a)(hb:QW w M vb b)(oa:a.ok)(ob:b.ok)(hf:Fine a b):
 Calls prog 14 #[va,vb] w (CR w (rW a b)):=by
 refine wid ?_;obtain⟨p1,q1,A1,n1,c1,B1,m1,d1,rfl,U⟩:=QC.of ha;obtain⟨p2,q2,A2,n2,c2,B2,m2,d2,rfl,V⟩:=QC.of hb;obtain⟨W1,ac⟩:=aC ((((w).alloc (.cells #[.bool p1,.slice A1 n1 c1,.bool q1,.slice B1 m1 d1] 48)).alloc (.cells #[.bool p2,.slice A2 n2 c2,.bool q2,.slice B2 m2 d2] 48)).alloc (.cells #[.int .i64 0] 32));have F1:FC w W1 p1 q1 p2 q2 (.slice A1 n1 c1) (.slice B1 m1 d1) (.slice A2 n2 c2) (.slice B2 m2 d2):=by rw[<-ac];exact FC.start w _ _ _ _ _ _ _ _
 have L:QC W1 ((w.heap.size+1+1)::M) a p1 q1 A1 n1 c1 B1 m1 d1:=(U.more (b:=w+1+1) oE).go F1.bl;have E:QC W1 ((w.heap.size+1+1)::M) b p2 q2 A2 n2 c2 B2 m2 d2:=(V.more (b:=w+1+1) oE).go F1.bl;have J:b_ ((w.heap.size+1+1)::M) W1:=(hM.le F1.bl.size).cons (by have:=F1.sz;omega);have P:=Sl.YU J L E;have X:=fB L E J;have aa:=Hd P;have h:=fB oa ob hf;have F:=Hd F1;have t:=F1;obtain⟨ai,aj,ak,al,am,an,ao,ap,aq,ae,-,-⟩:=t;clear ha hb U V L E hM J P oa ob hf;refine qj func14 rfl ntmps14 ?_
 gi_wp2_with (first
  |(refine⟨bq,?_⟩;gi_at_call 47;have g:=o.out;clear g;refine Cn (rM (M:=(w+1+1)::M) _ 4 4 2 [a.num,b.den,b.num,a.den] _ ((X.v.le o.u.size).le oO) (Sl.afR (X.v.le o.u.size) (X.a.go o.u).num (X.b.go o.u).den (X.b.go o.u).num (X.a.go o.u).den) (by simp[h.a.fn,h.a.fd,h.b.fn,h.b.fd]) (by simp[mW,h.v.nd,h.v.dn,h.v.dd,h.v.nn]) rfl oE) ?_;rintro e Z ⟨O,cO,rfl,ad,hb4⟩;have D:Below W1 W1 Z:=(o.u.alloc o.u.size _).trans (hb4.mono (by simp;have:=o.u.size;omega));have F4:=F.out.go D;have I:=F4.drew;have t:=I;obtain⟨aJ,aK,aL,aM,aN,aO,aQ,aR,aS,ag,-,-⟩:=t;obtain⟨b0,o0,s1,S1,i1,j1,s2,S2,i2,j2,rfl,⟨Q,R,S,T⟩,hz1,hz2⟩:=Sl.two ad;have G:=h_ I hz1 hz2 ((X.v.le D.size).le (w':=Z.drew) pc);clear hb4 D F4 I)
  |(refine Cl 46 (uO (M:=(w+1+1)::M) _ 2 2 [a,b] _ (X.v.le oO) aa.out (by simp[h.a,h.b])) ?_;rintro e w2 ⟨rfl,E⟩;have N:Below W1 W1 w2:=((bw W1 W1).alloc pc _).trans (E.mono oO);have H:=F.out.go N;have t:=H;obtain⟨YN,YO,aD,aE,YP,Td,aF,aG,aH,YV,-,-⟩:=t;have o:=Hd2 H N;clear E N H)
  |fail)
 have v0:=ah Q;have v1:=ah R;have v2:=ah S;have v3:=ah T;clear Q R S T;refine aP [] 10 oF oF ?_;refine ay 0 ?_;refine ay 1 ?_;refine ay 2 ?_;refine ay 3 ?_;refine ay 4 ?_;refine ay 5 ?_;refine eU 6 fun K C=>?_;gi_wp2;refine Cm (WQ (a:=a.num*b.den) (b:=b.num*a.den) G.w G.b.drew.zv G.c.drew.zv h.v.nd h.v.dn) ?_;rintro e w5 ⟨rfl,D⟩;have F5:=G.a.go D;have t:=F5;obtain⟨ar,au,av,aw,ax,az,aA,aB,Y,af,-,-⟩:=t;have G5:=Hd F5;clear F5;refine C _ _ ⟨?_,?_⟩;clear C K;·exact a_ D []
 refine lit ?_;clear D;refine ay 7 ?_;refine ay 8 ?_;refine eU 9 fun K C=>?_;gi_wp2;refine Cm (WJ _ _) ?_;rintro e w6 ⟨rfl,rfl⟩;refine C _ _ ⟨?_,?_⟩;clear C K;·exact cF _ _
 refine lit ?_;refine iq 2 ?_;refine jW fun K C K' ab=>?_;gi_wp2;refine jW fun K C K' ab=>?_;gi_wp2;refine dC _ ?_;simp only[cu];gi_wp2;refine eM (f:=45) (args:=#[.pointer (some ⟨w+1+1,0,none⟩)]) oO oO oX (fun _ _=>bq) ?_;refine(kT ⟨w+1+1,0,none⟩ _).mono ?_;rintro e u' aI ⟨rfl,rfl,rfl⟩;have r2:=cZ (u:=.int .i64 0) Y;refine⟨.tuple #[.int .i64 (rW a b),.int .i64 0],?_,rfl,G5.out.bl.setCell (p:=⟨w+1+1,0,none⟩) oS _⟩;rw[<-agH];simp[results,results14,go_sem,Y]
theorem W_{M:List Nat}{a b:Int}{w:World}(hM:b_ M w)(ha:ZV w M va a)(hb:ZV w M vb b)(fa:fits a=true)(fb:fits b=true):
 Calls prog 114 #[va,vb] w (ZQ w M (Int.gcd a b)):=by
 refine wid ?_;obtain⟨A,n,c,rfl,hx⟩:=ha;obtain⟨B,m,d,rfl,P⟩:=hb;have U:=tK fa fb;have hn:=yG fa hx.eu;have hm:=yG fb P.eu;obtain⟨na,L⟩:=aC (aG a);obtain⟨nb,N⟩:=aC (aG b);rw[L,N];obtain⟨W1,aq,F1,V,Y,T⟩:=FZ.begin (na:=na) (nb:=nb) hM hx P;have X:=fB V Y T;have HN:=Hd2 L N;have HF:=Hd2 fa fb;have Ny:=Hd U;have F:=Hd F1;have p:=F1;obtain⟨ak,al,am,an,ao,ap,ag,ah,-,-⟩:=p;clear hx P hM V Y T fa fb L N U;refine ent func114 rfl ntmps114 ?_;gi_wp2_with ((refine Cl 156 (two_any (a:=a) (b:=b) (M:=(w+1+1)::M) ⟨A,n,c,by rw[HN.a],X.a⟩ ⟨B,m,d,by rw[HN.u],X.b⟩ HF.a HF.u) ?_;rintro e w2 ⟨rfl,K⟩;have H:=F.out.go K;have p:=H;obtain⟨YN,YO,YP,Td,aA,aB,YW,YX,-,-⟩:=p;have D:=Hd2 H K;clear K H))
 have Z:=h_ D.a (X.a.go D.u) (X.b.go D.u) (X.v.le D.u.size);gi_loopg[7,8] (b.natAbs) (fun y s6 s7 wr=>∃(x:Nat) (E:Option Addr) (n' I:Nat) (G:Option Addr) (h J:Nat),s6=.slice E n' I/\s7=.slice G h J/\n'<=2048/\h<=2048/\Hid (Nat.gcd x y=Int.gcd a b/\FZ w wr na nb (.slice A n c) (.slice B m d)/\Sl Int wr ((w.heap.size+1+1)::M) E n' I (ints (bC x))/\Sl Int wr ((w.heap.size+1+1)::M) G h J (ints (bC y))/\b_ ((w.heap.size+1+1)::M) wr));case atStart=>exact⟨a.natAbs,A,n,c,B,m,d,rfl,rfl,hn,hm,rfl,Z.out⟩
 case round=>
  obtain⟨x,E,n',I,G,h,J,rfl,rfl,ar,ac,f⟩:=hrel;have o:=f.d.eu;by_cases R:h=0
  ·subst R;have C:gk=0:=jO.1 (c_.1 o);subst C;have hg:gJ false x=(Int.gcd a b:Int):=by
    have:=f.a;rw[Nat.gcd_zero_right]at this;rw[<-this];rfl
   clear o;gi_wp2_with (refine Cl 158 (ahZ (v:=x) (z:=(Int.gcd a b:Int)) f.x f.c (aO _) (bI _) hg Ny.out) ?_;rintro e w3 ⟨q,A4,n4,c4,rfl,Q,t⟩;have F4:=f.b.go t;have p:=F4;obtain⟨aw,ax,ay,az,ae,af,ai,aj,-,-⟩:=p;have g:=Hd2 F4 Q;clear t Q F4)
   obtain⟨wF,ad,r0,r1,hz,ab⟩:=fin2 (M:=M) ae af g.u g.a.bl oE;rw[ad];refine⟨rfl,.tuple #[.agg #[.bool q,.slice A4 n4 c4],.int .i64 0],by simp[results,go_sem,r0,r1],_,rfl,hz,ab⟩
  ·have C:0<gk:=by
     rcases eh gk with e|e;·subst e;rw[bU]at o;exact absurd o.symm R
     ·exact e
   have au:0<h:=oE;have aa:=Hd o;clear o;gi_wp2_with (refine Cl 157 (MF (x:=x) (y:=gk) f.x f.c f.d oE oE C) ?_;rintro e w3 ⟨O,q,cO,O2,q2,Z7,rfl,h1,S,t⟩;have g:=Hd2 S t;clear h1 S t)
   gi_roundg (x%gk);case measure=>exact jN _ C
   case rel=>
    have av:q2<=h:=by rw[<-g.a.eu,<-aa.out];exact kR (cX (jN _ C))
    exact⟨gk,_,_,_,_,_,_,rfl,rfl,ac,oE,⟨by rw[LJ];exact f.a,f.b.go g.u,f.d.go g.u,g.a,f.x.le g.u.size⟩⟩
structure FD(w W:World)(na nb:Bool)(va vb:Value):Prop where
 a0:W.cell? ⟨w,0,none⟩=some (.bool na)
 a1:W.cell? ⟨w,1,none⟩=some (va)
 b0:W.cell? ⟨w+1,0,none⟩=some (.bool nb)
 b1:W.cell? ⟨w+1,1,none⟩=some (vb)
 x0:W.cell? ⟨w+1+1,0,none⟩=some (.bool false)
 x1:W.cell? ⟨w+1+1,1,none⟩=some (.slice none 0 0)
 y0:W.cell? ⟨w+1+1+1,0,none⟩=some (.bool false)
 y1:W.cell? ⟨w+1+1+1,1,none⟩=some (.slice none 0 0)
 WR:W.frozen? ⟨w+1+1,0,none⟩=false
 WT:W.frozen? ⟨w+1+1,1,none⟩=false
 fy0:W.frozen? ⟨w+1+1+1,0,none⟩=false
 fy1:W.frozen? ⟨w+1+1+1,1,none⟩=false
 bl:Below w w W
 sz:w.heap.size+4<=W.heap.size
end
