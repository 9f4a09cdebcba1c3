/- Lemmas -/
import Derived.Test.YtfdmnogfflcllaaGreatDoorM23
import Derived.Test.YtfdmnogfflcllaaGreatDoorM22
import Derived.Test.YtfdmnogfflcllaaGreatDoorM12
set_option linter.all false
set_option maxRecDepth 100000
set_option maxHeartbeats 0
namespace Go.Proofs.YtfdmnogfflcllaaGreatDoor
open Go.Proofs.Tryz
theorem wP{p:Prop}(h:p:=by
 refine ent func26 ntmps26 ?_
 gi_wp2_with (first
  |(have g:=N.out;clear g;have X:=C.out.2 _ F.out.bl;refine Cl 61 X ?_;clear X;rintro e G ⟨rfl,f⟩;replace F:=Hd (F.out.go f);have t:=aW F.out;clear f)
  |(have X:=C.out.1 _ F.out.bl;refine Cl 61 X ?_;clear X;rintro e G ⟨rfl,f⟩;replace F:=Hd (F.out.go f);have t:=aW F.out;have N:=Hd trivial;clear f)
  |(refine⟨bO,?_⟩))
 go_ret;exact⟨by rw[HZ.out];simp[*],F.out.bl⟩):p:=h
theorem zI{p:Prop}(h:p:=by
 gi_wp2_with (first
  |(refine Cl 52 S.out ?_;rintro e X I;obtain⟨b,rfl,hb,f⟩:=I.of;have t:=Hd (F.out.go f);have W:=aW t.out;clear hb f I;cases b)
  |(refine⟨bO,?_⟩))
 all_goals first
  |exact(gK (by assumption)).elim
  |(go_ret;exact Says.no (by first|rfl|simp[*]) t.out.bl)):p:=h
theorem zM{p:Prop}(h:p:=by
 refine ent func99 ntmps99 ?_;gi_wp2_with (first|(refine⟨bO,?_⟩))
 go_ret;exact Says.no (by first|rfl|simp[*]) HF.out.bl):p:=h
theorem Bv{p:Prop}(h:p:=by
 gi_wp2;refine ak [] [0,1,2,3,4,5,6,7,8,9,10,11,12,13,14,15,16] pk pk ?_;repeat(first|refine jR ?_|refine dY ?_|refine jS ?_|refine dY ?_ rfl rfl (dU rfl (by(simp[yielded];rfl))))
 refine aK ?_;refine lit ?_;gi_wp2;go_ret;exact⟨by rw[HZ.out,<-v.out,HY.a,HY.u];simp;omega,z.out⟩):p:=h
theorem EK{p:Prop}(h:p:=by refine ent func100 ntmps100 ?_;gi_wp2;go_ret;exact⟨by rw[f.out];first|rfl|(simp;omega),by exact bel⟩):p:=h
theorem Iu{p:Prop}(h:p:=by
 go_ret;exact aR.bad rfl pt (by
 rw[<-H.c];intro h;have D:=HX.out.2 (h.1.2.2.2 k y HY.a).1;cases D) F.out.bl):p:=h
theorem Iy{p:Prop}(h:p:=by gi_wp2;exact⟨⟨k+1,pj,by go_num,bO,Hd ((C.out _).2 (bY E.a ((C.out k).1 G.out) (by rw[E.u];omega)))⟩,by simp[intOf];omega⟩):p:=h
variable {M:List Nat}{r:aS}{s1 s2 s3 s4 s5 s6 s7 t1 t2 t3 t4:dK}{w w':World}{p:Prop}{e:Ending}{k d i j c m n0 g:Nat}{s:List (List Int)}{n:Int}{b x a:Rt}{y:aU}{A B:Option Addr}{l ys:List Int}{q:Bool}{lb:Array Value}
section
open Go.RowKit Go.Shelf
attribute [local go_sem] cX
theorem Ov{M':List Nat}{x4 x5:dK}(hr:dG w M r s1 s2 s3 s4 s5 s6 s7)(h4:Sl dA w M' x4.A x4.n x4.c (Fe r).ties)(h5:Sl aJ w M' x5.A x5.n x5.c (Fe r).rounds):
 CB 102 #[.agg (aV (Fe r) s1 s2 s3 x4 x5 s6 s7).toArray,.agg (aV r s1 s2 s3 s4 s5 s6 s7).toArray] (.bool (xX r)) w:=by
 refine wid ?_;obtain⟨G,D,L⟩:=s1;obtain⟨H,S,Q⟩:=s2;obtain⟨I,T,N⟩:=s3;obtain⟨A4,F,c4⟩:=s4;obtain⟨A5,C,c5⟩:=s5;obtain⟨J,V,O⟩:=s6;obtain⟨A7,W,c7⟩:=s7;obtain⟨B4,p4,d4⟩:=x4;obtain⟨B5,p5,d5⟩:=x5;have g1:Sl bT w M G D L r.aT:=hr.aT;have g2:Sl bW w M H S Q r.bonus:=hr.bonus;have g3:Sl bW w M I T N r.malus:=hr.malus;have g4:Sl dA w M A4 F c4 r.ties:=hr.ties;have g5:Sl aJ w M A5 C c5 r.rounds:=hr.rounds;have g6:Sl Int w M J V O r.prizes:=hr.prizes;have g7:Sl Int w M A7 W c7 r.points:=hr.points;have h4:Sl dA w M' B4 p4 d4 (r.ties.map (yV r)):=h4;have h5:Sl aJ w M' B5 p5 d5 (r.rounds.map (vO r)):=h5;obtain rfl:F=p4:=by have a:=h4.len;have b:=g4.len;rw[ck]at a;omega
 obtain rfl:C=p5:=by have a:=h5.len;have b:=g5.len;rw[ck]at a;omega
 have ao:=g1.small;have hs5:=g5.small;have HL:=Hd2 g1.len g5.len;have ae:=Hd2 g5 h5;have HI:=Hd2 g6 g7;have Z4:=Hd g1;have cs:=RH;show CallsIn _ _ _ _ #[.agg #[r.name,.slice G D L,.slice H S Q,.slice I T N,.slice B4 F d4,.slice B5 C d5,.slice J V O,.slice A7 W c7,r.best],.agg #[r.name,.slice G D L,.slice H S Q,.slice I T N,.slice A4 F c4,.slice A5 C c5,.slice J V O,.slice A7 W c7,r.best]] _ _;obtain⟨W1,an,F1⟩:=dR (((Fr.nil w).a w [r.name,.slice G D L,.slice H S Q,.slice I T N,.slice B4 F d4,.slice B5 C d5,.slice J V O,.slice A7 W c7,r.best] 28).a (w+1) [r.name,.slice G D L,.slice H S Q,.slice I T N,.slice A4 F c4,.slice A5 C c5,.slice J V O,.slice A7 W c7,r.best] 28);obtain⟨z,hz⟩:=aC (r.ties.all fun t=>t.2.all (xU r));have o1:=aW F1;have HX:=Hd (show xX r=(z&&r.rounds.all (KE r)) by rw[xX,hz]);have HC:=fB (zT (g2.go F1.bl)) g3 (Hl h4 g4);have H3:=fB g3 h4 g4;have HF:=Hd F1;obtain⟨Z,hZ⟩:=aC (xX r);rw[hZ]at HX |-;have am:=Hd hz;clear g1 g2 g3 g4 g5 g6 g7 h4 h5 hr F1 hz hZ;cases z
 all_goals
  refine ent func102 ntmps102 ?_
  gi_wp2_with (first
   |(have g:=F3.out;clear g;refine Cl 150 (Hl (H3.b.go F3.out.bl) (H3.v.go F3.out.bl)) ?_;rintro e w4 ⟨rfl,hb4⟩;rw[am.out];have F4:=Hd (F3.out.go hb4);have o4:=aW F4.out;clear hb4)
   |(have g:=Y.out;clear g;refine Cl 149 (zT (H3.a.go Y.out.bl)) ?_;rintro e w3 ⟨rfl,ab⟩;have F3:=Hd (Y.out.go ab);have o3:=aW F3.out;clear ab)
   |(refine Cl 149 HC.out.1 ?_;rintro e w2 ⟨rfl,R⟩;have Y:=Hd (HF.out.go R);have o2:=aW Y.out;clear R)
   |fail)
 ·go_ret;exact⟨by rw[HX.out];rfl,F4.out.bl⟩
 clear o1 o2 o3 o4 an;gi_loopw[5] (fun i wr=>∃k:Nat,k<=D/\i=k/\Hid (Fr w wr [(w, [r.name,.slice G D L,.slice H S Q,.slice I T N,.slice B4 F d4,.slice B5 C d5,.slice J V O,.slice A7 W c7,r.best]),(w+1, [r.name,.slice G D L,.slice H S Q,.slice I T N,.slice A4 F c4,.slice A5 C c5,.slice J V O,.slice A7 W c7,r.best])])) (fun i _=>D-(intOf i).toNat);case atStart=>exact⟨0,cf _,rfl,F4⟩
 case round=>
  obtain⟨k,hk,rfl,f⟩:=hrel;have o1:=aW f.out;by_cases ac:k<D;·obtain⟨x,hx⟩:=dW r.aT k (by rw[HL.a];exact ac);obtain⟨b,o,es,rfl,ag,X⟩:=(Z4.out.go f.out.bl).get hx;obtain⟨rfl,-⟩:=lT ag;have v0:=ah (show wr.cell? ⟨b,o+k*7,none⟩=some (.string x.1)from X.2 0 _ rfl);have v1:=ah (show wr.cell? ⟨b,o+k*7+1,none⟩=some (.int .i64 x.2.1)from X.2 1 _ rfl);have v2:=ah (show wr.cell? ⟨b,o+k*7+2,none⟩=some (.int .i64 x.2.2.1)from X.2 2 _ rfl);have v3:=ah (show wr.cell? ⟨b,o+k*7+3,none⟩=some (.int .i64 x.2.2.2.1)from X.2 3 _ rfl);have v4:=ah (show wr.cell? ⟨b,o+k*7+4,none⟩=some (.int .i64 x.2.2.2.2.1)from X.2 4 _ rfl);have v5:=ah (show wr.cell? ⟨b,o+k*7+5,none⟩=some (.int .i64 x.2.2.2.2.2.1)from X.2 5 _ rfl);have v6:=ah (show wr.cell? ⟨b,o+k*7+6,none⟩=some (.bool x.2.2.2.2.2.2)from X.2 6 _ rfl);have v7:=ah (f.out.aQ 0 1);have v8:=ah (f.out.aQ 1 1);have HD:=Hd f.out.drew;clear hx ag X;gi_wp2;refine aP [] 11 pk pk ?_;refine ay 0 ?_;refine ay 1 ?_;refine ay 2 ?_;refine ay 3 ?_;refine ay 4 ?_;refine ay 5 ?_;refine ay 6 ?_;refine ay 7 ?_;refine ay 8 ?_;refine ay 9 ?_;refine ay 10 ?_;refine iq 0 ?_;refine et _ ?_;simp only[cu];gi_wp2;exact⟨⟨k+1,pj,by go_num,HD⟩,by simp[intOf];omega⟩
  ·obtain rfl:k=D:=pj;clear hk ac cs;gi_wp2;clear o1;gi_loopw[6] (fun i wr=>∃j:Nat,j<=C/\i=j/\Hid ((r.rounds.drop j).all (KE r)=r.rounds.all (KE r))/\Hid (Fr w wr [(w, [r.name,.slice G k L,.slice H S Q,.slice I T N,.slice B4 F d4,.slice B5 C d5,.slice J V O,.slice A7 W c7,r.best]),(w+1, [r.name,.slice G k L,.slice H S Q,.slice I T N,.slice A4 F c4,.slice A5 C c5,.slice J V O,.slice A7 W c7,r.best])])) (fun i _=>C-(intOf i).toNat);case atStart=>exact⟨0,cf _,rfl,Hd rfl,f⟩
   case round=>
    obtain⟨j,hj,rfl,hS,f⟩:=hrel;have o1:=aW f.out;by_cases ac:j<C
    ·obtain⟨y,hy⟩:=dW r.rounds j (by rw[HL.u];exact ac);have ad:(r.rounds.map (vO r))[j]?=some (vO r y):=by rw[cM,hy];rfl
     have aj:=iC (P:=KE r) hy;obtain⟨yn,yp,yq,yc,wQ,zo,ys,yt,aa⟩:=y;obtain⟨VD,hno⟩:=aC (vO r (yn,yp,yq,yc,wQ,zo,ys,yt,aa)).2.2.2.2.2.2.2.2;obtain⟨E,hE⟩:=aC (fH (dP r) (dQ r) ys);have al:vO r (yn,yp,yq,yc,wQ,zo,ys,yt,aa)=(yn,yp,yq,yc,wQ,zo,E,yt,VD):=by rw[<-hno,<-hE];rfl
     have ai:KE r (yn,yp,yq,yc,wQ,zo,ys,yt,aa)=(decide (VD=aa)&&fE E ys):=by rw[KE,hno,<-hE]
     rw[al]at ad;obtain⟨b1,u1,D1,m1,e1,rfl,⟨x0,x1,x2,x3,x4,x5⟩,⟨x6,x7,x8,x9,x10⟩,⟨x11,x12⟩,-,-,hs1'⟩:=(ae.u.go f.out.bl).iw ad;obtain⟨b2,u2,D2,m2,e2,rfl,⟨y0,y1,y2,y3,y4,y5⟩,⟨y6,y7,y8,y9,Qu⟩,⟨y11,y12⟩,-,-,hs2'⟩:=(ae.a.go f.out.bl).iw hy;simp only[au]at x0 x1 x2 x3 x4 x5 x6 x7 x8 x9 x10 x11 x12 y0 y1 y2 y3 y4 y5 y6 y7 y8 y9 Qu y11 y12 hs1' hs2';obtain⟨q,hq⟩:=aC (decide (VD=aa)&&fE E ys);have HC:=Hd (Ot (n:=yn) (t:=yt) (p:=yp) (q:=yq) (c:=yc) (a:=wQ) (b:=zo) (VD:=VD) (no2:=aa) (hs1'.go pE.drew) (hs2'.go pE.drew));rw[hq]at HC;have HQ:=Hd2 (ai.trans hq) aj;have v0:=ah x0;have v1:=ah x1;have v2:=ah x2;have v3:=ah x3;have v4:=ah x4;have v5:=ah x5;have v6:=ah x6;have v7:=ah x7;have v8:=ah x8;have v9:=ah x9;have av:=ah x10;have aw:=ah x11;have ax:=ah x12;have t0:=ah y0;have t1:=ah y1;have t2:=ah y2;have t3:=ah y3;have t4:=ah y4;have t5:=ah y5;have t6:=ah y6;have t7:=ah y7;have t8:=ah y8;have t9:=ah y9;have ap:=ah Qu;have aq:=ah y11;have ar:=ah y12;have z1:=ah (f.out.aQ 0 5);have z2:=ah (f.out.aQ 1 5);clear hy ad aj hno hE al ai hq hs1' hs2' x0 x1 x2 x3 x4 x5 x6 x7 x8 x9 x10 x11 x12 y0 y1 y2 y3 y4 y5 y6 y7 y8 y9 Qu y11 y12;cases q
     all_goals
      gi_wp2;refine ak [] [0,1,2,3,4,5,6,7,8,9,10,11] pk pk ?_;refine eH ?_;refine aH fun K hK=>aA rfl rfl wy fun K' af=>?_;gi_wp2;refine Cl 151 HC.out ?_;rintro e w2 ⟨rfl,R⟩;have Y:=Hd (f.out.drew.go R);refine af _ _ ⟨?_,hK _ _ ?_⟩;clear af K' hK K;·exact bq R _
      clear R;refine lit ?_;refine eH ?_;refine aK ?_;refine lit ?_;gi_wp2
     ·go_ret;exact⟨by rw[HX.out,<-hS.out,HQ.u,HQ.a];rfl,Y.out.bl⟩
     exact⟨⟨j+1,pj,by go_num,Hd (by rw[<-hS.out,HQ.u,HQ.a,fm]),Y⟩,by simp[intOf];omega⟩
    ·obtain rfl:j=C:=pj;have HE:=Hd (show Z=true by rw[HX.out,<-hS.out,jr (by rw[HL.u];exact bj _)];rfl);clear hj ac
     gi_wp2_with (first
      |(have g:=G2.out;clear g;refine Cl 152 (Dq (HI.u.go G2.out.bl)) ?_;rintro e w3 ⟨rfl,ab⟩;have G3:=Hd (G2.out.go ab);clear ab)
      |(refine Cl 152 (Dq (HI.a.go f.out.bl)) ?_;rintro e w2 ⟨rfl,R⟩;have G2:=Hd (f.out.go R);have o2:=aW G2.out;clear R)
      |fail)
     go_ret;exact⟨by rw[HE.out];rfl,G3.out.bl⟩
theorem abu(hs:fD r=true):RF r:=by
 unfold fD sJ at hs;simp only[cS,iu,ij,mR,iN,jA,gM,cT]at hs;obtain⟨⟨hs,X⟩,hr⟩:=hs;refine⟨fun y u=>?_,⟨pj,pj,pj,pj⟩,fun t o=>?_⟩;·have:=cW (hr y u);omega
 have f:=X t o;unfold jY jA at f;simp only[iu,gM]at f;omega
theorem VJ(hr:dG w M r s1 s2 s3 s4 s5 s6 s7)(hM:b_ M w):
 Calls prog 101 #[.agg (aV r s1 s2 s3 s4 s5 s6 s7).toArray] w fun e w'=>∃v,e=.returned (.tuple #[v,.int .i64 (jJ r)])/\Below w w w'/\(jJ r=0->∃x4 x5:dK,v=.agg (aV (Fe r) s1 s2 s3 x4 x5 s6 s7).toArray/\Sl dA w' M x4.A x4.n x4.c (Fe r).ties/\Sl aJ w' M x5.A x5.n x5.c (Fe r).rounds)/\(¬jJ r=0->v=.agg nR.toArray):=by
 cases hs:fD r with
 |true=>have I:=abu hs;refine U.Ou hr I.parts ?_ hs I.NT hM;have a:=hr.aT.len;have b:=hr.bonus.len;have c:=hr.malus.len;have d:=hr.ties.len;have e:=hr.rounds.len;have:=I.len;omega
 |false=>
  have K:jJ r=2:=by unfold jJ;rw[if_pos hs]
  refine(Vb hr hs).mono ?_;rintro e w' ⟨rfl,hb⟩;exact⟨_,by rw[K],hb,fun h=>(by rw[K]at h;cases h),fun _=>rfl⟩
theorem adU(hr:dG w M r s1 s2 s3 s4 s5 s6 s7)(hM:b_ M w):
 CB 54 #[.agg (aV r s1 s2 s3 s4 s5 s6 s7).toArray] (.int .i64 (xY r)) w:=by
 refine wid ?_;obtain⟨W1,T,F1⟩:=dR ((Fr.nil w).a w (aV r s1 s2 s3 s4 s5 s6 s7) 28);have W:=aW F1;have D:=Hd (VJ (hr.go F1.bl) (hM.le F1.bl.size));obtain⟨K,f⟩:=aC (jJ r);rw[f]at D;have HF:=Hd F1;have L:=Hd hr;obtain⟨Z,o⟩:=aC (xY r);rw[o];by_cases V:K=0
 ·subst V;obtain⟨q,E⟩:=aC (xX r);have HZ:=Hd (show Z=if q=true then 0 else 140 by rw[<-o,xY,if_pos f,E]);have R:=Hd E;clear F1 hr hM o f E;cases q
  all_goals
   refine ent func54 ntmps54 ?_
   gi_wp2_with (first
    |(have g:=HX.out;clear g;refine Cl 102 HX.out ?_;rintro e w4 ⟨rfl,hb4⟩;rw[R.out];have I:=Hd (C.out.trans (hb4.mono C.out.size));clear hb4)
    |(refine Cl 101 D.out ?_;rintro e z ⟨v,rfl,t,hx,-⟩;obtain⟨Q,S,rfl,X,H⟩:=hx rfl;obtain⟨G,F⟩:=aC z.heap.size;obtain⟨P,N,u,F3⟩:=fP (w:=z) ((HF.out.go t).a G (aV (Fe r) s1 s2 s3 Q S s6 s7) 28 F.symm);have O:=aW F3;have HX:=Hd (Ov (L.out.go F3.bl) (X.go u) (H.go u));have C:=Hd F3.bl;clear t u X H F3 hx)
    |fail)
   go_ret;exact⟨by rw[HZ.out];rfl,I.out⟩
 ·have HZ:=Hd (show Z=K by rw[<-o,xY,if_neg (by rw[f];exact V),f]);have J:=Hd V;have kb:(K !=0)=true:=fu.2 V;clear F1 hr hM o f;refine ent func54 ntmps54 ?_
  gi_wp2_with (first
   |(refine Cl 101 D.out ?_;rintro e z ⟨v,rfl,t,-,hx⟩;obtain rfl:=hx J.out;obtain⟨G,F⟩:=aC z.heap.size;obtain⟨P,N,u,F3⟩:=fP (w:=z) ((HF.out.go t).a G nR 28 F.symm);have O:=aW F3;have Y:=aN (F3.aQ 1 0);have aa:=aN (F3.aQ 1 1);have ab:=aN (F3.aQ 1 2);have ac:=aN (F3.aQ 1 3);have ad:=aN (F3.aQ 1 4);have ae:=aN (F3.aQ 1 5);have af:=aN (F3.aQ 1 6);have ag:=aN (F3.aQ 1 7);have ah:=aN (F3.aQ 1 8);have C:=Hd F3.bl;clear u F3;clear t hx)
   |fail)
  go_ret;exact⟨by rw[HZ.out];rfl,C.out⟩
def iD(p:Prop)(w:World)(e:Ending)(w':World):Prop:=∃k:Int,e=.returned k/\(k=0->p)/\Below w w w'
attribute [irreducible] iD
theorem iD.bad{k:Int}(h:e=.returned k)(hk:¬k=0)(hb:Below w w w'):iD p w e w':=by unfold iD;exact⟨k,h,fun e=>absurd e hk,hb⟩
theorem iD.ok(h:e=.returned (.int .i64 0))(hp:p)(hb:Below w w w'):iD p w e w':=by unfold iD;exact⟨0,h,fun _=>hp,hb⟩
theorem iD.of(h:iD p w e w'):∃k:Int,e=.returned k/\(k=0->p)/\Below w w w':=by unfold iD at h;exact h
def aR(p:Prop)(w:World)(e:Ending)(w':World):Prop:=∃k:Int,e=.returned k/\(k=0↔p)/\Below w w w'
attribute [irreducible] aR
theorem aR.bad{k:Int}(h:e=.returned k)(hk:¬k=0)(hn:¬p)(hb:Below w w w'):aR p w e w':=by unfold aR;exact⟨k,h,⟨fun e=>absurd e hk,fun h=>absurd h hn⟩,hb⟩
theorem aR.ok(h:e=.returned (.int .i64 0))(hp:p)(hb:Below w w w'):aR p w e w':=by unfold aR;exact⟨0,h,⟨fun _=>hp,fun _=>rfl⟩,hb⟩
theorem aR.of(h:aR p w e w'):∃k:Int,e=.returned k/\(k=0↔p)/\Below w w w':=by unfold aR at h;exact h
structure Sm(r:aS):Prop where
 fw:RF r
 ties:r.ties.length<=5\/16<r.ties.length
 keys:∀t,t∈r.ties->t.2.length<=4\/32<t.2.length
def Sound(r:aS):Prop:=ZH r/\F15 r/\(∃rk,T15 r rk)/\∀i x,r.rounds[i]?=some x->backOk r i x
def aa_(r:aS):Prop:=(ZH r/\F15 r/\(∃rk,T16 r rk/\∀i,i<r.ties.length->rk i<r.ties.length)/\∀i x,r.rounds[i]?=some x->backOk r i x)/\xY r=0/\(∀j,j<r.ties.length->vw r.ties r.ties.length j=false)/\∀j,j<r.ties.length->KJ r.ties r.ties.length j<=32
def agM(r:aS):Prop:=Sound r/\xY r=0/\(∀j,j<r.ties.length->vw r.ties r.ties.length j=false)/\∀j,j<r.ties.length->KJ r.ties r.ties.length j<=32
theorem KU(hw:Sm r)(hs:fD r=true):r.ties.length<=5/\∀t,t∈r.ties->t.2.length<=4:=by
 unfold fD sJ at hs;simp only[cS,iu,ij,mR,iN,jA,gM,cT]at hs;obtain⟨⟨hs,X⟩,-⟩:=hs;refine⟨?_,fun t o=>?_⟩;·have:=hw.ties;omega
 have u:=hw.keys t o;have f:=X t o;unfold jY jA at f;simp only[iu,gM]at f;omega
theorem ach(hs:fD r=true):r.ties.length<=16/\∀t,t∈r.ties->t.2.length<=32:=by unfold fD sJ at hs;simp only[cS,iu,ij,mR,iN,jA,gM,cT]at hs;obtain⟨⟨hs,X⟩,-⟩:=hs;refine⟨pj,fun t o=>?_⟩;have f:=X t o;unfold jY jA at f;simp only[iu,gM]at f;omega
theorem afS(hw:Sm r)(h:aa_ r):agM r:=by obtain⟨⟨f,o,⟨u,t⟩,h4⟩,h5⟩:=h;obtain⟨a,b⟩:=KU hw (Dn (Dl h5.1).1).1;exact⟨⟨f,o,⟨u,agD a b t⟩,h4⟩,h5⟩
theorem DC{nm:List ByteArray}{s:ByteArray}(h:lU nm s n):∃u:Nat,n=(u:Int)/\u<nm.length:=by
 obtain⟨f,o⟩:=h;refine⟨xA nm s,o.symm,?_⟩;unfold xB at f;unfold xA
 cases e:gW nm s nm.length with
 |none=>rw[e]at f;cases f
 |some j=>exact CO e
theorem abw(hr:dG w M r s1 s2 s3 s4 s5 s6 s7)(hM:b_ M w):
 Calls prog 24 #[.agg (aV r s1 s2 s3 s4 s5 s6 s7).toArray] w (aR (aa_ r) w):=by
 refine wid ?_;obtain⟨P,hP⟩:=aC (aa_ r);rw[hP];obtain⟨A5,L,c5⟩:=s5;have R:Sl aJ w M A5 L c5 r.rounds:=hr.rounds;have af:=hr.ties.len;obtain⟨W1,aK,F1⟩:=dR ((Fr.nil w).a w (aV r s1 s2 s3 s4 ⟨A5,L,c5⟩ s6 s7) 28);have Q:=aW F1;have F:=Hd F1;have Z:=Hd (adU (hr.go F1.bl) (hM.le F1.bl.size));have H:=oK hr trivial hP R R.len;have HM:=Hd2 hM af;have JC:=R.small;have am:=Hd2 af R.len;obtain⟨C,O⟩:=aC (xY r);rw[O]at Z;clear F1 hr hP R hM af;by_cases ac:C=0;rotate_left
 ·have aL:(C !=0)=true:=fu.2 ac;refine ent func24 ntmps24 ?_
  gi_wp2_with (first
   |(refine Cl 54 Z.out ?_;rintro e N ⟨rfl,f⟩;replace F:=Hd (F.out.go f);clear f)
   |fail)
  go_ret;exact aR.bad rfl ac (by rw[<-H.c];exact fun h=>ac (by rw[<-O];exact h.2.1)) F.out.bl
 subst ac;have HR:=Hd (agH O);have II:=Hd O;have ae:=Hd (Dn (Dl O).1).1;have ab:=Hd (abu ae.out);have m5:L<=1000:=by rw[<-am.u];exact ab.out.len.2.2.2
 have m4:s4.n<=1000:=by rw[<-am.a];exact ab.out.len.2.2.1
 clear O;refine ent func24 ntmps24 ?_
 gi_wp2_with (first
  |(have g:=aa.out;clear g;have X:=Jj (H.a.go F.out.bl) HR.out m4;refine Cl 56 X ?_;clear X;rintro e N ⟨A,c,rfl,Y,f⟩;replace F:=Hd (F.out.go f);have Q:=aW F.out;have ax:=Hd2 Y (bL N N);clear f Y)
  |(have g:=Z4.out;clear g;have X:=Om (H.a.go F.out.bl);refine Cl 55 X ?_;clear X;rintro e N J;obtain⟨b,rfl,hb,f⟩:=J.of;have aa:=Hd hb;replace F:=Hd (F.out.go f);have Q:=aW F.out;clear hb f J;cases b)
  |(refine Cl 54 Z.out ?_;rintro e N ⟨rfl,f⟩;replace F:=Hd (F.out.go f);have Q:=aW F.out;have Z4:=Hd trivial;clear f)
  |fail)
 ·go_ret;exact aR.bad rfl pt (by rw[<-H.c];exact fun h=>hno aa h.1.2.1) F.out.bl
 have Jl:=Hd (aa.out.1 pC);clear aa Z Z4;obtain⟨n,hn⟩:=aC s4.n;have aG:=Hd hn;obtain⟨V1,aD⟩:=aC N;subst aD;gi_loopw[5] (fun i wr=>∃k:Nat,k<=s4.n/\i=k/\N=wr/\Hid (∀j,j<k->vw r.ties s4.n j=false)) (fun i _=>s4.n-(intOf i).toNat);case atStart=>exact⟨0,cf _,rfl,rfl,Hd (fun j T=>by omega)⟩
 case round=>
  obtain⟨k,hk,rfl,rfl,S⟩:=hrel;by_cases E:k<s4.n
  ·obtain⟨b,o,rfl,c0⟩:=ax.a.Vu (yh (vw r.ties s4.n) E);obtain⟨z,G⟩:=aC (vw r.ties s4.n k);rw[G]at c0;have HZ:=Hd G;clear G;cases z
   ·gi_wp2;exact⟨⟨k+1,pj,by go_num,bO,Hd (fun j T=>by
     by_cases e:j=k;·rw[e];exact HZ.out
     exact S.out j pj)⟩,by simp[intOf];omega⟩
   gi_wp2;go_ret;exact aR.bad rfl pt (by rw[<-H.c];intro h;have D:=h.2.2.1 k (by rw[HM.u];exact E);rw[HM.u,HZ.out]at D;cases D) F.out.bl
  ·have ap:s4.n=k:=pj;have XH:=Hd (show ∀j,j<s4.n->vw r.ties s4.n j=false by rw[ap]at S |-;exact S.out);have aE:¬((k:Int)<((s4.n:Nat):Int)):=pj;clear hk E S ap hn
   gi_wp2_with (first
    |(have X:=Vz (H.a.go F.out.bl) HR.out m4 ab.out.NT;refine Cl 57 X ?_;clear X;rintro e w3 ⟨A3,c3,rfl,Y,an⟩;replace F:=Hd (F.out.go an);have Q:=aW F.out;have az:=Hd Y;clear an Y)
    |fail)
   gi_loopw[7] (fun i wr=>∃k:Nat,k<=s4.n/\i=k/\w3=wr/\Hid (∀j,j<k->KJ r.ties s4.n j<=32)) (fun i _=>s4.n-(intOf i).toNat);case atStart=>exact⟨0,cf _,rfl,rfl,Hd (fun j T=>by omega)⟩
   case round=>
    obtain⟨g,hg,rfl,rfl,S⟩:=hrel;by_cases E:g<s4.n
    ·obtain⟨b,o,x,rfl,c0,-,-,ex⟩:=az.out.pR E;rw[yh (qH r.ties s4.n) E]at ex;cases ex;obtain⟨z,G⟩:=aC (KJ r.ties s4.n g);rw[qH,G]at c0;have HZ:=Hd G;clear G;by_cases aH:((z:Nat):Int)>32;·gi_wp2;go_ret;exact aR.bad rfl pt (by rw[<-H.c];intro h;have D:=h.2.2.2 g (by rw[HM.u];exact E);rw[HM.u,HZ.out]at D;omega) F.out.bl
     gi_wp2;exact⟨⟨g+1,pj,by go_num,bO,Hd (fun j T=>by
      by_cases e:j=g;·rw[e,HZ.out];omega
      exact S.out j pj)⟩,by simp[intOf];omega⟩
    ·have ao:s4.n=g:=pj;have ak:=Hd (show ∀j,j<s4.n->KJ r.ties s4.n j<=32 by rw[ao]at S |-;exact S.out);have ag:¬((g:Int)<((s4.n:Nat):Int)):=pj;clear hg E S ao;have HG:=Hd (agz II.out ab.out Jl.out);obtain⟨rk,av,aw⟩:=agC (ach ae.out).1 (ach ae.out).2 HR.out (fun i I=>by rw[HM.u]at I |-;exact XH.out i I) (fun i I=>by rw[HM.u]at I |-;exact ak.out i I);have HT:=Hd av;have Z9:=Hd aw;clear av aw;gi_wp2;clear Q aE ag;gi_loopw[8] (fun i wr=>∃k:Nat,k<=L/\i=k/\Hid (∀i x,i<k->r.rounds[i]?=some x->backOk r i x)/\Hid (Fr w wr [(w,aV r s1 s2 s3 s4 ⟨A5,L,c5⟩ s6 s7)])) (fun i _=>L-(intOf i).toNat);case atStart=>exact⟨0,cf _,rfl,Hd (fun i x I=>by omega),F⟩
     case round=>
      obtain⟨k,hk,rfl,hB,hF⟩:=hrel;replace F:=Hd hF.out;have Q:=aW F.out;by_cases E:k<L
      ·obtain⟨y,hy⟩:=dW r.rounds k (by rw[H.x];exact E);have ar:=HG.out.rounds y (bh hy);have hno:XE y= -1\/∃u:Nat,XE y=(u:Int)/\u<r.ties.length:=by
        rcases ar.2.2.2.2 with h|h;·exact .inl h.2
        exact .inr (by have:=DC h.2;rwa [ck]at this)
       obtain⟨b1,u1,D1,m1,e1,rfl,⟨x0,x1,x2,x3,x4,x5⟩,⟨x6,x7,x8,x9,x10⟩,⟨x11,x12⟩,-,-,hs1⟩:=(H.d.go F.out.bl).iw hy;have HL:=Hd (R_ (au y) (at_:=(k:Int)) hs1);obtain⟨no,Yv⟩:=aC (XE y);rw[Yv]at hno;have aB:wr.cell? ⟨b1,u1+k*13+12,none⟩=some (.int .i64 no):=by rw[<-Yv];exact x12
       have HY:=fB hy Yv aB;clear hy ar hs1 x12 Yv;rcases hno with rfl|⟨u,rfl,hu⟩
       ·gi_wp2_with (first
          |(refine Cl 58 HL.out ?_;rintro e w4 J;obtain⟨b,rfl,hb,f⟩:=J.of;have HX:=Hd hb;have al:=(bq f []).cell po HY.v;replace F:=Hd (F.out.go f);have o2:=aW F.out;clear hb f J;cases b)
          |fail)
        ·exact⟨⟨k+1,pj,by go_num,Hd (fun i x I hx=>by
           by_cases e:i=k;·subst e;rw[HY.a]at hx;cases hx;exact⟨HX.out.1 pC,fun h=>by have h2:XE y= -1:=HY.b;have h3:0<=XE y:=h;omega⟩
           exact hB.out i x pj hx),F⟩,by simp[intOf];omega⟩
        exact Iu
       have aN:¬((u:Int)<0):=pj;have HU:=Hd hu;clear hu
       gi_wp2_with (first
        |(refine Cl 58 HL.out ?_;rintro e w4 J;obtain⟨b,rfl,hb,f⟩:=J.of;have HX:=Hd hb;have al:=(bq f []).cell po HY.v;replace F:=Hd (F.out.go f);have o2:=aW F.out;have aO:=ah al;have v0:=ah (F.out.aQ 0 0);have v1:=ah (F.out.aQ 0 1);have v2:=ah (F.out.aQ 0 2);have v3:=ah (F.out.aQ 0 3);have v4:=ah (F.out.aQ 0 4);have v5:=ah (F.out.aQ 0 5);have v6:=ah (F.out.aQ 0 6);have v7:=ah (F.out.aQ 0 7);have v8:=ah (F.out.aQ 0 8);have X:=yj HT.out (rk u+1) u (e_ _) HU.out (M:=M) (M':= []) (H.a.go F.out.drew.bl) (b_.nil _);have aA:=Hd X;clear hb f J X;cases b)
        |fail)
       rotate_left;·exact Iu
       refine aP [] 8 pk pk ?_;refine ay 0 ?_;refine ay 1 ?_;refine ay 2 ?_;refine ay 3 ?_;refine ay 4 ?_;refine ay 5 ?_;refine ay 6 ?_;refine eU 7 fun K hK=>?_;gi_wp2;refine Cl 59 aA.out ?_;rintro e w5 ⟨A2,V,c2,rfl,aj,f⟩;replace F:=Hd (F.out.drew.go f);have o3:=aW F.out;have ai:=aj.len;have aM:V<=32:=by rw[<-ai];exact HT.out.len u HU.out
       have ad:=Hd2 aj ai;refine hK _ _ ⟨?_,?_⟩;clear hK K;·exact bq f _
       clear f aj ai;refine lit ?_;refine iq 1 ?_;refine jW fun K hK K' aI=>?_;gi_wp2;refine et _ ?_;simp only[cu];gi_wp2;gi_loopw[10] (fun i wr=>∃j:Nat,j<=V/\i=j/\w5=wr/\Hid (∀y,y∈(Jd r u).take j->Hg k y)) (fun i _=>V-(intOf i).toNat);case atStart=>exact⟨0,cf _,rfl,rfl,Hd po⟩
       case round=>
        obtain⟨j,T,rfl,rfl,hJ⟩:=hrel;by_cases aq:j<V
        ·obtain⟨z,G⟩:=dW (Jd r u) j (by rw[ad.u];exact aq);obtain⟨b3,ZU,rfl,y0,y1,y2⟩:=ad.a.xQ G;obtain⟨zk,zs,W⟩:=z;simp only at y0 y1 y2;have HZ:=Hd G;clear G;by_cases z2:zk=2
         ·subst z2;by_cases hg:(k:Int)<=W
          ·have ag:decide ((k:Int)<=W)=true:=cx hg;gi_wp2;go_ret;exact aR.bad rfl pt (by
            rw[<-H.c];intro h;have aF:XE y=((u:Nat):Int):=HY.b;obtain⟨t,e1,-,e3⟩:=(h.1.2.2.2 k y HY.a).2 (by show 0<=XE y;rw[aF];omega);have e4:XE y=((t:Nat):Int):=e1;obtain rfl:t=u:=pj;have D:=e3 _ (bh HZ.out);rcases D with D|D;·exact D rfl
            have h2:W<((k:Nat):Int):=D;omega) F.out.bl
          have ag:decide ((k:Int)<=W)=false:=cE hg;gi_wp2;exact⟨⟨j+1,pj,by go_num,bO,Hd (bY HZ.out hJ.out (.inr (by show W<_;omega)))⟩,by simp[intOf];omega⟩
         have aT:(zk==2)=false:=cU.2 z2;gi_wp2_with (first|(refine⟨bO,?_⟩))
         exact⟨⟨j+1,pj,by go_num,bO,Hd (bY HZ.out hJ.out (.inl z2))⟩,by simp[intOf];omega⟩
        ·obtain rfl:j=V:=pj;have HE:=Hd (show ∀y,y∈Jd r u->Hg k y by have h:=hJ.out;rwa [bR (by rw[ad.u];exact bj _)]at h);clear T aq hJ;gi_wp2;exact⟨⟨k+1,pj,by go_num,Hd (fun i x I hx=>by
          by_cases e:i=k;·subst e;rw[HY.a]at hx;cases hx;exact⟨HX.out.1 pC,fun _=>⟨u,HY.b,HU.out,HE.out⟩⟩
          exact hB.out i x pj hx),F⟩,by simp[intOf];omega⟩
      ·obtain rfl:k=L:=pj;have HE:=Hd (show P by
        rw[<-H.c];exact⟨⟨HG.out,Jl.out,⟨rk,HT.out,Z9.out⟩,fun i x hx=>hB.out i x (by have:=(bu.1 hx).1;rw[H.x]at this;exact this) hx⟩,II.out,by rw[HM.u];exact⟨XH.out,ak.out⟩⟩)
       clear hk E hB;gi_wp2;go_ret;exact aR.ok rfl HE.out F.out.bl
theorem gK{b:Bool}(h:some undef=some (Value.bool b)):False:=by cases h
def Yw(w:World)(R:List Value)(Q:Nat->Prop)(n:Nat)(i:Value)(wr:World):Prop:=∃k:Nat,k<=n/\i=k/\Hid (Q k)/\Hid (Fr w wr [(w.heap.size,R)])
attribute [irreducible] Yw
theorem Sr(hr:dG w M r s1 s2 s3 s4 s5 s6 s7):
 Calls prog 99 #[.agg (aV r s1 s2 s3 s4 s5 s6 s7).toArray] w (Says (RF r/\r.rounds.length<=12) w):=by
 refine wid ?_;obtain⟨P,hP⟩:=aC (RF r/\r.rounds.length<=12);rw[hP];obtain⟨K,f,S⟩:=s4;obtain⟨A5,C,c5⟩:=s5;have Y:Sl dA w M K f S r.ties:=hr.ties;have Z:Sl aJ w M A5 C c5 r.rounds:=hr.rounds;obtain⟨W1,ac,F1⟩:=dR ((Fr.nil w).a w (aV r s1 s2 s3 ⟨K,f,S⟩ ⟨A5,C,c5⟩ s6 s7) 28);have T:=aW F1;have HF:=Hd F1;have H:=fB Y Z hP;have HL:=oK hr.aT.len hr.bonus.len hr.malus.len Y.len Z.len;clear F1 hr Y Z hP;by_cases g1:((s1.n:Nat):Int)>70;·exact zM
 by_cases g2:((s2.n:Nat):Int)>70;·exact zM
 by_cases g3:((s3.n:Nat):Int)>70;·exact zM
 by_cases g4:((f:Nat):Int)>20;·exact zM
 by_cases g5:((C:Nat):Int)>12;·exact zM
 by_cases g6:((s6.n:Nat):Int)>70;·exact zM
 by_cases g7:((s7.n:Nat):Int)>70;·exact zM
 obtain⟨R,hR⟩:∃R:List Value,aV r s1 s2 s3 ⟨K,f,S⟩ ⟨A5,C,c5⟩ s6 s7=R:=⟨_,rfl⟩;have O:=Hd (show ∀V,Fr w V [(w.heap.size,R)]↔Fr w V [(w,aV r s1 s2 s3 ⟨K,f,S⟩ ⟨A5,C,c5⟩ s6 s7)]from fun V=>by rw[hR]);obtain⟨Q4,Vt⟩:∃Q:Nat->Prop,∀k,Q k↔∀t,t∈r.ties.take k->t.2.length<=40:=⟨_,fun _=>pg⟩;obtain⟨Q5,ZT⟩:∃Q:Nat->Prop,∀k,Q k↔∀x,x∈r.rounds.take k->nodes (au x)<=400:=⟨_,fun _=>pg⟩;have L:=Hd Vt;have N:=Hd ZT;have F0:=Hd ((O.out _).2 HF.out);clear Vt ZT hR;refine ent func99 ntmps99 ?_;gi_wp2;clear T;gi_loopw[3] (fun i wr=>Yw w R Q4 f i wr) (fun i _=>f-(intOf i).toNat);case atStart=>unfold Yw;exact⟨0,cf _,rfl,Hd ((L.out 0).2 po),F0⟩
 case round=>
  unfold Yw at hrel;obtain⟨k,hk,rfl,D,E⟩:=hrel;have F:=Hd ((O.out _).1 E.out);have T:=aW F.out;by_cases I:k<f
  ·obtain⟨t,aa⟩:=dW r.ties k (by rw[HL.d];exact I);obtain⟨b,o,B,m,d,rfl,⟨p0,p1⟩,hks⟩:=(H.a.go F.out.bl).n_ aa;have ab:=hks.len;have HT:=Hd2 aa ab;clear aa hks ab;by_cases hm:((m:Nat):Int)>40;·gi_wp2;go_ret;exact Says.no rfl F.out.bl
   gi_wp2;exact⟨by unfold Yw;exact⟨k+1,pj,by go_num,Hd ((L.out _).2 (bY HT.a ((L.out k).1 D.out) (by rw[HT.u];omega))),E⟩,by simp[intOf];omega⟩
  ·obtain rfl:k=f:=pj;have XZ:=Hd (show ∀t,t∈r.ties->t.2.length<=40 by have h:=(L.out k).1 D.out;rwa [bR (by rw[HL.d];exact bj _)]at h);clear hk I D;gi_wp2;clear T F;gi_loopw[4] (fun i wr=>Yw w R Q5 C i wr) (fun i _=>C-(intOf i).toNat);case atStart=>unfold Yw;exact⟨0,cf _,rfl,Hd ((N.out 0).2 po),E⟩
   case round=>
    unfold Yw at hrel;obtain⟨j,hj,rfl,D,E⟩:=hrel;have F:=Hd ((O.out _).1 E.out);have T:=aW F.out;by_cases I:j<C
    ·obtain⟨y,J⟩:=dW r.rounds j (by rw[HL.x];exact I);obtain⟨b1,u1,D1,m1,e1,rfl,-,⟨x6,x7,x8,x9,ad⟩,-,-,-,hs1⟩:=(H.b.go F.out.bl).iw J;have X:=Hd (yR (au y) hs1 (show 400<=100000 by omega));obtain⟨z,hz⟩:=aC (qU (nodes (au y)) 400);rw[hz]at X;have HZ:=Hd2 hz J;clear hz J hs1;by_cases hg:((z:Nat):Int)>400
     ·gi_wp2_with (first
        |(refine Cl 51 X.out ?_;rintro e w2 ⟨rfl,G⟩;have W:=Hd (F.out.go G);clear G)
        |fail)
      go_ret;exact Says.no rfl W.out.bl
     gi_wp2_with (first
      |(refine Cl 51 X.out ?_;rintro e w2 ⟨rfl,G⟩;have W:=Hd (F.out.go G);clear G)
      |fail)
     exact⟨by unfold Yw;exact⟨j+1,pj,by go_num,Hd ((N.out _).2 (bY HZ.u ((N.out j).1 D.out) (by have h:=HZ.a;unfold qU at h;omega))),Hd ((O.out _).2 W.out)⟩,by simp[intOf];omega⟩
    ·obtain rfl:j=C:=pj;have HE:=Hd (show P by
      have h:=(N.out j).1 D.out;rw[bR (by rw[HL.x];exact bj _)]at h;rw[<-H.v];have l1:=HL.a;have l2:=HL.b;have l3:=HL.c;have l4:=HL.d;have l5:=HL.x;exact⟨⟨fun y J=>cF (h y J) pj,pj,fun t ht=>cF (XZ.out t ht) pj⟩,pj⟩)
     clear hj I D;gi_wp2;go_ret;exact Says.yes rfl HE.out F.out.bl
theorem Sv(hr:dG w M r s1 s2 s3 s4 s5 s6 s7):
 Calls prog 52 #[.agg (aV r s1 s2 s3 s4 s5 s6 s7).toArray] w (Says (Sm r/\r.rounds.length<=12) w):=by
 refine wid ?_;obtain⟨P,J⟩:=aC (Sm r/\r.rounds.length<=12);rw[J];obtain⟨L,D,R⟩:=s4;have F:Sl dA w M L D R r.ties:=hr.ties;have aa:=F.small;obtain⟨W1,S,F1⟩:=dR ((Fr.nil w).a w (aV r s1 s2 s3 ⟨L,D,R⟩ s5 s6 s7) 28);have o1:=aW F1;have X:=Sr (hr.go F1.bl);have HX:=Hd X;have HF:=Hd F1;have H:=fB F F.len J;obtain⟨Z,N⟩:∃Q:Nat->Prop,∀k,Q k↔∀t,t∈r.ties.take k->t.2.length<=4\/32<t.2.length:=⟨_,fun _=>pg⟩;have C:=Hd N;clear F1 hr F J X N;refine ent func52 ntmps52 ?_;gi_wp2;gi_loopw[3] (fun i wr=>∃k:Nat,k<=D/\i=k/\W1=wr/\Hid (Z k)) (fun i _=>D-(intOf i).toNat);case atStart=>exact⟨0,cf _,rfl,by first|rfl|exact S|exact S.symm,Hd ((C.out 0).2 po)⟩
 case round=>
  obtain⟨k,hk,rfl,rfl,G⟩:=hrel;by_cases V:k<D
  ·obtain⟨t,K⟩:=dW r.ties k (by rw[H.b];exact V);obtain⟨b,o,B,m,d,rfl,⟨p0,p1⟩,hks⟩:=(H.a.go HF.out.bl).n_ K;have T:=hks.len;have E:=Hd2 K T;clear K hks T;by_cases g1:((m:Nat):Int)>4
   ·by_cases g2:((m:Nat):Int)<=32;·gi_wp2;go_ret;exact Says.no rfl HF.out.bl
    exact Iy
   exact Iy
  ·obtain rfl:k=D:=pj;have O:=Hd (show ∀t,t∈r.ties->t.2.length<=4\/32<t.2.length by have h:=(C.out k).1 G.out;rwa [bR (by rw[H.b];exact bj _)]at h);clear hk V G;by_cases g1:((k:Nat):Int)<=5
   ·gi_wp2_with (first
      |(refine Cl 99 HX.out ?_;rintro e Y I;obtain⟨b,rfl,hb,z⟩:=I.of;have HB:=Hd hb;have f:=Hd (HF.out.go z);have W:=aW f.out;clear hb z I;cases b)
      |(refine⟨bO,?_⟩))
    all_goals first
     |exact(gK (by assumption)).elim
     |(go_ret;first
       |exact Says.yes (by first|rfl|simp[*]) (by rw[<-H.v];exact⟨⟨(HB.out pC).1,.inl (by rw[H.b];omega),O.out⟩,(HB.out pC).2⟩) f.out.bl
       |exact Says.no (by first|rfl|simp[*]) f.out.bl)
   by_cases g2:((k:Nat):Int)>16
   ·gi_wp2_with (first
      |(refine Cl 99 HX.out ?_;rintro e Y I;obtain⟨b,rfl,hb,z⟩:=I.of;have HB:=Hd hb;have f:=Hd (HF.out.go z);have W:=aW f.out;clear hb z I;cases b)
      |(refine⟨bO,?_⟩))
    all_goals first
     |exact(gK (by assumption)).elim
     |(go_ret;first
       |exact Says.yes (by first|rfl|simp[*]) (by rw[<-H.v];exact⟨⟨(HB.out pC).1,.inr (by rw[H.b];omega),O.out⟩,(HB.out pC).2⟩) f.out.bl
       |exact Says.no (by first|rfl|simp[*]) f.out.bl)
   gi_wp2_with (first
    |(refine Cl 99 HX.out ?_;rintro e Y I;obtain⟨b,rfl,hb,z⟩:=I.of;have f:=Hd (HF.out.go z);have W:=aW f.out;clear hb z I;cases b)
    |(refine⟨bO,?_⟩))
   all_goals first
    |exact(gK (by assumption)).elim
    |(go_ret;exact Says.no (by first|rfl|simp[*]) f.out.bl)
end
section
open Go.RowKit
structure DF where
 name:ByteArray
 lo:Int
 hi:Int
 st:Int
 how:Int
 tr:Int
 rev:Bool
def fJ(c:DF):Bool:=decide (0<=c.lo/\c.lo<c.hi/\c.hi<=1000/\1<=c.st/\0<=c.tr/\c.tr<=127/\1<=c.how/\c.how<=3/\(c.how≠2->c.tr=0)/\(c.hi-c.lo)%c.st=0)
def Nv(c:DF)(m:Int):Bool:=decide (c.lo<=m/\m<=c.hi/\(m-c.lo)%c.st=0)
def DI:List Int->Int->Int->Int
 | [],_,_=> -1
 |x::r,v,k=>if v=x then k else DI r v (k+1)
theorem Sz(A:Option Addr)(xs:List Int)(n c:Nat)(v:Int)(w:World)(hn:xs.length=n)(hm:n<=1000000)(hx:Sl Int w M A n c xs):
 Calls prog 131 #[.slice A n c,v] w fun e w'=>e=.returned (.int .i64 (DI xs v 0))/\w=w':=by
 have H:=Lib.hid hx;clear hx;go_enter func131,ntmps131;go_wp2;go_loop [8] (fun i=>∃k:Nat,k<=n/\i=k/\Hid (DI (xs.drop k) v k=DI xs v 0)) (fun i=>n-(intOf i).toNat);case atStart=>exact⟨0,pj,rfl,rfl⟩
 case round=>
  obtain⟨k,E,rfl,C⟩:=hrel;by_cases D:k<n
  ·obtain⟨b,o,x,rfl,K,_,u,_⟩:=H.out.pR D;have f:=C.out;rw[u,DI]at f;by_cases z:v=x;·rw[if_pos z]at f;have t:=Lib.hid f;clear f u;subst z;go_wp2;go_ret;exact⟨jL t.out,rfl⟩
   rw[if_neg z]at f;have t:=Lib.hid f;clear f u;go_wp2;go_round;case rel=>exact⟨k+1,pj,by go_num,t.out⟩
   case measure=>simp[intOf];omega
  ·have f:=C.out;rw[cB pj,DI]at f;have t:=Lib.hid f;clear f;go_wp2;go_ret;exact⟨jL t.out,rfl⟩
theorem VK(v:Int):∀(xs:List Int) (k:Int),0<=k->(v∈xs->k<=DI xs v k)/\(v∉xs->DI xs v k= -1)
 | [],k,hk=>⟨fun h=>by simp at h,fun _=>rfl⟩
 |x::r,k,hk=>by
  have ih:=VK v r (k+1) pj;by_cases h:v=x;·subst h;simp[DI]
  simp only[DI,if_neg h,cD];exact⟨fun g=>by have:=ih.1 (g.resolve_left h);omega,fun g=>ih.2 (fun e=>g (.inr e))⟩
theorem contains_eq(xs:List Int)(v:Int):decide (0<=DI xs v 0)=decide (v∈xs):=by
 have h:=VK v xs 0 pj;by_cases g:v∈xs;·simp[g,h.1 g]
 simp[g,h.2 g]
theorem rD(A:Option Addr)(xs:List Int)(n c:Nat)(v:Int)(w:World)(hn:xs.length=n)(hm:n<=1000000)(hx:Sl Int w M A n c xs):
 Calls prog 72 #[.slice A n c,v] w fun e w'=>e=.returned (.bool (decide (v∈xs)))/\w=w':=by
 have H:=Lib.hid hx;have E:=Lib.hid (contains_eq xs v);clear hx;go_enter func72,ntmps72;go_wp2_with (go_at_call 131;refine(Sz A xs n c v _ hn hm H.out).mono ?_;rintro e w' ⟨rfl,rfl⟩);go_ret;exact⟨wS E.out,rfl⟩
theorem sl3{b:Nat}{x y z:Int}(h0:w.cell? ⟨b,0,none⟩=some (.int .i64 x))(h1:w.cell? ⟨b,1,none⟩=some (.int .i64 y))(h2:w.cell? ⟨b,2,none⟩=some (.int .i64 z))
 (hx:i64 x) (hy:i64 y) (hz:i64 z):Sl Int w [] (some ⟨b,0,none⟩) 3 3 [x,y,z]:=by
 refine⟨rfl,bj _,by unfold jG;omega,pj,.inr ⟨b,0,rfl,?_⟩⟩;intro k u f
 match k,f with
 |0,f=>cases f;exact⟨_,⟨rfl,hx⟩,po,by intro j u f;match j,f with|0,f=>cases f;exact h0⟩
 |1,f=>cases f;exact⟨_,⟨rfl,hy⟩,po,by intro j u f;match j,f with|0,f=>cases f;exact h1⟩
 |2,f=>cases f;exact⟨_,⟨rfl,hz⟩,po,by intro j u f;match j,f with|0,f=>cases f;exact h2⟩
theorem Fp(b:Nat)(x y z v:Int)(w:World)(h0:w.cell? ⟨b,0,none⟩=some (.int .i64 x))(h1:w.cell? ⟨b,1,none⟩=some (.int .i64 y))(h2:w.cell? ⟨b,2,none⟩=some (.int .i64 z))
 (hx:i64 x) (hy:i64 y) (hz:i64 z):
 Calls prog 72 #[.slice (some ⟨b,0,none⟩) 3 3,v] w fun e w'=>e=.returned (.bool (decide (v=x\/v=y\/v=z)))/\w=w':=
 (rD _ [x,y,z] 3 3 v w rfl pj (sl3 h0 h1 h2 hx hy hz)).mono fun e w' ⟨he,hw⟩=>⟨by rw[he];exact wS po,hw⟩
theorem vX(s:ByteArray)(lo hi st how tr:Int)(rv:Bool)(w:World):
 CB 173 #[.agg #[s,lo,hi,st,how,tr,rv]] (.bool (fJ ⟨s,lo,hi,st,how,tr,rv⟩)) w:=by
 go_enter func173,ntmps173;go_wp2_with (go_at_call 72;refine(Fp _ 1 2 3 _ _ (by go_simp) (by go_simp) (by go_simp) (by simp[i64]) (by simp[i64]) (by simp[i64])).mono ?_;rintro e w' ⟨rfl,rfl⟩);all_goals go_ret
 all_goals refine⟨wS ?_,by first|exact(pE.alloc pD _)|exact((pE.alloc pD _).alloc po _)⟩
 all_goals grind [fJ]
theorem kP{c:DF}(h:fJ c=true):(0<=c.lo/\c.lo<c.hi/\c.hi<=1000)/\1<=c.st/\(0<=c.tr/\c.tr<=127)/\(1<=c.how/\c.how<=3)/\(c.how≠2->c.tr=0)/\(c.hi-c.lo)%c.st=0:=by
 unfold fJ at h;have:=cW h
 grind
def pz(c:DF)(m:Int):Int×Int:=if fJ c then(if Nv c m then((if c.rev then c.lo+c.hi-m else m),0)else(0,160))else(0,150)
theorem DJ(s:ByteArray)(lo hi st how tr:Int)(rv:Bool)(m:Int)(w:World):
 Calls prog 127 #[.agg #[s,lo,hi,st,how,tr,rv],m] w fun e w'=>e=.returned (.tuple #[.int .i64 (pz ⟨s,lo,hi,st,how,tr,rv⟩ m).1,.int .i64 (pz ⟨s,lo,hi,st,how,tr,rv⟩ m).2])/\Below w w w':=by
 cases f:fJ ⟨s,lo,hi,st,how,tr,rv⟩with
 |false=>go_enter func127,ntmps127;go_wp2_with (go_at_call 173;refine(vX s lo hi st how tr rv _).mono ?_;rintro e v ⟨rfl,hb⟩);go_ret2;exact⟨by simp[pz,f],(pE.alloc pD _).trans (hb.mono po)⟩
 |true=>
  obtain⟨⟨o,t,u⟩,h4,-,-,-,-⟩:=kP f;simp only at o t u h4;go_enter func127,ntmps127;go_wp2_with (go_at_call 173;refine(vX s lo hi st how tr rv _).mono ?_;rintro e v ⟨rfl,hb⟩;have K:=hb.cell (p:=⟨w,0,none⟩) po;have z:=hb.cell (p:=⟨w,1,none⟩) po;have C:=hb.cell (p:=⟨w,2,none⟩) po;have D:=hb.cell (p:=⟨w,3,none⟩) po;have E:=hb.cell (p:=⟨w,6,none⟩) po);all_goals(try go_ret2)
  all_goals refine⟨ahL ?_,(pE.alloc pD _).trans (hb.mono po)⟩
  all_goals grind [pz,Nv]
theorem on_any(s:ByteArray)(lo hi st how tr:Int)(rv:Bool)(m:Int)(w:World)(hr:fJ ⟨s,lo,hi,st,how,tr,rv⟩=true):
 Calls prog 155 #[.agg #[s,lo,hi,st,how,tr,rv],m] w fun e w'=>e=.returned (.bool (Nv ⟨s,lo,hi,st,how,tr,rv⟩ m))/\Below w w w':=by
 obtain⟨⟨f,o,t⟩,h4,-,-,-,-⟩:=kP hr;simp only at f o t h4;clear hr;go_enter func155,ntmps155;go_wp2;all_goals go_ret
 all_goals refine⟨wS ?_,pE.alloc pD _⟩
 all_goals grind [Nv]
end
structure dS where
 marks:List (List Int)
 bonus:List Int
 malus:List Int
 prev:List fC
def kC(c:bT)(m:Int):Int:=if c.2.2.2.2.2.2=true then c.2.1+c.2.2.1-m else m
def gI(l:List Int):List Int:=l.mergeSort fun x y=>decide (x<=y)
def rU(c:bT)(l:List Int):List Int:=
 if c.2.2.2.2.1=1 then gI (l.map (kC c))else if c.2.2.2.2.1=2 then((gI (l.map (kC c))).take (l.length-c.2.2.2.2.2.1.toNat)).drop c.2.2.2.2.2.1.toNat
 else((gI (l.map (kC c))).take (l.length/2+1)).drop ((l.length-1)/2)
def qJ(c:bT)(l:List Int):Rt:=eP ((rU c l).sum*(if c.2.2.2.2.1=1 then(l.length:Int)else 1)) ((rU c l).length:Int)
structure Fv where
 tot:Nat->Rt
 bonus:Int
 malus:Int
 prev:List Rt
def zR:Rt:=⟨0,1⟩
def Uf(I:Fv)(k n d:Int)(l:List Rt):Rt:=
 if k=1 then eP n d else if k=2 then I.tot n.toNat else if k=3 then eP I.bonus 1 else if k=4 then eP I.malus 1 else if k=5 then I.prev.getD n.toNat zR
 else if k=6 then Js (l.getD 0 zR) (l.getD 1 zR)else if k=7 then OG (l.getD 0 zR) (l.getD 1 zR)else if k=8 then VQ (eP n d) (l.getD 0 zR)
 else if k=9 then(if rW (l.getD 0 zR) (l.getD 1 zR)<=0 then l.getD 0 zR else l.getD 1 zR)else if k=10 then(if-rW (l.getD 0 zR) (l.getD 1 zR)<=0 then l.getD 0 zR else l.getD 1 zR)
 else(if rW (l.getD 0 zR) (l.getD 1 zR)<=0 then l.getD 2 zR else l.getD 3 zR)
mutual
def rG(I:Fv):aU->Rt
 | .mk k _ n d l=>Uf I k n d (nH I l)
def nH(I:Fv):List aU->List Rt
 | []=> []
 |x::l=>rG I x::nH I l
end
theorem Qy(I:Fv)(x:aU):rG I x=Uf I x.kind x.n x.d (nH I x.l):=by cases x;rw[rG];rfl
theorem oC(I:Fv):∀l,nH I l=l.map (rG I)
 | []=>rfl
 |x::l=>by rw[nH,oC I l];rfl
structure yx(x:Rt)(k:Nat):Prop where
 ok:x.ok
 num:x.num.natAbs<BB^k
 den:x.den.natAbs<BB^k
theorem yx.up{k':Nat}(h:yx x k)(hk:k<=k'):yx x k':=⟨h.ok,bX h.num (zy hk),bX h.den (zy hk)⟩
theorem yx.sh(h:yx x k)(hk:k<=600):Sh x:=⟨(h.up (k':=Qx) (by unfold Qx;omega)).num,(h.up (k':=Qx) (by unfold Qx;omega)).den⟩
theorem wo{d:Int}(hd:0<d)(hk:k<=2048)(hn:n.natAbs<BB^k)(hf:d.natAbs<BB^k):yx (eP n d) k:=by
 refine⟨OD hd (pF hn hk) (pF hf hk),?_,?_⟩;·rw[BH hd];refine lf ?_ hn;show(n/_).natAbs<=_;exact Int.natAbs_ediv_le_natAbs _ _
 rw[BH hd];refine lf ?_ hf;show(d/_).natAbs<=_;exact Int.natAbs_ediv_le_natAbs _ _
theorem agQ(ha:yx a i)(hb:yx b j)(h:i+j+1<=600):yx (Js a b) (i+j+1):=by
 refine wo (Int.mul_pos ha.ok.pos hb.ok.pos) pj ?_ (bX (dL ha.den hb.den) (zy pj));refine vZ (dL ha.num hb.den) ?_;have:=dL hb.num ha.den
 rwa [pc j i]at this
theorem agR(ha:yx a i)(hb:yx b j)(h:i+j+1<=600):yx (OG a b) (i+j+1):=by
 refine wo (Int.mul_pos ha.ok.pos hb.ok.pos) pj ?_ (bX (dL ha.den hb.den) (zy pj));refine DU (dL ha.num hb.den) ?_;have:=dL hb.num ha.den
 rwa [pc j i]at this
theorem agS(ha:yx a i)(hb:yx b j)(h:i+j<=600):yx (VQ a b) (i+j):=wo (Int.mul_pos ha.ok.pos hb.ok.pos) pj (dL ha.num hb.num) (dL ha.den hb.den)
theorem ah8:BB=1073741824:=rfl
theorem pG(h:n.natAbs<=1152921504606846975):n.natAbs<BB^2:=by
 have:BB^2=1152921504606846976:=by rw[ah8]
 omega
theorem DW(h:pX y):((y.l.length:Nat):Int)=mV y.kind:=by
 obtain⟨f,o,h,-⟩:=h;simp only[vT,qZ]at h
 repeat' split at h
 all_goals first
  |(rename_i e;simp at h;rw[e];exact h.1.symm)
  |(cases h;done)
  |(exfalso;simp at h;done)
structure ah9(I:Fv)(nc np:Nat):Prop where
 tot:∀n,n<nc->yx (I.tot n) 5
 prev:I.prev.length=np
 pv:∀x,x∈I.prev->yx x 5
 bonus:I.bonus.natAbs<=1152921504606846975
 malus:I.malus.natAbs<=1152921504606846975
structure YD(nc np:Nat)(y:aU):Prop where
 sh:pX y
 c:y.kind=2->0<=y.n/\y.n<(nc:Int)
 r:y.kind=5->0<=y.n/\y.n<(np:Int)
theorem uK{α β:Type}(f:α->β){l:List α}{x:α}(h:l[k]?=some x)(z:β):(l.map f).getD k z=f x:=by rw[cC,cM,h];rfl
theorem VU(h:pX y)(hk:y.kind=1\/y.kind=8):0<=y.n/\y.n<=1099511627776/\1<=y.d/\y.d<=1099511627776:=by
 obtain⟨o,t,h,-,f,-⟩:=h
 cases o with
 |true=>exact f rfl
 |false=>exfalso;rcases hk with e|e<;>(rw[e]at h;simp[vT,qZ]at h)
theorem OH{d:Int}(h:0<=n/\n<=1099511627776/\1<=d/\d<=1099511627776):yx (eP n d) 2:=wo pj pj (pG pj) (pG pj)
theorem ae5{I:Fv}{nc np:Nat}(hI:ah9 I nc np)(x:aU):nodes x<=60->(∀y,y∈iZ x->YD nc np y)->yx (rG I x) (5*nodes x):=by
 induction x using iY with
 |_ x ih=>
  intro V K;have hx:=K x (by rw[lW];exact cw);have f:=DW hx.sh;have C:=gV x;have W:=FU x;have v:∀y,y∈x.l->yx (rG I y) (5*nodes y):=fun y D=>ih y D (by have:=fK D;omega) (fun z T=>K z (by rw[lW];exact bE _ (qF D T)));rw[Qy,oC];have P:=hx.c;have S:=hx.r;have J:=VU hx.sh;generalize nodes x=N at*;obtain⟨k,s,n,d,l⟩:=x;simp only[aU.kind,aU.name,aU.n,aU.d,aU.l]at*;unfold Uf
  by_cases E:k=1;·rw[if_pos E];exact(OH (J (.inl E))).up pj
  rw[if_neg E];by_cases F:k=2;·rw[if_pos F];exact(hI.tot _ (by have:=P F;omega)).up pj
  rw[if_neg F];by_cases L:k=3;·rw[if_pos L];exact(wo pj pj (pG hI.bonus) (pG pj)).up pj
  rw[if_neg L];by_cases O:k=4;·rw[if_pos O];exact(wo pj pj (pG hI.malus) (pG pj)).up pj
  rw[if_neg O];by_cases G:k=5
  ·rw[if_pos G];have:=S G;have H:n.toNat<I.prev.length:=by rw[hI.prev];omega
   rw[cC,cd H];exact(hI.pv _ (fN H)).up pj
  rw[if_neg G];by_cases t:k=8
  ·rw[if_neg pj,if_neg pj,if_pos t];have u:(l.length:Int)=1:=by rw[f,t];rfl
   match l,u with
   | [a],_=>simp only[dh]at C;have:=v a cw;exact(agS (OH (J (.inr t))) this pj).up pj
  have o:(k=6\/k=7\/k=9\/k=10)\/k=11:=by
   unfold mV at f
   repeat' split at f
   all_goals omega
  rcases o with o|o
  ·have u:(l.length:Int)=2:=by rw[f];rcases o with e|e|e|e<;>(rw[e];rfl)
   match l,u with
   | [a,b],_=>
     simp only[dh]at C;have f:=v a cw;have hb:=v b po;rw[uK (rG I) (k:=0) rfl,uK (rG I) (k:=1) rfl];rcases o with e|e|e|e;·rw[if_pos e];exact(agQ f hb pj).up pj
     ·rw[if_neg pj,if_pos e];exact(agR f hb pj).up pj
     ·rw[if_neg pj,if_neg pj,if_neg t,if_pos e];split;·exact f.up pj
      exact hb.up pj
     ·rw[if_neg pj,if_neg pj,if_neg t,if_neg pj,if_pos e];split;·exact f.up pj
      exact hb.up pj
  ·have u:(l.length:Int)=4:=by rw[f,o];rfl
   match l,u with
   | [a,b,c,d'],_=>
     simp only[dh]at C;have Q:=v c po;have R:=v d' po;rw[if_neg pj,if_neg pj,if_neg t,if_neg pj,if_neg pj];rw[uK (rG I) (k:=2) rfl,uK (rG I) (k:=3) rfl];split;·exact Q.up pj
     ·exact R.up pj
section
open Go.RowKit Go.Shelf
attribute [local go_sem] cX
def rX(c:bT):DF:=⟨c.1,c.2.1,c.2.2.1,c.2.2.2.1,c.2.2.2.2.1,c.2.2.2.2.2.1,c.2.2.2.2.2.2⟩
def oD(c:bT)(m:Int):Bool:=decide (m= -1)||Nv (rX c) m
def jc(c:bT)(p:Int)(l:List Int):Bool:=decide ((l.length:Int)=p)&&l.all (oD c)
def countB(x:bW)(n:Int):Bool:=decide (0<=n)&&decide (n<=x.2.2)
def dV(xs:List bW)(l:List Int):Bool:=decide (l.length=xs.length)&&(xs.zip l).all fun p=>countB p.1 p.2
def kS(r:aS)(i:Nat)(p:Int)(c:dS):Bool:=
 decide (c.marks.length=r.aT.length)&&dV r.bonus c.bonus&&dV r.malus c.malus&&decide (c.prev.length=i)&&((r.aT.zip c.marks).all fun q=>jc q.1 p q.2)&&c.prev.all dF
theorem DX{c:bT}(h:rC c)(ht:c.2.2.2.2.2.1<=127):fJ (rX c)=true:=by obtain⟨f,o,t,F,u,v,z,C,D⟩:=h;unfold fJ rX;refine cx ⟨f,o,t,F,C,ht,v,z,fun e=>D.resolve_right e,?_⟩;show(c.2.2.1-c.2.1)%c.2.2.2.1=0;rw[<-kO pj];exact u
theorem oG{α β:Type}{xs:List α}{ys:List β}{x:α}{y:β}(hx:xs[k]?=some x)(hy:ys[k]?=some y):(xs.zip ys)[k]?=some (x,y):=by rw[List.getElem?_zip_eq_some];exact⟨hx,hy⟩
abbrev Qz(c:bT):Value:=.agg #[c.1,c.2.1,c.2.2.1,c.2.2.2.1,c.2.2.2.2.1,c.2.2.2.2.2.1,c.2.2.2.2.2.2]
abbrev DY(c:bT):List Value:= [c.1,c.2.1,c.2.2.1,c.2.2.2.1,c.2.2.2.2.1,c.2.2.2.2.2.1,c.2.2.2.2.2.2]
theorem VX(c:bT)(m:Int)(w:World)(hr:fJ (rX c)=true):CB 111 #[Qz c,m] (.bool (oD c m)) w:=by
 refine wid ?_;obtain⟨W1,E,F1⟩:=dR ((Fr.nil w).a w (DY c) 59);have G:=aW F1;have HF:=Hd F1;have u:=Hd (on_any c.1 c.2.1 c.2.2.1 c.2.2.2.1 c.2.2.2.2.1 c.2.2.2.2.2.1 c.2.2.2.2.2.2 m W1 hr);obtain⟨z,t⟩:=aC (Nv (rX c) m);rw[show(⟨c.1,c.2.1,c.2.2.1,c.2.2.2.1,c.2.2.2.2.1,c.2.2.2.2.2.1,c.2.2.2.2.2.2⟩:DF)=rX c from rfl,t]at u;obtain⟨Z,o⟩:=aC (oD c m);have HZ:=Hd (show Z=(decide (m= -1)||z) by rw[<-o,oD,t]);rw[o];clear F1 t o;by_cases f:m= -1
 ·subst f;refine ent func111 ntmps111 ?_;gi_wp2_with (first|(refine⟨bO,?_⟩))
  go_ret;exact⟨by rw[HZ.out];rfl,HF.out.bl⟩
 have F:(m== -1)=false:=cU.2 f;have D:=Hd f;clear f;refine ent func111 ntmps111 ?_
 gi_wp2_with (first
  |(refine Cl 155 u.out ?_;rintro e H ⟨rfl,v⟩;have C:=Hd (HF.out.go v);clear v)
  |fail)
 go_ret;exact⟨by rw[HZ.out,cE D.out];rfl,C.out.bl⟩
theorem Lp{n cp:Nat}(c:bT)(p:Int)(hr:fJ (rX c)=true)(hs:Sl Int w M A n cp l):
 CB 62 #[Qz c,.slice A n cp,p] (.bool (jc c p l)) w:=by
 refine wid ?_;have ab:=hs.small;obtain⟨W1,Y,F1⟩:=dR ((Fr.nil w).a w (DY c) 59);have o1:=aW F1;have HF:=Hd F1;have H:=fB hs hs.len hr;obtain⟨Z,D⟩:=aC (jc c p l);have HZ:=Hd (show Z=(decide ((n:Int)=p)&&l.all (oD c)) by rw[<-D,jc,hs.len]);rw[D];clear F1 hs hr D;by_cases t:((n:Nat):Int)=p;rotate_left;·have aa:(((n:Nat):Int)!=p)=true:=fu.2 t;have T:=Hd t;clear t;refine ent func62 ntmps62 ?_;gi_wp2;go_ret;exact⟨by rw[HZ.out,cE T.out];rfl,HF.out.bl⟩
 subst t;refine ent func62 ntmps62 ?_;gi_wp2;gi_loopw[7] (fun i wr=>∃k:Nat,k<=n/\i=k/\Hid ((l.drop k).all (oD c)=l.all (oD c))/\Hid (Fr w wr [(w,DY c)])) (fun i _=>n-(intOf i).toNat);case atStart=>exact⟨0,cf _,rfl,Hd rfl,HF⟩
 case round=>
  obtain⟨k,W,rfl,C,f⟩:=hrel;have o2:=aW f.out;by_cases N:k<n
  ·obtain⟨b,o,y,rfl,I,-,-,Q⟩:=(H.a.go f.out.bl).pR N;have O:=iC (P:=oD c) Q;obtain⟨z,F⟩:=aC (oD c y);have X:=VX c y wr.drew H.v;rw[F]at X;have R:=Hd X;have HY:=Hd2 O F;have v0:=ah I;have u0:=ah (f.out.aQ 0 0);have u1:=ah (f.out.aQ 0 1);have u2:=ah (f.out.aQ 0 2);have u3:=ah (f.out.aQ 0 3);have u4:=ah (f.out.aQ 0 4);have u5:=ah (f.out.aQ 0 5);have u6:=ah (f.out.aQ 0 6);clear I Q O F X;cases z
   all_goals
    gi_wp2;refine ak [] [0,1,2,3,4,5,6] pk pk ?_;refine eH ?_;refine aH fun K J=>aA rfl rfl wy fun V L=>?_;gi_wp2;refine Cl 111 R.out ?_;rintro e w2 ⟨rfl,E⟩;have G:=Hd (f.out.drew.go E);refine L _ _ ⟨?_,J _ _ ?_⟩;clear L V J K;·exact bq E _
    clear E;refine lit ?_;refine eH ?_;refine aK ?_;refine lit ?_;gi_wp2
   ·go_ret;exact⟨by rw[HZ.out,<-C.out,HY.a,HY.u];simp,G.out.bl⟩
   exact⟨⟨k+1,pj,by go_num,Hd (by rw[<-C.out,HY.a,HY.u,fm]),G⟩,by simp[intOf];omega⟩
  ·obtain rfl:k=n:=pj;have S:=Hd (show Z=true by rw[HZ.out,<-C.out,jr (by rw[H.b];exact bj _)];simp);clear W N;gi_wp2;go_ret;exact⟨by rw[S.out];rfl,f.out.bl⟩
theorem yA{n:Nat}{xs:List bW}(hx:Sl bW w M A n c xs)(hs:Sl Int w M B m d l):
 CB 61 #[.slice A n c,.slice B m d] (.bool (dV xs l)) w:=by
 refine wid ?_;have aa:=hs.small;have ab:=hx.small;have H:=h_ hx hx.len hs hs.len;obtain⟨Z,C⟩:=aC (dV xs l);have HZ:=Hd (show Z=(decide (m=n)&&(xs.zip l).all fun p=>countB p.1 p.2) by rw[<-C,dV,hs.len,hx.len]);rw[C];clear hs hx C;by_cases I:m=n;rotate_left;·have Y:(((m:Nat):Int)!=((n:Nat):Int))=true:=fu.2 pj;have Q:=Hd I;refine ent func61 ntmps61 ?_;gi_wp2;go_ret;exact⟨by rw[HZ.out,cE Q.out];rfl,bL _ _⟩
 subst I;refine ent func61 ntmps61 ?_;gi_wp2;gi_loopw[5] (fun i wr=>∃k:Nat,k<=m/\i=k/\Hid (((xs.zip l).drop k).all (fun p=>countB p.1 p.2)=(xs.zip l).all fun p=>countB p.1 p.2)/\Hid (Below w w wr)) (fun i _=>m-(intOf i).toNat);case atStart=>exact⟨0,cf _,rfl,Hd rfl,Hd pE⟩
 case round=>
  obtain⟨k,T,rfl,v,f⟩:=hrel;by_cases D:k<m
  ·obtain⟨x,hx⟩:=dW xs k (by rw[H.b];exact D);obtain⟨b,o,y,rfl,E,-,-,N⟩:=(H.c.go f.out).pR D;obtain⟨b2,V,W,rfl,G,J⟩:=(H.a.go f.out).get hx;obtain⟨rfl,-⟩:=aaI G;have K:=iC (P:=fun p:bW×Int=>countB p.1 p.2) (oG hx N);obtain⟨t,X⟩:=aC x.2.2;have v0:=ah E;have v1:=ah (show wr.cell? ⟨b2,V+k*3+2,none⟩=some (.int .i64 t) by rw[<-X];exact J.2 2 _ rfl);have HY:=Hd2 K (show countB x y=(decide (0<=y)&&decide (y<=t)) by rw[countB,X]);have z:=Hd f.out.drew;clear E N hx K G J X;by_cases F:y<0;·have R:decide (y<0)=true:=cx F;exact Bv
   have R:decide (y<0)=false:=cE F;by_cases L:t<y;·have S:decide (t<y)=true:=cx L;exact Bv
   have S:decide (t<y)=false:=cE L;gi_wp2;refine ak [] [0,1,2,3,4,5,6,7,8,9,10,11,12,13,14,15,16] pk pk ?_;repeat(first|refine jR ?_|refine dY ?_|refine jS ?_|refine dY ?_ rfl rfl (dU rfl (by(simp[yielded];rfl))))
   refine aK ?_;refine lit ?_;gi_wp2;exact⟨⟨k+1,pj,by go_num,Hd (by rw[<-v.out,HY.a,HY.u,cx (show 0<=y by omega),cx (show y<=t by omega)];rfl),z⟩,by simp[intOf];omega⟩
  ·obtain rfl:k=m:=pj;have O:=Hd (show Z=true by rw[HZ.out,<-v.out,jr (by rw[kI,H.b,H.w];omega)];simp);clear T D;gi_wp2;go_ret;exact⟨by rw[O.out];rfl,f.out⟩
structure jE(w:World)(M:List Nat)(c:dS)(s1 s2 s3 s4:dK):Prop where
 marks:Sl (List Int) w [] s1.A s1.n s1.c c.marks
 bonus:Sl Int w M s2.A s2.n s2.c c.bonus
 malus:Sl Int w M s3.A s3.n s3.c c.malus
 prev:Sl fC w M s4.A s4.n s4.c c.prev
theorem jE.go{w w':World}{M:List Nat}{c:dS}{s1 s2 s3 s4:dK}(h:jE w M c s1 s2 s3 s4)(hb:Below w w w'):jE w' M c s1 s2 s3 s4:=⟨h.marks.go hb,h.bonus.go hb,h.malus.go hb,h.prev.go hb⟩
abbrev dI(s1 s2 s3 s4:dK):List Value:= [.slice s1.A s1.n s1.c,.slice s2.A s2.n s2.c,.slice s3.A s3.n s3.c,.slice s4.A s4.n s4.c]
theorem Sl.tX{bs:List (List Int)}{x:List Int}(h:Sl (List Int) w M B m d bs)(hk:bs[k]?=some x):
 ∃b o A n c,B=some ⟨b,o,none⟩/\w.cell? ⟨b,o+k,none⟩=some (.slice A n c)/\Sl Int w M A n c x:=by
 obtain⟨b,o,t,rfl,⟨A,n,c,rfl,f⟩,h2⟩:=h.get hk;exact⟨b,o,A,n,c,rfl,by have:=h2.c0 rfl;rwa [show Rep.sz (List Int)=1 from rfl,gP]at this,f⟩
theorem MJ{c:dS}{x:aJ}(hr:dG w M r s1 s2 s3 s4 s5 s6 s7)(hc:jE w M c t1 t2 t3 t4)(hx:r.rounds[i]?=some x)(hq:∀y,y∈r.aT->fJ (rX y)=true)(hM:b_ M w):
 CB 26 #[.agg (aV r s1 s2 s3 s4 s5 s6 s7).toArray,i,.agg (dI t1 t2 t3 t4).toArray] (.bool (kS r i x.2.1 c)) w:=by
 refine wid ?_;obtain⟨A1,q1,c1⟩:=s1;obtain⟨A5,q5,c5⟩:=s5;obtain⟨B1,v,d1⟩:=t1;obtain⟨B4,E,d4⟩:=t4;have h1:Sl bT w M A1 q1 c1 r.aT:=hr.aT;have h5:Sl aJ w M A5 q5 c5 r.rounds:=hr.rounds;have Y:Sl (List Int) w [] B1 v d1 c.marks:=hc.marks;have m4:Sl fC w M B4 E d4 c.prev:=hc.prev;have YZ:=Y.small;have am:=m4.small;have hi:i<q5:=by rw[<-h5.len];exact(bu.1 hx).1
 have JC:=h5.small;obtain⟨zb,aa⟩:=aC (dV r.bonus c.bonus);obtain⟨zm,ab⟩:=aC (dV r.malus c.malus);have X:(∀V,Below w w V->Calls prog 61 #[.slice s2.A s2.n s2.c,.slice t2.A t2.n t2.c] V fun e w'=>e=.returned (.bool (dV r.bonus c.bonus))/\Below V V w')/\(∀V,Below w w V->Calls prog 61 #[.slice s3.A s3.n s3.c,.slice t3.A t3.n t3.c] V fun e w'=>e=.returned (.bool (dV r.malus c.malus))/\Below V V w'):=⟨fun V hb=>yA (hr.bonus.go hb) (hc.bonus.go hb),fun V hb=>yA (hr.malus.go hb) (hc.malus.go hb)⟩;rw[aa,ab]at X;have C:=Hd X;obtain⟨W1,ap,F1⟩:=dR (((Fr.nil w).a w (aV r ⟨A1,q1,c1⟩ s2 s3 s4 ⟨A5,q5,c5⟩ s6 s7) 28).a (w+1) (dI ⟨B1,v,d1⟩ t2 t3 ⟨B4,E,d4⟩) 42);have t:=aW F1;have F:=Hd F1;have H:=oK h1 h5 Y m4 hM;have HL:=h_ h1.len Y.len m4.len hq;obtain⟨Z,hZ⟩:=aC (kS r i x.2.1 c);have HZ:=Hd (show Z=(decide (v=q1)&&zb&&zm&&decide (E=i)&&((r.aT.zip c.marks).all fun q=>jc q.1 x.2.1 q.2)&&c.prev.all dF) by rw[<-hZ,kS,aa,ab,h1.len,Y.len,m4.len]);rw[hZ];have HX:=Hd hx;clear F1 h1 h5 Y m4 hM hr hc hq hZ aa ab X hx;by_cases g1:v=q1;rotate_left;·have an:(((v:Nat):Int)!=((q1:Nat):Int))=true:=fu.2 pj;exact wP
 subst g1;cases zb;·exact wP
 cases zm;·exact wP
 by_cases g4:E=i;rotate_left;·have ao:(((E:Nat):Int)!=((i:Nat):Int))=true:=fu.2 pj;exact wP
 subst g4;refine ent func26 ntmps26 ?_
 gi_wp2_with (first
  |(have g:=N.out;clear g;have X:=C.out.2 _ F.out.bl;refine Cl 61 X ?_;clear X;rintro e G ⟨rfl,f⟩;replace F:=Hd (F.out.go f);have t:=aW F.out;clear f)
  |(have X:=C.out.1 _ F.out.bl;refine Cl 61 X ?_;clear X;rintro e G ⟨rfl,f⟩;replace F:=Hd (F.out.go f);have t:=aW F.out;have N:=Hd trivial;clear f)
  |(refine⟨bO,?_⟩))
 have ad:=Hd (show Z=(((r.aT.zip c.marks).all fun q=>jc q.1 x.2.1 q.2)&&c.prev.all dF) by rw[HZ.out];simp);clear HZ C N;obtain⟨R,hR⟩:∃R:List (Nat×List Value), [(w.heap.size,aV r ⟨A1,v,c1⟩ s2 s3 s4 ⟨A5,q5,c5⟩ s6 s7),(w.heap.size+1,dI ⟨B1,v,d1⟩ t2 t3 ⟨B4,E,d4⟩)]=R:=⟨_,rfl⟩;have T:=Hd (show ∀V,Fr w V R↔Fr w V [(w,aV r ⟨A1,v,c1⟩ s2 s3 s4 ⟨A5,q5,c5⟩ s6 s7),(w+1,dI ⟨B1,v,d1⟩ t2 t3 ⟨B4,E,d4⟩)]from fun V=>by rw[hR]);replace F:=Hd ((T.out _).2 F.out);clear hR t;gi_loopw[7] (fun i wr=>∃k:Nat,k<=v/\i=k/\Hid (((r.aT.zip c.marks).drop k).all (fun q=>jc q.1 x.2.1 q.2)=(r.aT.zip c.marks).all fun q=>jc q.1 x.2.1 q.2)/\Hid (Fr w wr R)) (fun i _=>v-(intOf i).toNat);case atStart=>exact⟨0,cf _,rfl,Hd rfl,F⟩
 case round=>
  obtain⟨k,hk,rfl,I,hF⟩:=hrel;replace F:=Hd ((T.out _).1 hF.out);have t:=aW F.out;by_cases Q:k<v
  ·obtain⟨y,L⟩:=dW r.aT k (by rw[HL.a];exact Q);obtain⟨l,hl⟩:=dW c.marks k (by rw[HL.b];exact Q);obtain⟨b,o,es,rfl,af,J⟩:=(H.a.go F.out.bl).get L;obtain⟨rfl,-⟩:=lT af;obtain⟨b2,o2,Al,nl,cl,rfl,c0,aj⟩:=(H.c.go F.out.bl).tX hl;obtain⟨b3,o3,D,m,e,rfl,⟨-,y1,-⟩,-⟩:=(H.b.go F.out.bl).iw HX.out;have W:=iC (P:=fun q:bT×List Int=>jc q.1 x.2.1 q.2) (oG L hl);obtain⟨z,O⟩:=aC (jc y x.2.1 l);have X:=Lp y x.2.1 (HL.w y (bh L)) (aj.go pE.drew);rw[O]at X;have al:=Hd X;have HY:=Hd2 W O;have v0:=ah c0;have v1:=ah y1;have e0:=ah (show wr.cell? ⟨b,o+k*7,none⟩=some (.string y.1)from J.2 0 _ rfl);have e1:=ah (show wr.cell? ⟨b,o+k*7+1,none⟩=some (.int .i64 y.2.1)from J.2 1 _ rfl);have e2:=ah (show wr.cell? ⟨b,o+k*7+2,none⟩=some (.int .i64 y.2.2.1)from J.2 2 _ rfl);have e3:=ah (show wr.cell? ⟨b,o+k*7+3,none⟩=some (.int .i64 y.2.2.2.1)from J.2 3 _ rfl);have e4:=ah (show wr.cell? ⟨b,o+k*7+4,none⟩=some (.int .i64 y.2.2.2.2.1)from J.2 4 _ rfl);have e5:=ah (show wr.cell? ⟨b,o+k*7+5,none⟩=some (.int .i64 y.2.2.2.2.2.1)from J.2 5 _ rfl);have e6:=ah (show wr.cell? ⟨b,o+k*7+6,none⟩=some (.bool y.2.2.2.2.2.2)from J.2 6 _ rfl);have u1:=ah (F.out.aQ 0 1);have u5:=ah (F.out.aQ 0 5);have u0:=ah (F.out.aQ 1 0);clear c0 y1 L hl W O X af J aj;cases z
   all_goals
    gi_wp2;refine ak [] [0,1,2,3,4,5,6,7,8,9,10,11,12,13,14,15,16,17] pk pk ?_;refine eH ?_;refine aH fun K hK=>aA rfl rfl wy fun K' ae=>?_;gi_wp2;refine Cl 62 al.out ?_;rintro e G ⟨rfl,f⟩;have S:=Hd (F.out.drew.go f);refine ae _ _ ⟨?_,hK _ _ ?_⟩;clear ae K' hK K;·exact bq f _
    clear f;refine lit ?_;refine eH ?_;refine aK ?_;refine lit ?_;gi_wp2
   ·go_ret;exact⟨by rw[ad.out,<-I.out,HY.a,HY.u];simp,S.out.bl⟩
   exact⟨⟨k+1,pj,by go_num,Hd (by rw[<-I.out,HY.a,HY.u,fm]),Hd ((T.out _).2 S.out)⟩,by simp[intOf];omega⟩
  ·obtain rfl:k=v:=pj;have HE:=Hd (show Z=c.prev.all dF by rw[ad.out,<-I.out,jr (by rw[kI,HL.a,HL.b];omega)];simp);clear hk Q I;gi_wp2;clear t;gi_loopw[8] (fun i wr=>∃j:Nat,j<=E/\i=j/\Hid ((c.prev.drop j).all dF=c.prev.all dF)/\Hid (Fr w wr R)) (fun i _=>E-(intOf i).toNat);case atStart=>exact⟨0,cf _,rfl,Hd rfl,hF⟩
   case round=>
    obtain⟨j,hj,rfl,I,hF⟩:=hrel;replace F:=Hd ((T.out _).1 hF.out);have t:=aW F.out;by_cases Q:j<E
    ·obtain⟨y,L⟩:=dW c.prev j (by rw[HL.c];exact Q);obtain⟨b,o,E1,n1,a1,E2,n2,a2,rfl,x0,x1,x2,x3,ag,ai⟩:=(H.d.go F.out.bl).MG L;have W:=iC (P:=dF) L;have ac:=Hd (MI (p:=y.1.1) (q:=y.2.1) (H.x.le F.out.bl.size) ag ai);obtain⟨z,O⟩:=aC (dF ((y.1.1,y.1.2),(y.2.1,y.2.2)));rw[O]at ac;have HY:=Hd2 W (show dF y=z from O);clear L W O ag ai;cases z
     all_goals gi_wp2_with (first
      |(refine Cl 63 ac.out ?_;rintro e G ⟨rfl,f⟩;simp only[qM,mf,oB,gm];have S:=Hd (F.out.go f);clear f)
      |fail)
     ·go_ret;exact⟨by rw[HE.out,<-I.out,HY.a,HY.u];simp,S.out.bl⟩
     exact⟨⟨j+1,pj,by go_num,Hd (by rw[<-I.out,HY.a,HY.u,fm]),Hd ((T.out _).2 S.out)⟩,by simp[intOf];omega⟩
    ·obtain rfl:j=E:=pj;have HQ:=Hd (show Z=true by rw[HE.out,<-I.out,jr (by rw[HL.c];exact bj _)]);clear hj Q I;gi_wp2;go_ret;exact⟨by rw[HQ.out];rfl,F.out.bl⟩
def zF(l:List Int):Bool:=decide (l.length<=4)||(decide (2048<l.length)&&decide (l.length<=2052))
def MK(x:fC):Bool:=zF x.1.2&&zF x.2.2
theorem ML{n:Nat}(hs:Sl Int w M A n c l):
 CB 100 #[.agg #[q,.slice A n c],.int .i64 4] (.bool (zF l)) w:=by
 refine wid ?_;have z:=hs.small;obtain⟨Z,t⟩:=aC (zF l);have HZ:=Hd (show Z=(decide (n<=4)||(decide (2048<n)&&decide (n<=2052))) by rw[<-t,zF,hs.len]);rw[t];clear t hs;by_cases o:n<=4
 ·have f:=Hd (show Z=true by rw[HZ.out,cx o];rfl);refine ent func100 ntmps100 ?_;gi_wp2
  all_goals first
   |exact(gK (by assumption)).elim
   |(go_ret;exact⟨by rw[f.out];first|rfl|simp[*],by exact bel⟩)
 by_cases u:2048<n
 ·by_cases v:n<=2052;·have f:=Hd (show Z=true by rw[HZ.out,cx u,cx v];simp);exact EK
  have f:=Hd (show Z=false by rw[HZ.out,cE o,cE v];simp);exact EK
 ·have f:=Hd (show Z=false by rw[HZ.out,cE o,cE u];simp);exact EK
theorem TK{p:Bool}{n:Nat}{k:List Int}(hx:Sl Int w M A n c l)(hy:Sl Int w M B m d k):
 CB 53 #[.agg #[p,.slice A n c,q,.slice B m d],.int .i64 4] (.bool (zF l&&zF k)) w:=by
 refine wid ?_;obtain⟨W1,D,F1⟩:=dR ((Fr.nil w).a w [p,.slice A n c,q,.slice B m d] 48);have E:=aW F1;have F:=Hd F1;have X:=Hd2 (fun V (hb:Below w w V)=>ML (q:=p) (hx.go hb)) (fun V (hb:Below w w V)=>ML (q:=q) (hy.go hb));obtain⟨C,t⟩:=aC (zF l);obtain⟨H,v⟩:=aC (zF k);rw[t,v]at X |-;clear F1 hx hy t v;cases C
 all_goals
  refine ent func53 ntmps53 ?_
  gi_wp2_with (first
   |(have g:=N.out;clear g;have f:=X.u _ F.out.bl;refine Cl 100 f ?_;clear f;rintro e z ⟨rfl,o⟩;replace F:=Hd (F.out.go o);clear o)
   |(have f:=X.a _ F.out.bl;refine Cl 100 f ?_;clear f;rintro e z ⟨rfl,o⟩;replace F:=Hd (F.out.go o);have G:=aW F.out;have N:=Hd trivial;clear o)
   |(refine⟨bO,?_⟩))
  go_ret;exact⟨rfl,F.out.bl⟩
def f_(r:aS)(i:Int)(c:dS):Prop:=Sound r/\∃(k:Nat) (x:aJ),i=(k:Int)/\r.rounds[k]?=some x/\kS r k x.2.1 c=true
theorem MN{x:aJ}(h:Dj r x){c:bT}(hc:c∈r.aT):c.2.2.2.2.2.1<=127:=by have f:=h.2.2.2.1 c hc;have o:=h.1;rw[eO pj]at f;omega
theorem MO(K:Int):K=0\/(K !=0)=true:=(Decidable.em (K=0)).imp id fu.2
def zG(l:List Int):Nat:=l.count (-1)
def eY:List (List Int)->Nat
 | []=>0
 |l::s=>zG l+eY s
theorem Et(h:eY s=0):∀l,l∈s->∀m,m∈l->m≠ -1:=by
 induction s with
 |nil=>intro l f;cases f
 |cons l s ih=>
  rw[eY]at h;intro t f m o;rcases cD.1 f with rfl|f;·rintro rfl;have:=List.count_pos_iff.2 o;have u:zG t=0:=pj;unfold zG at u;omega
  ·exact ih pj t f m o
theorem Py(h:¬eY s=0):∃l,l∈s/\ -1∈l:=by
 induction s with
 |nil=>exact absurd rfl h
 |cons l s ih=>
  rw[eY]at h;by_cases f:zG l=0;·obtain⟨t,o,F⟩:=ih pj;exact⟨t,bE _ o,F⟩
  ·exact⟨l,cw,List.count_pos_iff.1 (Nat.pos_of_ne_zero f)⟩
structure yI(r:aS)(c:dS):Prop where
 fw:Sm r/\r.rounds.length<=12
 parts:∀x,x∈r.rounds->nodes (au x)<=60
 lens:c.marks.length<=70/\c.bonus.length<=70/\c.malus.length<=70/\c.prev.length<=10
 mark:∀l,l∈c.marks->l.length<=20
 prev:∀q,q∈c.prev->MK q=true
def TP(w:World)(R:List (Nat×List Value))(Q:Nat->Prop)(n:Nat)(i:Value)(wr:World):Prop:=∃k:Nat,k<=n/\i=k/\Hid (Q k)/\Hid (Fr w wr R)
attribute [irreducible] TP
theorem zH{c:dS}(hr:dG w M r s1 s2 s3 s4 s5 s6 s7)(hc:jE w M c t1 t2 t3 t4):
 Calls prog 23 #[.agg (aV r s1 s2 s3 s4 s5 s6 s7).toArray,.agg (dI t1 t2 t3 t4).toArray] w (Says (yI r c) w):=by
 refine wid ?_;obtain⟨P,hP⟩:=aC (yI r c);rw[hP];obtain⟨A5,K,c5⟩:=s5;obtain⟨Y,D,c1⟩:=t1;obtain⟨Z,E,c4⟩:=t4;have h5:Sl aJ w M A5 K c5 r.rounds:=hr.rounds;have h1:Sl (List Int) w [] Y D c1 c.marks:=hc.marks;have h4:Sl fC w M Z E c4 c.prev:=hc.prev;have JC:=h5.small;obtain⟨W1,aj,F1⟩:=dR (((Fr.nil w).a w (aV r s1 s2 s3 s4 ⟨A5,K,c5⟩ s6 s7) 28).a (w+1) (dI ⟨Y,D,c1⟩ t2 t3 ⟨Z,E,c4⟩) 42);have T:=aW F1;have HX:=Hd (fun V (hb:Below w w V)=>Sv (hr.go hb));have F:=Hd F1;have H:=fB h5 h1 h4;have HL:=oK h5.len h1.len h4.len hc.bonus.len hc.malus.len;clear F1 hr hc h5 h1 h4;obtain⟨R,hR⟩:∃R:List (Nat×List Value), [(w.heap.size,aV r s1 s2 s3 s4 ⟨A5,K,c5⟩ s6 s7),(w.heap.size+1,dI ⟨Y,D,c1⟩ t2 t3 ⟨Z,E,c4⟩)]=R:=⟨_,rfl⟩;have L:=Hd (show ∀V,Fr w V R↔Fr w V [(w,aV r s1 s2 s3 s4 ⟨A5,K,c5⟩ s6 s7),(w+1,dI ⟨Y,D,c1⟩ t2 t3 ⟨Z,E,c4⟩)]from fun V=>by rw[hR]);have F0:=Hd ((L.out _).2 F.out);have HP:=Hd hP;obtain⟨Q5,ZT⟩:∃Q:Nat->Prop,∀k,Q k↔∀x,x∈r.rounds.take k->nodes (au x)<=60:=⟨_,fun _=>pg⟩;obtain⟨Q1,ac⟩:∃Q:Nat->Prop,∀k,Q k↔∀x,x∈c.marks.take k->x.length<=20:=⟨_,fun _=>pg⟩;obtain⟨Q4,Vt⟩:∃Q:Nat->Prop,∀k,Q k↔∀x,x∈c.prev.take k->MK x=true:=⟨_,fun _=>pg⟩;have Qq:=Hd ZT;have sD:=Hd ac;have Fg:=Hd Vt;clear hR hP ZT ac Vt;refine ent func23 ntmps23 ?_;gi_wp2;clear T;gi_loopw[5] (fun i wr=>TP w R Q5 K i wr) (fun i _=>K-(intOf i).toNat);case atStart=>unfold TP;exact⟨0,cf _,rfl,Hd ((Qq.out 0).2 po),F0⟩
 case round=>
  unfold TP at hrel;obtain⟨k,hk,rfl,C,G⟩:=hrel;have F:=Hd ((L.out _).1 G.out);have T:=aW F.out;have S:=Hd (HX.out _ F.out.bl);by_cases J:k<K
  ·by_cases ak:k<20
   ·obtain⟨y,N⟩:=dW r.rounds k (by rw[HL.a];exact J);obtain⟨b1,u1,D1,m1,e1,rfl,-,⟨x6,x7,x8,x9,al⟩,-,-,-,hs1⟩:=(H.a.go F.out.bl).iw N;have ab:=Hd (yR (au y) hs1 (show 60<=100000 by omega));obtain⟨z,O⟩:=aC (qU (nodes (au y)) 60);rw[O]at ab;have HZ:=Hd2 O N;clear O N hs1;by_cases hg:((z:Nat):Int)>60
    all_goals gi_wp2_with (first
     |(refine Cl 51 ab.out ?_;rintro e X ⟨rfl,f⟩;have t:=Hd (F.out.go f);clear f)
     |fail)
    ·go_ret;exact Says.no rfl t.out.bl
    exact⟨by unfold TP;exact⟨k+1,pj,by go_num,Hd ((Qq.out _).2 (bY HZ.u ((Qq.out k).1 C.out) (by have h:=HZ.a;unfold qU at h;omega))),Hd ((L.out _).2 t.out)⟩,by simp[intOf];omega⟩
   have ag:=Hd (show ¬r.rounds.length<=12 by rw[HL.a];omega)
   gi_wp2_with (first
    |(refine Cl 52 S.out ?_;rintro e X I;obtain⟨b,rfl,hb,f⟩:=I.of;have t:=Hd (F.out.go f);have W:=aW t.out;have HB:=Hd hb;clear hb f I;cases b;rotate_left;·exact absurd (HB.out pC).2 ag.out)
    |(refine⟨bO,?_⟩))
   go_ret;exact Says.no (by first|rfl|simp[*]) t.out.bl
  ·obtain rfl:k=K:=pj;have ai:=Hd (show ∀x,x∈r.rounds->nodes (au x)<=60 by have h:=(Qq.out k).1 C.out;rwa [bR (by rw[HL.a];exact bj _)]at h);clear hk J C;by_cases g1:((D:Nat):Int)>70;·exact zI
   by_cases g2:((t2.n:Nat):Int)>70;·exact zI
   by_cases g3:((t3.n:Nat):Int)>70;·exact zI
   by_cases g4:((E:Nat):Int)>10;·exact zI
   gi_wp2_with (first
    |(refine Cl 52 S.out ?_;rintro e X I;obtain⟨b,rfl,hb,f⟩:=I.of;have t:=Hd (F.out.go f);have W:=aW t.out;have HB:=Hd hb;clear hb f I;cases b)
    |(refine⟨bO,?_⟩))
   all_goals try exact(gK (by assumption)).elim
   ·go_ret;exact Says.no (by first|rfl|simp[*]) t.out.bl
   have ah:=Hd ((L.out _).2 t.out);clear T W F G;gi_loopw[6] (fun i wr=>TP w R Q1 D i wr) (fun i _=>D-(intOf i).toNat);case atStart=>unfold TP;exact⟨0,cf _,rfl,Hd ((sD.out 0).2 po),ah⟩
   case round=>
    unfold TP at hrel;obtain⟨j,hj,rfl,C,G⟩:=hrel;have F:=Hd ((L.out _).1 G.out);have T:=aW F.out;by_cases J:j<D
    ·obtain⟨l,hl⟩:=dW c.marks j (by rw[HL.b];exact J);obtain⟨b,o,B,m,d,rfl,c0,af⟩:=(H.b.go F.out.bl).tX hl;have HT:=Hd2 hl af.len;clear hl af;by_cases hm:((m:Nat):Int)>20;·gi_wp2;go_ret;exact Says.no rfl F.out.bl
     gi_wp2;exact⟨by unfold TP;exact⟨j+1,pj,by go_num,Hd ((sD.out _).2 (bY HT.a ((sD.out j).1 C.out) (by rw[HT.u];omega))),G⟩,by simp[intOf];omega⟩
    ·obtain rfl:j=D:=pj;have Dx:=Hd (show ∀x,x∈c.marks->x.length<=20 by have h:=(sD.out j).1 C.out;rwa [bR (by rw[HL.b];exact bj _)]at h);clear hj J C;gi_wp2;clear T F;gi_loopw[7] (fun i wr=>TP w R Q4 E i wr) (fun i _=>E-(intOf i).toNat);case atStart=>unfold TP;exact⟨0,cf _,rfl,Hd ((Fg.out 0).2 po),G⟩
     case round=>
      unfold TP at hrel;obtain⟨g,hg,rfl,C,G⟩:=hrel;have F:=Hd ((L.out _).1 G.out);have T:=aW F.out;by_cases J:g<E
      ·obtain⟨y,N⟩:=dW c.prev g (by rw[HL.c];exact J);obtain⟨b,o,E1,n1,a1,E2,n2,a2,rfl,x0,x1,x2,x3,ad,ae⟩:=(H.v.go F.out.bl).MG N;have aa:=Hd (TK (p:=y.1.1) (q:=y.2.1) ad ae);obtain⟨z,O⟩:=aC (zF y.1.2&&zF y.2.2);rw[O]at aa;have HY:=Hd2 N (show MK y=z from O);clear N O ad ae;cases z
       all_goals gi_wp2_with (first
        |(refine Cl 53 aa.out ?_;rintro e w3 ⟨rfl,f⟩;have F3:=Hd (F.out.go f);clear f)
        |fail)
       ·go_ret;exact Says.no rfl F3.out.bl
       exact⟨by unfold TP;exact⟨g+1,pj,by go_num,Hd ((Fg.out _).2 (bY HY.a ((Fg.out g).1 C.out) HY.u)),Hd ((L.out _).2 F3.out)⟩,by simp[intOf];omega⟩
      ·obtain rfl:g=E:=pj;have HE:=Hd (show P by
        have h:=(Fg.out g).1 C.out;rw[bR (by rw[HL.c];exact bj _)]at h;have l1:=HL.out;rw[<-HP.out];exact⟨HB.out pC,ai.out,⟨pj,pj,pj,pj⟩,Dx.out,h⟩)
       clear hg J C;gi_wp2;go_ret;exact Says.yes rfl HE.out F.out.bl
theorem Y7:(prog.info? 3).map (fun i=>(i.zero,i.size,i.bytes))=some (some (.int .i64 0),1,8):=pk
abbrev Pz(g:Nat)(lb:Array Value)(n0:Nat)(ys:List Int)(w:World):Prop:=SeqStopsK Wd 9 prog g lb (fun m:Int=>#[m]) (Below n0) (· =ys) (fun _=>True) ys.length w
theorem Xi(eg:∀args w,(callFunc g args).run prog w=.ok (.enter g args) w)(hseq:Pz g lb n0 ys w)(hn:n0<=w.heap.size)(hl:ys.length<=1000):
 Calls prog 254 #[.slice none 0 0,.func (.func g) #[] lb] w fun e w'=>∃v,e=.returned v/\w'.ownsRow w 3 1 v ys.length (ys.map (Value.int .i64))/\Below w w w':=by
 refine wid ?_;obtain⟨T,L,Q,R,S⟩:=lB Y7;refine sH func254 rfl ntmps254 ?_;gi_wp2;have z:Below w w (w.alloc (.cells #[.slice none 0 0] 26)):=(bL _ w).alloc pD _
 refine wpIn_rangeFunc_ownF rfl pj (gf:=g) (lb:=lb) rfl trivial eg hseq belowK_t (belowK_b px) z (fun _=>rfl)
  (fun(f:List Int) W=>(∃v,Boxed W w.heap.size 26 v/\W.ownsRow w 3 1 v f.length (f.map (Value.int .i64))/\True)/\Below w w W)
  (fun _ _ _=>False)
  (OwnFrom.and (Own.from (holdsRow_own w.heap.size w.heap.size 26 3 1 (fun f:List Int=>f.length) (fun f=>f.map (Value.int .i64)) (fun _ _=>True)) _) (ownFrom_below pD po))
  (fun _ _ _ _ _ hs _ _=>hs)
  ⟨⟨_,Boxed.new w _ _,World.ownsRow_nil _ _ _ _,bO⟩,z⟩
  (fun x=>{ tmps:=#[.slice none 0 0,.func (.func g) #[] lb,.pointer (some ⟨w,0,none⟩),undef,.slice none 0 0,x,.func (.func g) #[] lb,x,undef,undef,undef,undef,undef],defers:= [] }) ?assign ?body ?done ?stop
 case assign=>intro l x W K o;gi_wp2;exact o
 case body=>
  rintro l f x W ⟨⟨v,u,t,-⟩,hB⟩ hlen;have H:=u.cell;gi_wp2_with (gi_at_builtin;refine wpListIn_append_own _ rfl _ _ 26 rfl w.heap.size 3 T (.int .i64 0) 1 8 underlying26 L Q R S rfl pt _ _ _ rfl (t.alloc _) ⟨W,0,none⟩ 1 1 [x] rfl rfl (cell_one_new _ _ _) (by simp[Value.oneCell']) (by unfold maxLen;omega) pj (by have:=hB.size;simp;omega) ?_;intro v' w1 E J _;obtain⟨X,V,rfl⟩:=ownsRow_succ E;obtain⟨F,P,O,N,C⟩:=u.appended pt t hB.size pD E J;have Y:=F.cell;have Z:=F.frozen)
  exact⟨N,C.mono hn,⟨⟨_,P,by simpa using O,bO⟩,hB.trans C⟩⟩
 case done=>rintro D xs W G rfl ⟨⟨v,u,t,-⟩,hB⟩ o;have H:=u.cell;gi_wp2;refine⟨po,.inl ⟨_,_,rfl,jt o,?_⟩⟩;exact⟨_,results_tmp rfl _ _ _,v,rfl,ownsRow_putObj t _ o rfl,hB.trans (belowK_b (w:=w) pD W D _ _ (by simp at G;omega) o rfl rfl)⟩
 case stop=>rintro D c f W _ _ I _;exact I.elim
theorem MR(eg:∀args w,(callFunc g args).run prog w=.ok (.enter g args) w)(hseq:Pz g lb n0 ys w)(hn:n0<=w.heap.size)(hl:ys.length<=1000):
 Calls prog 221 #[.func (.func g) #[] lb] w fun e w'=>∃v,e=.returned v/\w'.ownsRow w 3 1 v ys.length (ys.map (Value.int .i64))/\Below w w w':=by
 refine wid ?_;refine ent func221 ntmps221 ?_
 gi_wp2_with (first
  |(refine Cl 254 (Xi eg hseq hn hl) ?_;rintro e o ⟨v,rfl,f,hb⟩)
  |fail)
 go_ret;exact⟨v,rfl,f,hb⟩
end
