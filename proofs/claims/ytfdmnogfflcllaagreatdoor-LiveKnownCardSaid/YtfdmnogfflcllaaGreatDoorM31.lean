/- Lemmas. -/
import Derived.Test.YtfdmnogfflcllaaGreatDoorM30
import Derived.Test.YtfdmnogfflcllaaGreatDoorM29
import Derived.Test.YtfdmnogfflcllaaGreatDoorM14
set_option linter.unusedVariables false
set_option linter.unusedSimpArgs false
set_option maxRecDepth 100000
set_option maxHeartbeats 20000000
namespace Go.Proofs.YtfdmnogfflcllaaGreatDoor
open Go.Proofs.Tryz
theorem wL{p:Prop}(h:p:=by
 refine ent func26 rfl ntmps26 ?_
 gi_wp2_with (first
  |(have g:=L.out;clear g;have X:=t.u _ F.out.bl;refine Cl 61 X ?_;clear X;rintro e C ⟨rfl,f⟩;replace F:=Hd (F.out.go f);have h:=aW F.out;clear f)
  |(have X:=t.a _ F.out.bl;refine Cl 61 X ?_;clear X;rintro e C ⟨rfl,f⟩;replace F:=Hd (F.out.go f);have h:=aW F.out;have L:=Hd trivial;clear f)
  |(refine⟨bq,?_⟩))
 go_ret;exact⟨by rw[HZ.out];simp[*],F.out.bl⟩):p:=h
theorem zI{p:Prop}(h:p:=by
 refine ent func99 rfl ntmps99 ?_;gi_wp2_with (first|(refine⟨bq,?_⟩))
 go_ret;exact Says.no (by first|rfl|simp[*]) HF.out.bl):p:=h
theorem Bq{p:Prop}(h:p:=by
 gi_wp2;refine ak [] [0,1,2,3,4,5,6,7,8,9,10,11,12,13,14,15,16] oF oF ?_;repeat(first|refine jR ?_|refine dY ?_|refine jS ?_|refine dY ?_ rfl rfl (dU rfl (by(simp[yielded];rfl))))
 refine aK ?_;refine lit ?_;gi_wp2;go_ret;exact⟨by rw[HZ.out,<-g.out,HY.a,HY.u];simp;omega,h.out⟩):p:=h
theorem Ip{p:Prop}(h:p:=by
 go_ret;exact aE.bad rfl oR (by
 rw[<-H.c];intro h;have q:=HX.out.2 (h.1.2.2.2 k y HY.a).1;cases q) F.out.bl):p:=h
theorem Iu{p:Prop}(h:p:=by gi_wp2;exact⟨⟨k+1,oE,by go_num,bq,Hd ((q.out _).2 (bY z.a ((q.out k).1 C.out) (by rw[z.u];omega)))⟩,by simp[intOf];omega⟩):p:=h
variable {M:List Nat}{r:aS}{s1 s2 s3 s4 s5 s6 s7:dK}{w w':World}{p:Prop}{e:Ending}{k i j m:Nat}{n d:Int}{b x a:Rt}{y:aU}{A B:Option Addr}{l:List Int}
section
open Go.RowKit Go.Shelf
attribute [local go_sem] cK
theorem Ov{M':List Nat}{x4 x5:dK}(hr:dG w M r s1 s2 s3 s4 s5 s6 s7)(h4:Sl dA w M' x4.A x4.n x4.c (Fe r).ties)(h5:Sl aJ w M' x5.A x5.n x5.c (Fe r).rounds):
 CB 102 #[.agg (aV (Fe r) s1 s2 s3 x4 x5 s6 s7).toArray,.agg (aV r s1 s2 s3 s4 s5 s6 s7).toArray] (.bool (xX r)) w:=by
 refine wid ?_;obtain⟨D,s,I⟩:=s1;obtain⟨F,Q,J⟩:=s2;obtain⟨G,R,L⟩:=s3;obtain⟨Y,C,c4⟩:=s4;obtain⟨A5,h,c5⟩:=s5;obtain⟨H,S,N⟩:=s6;obtain⟨A7,T,c7⟩:=s7;obtain⟨B4,p4,d4⟩:=x4;obtain⟨B5,p5,d5⟩:=x5;have g1:Sl bT w M D s I r.aT:=hr.aT;have g2:Sl bW w M F Q J r.bonus:=hr.bonus;have g3:Sl bW w M G R L r.malus:=hr.malus;have g4:Sl dA w M Y C c4 r.ties:=hr.ties;have g5:Sl aJ w M A5 h c5 r.rounds:=hr.rounds;have g6:Sl Int w M H S N r.prizes:=hr.prizes;have g7:Sl Int w M A7 T c7 r.points:=hr.points;have h4:Sl dA w M' B4 p4 d4 (r.ties.map (yV r)):=h4;have h5:Sl aJ w M' B5 p5 d5 (r.rounds.map (vO r)):=h5;obtain rfl:C=p4:=by have a:=h4.len;have b:=g4.len;rw[cC]at a;omega
 obtain rfl:h=p5:=by have a:=h5.len;have b:=g5.len;rw[cC]at a;omega
 have an:=g1.small;have hs5:=g5.small;have HL:=Hd2 g1.len g5.len;have ad:=Hd2 g5 h5;have HI:=Hd2 g6 g7;have Z4:=Hd g1;have cs:=RH;show CallsIn _ _ _ _ #[.agg #[.string r.name,.slice D s I,.slice F Q J,.slice G R L,.slice B4 C d4,.slice B5 h d5,.slice H S N,.slice A7 T c7,.int .i64 r.best],.agg #[.string r.name,.slice D s I,.slice F Q J,.slice G R L,.slice Y C c4,.slice A5 h c5,.slice H S N,.slice A7 T c7,.int .i64 r.best]] _ _;obtain⟨W1,am,F1⟩:=dR (((Fr.nil w).a w [.string r.name,.slice D s I,.slice F Q J,.slice G R L,.slice B4 C d4,.slice B5 h d5,.slice H S N,.slice A7 T c7,.int .i64 r.best] 28).a (w+1) [.string r.name,.slice D s I,.slice F Q J,.slice G R L,.slice Y C c4,.slice A5 h c5,.slice H S N,.slice A7 T c7,.int .i64 r.best] 28);obtain⟨z,hz⟩:=aC (r.ties.all fun t=>t.2.all (xU r));have o1:=aW F1;have HX:=Hd (show xX r=(z&&r.rounds.all (KE r)) by rw[xX,hz]);have HC:=fB (zT (g2.go F1.bl)) g3 (Hl h4 g4);have H3:=fB g3 h4 g4;have HF:=Hd F1;obtain⟨Z,hZ⟩:=aC (xX r);rw[hZ]at HX |-;have al:=Hd hz;clear g1 g2 g3 g4 g5 g6 g7 h4 h5 hr F1 hz hZ;cases z
 all_goals
  refine ent func102 rfl ntmps102 ?_
  gi_wp2_with (first
   |(have g:=F3.out;clear g;refine Cl 150 (Hl (H3.b.go F3.out.bl) (H3.v.go F3.out.bl)) ?_;rintro e w4 ⟨rfl,hb4⟩;rw[al.out];have F4:=Hd (F3.out.go hb4);have o4:=aW F4.out;clear hb4)
   |(have g:=V.out;clear g;refine Cl 149 (zT (H3.a.go V.out.bl)) ?_;rintro e w3 ⟨rfl,aa⟩;have F3:=Hd (V.out.go aa);have o3:=aW F3.out;clear aa)
   |(refine Cl 149 HC.a ?_;rintro e w2 ⟨rfl,O⟩;have V:=Hd (HF.out.go O);have o2:=aW V.out;clear O)
   |fail)
 ·go_ret;exact⟨by rw[HX.out];rfl,F4.out.bl⟩
 clear o1 o2 o3 o4 am;gi_loopw[5] (fun i wr=>∃k:Nat,k<=s/\i=.int .i64 k/\Hid (Fr w wr [(w, [.string r.name,.slice D s I,.slice F Q J,.slice G R L,.slice B4 C d4,.slice B5 h d5,.slice H S N,.slice A7 T c7,.int .i64 r.best]),(w+1, [.string r.name,.slice D s I,.slice F Q J,.slice G R L,.slice Y C c4,.slice A5 h c5,.slice H S N,.slice A7 T c7,.int .i64 r.best])])) (fun i _=>s-(intOf i).toNat);case atStart=>exact⟨0,bO _,rfl,F4⟩
 case round=>
  obtain⟨k,hk,rfl,f⟩:=hrel;have o1:=aW f.out;by_cases ab:k<s;·obtain⟨x,hx⟩:=dW r.aT k (by rw[HL.a];exact ab);obtain⟨b,o,es,rfl,af,U⟩:=(Z4.out.go f.out.bl).get hx;obtain⟨rfl,-⟩:=lT af;have v0:=ah (show wr.cell? ⟨b,o+k*7,none⟩=some (.string x.1)from U.2 0 _ rfl);have v1:=ah (show wr.cell? ⟨b,o+k*7+1,none⟩=some (.int .i64 x.2.1)from U.2 1 _ rfl);have v2:=ah (show wr.cell? ⟨b,o+k*7+2,none⟩=some (.int .i64 x.2.2.1)from U.2 2 _ rfl);have v3:=ah (show wr.cell? ⟨b,o+k*7+3,none⟩=some (.int .i64 x.2.2.2.1)from U.2 3 _ rfl);have v4:=ah (show wr.cell? ⟨b,o+k*7+4,none⟩=some (.int .i64 x.2.2.2.2.1)from U.2 4 _ rfl);have v5:=ah (show wr.cell? ⟨b,o+k*7+5,none⟩=some (.int .i64 x.2.2.2.2.2.1)from U.2 5 _ rfl);have v6:=ah (show wr.cell? ⟨b,o+k*7+6,none⟩=some (.bool x.2.2.2.2.2.2)from U.2 6 _ rfl);have v7:=ah (f.out.aQ 0 1);have v8:=ah (f.out.aQ 1 1);have HD:=Hd f.out.drew;clear hx af U;gi_wp2;refine aP [] 11 oF oF ?_;refine ay 0 ?_;refine ay 1 ?_;refine ay 2 ?_;refine ay 3 ?_;refine ay 4 ?_;refine ay 5 ?_;refine ay 6 ?_;refine ay 7 ?_;refine ay 8 ?_;refine ay 9 ?_;refine ay 10 ?_;refine iq 0 ?_;refine dC _ ?_;simp only[cu];gi_wp2;exact⟨⟨k+1,oE,by go_num,HD⟩,by simp[intOf];omega⟩
  ·obtain rfl:k=s:=oE;clear hk ab cs;gi_wp2;clear o1;gi_loopw[6] (fun i wr=>∃j:Nat,j<=h/\i=.int .i64 j/\Hid ((r.rounds.drop j).all (KE r)=r.rounds.all (KE r))/\Hid (Fr w wr [(w, [.string r.name,.slice D k I,.slice F Q J,.slice G R L,.slice B4 C d4,.slice B5 h d5,.slice H S N,.slice A7 T c7,.int .i64 r.best]),(w+1, [.string r.name,.slice D k I,.slice F Q J,.slice G R L,.slice Y C c4,.slice A5 h c5,.slice H S N,.slice A7 T c7,.int .i64 r.best])])) (fun i _=>h-(intOf i).toNat);case atStart=>exact⟨0,bO _,rfl,Hd rfl,f⟩
   case round=>
    obtain⟨j,hj,rfl,hS,f⟩:=hrel;have o1:=aW f.out;by_cases ab:j<h
    ·obtain⟨y,hy⟩:=dW r.rounds j (by rw[HL.u];exact ab);have ac:(r.rounds.map (vO r))[j]?=some (vO r y):=by rw[cP,hy];rfl
     have ai:=iC (P:=KE r) hy;obtain⟨yn,yp,yq,yc,wQ,zo,X,yt,W⟩:=y;obtain⟨VD,hno⟩:=aC (vO r (yn,yp,yq,yc,wQ,zo,X,yt,W)).2.2.2.2.2.2.2.2;obtain⟨E,hE⟩:=aC (fH (dP r) (dQ r) X);have aj:vO r (yn,yp,yq,yc,wQ,zo,X,yt,W)=(yn,yp,yq,yc,wQ,zo,E,yt,VD):=by rw[<-hno,<-hE];rfl
     have ag:KE r (yn,yp,yq,yc,wQ,zo,X,yt,W)=(decide (VD=W)&&fE E X):=by rw[KE,hno,<-hE]
     rw[aj]at ac;obtain⟨b1,u1,D1,m1,e1,rfl,⟨x0,x1,x2,x3,x4,x5⟩,⟨x6,x7,x8,x9,x10⟩,⟨x11,x12⟩,-,-,hs1'⟩:=(ad.u.go f.out.bl).iw ac;obtain⟨b2,u2,D2,m2,e2,rfl,⟨y0,y1,y2,y3,y4,y5⟩,⟨y6,y7,y8,y9,Qu⟩,⟨y11,y12⟩,-,-,hs2'⟩:=(ad.a.go f.out.bl).iw hy;simp only[au]at x0 x1 x2 x3 x4 x5 x6 x7 x8 x9 x10 x11 x12 y0 y1 y2 y3 y4 y5 y6 y7 y8 y9 Qu y11 y12 hs1' hs2';obtain⟨q,hq⟩:=aC (decide (VD=W)&&fE E X);have HC:=Hd (Ot (n:=yn) (t:=yt) (p:=yp) (q:=yq) (c:=yc) (a:=wQ) (b:=zo) (VD:=VD) (no2:=W) (hs1'.go pd.drew) (hs2'.go pd.drew));rw[hq]at HC;have HQ:=Hd2 (ag.trans hq) ai;have v0:=ah x0;have v1:=ah x1;have v2:=ah x2;have v3:=ah x3;have v4:=ah x4;have v5:=ah x5;have v6:=ah x6;have v7:=ah x7;have v8:=ah x8;have v9:=ah x9;have ar:=ah x10;have av:=ah x11;have aw:=ah x12;have t0:=ah y0;have t1:=ah y1;have t2:=ah y2;have t3:=ah y3;have t4:=ah y4;have t5:=ah y5;have t6:=ah y6;have t7:=ah y7;have t8:=ah y8;have t9:=ah y9;have ao:=ah Qu;have ap:=ah y11;have aq:=ah y12;have z1:=ah (f.out.aQ 0 5);have z2:=ah (f.out.aQ 1 5);clear hy ac ai hno hE aj ag hq hs1' hs2' x0 x1 x2 x3 x4 x5 x6 x7 x8 x9 x10 x11 x12 y0 y1 y2 y3 y4 y5 y6 y7 y8 y9 Qu y11 y12;cases q
     all_goals
      gi_wp2;refine ak [] [0,1,2,3,4,5,6,7,8,9,10,11] oF oF ?_;refine eH ?_;refine aH fun K hK=>aA rfl rfl wy fun K' ae=>?_;gi_wp2;refine Cl 151 HC.out ?_;rintro e w2 ⟨rfl,O⟩;have V:=Hd (f.out.drew.go O);refine ae _ _ ⟨?_,hK _ _ ?_⟩;clear ae K' hK K;·exact a_ O _
      clear O;refine lit ?_;refine eH ?_;refine aK ?_;refine lit ?_;gi_wp2
     ·go_ret;exact⟨by rw[HX.out,<-hS.out,HQ.u,HQ.a];rfl,V.out.bl⟩
     exact⟨⟨j+1,oE,by go_num,Hd (by rw[<-hS.out,HQ.u,HQ.a,ff]),V⟩,by simp[intOf];omega⟩
    ·obtain rfl:j=h:=oE;have HE:=Hd (show Z=true by rw[HX.out,<-hS.out,jr (by rw[HL.u];exact bh _)];rfl);clear hj ab
     gi_wp2_with (first
      |(have g:=G2.out;clear g;refine Cl 152 (Dq (HI.u.go G2.out.bl)) ?_;rintro e w3 ⟨rfl,aa⟩;have G3:=Hd (G2.out.go aa);clear aa)
      |(refine Cl 152 (Dq (HI.a.go f.out.bl)) ?_;rintro e w2 ⟨rfl,O⟩;have G2:=Hd (f.out.go O);have o2:=aW G2.out;clear O)
      |fail)
     go_ret;exact⟨by rw[HE.out];rfl,G3.out.bl⟩
theorem abm(hs:fD r=true):RF r:=by
 unfold fD sJ at hs;simp only[cJ,gT,gP,mq,iv,jA,gD,cQ]at hs;obtain⟨⟨hs,S⟩,hr⟩:=hs;refine⟨fun y g=>?_,⟨oE,oE,oE,oE⟩,fun t f=>?_⟩;·have:=cW (hr y g);omega
 have c:=S t f;unfold jY jA at c;simp only[gT,gD]at c;omega
theorem VJ(hr:dG w M r s1 s2 s3 s4 s5 s6 s7)(hM:b_ M w):
 Calls prog 101 #[.agg (aV r s1 s2 s3 s4 s5 s6 s7).toArray] w fun e w'=>∃v,e=.returned (.tuple #[v,.int .i64 (jJ r)])/\Below w w w'/\(jJ r=0->∃x4 x5:dK,v=.agg (aV (Fe r) s1 s2 s3 x4 x5 s6 s7).toArray/\Sl dA w' M x4.A x4.n x4.c (Fe r).ties/\Sl aJ w' M x5.A x5.n x5.c (Fe r).rounds)/\(¬jJ r=0->v=.agg nR.toArray):=by
 cases hs:fD r with
 |true=>have H:=abm hs;refine U.Ou hr H.parts ?_ hs H.NT hM;have a:=hr.aT.len;have b:=hr.bonus.len;have c:=hr.malus.len;have d:=hr.ties.len;have e:=hr.rounds.len;have:=H.len;omega
 |false=>
  have I:jJ r=2:=by unfold jJ;rw[if_pos hs]
  refine(Vb hr hs).mono ?_;rintro e w' ⟨rfl,hb⟩;exact⟨_,by rw[I],hb,fun h=>(by rw[I]at h;cases h),fun _=>rfl⟩
theorem ady(hr:dG w M r s1 s2 s3 s4 s5 s6 s7)(hM:b_ M w):
 CB 54 #[.agg (aV r s1 s2 s3 s4 s5 s6 s7).toArray] (.int .i64 (xY r)) w:=by
 refine wid ?_;obtain⟨W1,Q,F1⟩:=dR ((Fr.nil w).a w (aV r s1 s2 s3 s4 s5 s6 s7) 28);have T:=aW F1;have u:=Hd (VJ (hr.go F1.bl) (hM.le F1.bl.size));obtain⟨K,f⟩:=aC (jJ r);rw[f]at u;have HF:=Hd F1;have I:=Hd hr;obtain⟨Z,c⟩:=aC (xY r);rw[c];by_cases R:K=0
 ·subst R;obtain⟨q,z⟩:=aC (xX r);have HZ:=Hd (show Z=if q=true then 0 else 140 by rw[<-c,xY,if_pos f,z]);have H:=Hd z;clear F1 hr hM c f z;cases q
  all_goals
   refine ent func54 rfl ntmps54 ?_
   gi_wp2_with (first
    |(have g:=HX.out;clear g;refine Cl 102 HX.out ?_;rintro e w4 ⟨rfl,hb4⟩;rw[H.out];have F:=Hd (t.out.trans (hb4.mono t.out.size));clear hb4)
    |(refine Cl 101 u.out ?_;rintro e s ⟨v,rfl,h,hx,-⟩;obtain⟨O,P,rfl,S,E⟩:=hx rfl;obtain⟨D,C⟩:=aC s.heap.size;obtain⟨N,J,o,F3⟩:=fP (w:=s) ((HF.out.go h).a D (aV (Fe r) s1 s2 s3 O P s6 s7) 28 C.symm);have L:=aW F3;have HX:=Hd (Ov (I.out.go F3.bl) (S.go o) (E.go o));have t:=Hd F3.bl;clear h o S E F3 hx)
    |fail)
   go_ret;exact⟨by rw[HZ.out];rfl,F.out⟩
 ·have HZ:=Hd (show Z=K by rw[<-c,xY,if_neg (by rw[f];exact R),f]);have G:=Hd R;have kb:(K !=0)=true:=fo.2 R;clear F1 hr hM c f;refine ent func54 rfl ntmps54 ?_
  gi_wp2_with (first
   |(refine Cl 101 u.out ?_;rintro e s ⟨v,rfl,h,-,hx⟩;obtain rfl:=hx G.out;obtain⟨D,C⟩:=aC s.heap.size;obtain⟨N,J,o,F3⟩:=fP (w:=s) ((HF.out.go h).a D nR 28 C.symm);have L:=aW F3;have U:=aN (F3.aQ 1 0);have V:=aN (F3.aQ 1 1);have W:=aN (F3.aQ 1 2);have X:=aN (F3.aQ 1 3);have Y:=aN (F3.aQ 1 4);have aa:=aN (F3.aQ 1 5);have ab:=aN (F3.aQ 1 6);have ac:=aN (F3.aQ 1 7);have ad:=aN (F3.aQ 1 8);have t:=Hd F3.bl;clear o F3;clear h hx)
   |fail)
  go_ret;exact⟨by rw[HZ.out];rfl,t.out⟩
def iD(p:Prop)(w:World)(e:Ending)(w':World):Prop:=∃k:Int,e=.returned (.int .i64 k)/\(k=0->p)/\Below w w w'
attribute [irreducible] iD
theorem iD.bad{k:Int}(h:e=.returned (.int .i64 k))(hk:¬k=0)(hb:Below w w w'):iD p w e w':=by unfold iD;exact⟨k,h,fun e=>absurd e hk,hb⟩
theorem iD.ok(h:e=.returned (.int .i64 0))(hp:p)(hb:Below w w w'):iD p w e w':=by unfold iD;exact⟨0,h,fun _=>hp,hb⟩
theorem iD.of(h:iD p w e w'):∃k:Int,e=.returned (.int .i64 k)/\(k=0->p)/\Below w w w':=by unfold iD at h;exact h
def aE(p:Prop)(w:World)(e:Ending)(w':World):Prop:=∃k:Int,e=.returned (.int .i64 k)/\(k=0↔p)/\Below w w w'
attribute [irreducible] aE
theorem aE.bad{k:Int}(h:e=.returned (.int .i64 k))(hk:¬k=0)(hn:¬p)(hb:Below w w w'):aE p w e w':=by unfold aE;exact⟨k,h,⟨fun e=>absurd e hk,fun h=>absurd h hn⟩,hb⟩
theorem aE.ok(h:e=.returned (.int .i64 0))(hp:p)(hb:Below w w w'):aE p w e w':=by unfold aE;exact⟨0,h,⟨fun _=>hp,fun _=>rfl⟩,hb⟩
theorem aE.of(h:aE p w e w'):∃k:Int,e=.returned (.int .i64 k)/\(k=0↔p)/\Below w w w':=by unfold aE at h;exact h
structure Sm(r:aS):Prop where
 fw:RF r
 ties:r.ties.length<=5\/16<r.ties.length
 keys:∀t,t∈r.ties->t.2.length<=4\/32<t.2.length
def Sound(r:aS):Prop:=ZH r/\F15 r/\(∃rk,T15 r rk)/\∀i x,r.rounds[i]?=some x->backOk r i x
def aa4(r:aS):Prop:=(ZH r/\F15 r/\(∃rk,T16 r rk/\∀i,i<r.ties.length->rk i<r.ties.length)/\∀i x,r.rounds[i]?=some x->backOk r i x)/\xY r=0/\(∀j,j<r.ties.length->vw r.ties r.ties.length j=false)/\∀j,j<r.ties.length->KJ r.ties r.ties.length j<=32
def agq(r:aS):Prop:=Sound r/\xY r=0/\(∀j,j<r.ties.length->vw r.ties r.ties.length j=false)/\∀j,j<r.ties.length->KJ r.ties r.ties.length j<=32
theorem KU(hw:Sm r)(hs:fD r=true):r.ties.length<=5/\∀t,t∈r.ties->t.2.length<=4:=by
 unfold fD sJ at hs;simp only[cJ,gT,gP,mq,iv,jA,gD,cQ]at hs;obtain⟨⟨hs,S⟩,-⟩:=hs;refine⟨?_,fun t f=>?_⟩;·have:=hw.ties;omega
 have g:=hw.keys t f;have c:=S t f;unfold jY jA at c;simp only[gT,gD]at c;omega
theorem abZ(hs:fD r=true):r.ties.length<=16/\∀t,t∈r.ties->t.2.length<=32:=by unfold fD sJ at hs;simp only[cJ,gT,gP,mq,iv,jA,gD,cQ]at hs;obtain⟨⟨hs,S⟩,-⟩:=hs;refine⟨oE,fun t f=>?_⟩;have c:=S t f;unfold jY jA at c;simp only[gT,gD]at c;omega
theorem afz(hw:Sm r)(h:aa4 r):agq r:=by obtain⟨⟨c,f,⟨o,g⟩,h4⟩,h5⟩:=h;obtain⟨a,b⟩:=KU hw (Dn (Dl h5.1).1).1;exact⟨⟨c,f,⟨o,agf a b g⟩,h4⟩,h5⟩
theorem DC{nm:List ByteArray}{s:ByteArray}(h:lU nm s n):∃u:Nat,n=(u:Int)/\u<nm.length:=by
 obtain⟨c,f⟩:=h;refine⟨xA nm s,f.symm,?_⟩;unfold xB at c;unfold xA
 cases e:gW nm s nm.length with
 |none=>rw[e]at c;cases c
 |some j=>exact CO e
theorem abn(hr:dG w M r s1 s2 s3 s4 s5 s6 s7)(hM:b_ M w):
 Calls prog 24 #[.agg (aV r s1 s2 s3 s4 s5 s6 s7).toArray] w (aE (aa4 r) w):=by
 refine wid ?_;obtain⟨P,hP⟩:=aC (aa4 r);rw[hP];obtain⟨A5,I,c5⟩:=s5;have O:Sl aJ w M A5 I c5 r.rounds:=hr.rounds;have ad:=hr.ties.len;obtain⟨W1,aI,F1⟩:=dR ((Fr.nil w).a w (aV r s1 s2 s3 s4 ⟨A5,I,c5⟩ s6 s7) 28);have N:=aW F1;have F:=Hd F1;have V:=Hd (ady (hr.go F1.bl) (hM.le F1.bl.size));have H:=oK hr trivial hP O O.len;have HM:=Hd2 hM ad;have JC:=O.small;have ak:=Hd2 ad O.len;obtain⟨C,L⟩:=aC (xY r);rw[L]at V;clear F1 hr hP O hM ad;by_cases aa:C=0;rotate_left
 ·have aK:(C !=0)=true:=fo.2 aa;refine ent func24 rfl ntmps24 ?_
  gi_wp2_with (first
   |(refine Cl 54 V.out ?_;rintro e J ⟨rfl,f⟩;replace F:=Hd (F.out.go f);clear f)
   |fail)
  go_ret;exact aE.bad rfl aa (by rw[<-H.c];exact fun h=>aa (by rw[<-L];exact h.2.1)) F.out.bl
 subst aa;have HR:=Hd (agk L);have II:=Hd L;have ac:=Hd (Dn (Dl L).1).1;have Y:=Hd (abm ac.out);have m5:I<=1000:=by rw[<-ak.u];exact Y.out.len.2.2.2
 have m4:s4.n<=1000:=by rw[<-ak.a];exact Y.out.len.2.2.1
 clear L;refine ent func24 rfl ntmps24 ?_
 gi_wp2_with (first
  |(have g:=W.out;clear g;have X:=Jj (H.a.go F.out.bl) HR.out m4;refine Cl 56 X ?_;clear X;rintro e J ⟨A,c,rfl,S,f⟩;replace F:=Hd (F.out.go f);have N:=aW F.out;have av:=Hd2 S (bw J J);clear f S)
  |(have g:=Z4.out;clear g;have X:=Om (H.a.go F.out.bl);refine Cl 55 X ?_;clear X;rintro e J G;obtain⟨b,rfl,hb,f⟩:=G.of;have W:=Hd hb;replace F:=Hd (F.out.go f);have N:=aW F.out;clear hb f G;cases b)
  |(refine Cl 54 V.out ?_;rintro e J ⟨rfl,f⟩;replace F:=Hd (F.out.go f);have N:=aW F.out;have Z4:=Hd trivial;clear f)
  |fail)
 ·go_ret;exact aE.bad rfl oR (by rw[<-H.c];exact fun h=>hno W h.1.2.1) F.out.bl
 have Jl:=Hd (W.out.1 oY);clear W V Z4;obtain⟨n,hn⟩:=aC s4.n;have aF:=Hd hn;obtain⟨V1,aA⟩:=aC J;subst aA;gi_loopw[5] (fun i wr=>∃k:Nat,k<=s4.n/\i=.int .i64 k/\J=wr/\Hid (∀j,j<k->vw r.ties s4.n j=false)) (fun i _=>s4.n-(intOf i).toNat);case atStart=>exact⟨0,bO _,rfl,rfl,Hd (fun j R=>by omega)⟩
 case round=>
  obtain⟨k,hk,rfl,rfl,Q⟩:=hrel;by_cases s:k<s4.n
  ·obtain⟨b,o,rfl,c0⟩:=av.a.Vu (yh (vw r.ties s4.n) s);obtain⟨z,D⟩:=aC (vw r.ties s4.n k);rw[D]at c0;have HZ:=Hd D;clear D;cases z
   ·gi_wp2;exact⟨⟨k+1,oE,by go_num,bq,Hd (fun j R=>by
     by_cases e:j=k;·rw[e];exact HZ.out
     exact Q.out j oE)⟩,by simp[intOf];omega⟩
   gi_wp2;go_ret;exact aE.bad rfl oR (by rw[<-H.c];intro h;have q:=h.2.2.1 k (by rw[HM.u];exact s);rw[HM.u,HZ.out]at q;cases q) F.out.bl
  ·have an:s4.n=k:=oE;have XH:=Hd (show ∀j,j<s4.n->vw r.ties s4.n j=false by rw[an]at Q |-;exact Q.out);have aB:¬((k:Int)<((s4.n:Nat):Int)):=oE;clear hk s Q an hn
   gi_wp2_with (first
    |(have X:=Vz (H.a.go F.out.bl) HR.out m4 Y.out.NT;refine Cl 57 X ?_;clear X;rintro e w3 ⟨A3,c3,rfl,S,al⟩;replace F:=Hd (F.out.go al);have N:=aW F.out;have aw:=Hd S;clear al S)
    |fail)
   gi_loopw[7] (fun i wr=>∃k:Nat,k<=s4.n/\i=.int .i64 k/\w3=wr/\Hid (∀j,j<k->KJ r.ties s4.n j<=32)) (fun i _=>s4.n-(intOf i).toNat);case atStart=>exact⟨0,bO _,rfl,rfl,Hd (fun j R=>by omega)⟩
   case round=>
    obtain⟨g,hg,rfl,rfl,Q⟩:=hrel;by_cases s:g<s4.n
    ·obtain⟨b,o,x,rfl,c0,-,-,ex⟩:=aw.out.pR s;rw[yh (qH r.ties s4.n) s]at ex;cases ex;obtain⟨z,D⟩:=aC (KJ r.ties s4.n g);rw[qH,D]at c0;have HZ:=Hd D;clear D;by_cases aG:((z:Nat):Int)>32;·gi_wp2;go_ret;exact aE.bad rfl oR (by rw[<-H.c];intro h;have q:=h.2.2.2 g (by rw[HM.u];exact s);rw[HM.u,HZ.out]at q;omega) F.out.bl
     gi_wp2;exact⟨⟨g+1,oE,by go_num,bq,Hd (fun j R=>by
      by_cases e:j=g;·rw[e,HZ.out];omega
      exact Q.out j oE)⟩,by simp[intOf];omega⟩
    ·have am:s4.n=g:=oE;have ai:=Hd (show ∀j,j<s4.n->KJ r.ties s4.n j<=32 by rw[am]at Q |-;exact Q.out);have ae:¬((g:Int)<((s4.n:Nat):Int)):=oE;clear hg s Q am;have HG:=Hd (aga II.out Y.out Jl.out);obtain⟨rk,aq,ar⟩:=agd (abZ ac.out).1 (abZ ac.out).2 HR.out (fun i E=>by rw[HM.u]at E |-;exact XH.out i E) (fun i E=>by rw[HM.u]at E |-;exact ai.out i E);have HT:=Hd aq;have Z9:=Hd ar;clear aq ar;gi_wp2;clear N aB ae;gi_loopw[8] (fun i wr=>∃k:Nat,k<=I/\i=.int .i64 k/\Hid (∀i x,i<k->r.rounds[i]?=some x->backOk r i x)/\Hid (Fr w wr [(w,aV r s1 s2 s3 s4 ⟨A5,I,c5⟩ s6 s7)])) (fun i _=>I-(intOf i).toNat);case atStart=>exact⟨0,bO _,rfl,Hd (fun i x E=>by omega),F⟩
     case round=>
      obtain⟨k,hk,rfl,hB,hF⟩:=hrel;replace F:=Hd hF.out;have N:=aW F.out;by_cases s:k<I
      ·obtain⟨y,hy⟩:=dW r.rounds k (by rw[H.x];exact s);have ap:=HG.out.rounds y (aR hy);have hno:XE y= -1\/∃u:Nat,XE y=(u:Int)/\u<r.ties.length:=by
        rcases ap.2.2.2.2 with h|h;·exact .inl h.2
        exact .inr (by have:=DC h.2;rwa [cC]at this)
       obtain⟨b1,u1,D1,m1,e1,rfl,⟨x0,x1,x2,x3,x4,x5⟩,⟨x6,x7,x8,x9,x10⟩,⟨x11,x12⟩,-,-,hs1⟩:=(H.d.go F.out.bl).iw hy;have HL:=Hd (R_ (au y) (at_:=(k:Int)) hs1);obtain⟨no,Z⟩:=aC (XE y);rw[Z]at hno;have az:wr.cell? ⟨b1,u1+k*13+12,none⟩=some (.int .i64 no):=by rw[<-Z];exact x12
       have HY:=fB hy Z az;clear hy ap hs1 x12 Z;rcases hno with rfl|⟨u,rfl,hu⟩
       ·gi_wp2_with (first
          |(refine Cl 58 HL.out ?_;rintro e w4 G;obtain⟨b,rfl,hb,f⟩:=G.of;have HX:=Hd hb;have aj:=(a_ f []).cell oO HY.v;replace F:=Hd (F.out.go f);have o2:=aW F.out;clear hb f G;cases b)
          |fail)
        ·exact⟨⟨k+1,oE,by go_num,Hd (fun i x E hx=>by
           by_cases e:i=k;·subst e;rw[HY.a]at hx;cases hx;exact⟨HX.out.1 oY,fun h=>by have h2:XE y= -1:=HY.b;have h3:0<=XE y:=h;omega⟩
           exact hB.out i x oE hx),F⟩,by simp[intOf];omega⟩
        exact Ip
       have aM:¬((u:Int)<0):=oE;have HU:=Hd hu;clear hu
       gi_wp2_with (first
        |(refine Cl 58 HL.out ?_;rintro e w4 G;obtain⟨b,rfl,hb,f⟩:=G.of;have HX:=Hd hb;have aj:=(a_ f []).cell oO HY.v;replace F:=Hd (F.out.go f);have o2:=aW F.out;have aN:=ah aj;have v0:=ah (F.out.aQ 0 0);have v1:=ah (F.out.aQ 0 1);have v2:=ah (F.out.aQ 0 2);have v3:=ah (F.out.aQ 0 3);have v4:=ah (F.out.aQ 0 4);have v5:=ah (F.out.aQ 0 5);have v6:=ah (F.out.aQ 0 6);have v7:=ah (F.out.aQ 0 7);have v8:=ah (F.out.aQ 0 8);have X:=yj HT.out (rk u+1) u (eS _) HU.out (M:=M) (M':= []) (H.a.go F.out.drew.bl) (b_.nil _);have ax:=Hd X;clear hb f G X;cases b)
        |fail)
       rotate_left;·exact Ip
       refine aP [] 8 oF oF ?_;refine ay 0 ?_;refine ay 1 ?_;refine ay 2 ?_;refine ay 3 ?_;refine ay 4 ?_;refine ay 5 ?_;refine ay 6 ?_;refine eU 7 fun K hK=>?_;gi_wp2;refine Cl 59 ax.out ?_;rintro e w5 ⟨A2,T,c2,rfl,ag,f⟩;replace F:=Hd (F.out.drew.go f);have o3:=aW F.out;have af:=ag.len;have aL:T<=32:=by rw[<-af];exact HT.out.len u HU.out
       have ab:=Hd2 ag af;refine hK _ _ ⟨?_,?_⟩;clear hK K;·exact a_ f _
       clear f ag af;refine lit ?_;refine iq 1 ?_;refine jW fun K hK K' aH=>?_;gi_wp2;refine dC _ ?_;simp only[cu];gi_wp2;gi_loopw[10] (fun i wr=>∃j:Nat,j<=T/\i=.int .i64 j/\w5=wr/\Hid (∀y,y∈(Jd r u).take j->Hg k y)) (fun i _=>T-(intOf i).toNat);case atStart=>exact⟨0,bO _,rfl,rfl,Hd oO⟩
       case round=>
        obtain⟨j,R,rfl,rfl,hJ⟩:=hrel;by_cases ao:j<T
        ·obtain⟨z,D⟩:=dW (Jd r u) j (by rw[ab.u];exact ao);obtain⟨b3,ZU,rfl,y0,y1,y2⟩:=ab.a.xQ D;obtain⟨zk,zs,U⟩:=z;simp only at y0 y1 y2;have HZ:=Hd D;clear D;by_cases z2:zk=2
         ·subst z2;by_cases hg:(k:Int)<=U
          ·have ae:decide ((k:Int)<=U)=true:=cw hg;gi_wp2;go_ret;exact aE.bad rfl oR (by
            rw[<-H.c];intro h;have aD:XE y=((u:Nat):Int):=HY.b;obtain⟨t,e1,-,e3⟩:=(h.1.2.2.2 k y HY.a).2 (by show 0<=XE y;rw[aD];omega);have e4:XE y=((t:Nat):Int):=e1;obtain rfl:t=u:=oE;have q:=e3 _ (aR HZ.out);rcases q with q|q;·exact q rfl
            have h2:U<((k:Nat):Int):=q;omega) F.out.bl
          have ae:decide ((k:Int)<=U)=false:=cE hg;gi_wp2;exact⟨⟨j+1,oE,by go_num,bq,Hd (bY HZ.out hJ.out (.inr (by show U<_;omega)))⟩,by simp[intOf];omega⟩
         have aO:(zk==2)=false:=cU.2 z2;gi_wp2_with (first|(refine⟨bq,?_⟩))
         exact⟨⟨j+1,oE,by go_num,bq,Hd (bY HZ.out hJ.out (.inl z2))⟩,by simp[intOf];omega⟩
        ·obtain rfl:j=T:=oE;have HE:=Hd (show ∀y,y∈Jd r u->Hg k y by have h:=hJ.out;rwa [bL (by rw[ab.u];exact bh _)]at h);clear R ao hJ;gi_wp2;exact⟨⟨k+1,oE,by go_num,Hd (fun i x E hx=>by
          by_cases e:i=k;·subst e;rw[HY.a]at hx;cases hx;exact⟨HX.out.1 oY,fun _=>⟨u,HY.b,HU.out,HE.out⟩⟩
          exact hB.out i x oE hx),F⟩,by simp[intOf];omega⟩
      ·obtain rfl:k=I:=oE;have HE:=Hd (show P by
        rw[<-H.c];exact⟨⟨HG.out,Jl.out,⟨rk,HT.out,Z9.out⟩,fun i x hx=>hB.out i x (by have:=(bj.1 hx).1;rw[H.x]at this;exact this) hx⟩,II.out,by rw[HM.u];exact⟨XH.out,ai.out⟩⟩)
       clear hk s hB;gi_wp2;go_ret;exact aE.ok rfl HE.out F.out.bl
theorem gK{b:Bool}(h:some undef=some (Value.bool b)):False:=by cases h
def Yw(w:World)(R:List Value)(Q:Nat->Prop)(n:Nat)(i:Value)(wr:World):Prop:=∃k:Nat,k<=n/\i=.int .i64 k/\Hid (Q k)/\Hid (Fr w wr [(w.heap.size,R)])
attribute [irreducible] Yw
theorem Sr(hr:dG w M r s1 s2 s3 s4 s5 s6 s7):
 Calls prog 99 #[.agg (aV r s1 s2 s3 s4 s5 s6 s7).toArray] w (Says (RF r/\r.rounds.length<=12) w):=by
 refine wid ?_;obtain⟨P,W⟩:=aC (RF r/\r.rounds.length<=12);rw[W];obtain⟨G,f,L⟩:=s4;obtain⟨A5,g,c5⟩:=s5;have T:Sl dA w M G f L r.ties:=hr.ties;have U:Sl aJ w M A5 g c5 r.rounds:=hr.rounds;obtain⟨W1,ab,F1⟩:=dR ((Fr.nil w).a w (aV r s1 s2 s3 ⟨G,f,L⟩ ⟨A5,g,c5⟩ s6 s7) 28);have N:=aW F1;have HF:=Hd F1;have H:=fB T U W;have HL:=oK hr.aT.len hr.bonus.len hr.malus.len T.len U.len;clear F1 hr T U W;by_cases g1:((s1.n:Nat):Int)>70;·exact zI
 by_cases g2:((s2.n:Nat):Int)>70;·exact zI
 by_cases g3:((s3.n:Nat):Int)>70;·exact zI
 by_cases g4:((f:Nat):Int)>20;·exact zI
 by_cases g5:((g:Nat):Int)>12;·exact zI
 by_cases g6:((s6.n:Nat):Int)>70;·exact zI
 by_cases g7:((s7.n:Nat):Int)>70;·exact zI
 obtain⟨R,hR⟩:∃R:List Value,aV r s1 s2 s3 ⟨G,f,L⟩ ⟨A5,g,c5⟩ s6 s7=R:=⟨_,rfl⟩;have K:=Hd (show ∀V,Fr w V [(w.heap.size,R)]↔Fr w V [(w,aV r s1 s2 s3 ⟨G,f,L⟩ ⟨A5,g,c5⟩ s6 s7)]from fun V=>by rw[hR]);obtain⟨Q4,Vt⟩:∃Q:Nat->Prop,∀k,Q k↔∀t,t∈r.ties.take k->t.2.length<=40:=⟨_,fun _=>oA⟩;obtain⟨Q5,ZT⟩:∃Q:Nat->Prop,∀k,Q k↔∀x,x∈r.rounds.take k->nodes (au x)<=400:=⟨_,fun _=>oA⟩;have I:=Hd Vt;have J:=Hd ZT;have F0:=Hd ((K.out _).2 HF.out);clear Vt ZT hR;refine ent func99 rfl ntmps99 ?_;gi_wp2;clear N;gi_loopw[3] (fun i wr=>Yw w R Q4 f i wr) (fun i _=>f-(intOf i).toNat);case atStart=>unfold Yw;exact⟨0,bO _,rfl,Hd ((I.out 0).2 oO),F0⟩
 case round=>
  unfold Yw at hrel;obtain⟨k,hk,rfl,q,s⟩:=hrel;have F:=Hd ((K.out _).1 s.out);have N:=aW F.out;by_cases D:k<f
  ·obtain⟨t,X⟩:=dW r.ties k (by rw[HL.d];exact D);obtain⟨b,o,B,m,d,rfl,⟨p0,p1⟩,hks⟩:=(H.a.go F.out.bl).n_ X;have aa:=hks.len;have Z:=Hd2 X aa;clear X hks aa;by_cases hm:((m:Nat):Int)>40;·gi_wp2;go_ret;exact Says.no rfl F.out.bl
   gi_wp2;exact⟨by unfold Yw;exact⟨k+1,oE,by go_num,Hd ((I.out _).2 (bY Z.a ((I.out k).1 q.out) (by rw[Z.u];omega))),s⟩,by simp[intOf];omega⟩
  ·obtain rfl:k=f:=oE;have XZ:=Hd (show ∀t,t∈r.ties->t.2.length<=40 by have h:=(I.out k).1 q.out;rwa [bL (by rw[HL.d];exact bh _)]at h);clear hk D q;gi_wp2;clear N F;gi_loopw[4] (fun i wr=>Yw w R Q5 g i wr) (fun i _=>g-(intOf i).toNat);case atStart=>unfold Yw;exact⟨0,bO _,rfl,Hd ((J.out 0).2 oO),s⟩
   case round=>
    unfold Yw at hrel;obtain⟨j,hj,rfl,q,s⟩:=hrel;have F:=Hd ((K.out _).1 s.out);have N:=aW F.out;by_cases D:j<g
    ·obtain⟨y,E⟩:=dW r.rounds j (by rw[HL.x];exact D);obtain⟨b1,u1,D1,m1,e1,rfl,-,⟨x6,x7,x8,x9,ac⟩,-,-,-,hs1⟩:=(H.b.go F.out.bl).iw E;have S:=Hd (yR (au y) hs1 (show 400<=100000 by omega));obtain⟨z,Y⟩:=aC (qU (nodes (au y)) 400);rw[Y]at S;have HZ:=Hd2 Y E;clear Y E hs1;by_cases hg:((z:Nat):Int)>400
     ·gi_wp2_with (first
        |(refine Cl 51 S.out ?_;rintro e w2 ⟨rfl,C⟩;have O:=Hd (F.out.go C);clear C)
        |fail)
      go_ret;exact Says.no rfl O.out.bl
     gi_wp2_with (first
      |(refine Cl 51 S.out ?_;rintro e w2 ⟨rfl,C⟩;have O:=Hd (F.out.go C);clear C)
      |fail)
     exact⟨by unfold Yw;exact⟨j+1,oE,by go_num,Hd ((J.out _).2 (bY HZ.u ((J.out j).1 q.out) (by have h:=HZ.a;unfold qU at h;omega))),Hd ((K.out _).2 O.out)⟩,by simp[intOf];omega⟩
    ·obtain rfl:j=g:=oE;have HE:=Hd (show P by
      have h:=(J.out j).1 q.out;rw[bL (by rw[HL.x];exact bh _)]at h;rw[<-H.v];have l1:=HL.a;have l2:=HL.b;have l3:=HL.c;have l4:=HL.d;have l5:=HL.x;exact⟨⟨fun y E=>cD (h y E) oE,oE,fun t ht=>cD (XZ.out t ht) oE⟩,oE⟩)
     clear hj D q;gi_wp2;go_ret;exact Says.yes rfl HE.out F.out.bl
theorem Sv(hr:dG w M r s1 s2 s3 s4 s5 s6 s7):
 Calls prog 52 #[.agg (aV r s1 s2 s3 s4 s5 s6 s7).toArray] w (Says (Sm r/\r.rounds.length<=12) w):=by
 refine wid ?_;obtain⟨P,E⟩:=aC (Sm r/\r.rounds.length<=12);rw[E];obtain⟨G,s,K⟩:=s4;have D:Sl dA w M G s K r.ties:=hr.ties;have Y:=D.small;obtain⟨W1,L,F1⟩:=dR ((Fr.nil w).a w (aV r s1 s2 s3 ⟨G,s,K⟩ s5 s6 s7) 28);have Z:=aW F1;have X:=Sr (hr.go F1.bl);have HX:=Hd X;have HF:=Hd F1;have H:=fB D D.len E;obtain⟨T,I⟩:∃Q:Nat->Prop,∀k,Q k↔∀t,t∈r.ties.take k->t.2.length<=4\/32<t.2.length:=⟨_,fun _=>oA⟩;have q:=Hd I;clear F1 hr D E X I;refine ent func52 rfl ntmps52 ?_;gi_wp2;gi_loopw[3] (fun i wr=>∃k:Nat,k<=s/\i=.int .i64 k/\W1=wr/\Hid (T k)) (fun i _=>s-(intOf i).toNat);case atStart=>exact⟨0,bO _,rfl,by first|rfl|exact L|exact L.symm,Hd ((q.out 0).2 oO)⟩
 case round=>
  obtain⟨k,W,rfl,rfl,C⟩:=hrel;by_cases O:k<s
  ·obtain⟨t,F⟩:=dW r.ties k (by rw[H.b];exact O);obtain⟨b,o,B,m,d,rfl,⟨p0,p1⟩,hks⟩:=(H.a.go HF.out.bl).n_ F;have N:=hks.len;have z:=Hd2 F N;clear F hks N;by_cases U:((m:Nat):Int)>4
   ·by_cases V:((m:Nat):Int)<=32;·gi_wp2;go_ret;exact Says.no rfl HF.out.bl
    exact Iu
   exact Iu
  ·obtain rfl:k=s:=oE;have J:=Hd (show ∀t,t∈r.ties->t.2.length<=4\/32<t.2.length by have h:=(q.out k).1 C.out;rwa [bL (by rw[H.b];exact bh _)]at h);clear W O C;by_cases U:((k:Nat):Int)<=5
   ·gi_wp2_with (first
      |(refine Cl 99 HX.out ?_;rintro e S g;obtain⟨b,rfl,hb,f⟩:=g.of;have HB:=Hd hb;have c:=Hd (HF.out.go f);have R:=aW c.out;clear hb f g;cases b)
      |(refine⟨bq,?_⟩))
    all_goals first
     |exact(gK (by assumption)).elim
     |(go_ret;first
       |exact Says.yes (by first|rfl|simp[*]) (by rw[<-H.v];exact⟨⟨(HB.out oY).1,.inl (by rw[H.b];omega),J.out⟩,(HB.out oY).2⟩) c.out.bl
       |exact Says.no (by first|rfl|simp[*]) c.out.bl)
   by_cases V:((k:Nat):Int)>16
   ·gi_wp2_with (first
      |(refine Cl 99 HX.out ?_;rintro e S g;obtain⟨b,rfl,hb,f⟩:=g.of;have HB:=Hd hb;have c:=Hd (HF.out.go f);have R:=aW c.out;clear hb f g;cases b)
      |(refine⟨bq,?_⟩))
    all_goals first
     |exact(gK (by assumption)).elim
     |(go_ret;first
       |exact Says.yes (by first|rfl|simp[*]) (by rw[<-H.v];exact⟨⟨(HB.out oY).1,.inr (by rw[H.b];omega),J.out⟩,(HB.out oY).2⟩) c.out.bl
       |exact Says.no (by first|rfl|simp[*]) c.out.bl)
   gi_wp2_with (first
    |(refine Cl 99 HX.out ?_;rintro e S g;obtain⟨b,rfl,hb,f⟩:=g.of;have c:=Hd (HF.out.go f);have R:=aW c.out;clear hb f g;cases b)
    |(refine⟨bq,?_⟩))
   all_goals first
    |exact(gK (by assumption)).elim
    |(go_ret;exact Says.no (by first|rfl|simp[*]) c.out.bl)
end
section
open Go.RowKit
structure DF where
 name:ByteArray
 lo:Int
 hi:Int
 st:Int
 how:Int
 tr:Int
 rev:Bool
def fJ(c:DF):Bool:=decide (0<=c.lo/\c.lo<c.hi/\c.hi<=1000/\1<=c.st/\0<=c.tr/\c.tr<=127/\1<=c.how/\c.how<=3/\(c.how≠2->c.tr=0)/\(c.hi-c.lo)%c.st=0)
def Nv(c:DF)(m:Int):Bool:=decide (c.lo<=m/\m<=c.hi/\(m-c.lo)%c.st=0)
def DI:List Int->Int->Int->Int
 | [],_,_=> -1
 |x::r,v,k=>if v=x then k else DI r v (k+1)
theorem Sz(A:Option Addr)(xs:List Int)(n c:Nat)(v:Int)(w:World)(hn:xs.length=n)(hm:n<=1000000)(hx:Sl Int w M A n c xs):
 Calls prog 131 #[.slice A n c,.int .i64 v] w fun e w'=>e=.returned (.int .i64 (DI xs v 0))/\w=w':=by
 have H:=Lib.hid hx;clear hx;go_enter func131,ntmps131;go_wp2;go_loop [8] (fun i=>∃k:Nat,k<=n/\i=.int .i64 k/\Hid (DI (xs.drop k) v k=DI xs v 0)) (fun i=>n-(intOf i).toNat);case atStart=>exact⟨0,oE,rfl,rfl⟩
 case round=>
  obtain⟨k,u,rfl,s⟩:=hrel;by_cases t:k<n
  ·obtain⟨b,o,x,rfl,I,_,h,_⟩:=H.out.pR t;have f:=s.out;rw[h,DI]at f;by_cases q:v=x;·rw[if_pos q]at f;have g:=Lib.hid f;clear f h;subst q;go_wp2;go_ret;exact⟨jL g.out,rfl⟩
   rw[if_neg q]at f;have g:=Lib.hid f;clear f h;go_wp2;go_round;case rel=>exact⟨k+1,oE,by go_num,g.out⟩
   case measure=>simp[intOf];omega
  ·have f:=s.out;rw[cA oE,DI]at f;have g:=Lib.hid f;clear f;go_wp2;go_ret;exact⟨jL g.out,rfl⟩
theorem VK(v:Int):∀(xs:List Int) (k:Int),0<=k->(v∈xs->k<=DI xs v k)/\(v∉xs->DI xs v k= -1)
 | [],k,hk=>⟨fun h=>by simp at h,fun _=>rfl⟩
 |x::r,k,hk=>by
  have ih:=VK v r (k+1) oE;by_cases h:v=x;·subst h;simp[DI]
  simp only[DI,if_neg h,cB];exact⟨fun g=>by have:=ih.1 (g.resolve_left h);omega,fun g=>ih.2 (fun e=>g (.inr e))⟩
theorem contains_eq(xs:List Int)(v:Int):decide (0<=DI xs v 0)=decide (v∈xs):=by
 have h:=VK v xs 0 oE;by_cases g:v∈xs;·simp[g,h.1 g]
 simp[g,h.2 g]
theorem rD(A:Option Addr)(xs:List Int)(n c:Nat)(v:Int)(w:World)(hn:xs.length=n)(hm:n<=1000000)(hx:Sl Int w M A n c xs):
 Calls prog 72 #[.slice A n c,.int .i64 v] w fun e w'=>e=.returned (.bool (decide (v∈xs)))/\w=w':=by
 have H:=Lib.hid hx;have E:=Lib.hid (contains_eq xs v);clear hx;go_enter func72,ntmps72;go_wp2_with (go_at_call 131;refine(Sz A xs n c v _ hn hm H.out).mono ?_;rintro e w' ⟨rfl,rfl⟩);go_ret;exact⟨wS E.out,rfl⟩
theorem sl3{b:Nat}{x y z:Int}(h0:w.cell? ⟨b,0,none⟩=some (.int .i64 x))(h1:w.cell? ⟨b,1,none⟩=some (.int .i64 y))(h2:w.cell? ⟨b,2,none⟩=some (.int .i64 z))
 (hx:i64 x) (hy:i64 y) (hz:i64 z):Sl Int w [] (some ⟨b,0,none⟩) 3 3 [x,y,z]:=by
 refine⟨rfl,bh _,by unfold jG;omega,oE,.inr ⟨b,0,rfl,?_⟩⟩;intro k u c
 match k,c with
 |0,c=>cases c;exact⟨_,⟨rfl,hx⟩,oO,by intro j u c;match j,c with|0,c=>cases c;exact h0⟩
 |1,c=>cases c;exact⟨_,⟨rfl,hy⟩,oO,by intro j u c;match j,c with|0,c=>cases c;exact h1⟩
 |2,c=>cases c;exact⟨_,⟨rfl,hz⟩,oO,by intro j u c;match j,c with|0,c=>cases c;exact h2⟩
theorem Fp(b:Nat)(x y z v:Int)(w:World)(h0:w.cell? ⟨b,0,none⟩=some (.int .i64 x))(h1:w.cell? ⟨b,1,none⟩=some (.int .i64 y))(h2:w.cell? ⟨b,2,none⟩=some (.int .i64 z))
 (hx:i64 x) (hy:i64 y) (hz:i64 z):
 Calls prog 72 #[.slice (some ⟨b,0,none⟩) 3 3,.int .i64 v] w fun e w'=>e=.returned (.bool (decide (v=x\/v=y\/v=z)))/\w=w':=
 (rD _ [x,y,z] 3 3 v w rfl oE (sl3 h0 h1 h2 hx hy hz)).mono fun e w' ⟨he,hw⟩=>⟨by rw[he];exact wS oO,hw⟩
theorem vX(s:ByteArray)(lo hi st how tr:Int)(rv:Bool)(w:World):
 CB 173 #[.agg #[.string s,.int .i64 lo,.int .i64 hi,.int .i64 st,.int .i64 how,.int .i64 tr,.bool rv]] (.bool (fJ ⟨s,lo,hi,st,how,tr,rv⟩)) w:=by
 go_enter func173,ntmps173;go_wp2_with (go_at_call 72;refine(Fp _ 1 2 3 _ _ (by go_simp) (by go_simp) (by go_simp) (by simp[i64]) (by simp[i64]) (by simp[i64])).mono ?_;rintro e w' ⟨rfl,rfl⟩);all_goals go_ret
 all_goals refine⟨wS ?_,by first|exact(pd.alloc pc _)|exact((pd.alloc pc _).alloc oO _)⟩
 all_goals grind [fJ]
theorem kP{c:DF}(h:fJ c=true):(0<=c.lo/\c.lo<c.hi/\c.hi<=1000)/\1<=c.st/\(0<=c.tr/\c.tr<=127)/\(1<=c.how/\c.how<=3)/\(c.how≠2->c.tr=0)/\(c.hi-c.lo)%c.st=0:=by
 unfold fJ at h;have:=cW h
 grind
def pz(c:DF)(m:Int):Int×Int:=if fJ c then(if Nv c m then((if c.rev then c.lo+c.hi-m else m),0)else(0,160))else(0,150)
theorem DJ(s:ByteArray)(lo hi st how tr:Int)(rv:Bool)(m:Int)(w:World):
 Calls prog 127 #[.agg #[.string s,.int .i64 lo,.int .i64 hi,.int .i64 st,.int .i64 how,.int .i64 tr,.bool rv],.int .i64 m] w fun e w'=>e=.returned (.tuple #[.int .i64 (pz ⟨s,lo,hi,st,how,tr,rv⟩ m).1,.int .i64 (pz ⟨s,lo,hi,st,how,tr,rv⟩ m).2])/\Below w w w':=by
 cases c:fJ ⟨s,lo,hi,st,how,tr,rv⟩with
 |false=>go_enter func127,ntmps127;go_wp2_with (go_at_call 173;refine(vX s lo hi st how tr rv _).mono ?_;rintro e o ⟨rfl,hb⟩);go_ret2;exact⟨by simp[pz,c],(pd.alloc pc _).trans (hb.mono oO)⟩
 |true=>
  obtain⟨⟨f,g,h⟩,h4,-,-,-,-⟩:=kP c;simp only at f g h h4;go_enter func127,ntmps127;go_wp2_with (go_at_call 173;refine(vX s lo hi st how tr rv _).mono ?_;rintro e o ⟨rfl,hb⟩;have I:=hb.cell (p:=⟨w,0,none⟩) oO;have q:=hb.cell (p:=⟨w,1,none⟩) oO;have t:=hb.cell (p:=⟨w,2,none⟩) oO;have u:=hb.cell (p:=⟨w,3,none⟩) oO;have v:=hb.cell (p:=⟨w,6,none⟩) oO);all_goals(try go_ret2)
  all_goals refine⟨ahp ?_,(pd.alloc pc _).trans (hb.mono oO)⟩
  all_goals grind [pz,Nv]
theorem on_any(s:ByteArray)(lo hi st how tr:Int)(rv:Bool)(m:Int)(w:World)(hr:fJ ⟨s,lo,hi,st,how,tr,rv⟩=true):
 Calls prog 155 #[.agg #[.string s,.int .i64 lo,.int .i64 hi,.int .i64 st,.int .i64 how,.int .i64 tr,.bool rv],.int .i64 m] w fun e w'=>e=.returned (.bool (Nv ⟨s,lo,hi,st,how,tr,rv⟩ m))/\Below w w w':=by
 obtain⟨⟨c,f,g⟩,h4,-,-,-,-⟩:=kP hr;simp only at c f g h4;clear hr;go_enter func155,ntmps155;go_wp2;all_goals go_ret
 all_goals refine⟨wS ?_,pd.alloc pc _⟩
 all_goals grind [Nv]
end
structure dS where
 marks:List (List Int)
 bonus:List Int
 malus:List Int
 prev:List fC
def kC(c:bT)(m:Int):Int:=if c.2.2.2.2.2.2=true then c.2.1+c.2.2.1-m else m
def gI(l:List Int):List Int:=l.mergeSort fun x y=>decide (x<=y)
def rU(c:bT)(l:List Int):List Int:=
 if c.2.2.2.2.1=1 then gI (l.map (kC c))else if c.2.2.2.2.1=2 then((gI (l.map (kC c))).take (l.length-c.2.2.2.2.2.1.toNat)).drop c.2.2.2.2.2.1.toNat
 else((gI (l.map (kC c))).take (l.length/2+1)).drop ((l.length-1)/2)
def qJ(c:bT)(l:List Int):Rt:=eP ((rU c l).sum*(if c.2.2.2.2.1=1 then(l.length:Int)else 1)) ((rU c l).length:Int)
structure Fv where
 tot:Nat->Rt
 bonus:Int
 malus:Int
 prev:List Rt
def zR:Rt:=⟨0,1⟩
def Uf(I:Fv)(k n d:Int)(l:List Rt):Rt:=
 if k=1 then eP n d else if k=2 then I.tot n.toNat else if k=3 then eP I.bonus 1 else if k=4 then eP I.malus 1 else if k=5 then I.prev.getD n.toNat zR
 else if k=6 then Js (l.getD 0 zR) (l.getD 1 zR)else if k=7 then OG (l.getD 0 zR) (l.getD 1 zR)else if k=8 then VQ (eP n d) (l.getD 0 zR)
 else if k=9 then(if rW (l.getD 0 zR) (l.getD 1 zR)<=0 then l.getD 0 zR else l.getD 1 zR)else if k=10 then(if-rW (l.getD 0 zR) (l.getD 1 zR)<=0 then l.getD 0 zR else l.getD 1 zR)
 else(if rW (l.getD 0 zR) (l.getD 1 zR)<=0 then l.getD 2 zR else l.getD 3 zR)
mutual
def rG(I:Fv):aU->Rt
 | .mk k _ n d l=>Uf I k n d (nH I l)
def nH(I:Fv):List aU->List Rt
 | []=> []
 |x::l=>rG I x::nH I l
end
theorem Qy(I:Fv)(x:aU):rG I x=Uf I x.kind x.n x.d (nH I x.l):=by cases x;rw[rG];rfl
theorem oC(I:Fv):∀l,nH I l=l.map (rG I)
 | []=>rfl
 |x::l=>by rw[nH,oC I l];rfl
structure yx(x:Rt)(k:Nat):Prop where
 ok:x.ok
 num:x.num.natAbs<BB^k
 den:x.den.natAbs<BB^k
theorem yx.up{k':Nat}(h:yx x k)(hk:k<=k'):yx x k':=⟨h.ok,cf h.num (zy hk),cf h.den (zy hk)⟩
theorem yx.sh(h:yx x k)(hk:k<=600):Sh x:=⟨(h.up (k':=Qx) (by unfold Qx;omega)).num,(h.up (k':=Qx) (by unfold Qx;omega)).den⟩
theorem wo(hd:0<d)(hk:k<=2048)(hn:n.natAbs<BB^k)(hf:d.natAbs<BB^k):yx (eP n d) k:=by
 refine⟨OD hd (pF hn hk) (pF hf hk),?_,?_⟩;·rw[BH hd];refine ke ?_ hn;show(n/_).natAbs<=_;exact Int.natAbs_ediv_le_natAbs _ _
 rw[BH hd];refine ke ?_ hf;show(d/_).natAbs<=_;exact Int.natAbs_ediv_le_natAbs _ _
theorem agu(ha:yx a i)(hb:yx b j)(h:i+j+1<=600):yx (Js a b) (i+j+1):=by
 refine wo (Int.mul_pos ha.ok.pos hb.ok.pos) oE ?_ (cf (dL ha.den hb.den) (zy oE));refine vZ (dL ha.num hb.den) ?_;have:=dL hb.num ha.den
 rwa [Nat.add_comm j i]at this
theorem agv(ha:yx a i)(hb:yx b j)(h:i+j+1<=600):yx (OG a b) (i+j+1):=by
 refine wo (Int.mul_pos ha.ok.pos hb.ok.pos) oE ?_ (cf (dL ha.den hb.den) (zy oE));refine DU (dL ha.num hb.den) ?_;have:=dL hb.num ha.den
 rwa [Nat.add_comm j i]at this
theorem agw(ha:yx a i)(hb:yx b j)(h:i+j<=600):yx (VQ a b) (i+j):=wo (Int.mul_pos ha.ok.pos hb.ok.pos) oE (dL ha.num hb.num) (dL ha.den hb.den)
theorem ahN:BB=1073741824:=rfl
theorem pG(h:n.natAbs<=1152921504606846975):n.natAbs<BB^2:=by
 have:BB^2=1152921504606846976:=by rw[ahN]
 omega
theorem DW(h:pX y):((y.l.length:Nat):Int)=mV y.kind:=by
 obtain⟨c,f,h,-⟩:=h;simp only[vT,qZ]at h
 repeat' split at h
 all_goals first
  |(rename_i e;simp at h;rw[e];exact h.1.symm)
  |(cases h;done)
  |(exfalso;simp at h;done)
structure ahO(I:Fv)(nc np:Nat):Prop where
 tot:∀n,n<nc->yx (I.tot n) 5
 prev:I.prev.length=np
 pv:∀x,x∈I.prev->yx x 5
 bonus:I.bonus.natAbs<=1152921504606846975
 malus:I.malus.natAbs<=1152921504606846975
structure YD(nc np:Nat)(y:aU):Prop where
 sh:pX y
 c:y.kind=2->0<=y.n/\y.n<(nc:Int)
 r:y.kind=5->0<=y.n/\y.n<(np:Int)
theorem uK{α β:Type}(f:α->β){l:List α}{x:α}(h:l[k]?=some x)(z:β):(l.map f).getD k z=f x:=by rw[cx,cP,h];rfl
theorem VU(h:pX y)(hk:y.kind=1\/y.kind=8):0<=y.n/\y.n<=1099511627776/\1<=y.d/\y.d<=1099511627776:=by
 obtain⟨f,g,h,-,c,-⟩:=h
 cases f with
 |true=>exact c rfl
 |false=>exfalso;rcases hk with e|e<;>(rw[e]at h;simp[vT,qZ]at h)
theorem OH(h:0<=n/\n<=1099511627776/\1<=d/\d<=1099511627776):yx (eP n d) 2:=wo oE oE (pG oE) (pG oE)
theorem aeM{I:Fv}{nc np:Nat}(hI:ahO I nc np)(x:aU):nodes x<=60->(∀y,y∈iZ x->YD nc np y)->yx (rG I x) (5*nodes x):=by
 induction x using iY with
 |_ x ih=>
  intro R G;have hx:=G x (by rw[lW];exact cd);have f:=DW hx.sh;have t:=gV x;have S:=FU x;have q:∀y,y∈x.l->yx (rG I y) (5*nodes y):=fun y u=>ih y u (by have:=fK u;omega) (fun z Q=>G z (by rw[lW];exact bz _ (qF u Q)));rw[Qy,oC];have K:=hx.c;have P:=hx.r;have F:=VU hx.sh;generalize nodes x=N at*;obtain⟨k,s,n,d,l⟩:=x;simp only[aU.kind,aU.name,aU.n,aU.d,aU.l]at*;unfold Uf
  by_cases v:k=1;·rw[if_pos v];exact(OH (F (.inl v))).up oE
  rw[if_neg v];by_cases C:k=2;·rw[if_pos C];exact(hI.tot _ (by have:=K C;omega)).up oE
  rw[if_neg C];by_cases H:k=3;·rw[if_pos H];exact(wo oE oE (pG hI.bonus) (pG oE)).up oE
  rw[if_neg H];by_cases J:k=4;·rw[if_pos J];exact(wo oE oE (pG hI.malus) (pG oE)).up oE
  rw[if_neg J];by_cases D:k=5
  ·rw[if_pos D];have:=P D;have E:n.toNat<I.prev.length:=by rw[hI.prev];omega
   rw[cx,bX E];exact(hI.pv _ (gm E)).up oE
  rw[if_neg D];by_cases h:k=8
  ·rw[if_neg oE,if_neg oE,if_pos h];have o:(l.length:Int)=1:=by rw[f,h];rfl
   match l,o with
   | [a],_=>simp only[dh]at t;have:=q a cd;exact(agw (OH (F (.inr h))) this oE).up oE
  have g:(k=6\/k=7\/k=9\/k=10)\/k=11:=by
   unfold mV at f
   repeat' split at f
   all_goals omega
  rcases g with g|g
  ·have o:(l.length:Int)=2:=by rw[f];rcases g with e|e|e|e<;>(rw[e];rfl)
   match l,o with
   | [a,b],_=>
     simp only[dh]at t;have f:=q a cd;have hb:=q b oO;rw[uK (rG I) (k:=0) rfl,uK (rG I) (k:=1) rfl];rcases g with e|e|e|e;·rw[if_pos e];exact(agu f hb oE).up oE
     ·rw[if_neg oE,if_pos e];exact(agv f hb oE).up oE
     ·rw[if_neg oE,if_neg oE,if_neg h,if_pos e];split;·exact f.up oE
      exact hb.up oE
     ·rw[if_neg oE,if_neg oE,if_neg h,if_neg oE,if_pos e];split;·exact f.up oE
      exact hb.up oE
  ·have o:(l.length:Int)=4:=by rw[f,g];rfl
   match l,o with
   | [a,b,c,d'],_=>
     simp only[dh]at t;have L:=q c oO;have O:=q d' oO;rw[if_neg oE,if_neg oE,if_neg h,if_neg oE,if_neg oE];rw[uK (rG I) (k:=2) rfl,uK (rG I) (k:=3) rfl];split;·exact L.up oE
     ·exact O.up oE
section
open Go.RowKit Go.Shelf
attribute [local go_sem] cK
def rX(c:bT):DF:=⟨c.1,c.2.1,c.2.2.1,c.2.2.2.1,c.2.2.2.2.1,c.2.2.2.2.2.1,c.2.2.2.2.2.2⟩
def oD(c:bT)(m:Int):Bool:=decide (m= -1)||Nv (rX c) m
def jc(c:bT)(p:Int)(l:List Int):Bool:=decide ((l.length:Int)=p)&&l.all (oD c)
def countB(x:bW)(n:Int):Bool:=decide (0<=n)&&decide (n<=x.2.2)
def dV(xs:List bW)(l:List Int):Bool:=decide (l.length=xs.length)&&(xs.zip l).all fun p=>countB p.1 p.2
def kS(r:aS)(i:Nat)(p:Int)(c:dS):Bool:=
 decide (c.marks.length=r.aT.length)&&dV r.bonus c.bonus&&dV r.malus c.malus&&decide (c.prev.length=i)&&((r.aT.zip c.marks).all fun q=>jc q.1 p q.2)&&c.prev.all dF
theorem DX{c:bT}(h:rC c)(ht:c.2.2.2.2.2.1<=127):fJ (rX c)=true:=by obtain⟨f,g,o,D,K,q,s,t,u⟩:=h;unfold fJ rX;refine cw ⟨f,g,o,D,t,ht,q,s,fun e=>u.resolve_right e,?_⟩;show(c.2.2.1-c.2.1)%c.2.2.2.1=0;rw[<-jz oE];exact K
theorem oG{α β:Type}{xs:List α}{ys:List β}{x:α}{y:β}(hx:xs[k]?=some x)(hy:ys[k]?=some y):(xs.zip ys)[k]?=some (x,y):=by rw[List.getElem?_zip_eq_some];exact⟨hx,hy⟩
abbrev Qz(c:bT):Value:=.agg #[.string c.1,.int .i64 c.2.1,.int .i64 c.2.2.1,.int .i64 c.2.2.2.1,.int .i64 c.2.2.2.2.1,.int .i64 c.2.2.2.2.2.1,.bool c.2.2.2.2.2.2]
abbrev DY(c:bT):List Value:= [.string c.1,.int .i64 c.2.1,.int .i64 c.2.2.1,.int .i64 c.2.2.2.1,.int .i64 c.2.2.2.2.1,.int .i64 c.2.2.2.2.2.1,.bool c.2.2.2.2.2.2]
theorem VX(c:bT)(m:Int)(w:World)(hr:fJ (rX c)=true):CB 111 #[Qz c,.int .i64 m] (.bool (oD c m)) w:=by
 refine wid ?_;obtain⟨W1,u,F1⟩:=dR ((Fr.nil w).a w (DY c) 59);have C:=aW F1;have HF:=Hd F1;have t:=Hd (on_any c.1 c.2.1 c.2.2.1 c.2.2.2.1 c.2.2.2.2.1 c.2.2.2.2.2.1 c.2.2.2.2.2.2 m W1 hr);obtain⟨z,h⟩:=aC (Nv (rX c) m);rw[show(⟨c.1,c.2.1,c.2.2.1,c.2.2.2.1,c.2.2.2.2.1,c.2.2.2.2.2.1,c.2.2.2.2.2.2⟩:DF)=rX c from rfl,h]at t;obtain⟨Z,g⟩:=aC (oD c m);have HZ:=Hd (show Z=(decide (m= -1)||z) by rw[<-g,oD,h]);rw[g];clear F1 h g;by_cases f:m= -1
 ·subst f;refine ent func111 rfl ntmps111 ?_;gi_wp2_with (first|(refine⟨bq,?_⟩))
  go_ret;exact⟨by rw[HZ.out];rfl,HF.out.bl⟩
 have v:(m== -1)=false:=cU.2 f;have s:=Hd f;clear f;refine ent func111 rfl ntmps111 ?_
 gi_wp2_with (first
  |(refine Cl 155 t.out ?_;rintro e D ⟨rfl,o⟩;have q:=Hd (HF.out.go o);clear o)
  |fail)
 go_ret;exact⟨by rw[HZ.out,cE s.out];rfl,q.out.bl⟩
theorem Lp{n cp:Nat}(c:bT)(p:Int)(hr:fJ (rX c)=true)(hs:Sl Int w M A n cp l):
 CB 62 #[Qz c,.slice A n cp,.int .i64 p] (.bool (jc c p l)) w:=by
 refine wid ?_;have U:=hs.small;obtain⟨W1,S,F1⟩:=dR ((Fr.nil w).a w (DY c) 59);have V:=aW F1;have HF:=Hd F1;have H:=fB hs hs.len hr;obtain⟨Z,q⟩:=aC (jc c p l);have HZ:=Hd (show Z=(decide ((n:Int)=p)&&l.all (oD c)) by rw[<-q,jc,hs.len]);rw[q];clear F1 hs hr q;by_cases g:((n:Nat):Int)=p;rotate_left;·have T:(((n:Nat):Int)!=p)=true:=fo.2 g;have O:=Hd g;clear g;refine ent func62 rfl ntmps62 ?_;gi_wp2;go_ret;exact⟨by rw[HZ.out,cE O.out];rfl,HF.out.bl⟩
 subst g;refine ent func62 rfl ntmps62 ?_;gi_wp2;gi_loopw[7] (fun i wr=>∃k:Nat,k<=n/\i=.int .i64 k/\Hid ((l.drop k).all (oD c)=l.all (oD c))/\Hid (Fr w wr [(w,DY c)])) (fun i _=>n-(intOf i).toNat);case atStart=>exact⟨0,bO _,rfl,Hd rfl,HF⟩
 case round=>
  obtain⟨k,R,rfl,h,f⟩:=hrel;have W:=aW f.out;by_cases G:k<n
  ·obtain⟨b,o,y,rfl,D,-,-,J⟩:=(H.a.go f.out.bl).pR G;have I:=iC (P:=oD c) J;obtain⟨z,t⟩:=aC (oD c y);have X:=VX c y wr.drew H.v;rw[t]at X;have L:=Hd X;have HY:=Hd2 I t;have v0:=ah D;have Y:=ah (f.out.aQ 0 0);have u1:=ah (f.out.aQ 0 1);have u2:=ah (f.out.aQ 0 2);have u3:=ah (f.out.aQ 0 3);have u4:=ah (f.out.aQ 0 4);have u5:=ah (f.out.aQ 0 5);have u6:=ah (f.out.aQ 0 6);clear D J I t X;cases z
   all_goals
    gi_wp2;refine ak [] [0,1,2,3,4,5,6] oF oF ?_;refine eH ?_;refine aH fun K E=>aA rfl rfl wy fun Q F=>?_;gi_wp2;refine Cl 111 L.out ?_;rintro e w2 ⟨rfl,s⟩;have C:=Hd (f.out.drew.go s);refine F _ _ ⟨?_,E _ _ ?_⟩;clear F Q E K;·exact a_ s _
    clear s;refine lit ?_;refine eH ?_;refine aK ?_;refine lit ?_;gi_wp2
   ·go_ret;exact⟨by rw[HZ.out,<-h.out,HY.a,HY.u];simp,C.out.bl⟩
   exact⟨⟨k+1,oE,by go_num,Hd (by rw[<-h.out,HY.a,HY.u,ff]),C⟩,by simp[intOf];omega⟩
  ·obtain rfl:k=n:=oE;have N:=Hd (show Z=true by rw[HZ.out,<-h.out,jr (by rw[H.b];exact bh _)];simp);clear R G;gi_wp2;go_ret;exact⟨by rw[N.out];rfl,f.out.bl⟩
theorem yA{n c d:Nat}{xs:List bW}(hx:Sl bW w M A n c xs)(hs:Sl Int w M B m d l):
 CB 61 #[.slice A n c,.slice B m d] (.bool (dV xs l)) w:=by
 refine wid ?_;have U:=hs.small;have V:=hx.small;have H:=h_ hx hx.len hs hs.len;obtain⟨Z,q⟩:=aC (dV xs l);have HZ:=Hd (show Z=(decide (m=n)&&(xs.zip l).all fun p=>countB p.1 p.2) by rw[<-q,dV,hs.len,hx.len]);rw[q];clear hs hx q;by_cases D:m=n;rotate_left;·have T:(((m:Nat):Int)!=((n:Nat):Int))=true:=fo.2 oE;have K:=Hd D;refine ent func61 rfl ntmps61 ?_;gi_wp2;go_ret;exact⟨by rw[HZ.out,cE K.out];rfl,bw _ _⟩
 subst D;refine ent func61 rfl ntmps61 ?_;gi_wp2;gi_loopw[5] (fun i wr=>∃k:Nat,k<=m/\i=.int .i64 k/\Hid (((xs.zip l).drop k).all (fun p=>countB p.1 p.2)=(xs.zip l).all fun p=>countB p.1 p.2)/\Hid (Below w w wr)) (fun i _=>m-(intOf i).toNat);case atStart=>exact⟨0,bO _,rfl,Hd rfl,Hd pd⟩
 case round=>
  obtain⟨k,O,rfl,g,f⟩:=hrel;by_cases s:k<m
  ·obtain⟨x,hx⟩:=dW xs k (by rw[H.b];exact s);obtain⟨b,o,y,rfl,v,-,-,I⟩:=(H.c.go f.out).pR s;obtain⟨b2,Q,R,rfl,C,F⟩:=(H.a.go f.out).get hx;obtain⟨rfl,-⟩:=aaJ C;have G:=iC (P:=fun p:bW×Int=>countB p.1 p.2) (oG hx I);obtain⟨t,S⟩:=aC x.2.2;have v0:=ah v;have v1:=ah (show wr.cell? ⟨b2,Q+k*3+2,none⟩=some (.int .i64 t) by rw[<-S];exact F.2 2 _ rfl);have HY:=Hd2 G (show countB x y=(decide (0<=y)&&decide (y<=t)) by rw[countB,S]);have h:=Hd f.out.drew;clear v I hx G C F S;by_cases E:y<0;·have L:decide (y<0)=true:=cw E;exact Bq
   have L:decide (y<0)=false:=cE E;by_cases z:t<y;·have N:decide (t<y)=true:=cw z;exact Bq
   have N:decide (t<y)=false:=cE z;gi_wp2;refine ak [] [0,1,2,3,4,5,6,7,8,9,10,11,12,13,14,15,16] oF oF ?_;repeat(first|refine jR ?_|refine dY ?_|refine jS ?_|refine dY ?_ rfl rfl (dU rfl (by(simp[yielded];rfl))))
   refine aK ?_;refine lit ?_;gi_wp2;exact⟨⟨k+1,oE,by go_num,Hd (by rw[<-g.out,HY.a,HY.u,cw (show 0<=y by omega),cw (show y<=t by omega)];rfl),h⟩,by simp[intOf];omega⟩
  ·obtain rfl:k=m:=oE;have J:=Hd (show Z=true by rw[HZ.out,<-g.out,jr (by rw[jx,H.b,H.w];omega)];simp);clear O s;gi_wp2;go_ret;exact⟨by rw[J.out];rfl,f.out⟩
structure jE(w:World)(M:List Nat)(c:dS)(s1 s2 s3 s4:dK):Prop where
 marks:Sl (List Int) w [] s1.A s1.n s1.c c.marks
 bonus:Sl Int w M s2.A s2.n s2.c c.bonus
 malus:Sl Int w M s3.A s3.n s3.c c.malus
 prev:Sl fC w M s4.A s4.n s4.c c.prev
theorem jE.go{w w':World}{M:List Nat}{c:dS}{s1 s2 s3 s4:dK}(h:jE w M c s1 s2 s3 s4)(hb:Below w w w'):jE w' M c s1 s2 s3 s4:=⟨h.marks.go hb,h.bonus.go hb,h.malus.go hb,h.prev.go hb⟩
abbrev dI(s1 s2 s3 s4:dK):List Value:= [.slice s1.A s1.n s1.c,.slice s2.A s2.n s2.c,.slice s3.A s3.n s3.c,.slice s4.A s4.n s4.c]
theorem Sl.tX{d:Nat}{bs:List (List Int)}{x:List Int}(h:Sl (List Int) w M B m d bs)(hk:bs[k]?=some x):
 ∃b o A n c,B=some ⟨b,o,none⟩/\w.cell? ⟨b,o+k,none⟩=some (.slice A n c)/\Sl Int w M A n c x:=by
 obtain⟨b,o,g,rfl,⟨A,n,c,rfl,f⟩,h2⟩:=h.get hk;exact⟨b,o,A,n,c,rfl,by have:=h2.c0 rfl;rwa [show Rep.sz (List Int)=1 from rfl,ij]at this,f⟩
theorem MJ{c:dS}{t1 t2 t3 t4:dK}{x:aJ}(hr:dG w M r s1 s2 s3 s4 s5 s6 s7)(hc:jE w M c t1 t2 t3 t4)(hx:r.rounds[i]?=some x)(hq:∀y,y∈r.aT->fJ (rX y)=true)(hM:b_ M w):
 CB 26 #[.agg (aV r s1 s2 s3 s4 s5 s6 s7).toArray,.int .i64 i,.agg (dI t1 t2 t3 t4).toArray] (.bool (kS r i x.2.1 c)) w:=by
 refine wid ?_;obtain⟨A1,W,c1⟩:=s1;obtain⟨A5,Y,c5⟩:=s5;obtain⟨B1,s,d1⟩:=t1;obtain⟨B4,v,d4⟩:=t4;have h1:Sl bT w M A1 W c1 r.aT:=hr.aT;have h5:Sl aJ w M A5 Y c5 r.rounds:=hr.rounds;have T:Sl (List Int) w [] B1 s d1 c.marks:=hc.marks;have U:Sl fC w M B4 v d4 c.prev:=hc.prev;have YZ:=T.small;have am:=U.small;have hi:i<Y:=by rw[<-h5.len];exact(bj.1 hx).1
 have JC:=h5.small;obtain⟨zb,aa⟩:=aC (dV r.bonus c.bonus);obtain⟨zm,ab⟩:=aC (dV r.malus c.malus);have X:(∀V,Below w w V->Calls prog 61 #[.slice s2.A s2.n s2.c,.slice t2.A t2.n t2.c] V fun e w'=>e=.returned (.bool (dV r.bonus c.bonus))/\Below V V w')/\(∀V,Below w w V->Calls prog 61 #[.slice s3.A s3.n s3.c,.slice t3.A t3.n t3.c] V fun e w'=>e=.returned (.bool (dV r.malus c.malus))/\Below V V w'):=⟨fun V hb=>yA (hr.bonus.go hb) (hc.bonus.go hb),fun V hb=>yA (hr.malus.go hb) (hc.malus.go hb)⟩;rw[aa,ab]at X;have t:=Hd X;obtain⟨W1,ap,F1⟩:=dR (((Fr.nil w).a w (aV r ⟨A1,W,c1⟩ s2 s3 s4 ⟨A5,Y,c5⟩ s6 s7) 28).a (w+1) (dI ⟨B1,s,d1⟩ t2 t3 ⟨B4,v,d4⟩) 42);have h:=aW F1;have F:=Hd F1;have H:=oK h1 h5 T U hM;have HL:=h_ h1.len T.len U.len hq;obtain⟨Z,hZ⟩:=aC (kS r i x.2.1 c);have HZ:=Hd (show Z=(decide (s=W)&&zb&&zm&&decide (v=i)&&((r.aT.zip c.marks).all fun q=>jc q.1 x.2.1 q.2)&&c.prev.all dF) by rw[<-hZ,kS,aa,ab,h1.len,T.len,U.len]);rw[hZ];have HX:=Hd hx;clear F1 h1 h5 T U hM hr hc hq hZ aa ab X hx;by_cases g1:s=W;rotate_left;·have an:(((s:Nat):Int)!=((W:Nat):Int))=true:=fo.2 oE;exact wL
 subst g1;cases zb;·exact wL
 cases zm;·exact wL
 by_cases g4:v=i;rotate_left;·have ao:(((v:Nat):Int)!=((i:Nat):Int))=true:=fo.2 oE;exact wL
 subst g4;refine ent func26 rfl ntmps26 ?_
 gi_wp2_with (first
  |(have g:=L.out;clear g;have X:=t.u _ F.out.bl;refine Cl 61 X ?_;clear X;rintro e C ⟨rfl,f⟩;replace F:=Hd (F.out.go f);have h:=aW F.out;clear f)
  |(have X:=t.a _ F.out.bl;refine Cl 61 X ?_;clear X;rintro e C ⟨rfl,f⟩;replace F:=Hd (F.out.go f);have h:=aW F.out;have L:=Hd trivial;clear f)
  |(refine⟨bq,?_⟩))
 have ad:=Hd (show Z=(((r.aT.zip c.marks).all fun q=>jc q.1 x.2.1 q.2)&&c.prev.all dF) by rw[HZ.out];simp);clear HZ t L;obtain⟨R,hR⟩:∃R:List (Nat×List Value), [(w.heap.size,aV r ⟨A1,s,c1⟩ s2 s3 s4 ⟨A5,Y,c5⟩ s6 s7),(w+1,dI ⟨B1,s,d1⟩ t2 t3 ⟨B4,v,d4⟩)]=R:=⟨_,rfl⟩;have Q:=Hd (show ∀V,Fr w V R↔Fr w V [(w,aV r ⟨A1,s,c1⟩ s2 s3 s4 ⟨A5,Y,c5⟩ s6 s7),(w+1,dI ⟨B1,s,d1⟩ t2 t3 ⟨B4,v,d4⟩)]from fun V=>by rw[hR]);replace F:=Hd ((Q.out _).2 F.out);clear hR h;gi_loopw[7] (fun i wr=>∃k:Nat,k<=s/\i=.int .i64 k/\Hid (((r.aT.zip c.marks).drop k).all (fun q=>jc q.1 x.2.1 q.2)=(r.aT.zip c.marks).all fun q=>jc q.1 x.2.1 q.2)/\Hid (Fr w wr R)) (fun i _=>s-(intOf i).toNat);case atStart=>exact⟨0,bO _,rfl,Hd rfl,F⟩
 case round=>
  obtain⟨k,hk,rfl,E,hF⟩:=hrel;replace F:=Hd ((Q.out _).1 hF.out);have h:=aW F.out;by_cases N:k<s
  ·obtain⟨y,I⟩:=dW r.aT k (by rw[HL.a];exact N);obtain⟨l,hl⟩:=dW c.marks k (by rw[HL.b];exact N);obtain⟨b,o,es,rfl,af,G⟩:=(H.a.go F.out.bl).get I;obtain⟨rfl,-⟩:=lT af;obtain⟨b2,o2,Al,nl,cl,rfl,c0,aj⟩:=(H.c.go F.out.bl).tX hl;obtain⟨b3,o3,D,m,e,rfl,⟨-,y1,-⟩,-⟩:=(H.b.go F.out.bl).iw HX.out;have S:=iC (P:=fun q:bT×List Int=>jc q.1 x.2.1 q.2) (oG I hl);obtain⟨z,J⟩:=aC (jc y x.2.1 l);have X:=Lp y x.2.1 (HL.w y (aR I)) (aj.go pd.drew);rw[J]at X;have al:=Hd X;have HY:=Hd2 S J;have v0:=ah c0;have v1:=ah y1;have e0:=ah (show wr.cell? ⟨b,o+k*7,none⟩=some (.string y.1)from G.2 0 _ rfl);have e1:=ah (show wr.cell? ⟨b,o+k*7+1,none⟩=some (.int .i64 y.2.1)from G.2 1 _ rfl);have e2:=ah (show wr.cell? ⟨b,o+k*7+2,none⟩=some (.int .i64 y.2.2.1)from G.2 2 _ rfl);have e3:=ah (show wr.cell? ⟨b,o+k*7+3,none⟩=some (.int .i64 y.2.2.2.1)from G.2 3 _ rfl);have e4:=ah (show wr.cell? ⟨b,o+k*7+4,none⟩=some (.int .i64 y.2.2.2.2.1)from G.2 4 _ rfl);have e5:=ah (show wr.cell? ⟨b,o+k*7+5,none⟩=some (.int .i64 y.2.2.2.2.2.1)from G.2 5 _ rfl);have e6:=ah (show wr.cell? ⟨b,o+k*7+6,none⟩=some (.bool y.2.2.2.2.2.2)from G.2 6 _ rfl);have u1:=ah (F.out.aQ 0 1);have u5:=ah (F.out.aQ 0 5);have u0:=ah (F.out.aQ 1 0);clear c0 y1 I hl S J X af G aj;cases z
   all_goals
    gi_wp2;refine ak [] [0,1,2,3,4,5,6,7,8,9,10,11,12,13,14,15,16,17] oF oF ?_;refine eH ?_;refine aH fun K hK=>aA rfl rfl wy fun K' ae=>?_;gi_wp2;refine Cl 62 al.out ?_;rintro e C ⟨rfl,f⟩;have O:=Hd (F.out.drew.go f);refine ae _ _ ⟨?_,hK _ _ ?_⟩;clear ae K' hK K;·exact a_ f _
    clear f;refine lit ?_;refine eH ?_;refine aK ?_;refine lit ?_;gi_wp2
   ·go_ret;exact⟨by rw[ad.out,<-E.out,HY.a,HY.u];simp,O.out.bl⟩
   exact⟨⟨k+1,oE,by go_num,Hd (by rw[<-E.out,HY.a,HY.u,ff]),Hd ((Q.out _).2 O.out)⟩,by simp[intOf];omega⟩
  ·obtain rfl:k=s:=oE;have HE:=Hd (show Z=c.prev.all dF by rw[ad.out,<-E.out,jr (by rw[jx,HL.a,HL.b];omega)];simp);clear hk N E;gi_wp2;clear h;gi_loopw[8] (fun i wr=>∃j:Nat,j<=v/\i=.int .i64 j/\Hid ((c.prev.drop j).all dF=c.prev.all dF)/\Hid (Fr w wr R)) (fun i _=>v-(intOf i).toNat);case atStart=>exact⟨0,bO _,rfl,Hd rfl,hF⟩
   case round=>
    obtain⟨j,hj,rfl,E,hF⟩:=hrel;replace F:=Hd ((Q.out _).1 hF.out);have h:=aW F.out;by_cases N:j<v
    ·obtain⟨y,I⟩:=dW c.prev j (by rw[HL.c];exact N);obtain⟨b,o,E1,n1,a1,E2,n2,a2,rfl,x0,x1,x2,x3,ag,ai⟩:=(H.d.go F.out.bl).MG I;have S:=iC (P:=dF) I;have ac:=Hd (MI (p:=y.1.1) (q:=y.2.1) (H.x.le F.out.bl.size) ag ai);obtain⟨z,J⟩:=aC (dF ((y.1.1,y.1.2),(y.2.1,y.2.2)));rw[J]at ac;have HY:=Hd2 S (show dF y=z from J);clear I S J ag ai;cases z
     all_goals gi_wp2_with (first
      |(refine Cl 63 ac.out ?_;rintro e C ⟨rfl,f⟩;simp only[qM,lL,nA,fT];have O:=Hd (F.out.go f);clear f)
      |fail)
     ·go_ret;exact⟨by rw[HE.out,<-E.out,HY.a,HY.u];simp,O.out.bl⟩
     exact⟨⟨j+1,oE,by go_num,Hd (by rw[<-E.out,HY.a,HY.u,ff]),Hd ((Q.out _).2 O.out)⟩,by simp[intOf];omega⟩
    ·obtain rfl:j=v:=oE;have HQ:=Hd (show Z=true by rw[HE.out,<-E.out,jr (by rw[HL.c];exact bh _)]);clear hj N E;gi_wp2;go_ret;exact⟨by rw[HQ.out];rfl,F.out.bl⟩
end
