/- Lemmas and walks; no statement is proved here. -/
import Derived.Test.YtlcgbfkdnmdigaaGreatDoorM30
import Derived.Test.YtlcgbfkdnmdigaaGreatDoorM31
set_option linter.unusedVariables false
set_option linter.unusedSimpArgs false
set_option maxRecDepth 20000
set_option maxHeartbeats 6000000
namespace Go.Proofs.YtlcgbfkdnmdigaaGreatDoor
open Go.Proofs.Tryz Go.RowKit Go.Shelf
variable {M:List Nat}{r:aS}{s1 s2 s3 s4 s5 s6 s7:dK}{w:World}
section
attribute [local go_sem] Oper.semAt_some
set_option maxHeartbeats 8000000 in
theorem Ov{M':List Nat}{x4 x5:dK}(hr:dG w M r s1 s2 s3 s4 s5 s6 s7)(h4:Sl dA w M' x4.A x4.n x4.c (Fe r).ties)(h5:Sl aJ w M' x5.A x5.n x5.c (Fe r).rounds):
 CB 48 #[.agg (aV (Fe r) s1 s2 s3 x4 x5 s6 s7).toArray,.agg (aV r s1 s2 s3 s4 s5 s6 s7).toArray] (.bool (xX r)) w:=by
 refine wid ?_;obtain⟨A1,q1,c1⟩:=s1;obtain⟨A2,q2,c2⟩:=s2;obtain⟨A3,q3,c3⟩:=s3;obtain⟨A4,q4,c4⟩:=s4;obtain⟨A5,q5,c5⟩:=s5;obtain⟨A6,q6,c6⟩:=s6;obtain⟨A7,q7,c7⟩:=s7;obtain⟨B4,p4,d4⟩:=x4;obtain⟨B5,p5,d5⟩:=x5;have g1:Sl bT w M A1 q1 c1 r.aT:=hr.aT;have g2:Sl bW w M A2 q2 c2 r.bonus:=hr.bonus;have g3:Sl bW w M A3 q3 c3 r.malus:=hr.malus;have g4:Sl dA w M A4 q4 c4 r.ties:=hr.ties;have g5:Sl aJ w M A5 q5 c5 r.rounds:=hr.rounds;have g6:Sl Int w M A6 q6 c6 r.prizes:=hr.prizes;have g7:Sl Int w M A7 q7 c7 r.points:=hr.points;have h4:Sl dA w M' B4 p4 d4 (r.ties.map (yV r)):=h4;have h5:Sl aJ w M' B5 p5 d5 (r.rounds.map (vO r)):=h5;obtain rfl:q4=p4:=by have a:=h4.len;have b:=g4.len;rw[List.length_map]at a;omega
 obtain rfl:q5=p5:=by have a:=h5.len;have b:=g5.len;rw[List.length_map]at a;omega
 have hs1:=g1.small;have hs5:=g5.small;have HL:=Hd2 g1.len g5.len;have HC5:=Hd2 g5 h5;have HI:=Hd2 g6 g7;have Z4:=Hd g1;have cs:=RH;show CallsIn _ _ _ _ #[.agg #[.string r.name,.slice A1 q1 c1,.slice A2 q2 c2,.slice A3 q3 c3,.slice B4 q4 d4,.slice B5 q5 d5,.slice A6 q6 c6,.slice A7 q7 c7,.int .i64 r.best],.agg #[.string r.name,.slice A1 q1 c1,.slice A2 q2 c2,.slice A3 q3 c3,.slice A4 q4 c4,.slice A5 q5 c5,.slice A6 q6 c6,.slice A7 q7 c7,.int .i64 r.best]] _ _;obtain⟨W1,hW1,F1⟩:=dR (((Fr.nil w).a w.heap.size [.string r.name,.slice A1 q1 c1,.slice A2 q2 c2,.slice A3 q3 c3,.slice B4 q4 d4,.slice B5 q5 d5,.slice A6 q6 c6,.slice A7 q7 c7,.int .i64 r.best] 28).a (w.heap.size+1) [.string r.name,.slice A1 q1 c1,.slice A2 q2 c2,.slice A3 q3 c3,.slice A4 q4 c4,.slice A5 q5 c5,.slice A6 q6 c6,.slice A7 q7 c7,.int .i64 r.best] 28);obtain⟨z,hz⟩:=aC (r.ties.all fun t=>t.2.all (xU r));have o1:=aW F1;have HX:=Hd (show xX r=(z&&r.rounds.all (KE r)) by rw[xX,hz]);have HC:=fB (zT (g2.go F1.bl)) g3 (Hl h4 g4);have H3:=fB g3 h4 g4;have HF:=Hd F1;obtain⟨Z,hZ⟩:=aC (xX r);rw[hZ]at HX |-;have HTZ:=Hd hz;clear g1 g2 g3 g4 g5 g6 g7 h4 h5 hr F1 hz hZ;cases z
 all_goals
  refine ent func48 rfl ntmps48 ?_
  gi_wp2_with (first
   |(have g:=F3.out;clear g;refine Cl 104 (Hl (H3.out.2.1.go F3.out.bl) (H3.out.2.2.go F3.out.bl)) ?_;rintro e w4 ⟨rfl,hb4⟩;rw[HTZ.out];have F4:=Hd (F3.out.go hb4);have o4:=aW F4.out;clear hb4)
   |(have g:=F2.out;clear g;refine Cl 103 (zT (H3.out.1.go F2.out.bl)) ?_;rintro e w3 ⟨rfl,hb3⟩;have F3:=Hd (F2.out.go hb3);have o3:=aW F3.out;clear hb3)
   |(refine Cl 103 HC.out.1 ?_;rintro e w2 ⟨rfl,hb2⟩;have F2:=Hd (HF.out.go hb2);have o2:=aW F2.out;clear hb2)
   |fail)
 ·go_ret;exact⟨by rw[HX.out];rfl,F4.out.bl⟩
 clear o1 o2 o3 o4 hW1;gi_loopw[5] (fun i wr=>∃k:Nat,k<=q1/\i=.int .i64 k/\Hid (Fr w wr [(w.heap.size, [.string r.name,.slice A1 q1 c1,.slice A2 q2 c2,.slice A3 q3 c3,.slice B4 q4 d4,.slice B5 q5 d5,.slice A6 q6 c6,.slice A7 q7 c7,.int .i64 r.best]),(w.heap.size+1, [.string r.name,.slice A1 q1 c1,.slice A2 q2 c2,.slice A3 q3 c3,.slice A4 q4 c4,.slice A5 q5 c5,.slice A6 q6 c6,.slice A7 q7 c7,.int .i64 r.best])])) (fun i _=>q1-(intOf i).toNat);case atStart=>exact⟨0,Nat.zero_le _,rfl,F4⟩
 case round=>
  obtain⟨k,hk,rfl,hF⟩:=hrel;have o1:=aW hF.out;by_cases hlt:k<q1;·obtain⟨x,hx⟩:=dW r.aT k (by rw[HL.out.1];exact hlt);obtain⟨b,o,es,rfl,hes,hrw⟩:=(Z4.out.go hF.out.bl).get hx;obtain⟨rfl,-⟩:=lT hes;have v0:=ah (show wr.cell? ⟨b,o+k*7,none⟩=some (.string x.1)from hrw.2 0 _ rfl);have v1:=ah (show wr.cell? ⟨b,o+k*7+1,none⟩=some (.int .i64 x.2.1)from hrw.2 1 _ rfl);have v2:=ah (show wr.cell? ⟨b,o+k*7+2,none⟩=some (.int .i64 x.2.2.1)from hrw.2 2 _ rfl);have v3:=ah (show wr.cell? ⟨b,o+k*7+3,none⟩=some (.int .i64 x.2.2.2.1)from hrw.2 3 _ rfl);have v4:=ah (show wr.cell? ⟨b,o+k*7+4,none⟩=some (.int .i64 x.2.2.2.2.1)from hrw.2 4 _ rfl);have v5:=ah (show wr.cell? ⟨b,o+k*7+5,none⟩=some (.int .i64 x.2.2.2.2.2.1)from hrw.2 5 _ rfl);have v6:=ah (show wr.cell? ⟨b,o+k*7+6,none⟩=some (.bool x.2.2.2.2.2.2)from hrw.2 6 _ rfl);have v7:=ah (hF.out.aQ 0 1);have v8:=ah (hF.out.aQ 1 1);have HD:=Hd hF.out.drew;clear hx hes hrw;gi_wp2;refine aP [] 11 (by kernel_rfl) (by kernel_rfl) ?_;refine ay 0 ?_;refine ay 1 ?_;refine ay 2 ?_;refine ay 3 ?_;refine ay 4 ?_;refine ay 5 ?_;refine ay 6 ?_;refine ay 7 ?_;refine ay 8 ?_;refine ay 9 ?_;refine ay 10 ?_;refine iq 0 ?_;refine tail_nil _ ?_;simp only[cu];gi_wp2;exact⟨⟨k+1,by omega,by go_num,HD⟩,by simp[intOf];omega⟩
  ·obtain rfl:k=q1:=by omega
   clear hk hlt cs;gi_wp2;clear o1;gi_loopw[6] (fun i wr=>∃j:Nat,j<=q5/\i=.int .i64 j/\Hid ((r.rounds.drop j).all (KE r)=r.rounds.all (KE r))/\Hid (Fr w wr [(w.heap.size, [.string r.name,.slice A1 k c1,.slice A2 q2 c2,.slice A3 q3 c3,.slice B4 q4 d4,.slice B5 q5 d5,.slice A6 q6 c6,.slice A7 q7 c7,.int .i64 r.best]),(w.heap.size+1, [.string r.name,.slice A1 k c1,.slice A2 q2 c2,.slice A3 q3 c3,.slice A4 q4 c4,.slice A5 q5 c5,.slice A6 q6 c6,.slice A7 q7 c7,.int .i64 r.best])])) (fun i _=>q5-(intOf i).toNat);case atStart=>exact⟨0,Nat.zero_le _,rfl,Hd rfl,hF⟩
   case round=>
    obtain⟨j,hj,rfl,hS,hF⟩:=hrel;have o1:=aW hF.out;by_cases hlt:j<q5
    ·obtain⟨y,hy⟩:=dW r.rounds j (by rw[HL.out.2];exact hlt);have hy2:(r.rounds.map (vO r))[j]?=some (vO r y):=by rw[List.getElem?_map,hy];rfl
     have hstep:=iC (P:=KE r) hy;obtain⟨yn,yp,yq,yc,wQ,zo,ys,yt,yno⟩:=y;obtain⟨VD,hno⟩:=aC (vO r (yn,yp,yq,yc,wQ,zo,ys,yt,yno)).2.2.2.2.2.2.2.2;obtain⟨E,hE⟩:=aC (fH (dP r) (dQ r) ys);have hxe:vO r (yn,yp,yq,yc,wQ,zo,ys,yt,yno)=(yn,yp,yq,yc,wQ,zo,E,yt,VD):=by rw[<-hno,<-hE];rfl
     have hfx:KE r (yn,yp,yq,yc,wQ,zo,ys,yt,yno)=(decide (VD=yno)&&fE E ys):=by rw[KE,hno,<-hE]
     rw[hxe]at hy2;obtain⟨b1,u1,D1,m1,e1,rfl,⟨x0,x1,x2,x3,x4,x5⟩,⟨x6,x7,x8,x9,x10⟩,⟨x11,x12⟩,-,-,hs1'⟩:=(HC5.out.2.go hF.out.bl).iw hy2;obtain⟨b2,u2,D2,m2,e2,rfl,⟨y0,y1,y2,y3,y4,y5⟩,⟨y6,y7,y8,y9,Qu⟩,⟨y11,y12⟩,-,-,hs2'⟩:=(HC5.out.1.go hF.out.bl).iw hy;simp only[au]at x0 x1 x2 x3 x4 x5 x6 x7 x8 x9 x10 x11 x12 y0 y1 y2 y3 y4 y5 y6 y7 y8 y9 Qu y11 y12 hs1' hs2';obtain⟨q,hq⟩:=aC (decide (VD=yno)&&fE E ys);have HC:=Hd (Ot (n:=yn) (t:=yt) (p:=yp) (q:=yq) (c:=yc) (a:=wQ) (b:=zo) (VD:=VD) (no2:=yno) (hs1'.go (Below.refl _ _).drew) (hs2'.go (Below.refl _ _).drew));rw[hq]at HC;have HQ:=Hd2 (hfx.trans hq) hstep;have v0:=ah x0;have v1:=ah x1;have v2:=ah x2;have v3:=ah x3;have v4:=ah x4;have v5:=ah x5;have v6:=ah x6;have v7:=ah x7;have v8:=ah x8;have v9:=ah x9;have v10:=ah x10;have v11:=ah x11;have v12:=ah x12;have t0:=ah y0;have t1:=ah y1;have t2:=ah y2;have t3:=ah y3;have t4:=ah y4;have t5:=ah y5;have t6:=ah y6;have t7:=ah y7;have t8:=ah y8;have t9:=ah y9;have t10:=ah Qu;have t11:=ah y11;have t12:=ah y12;have z1:=ah (hF.out.aQ 0 5);have z2:=ah (hF.out.aQ 1 5);clear hy hy2 hstep hno hE hxe hfx hq hs1' hs2' x0 x1 x2 x3 x4 x5 x6 x7 x8 x9 x10 x11 x12 y0 y1 y2 y3 y4 y5 y6 y7 y8 y9 Qu y11 y12;cases q
     all_goals
      gi_wp2;refine ak [] [0,1,2,3,4,5,6,7,8,9,10,11] (by kernel_rfl) (by kernel_rfl) ?_;refine eH ?_;refine aH fun K hK=>aA rfl rfl wy fun K' hK'=>?_;gi_wp2;refine Cl 105 HC.out ?_;rintro e w2 ⟨rfl,hb2⟩;have F2:=Hd (hF.out.drew.go hb2)
      refine hK' _ _ ⟨?_,hK _ _ ?_⟩;clear hK' K' hK K;·exact Keeps.of_below hb2 _
      clear hb2;refine lit ?_;refine eH ?_;refine aK ?_;refine lit ?_;gi_wp2
     ·go_ret;exact⟨by rw[HX.out,<-hS.out,HQ.out.2,HQ.out.1];rfl,F2.out.bl⟩
     exact⟨⟨j+1,by omega,by go_num,Hd (by rw[<-hS.out,HQ.out.2,HQ.out.1,Bool.true_and]),F2⟩,by simp[intOf];omega⟩
    ·obtain rfl:j=q5:=by omega
     have HE:=Hd (show Z=true by rw[HX.out,<-hS.out,jr (by rw[HL.out.2];exact Nat.le_refl _)];rfl);clear hj hlt
     gi_wp2_with (first
      |(have g:=G2.out;clear g;refine Cl 106 (Dq (HI.out.2.go G2.out.bl)) ?_;rintro e w3 ⟨rfl,hb3⟩;have G3:=Hd (G2.out.go hb3);clear hb3)
      |(refine Cl 106 (Dq (HI.out.1.go hF.out.bl)) ?_;rintro e w2 ⟨rfl,hb2⟩;have G2:=Hd (hF.out.go hb2);have o2:=aW G2.out;clear hb2)
      |fail)
     go_ret;exact⟨by rw[HE.out];rfl,G3.out.bl⟩
theorem VJ(hr:dG w M r s1 s2 s3 s4 s5 s6 s7)(hw:RF r)(hM:b_ M w):
 Calls prog 47 #[.agg (aV r s1 s2 s3 s4 s5 s6 s7).toArray] w fun e w'=>∃v,e=.returned (.tuple #[v,.int .i64 (jJ r)])/\Below w.heap.size w w'/\(jJ r=0->∃x4 x5:dK,v=.agg (aV (Fe r) s1 s2 s3 x4 x5 s6 s7).toArray/\Sl dA w' M x4.A x4.n x4.c (Fe r).ties/\Sl aJ w' M x5.A x5.n x5.c (Fe r).rounds)/\(¬jJ r=0->v=.agg nR.toArray):=by
 cases hs:fD r with
 |true=>refine U.Ou hr hw.parts ?_ hs hw.NT hM;have a:=hr.aT.len;have b:=hr.bonus.len;have c:=hr.malus.len;have d:=hr.ties.len;have e:=hr.rounds.len;have:=hw.len;omega
 |false=>
  have hc:jJ r=2:=by unfold jJ;rw[if_pos hs]
  refine(Vb hr hw.parts hs).mono ?_;rintro e w' ⟨rfl,hb⟩;exact⟨_,by rw[hc],hb,fun h=>(by rw[hc]at h;cases h),fun _=>rfl⟩
theorem Ox(hr:dG w M r s1 s2 s3 s4 s5 s6 s7)(hw:RF r)(hM:b_ M w):
 CB 20 #[.agg (aV r s1 s2 s3 s4 s5 s6 s7).toArray] (.int .i64 (xY r)) w:=by
 refine wid ?_;obtain⟨W1,hW1,F1⟩:=dR ((Fr.nil w).a w.heap.size (aV r s1 s2 s3 s4 s5 s6 s7) 28);have o1:=aW F1;have HC:=Hd (VJ (hr.go F1.bl) hw (hM.le F1.bl.size));obtain⟨K,hK⟩:=aC (jJ r);rw[hK]at HC;have HF:=Hd F1;have HR:=Hd hr;obtain⟨Z,hZ⟩:=aC (xY r);rw[hZ];by_cases h0:K=0
 ·subst h0;obtain⟨q,hq⟩:=aC (xX r);have HZ:=Hd (show Z=if q=true then 0 else 140 by rw[<-hZ,xY,if_pos hK,hq]);have HQ:=Hd hq;clear F1 hr hw hM hZ hK hq;cases q
  all_goals
   refine ent func20 rfl ntmps20 ?_
   gi_wp2_with (first
    |(have g:=HX.out;clear g;refine Cl 48 HX.out ?_;rintro e w4 ⟨rfl,hb4⟩;rw[HQ.out];have HB4:=Hd (HB3.out.trans (hb4.mono HB3.out.size));clear hb4)
    |(refine Cl 47 HC.out ?_;rintro e w2 ⟨v,rfl,hb2,hx,-⟩;obtain⟨x4,x5,rfl,ht,hy⟩:=hx rfl;obtain⟨y3,hy3⟩:=aC w2.heap.size;obtain⟨w3,hw3,hb3,F3⟩:=fP (w:=w2) ((HF.out.go hb2).a y3 (aV (Fe r) s1 s2 s3 x4 x5 s6 s7) 28 hy3.symm);have o3:=aW F3;have HX:=Hd (Ov (HR.out.go F3.bl) (ht.go hb3) (hy.go hb3));have HB3:=Hd F3.bl;clear hb2 hb3 ht hy F3 hx)
    |fail)
   go_ret;exact⟨by rw[HZ.out];rfl,HB4.out⟩
 ·have HZ:=Hd (show Z=K by rw[<-hZ,xY,if_neg (by rw[hK];exact h0),hK]);have HH:=Hd h0;have kb:(K !=0)=true:=bne_iff_ne.2 h0;clear F1 hr hw hM hZ hK;refine ent func20 rfl ntmps20 ?_
  gi_wp2_with (first
   |(refine Cl 47 HC.out ?_;rintro e w2 ⟨v,rfl,hb2,-,hx⟩;obtain rfl:=hx HH.out;obtain⟨y3,hy3⟩:=aC w2.heap.size;obtain⟨w3,hw3,hb3,F3⟩:=fP (w:=w2) ((HF.out.go hb2).a y3 nR 28 hy3.symm);have o3:=aW F3;have pn0:=aN (F3.aQ 1 0);have pn1:=aN (F3.aQ 1 1);have pn2:=aN (F3.aQ 1 2);have pn3:=aN (F3.aQ 1 3);have pn4:=aN (F3.aQ 1 4);have pn5:=aN (F3.aQ 1 5);have pn6:=aN (F3.aQ 1 6);have pn7:=aN (F3.aQ 1 7);have pn8:=aN (F3.aQ 1 8);have HB3:=Hd F3.bl;clear hb3 F3;clear hb2 hx)
   |fail)
  go_ret;exact⟨by rw[HZ.out];rfl,HB3.out⟩
end
end Go.Proofs.YtlcgbfkdnmdigaaGreatDoor
