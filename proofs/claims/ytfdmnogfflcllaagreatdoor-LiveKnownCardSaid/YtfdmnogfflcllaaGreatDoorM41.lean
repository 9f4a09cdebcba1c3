/- Lemmas. -/
import Derived.Test.YtfdmnogfflcllaaGreatDoorM40
set_option linter.unusedVariables false
set_option linter.unusedSimpArgs false
set_option maxRecDepth 100000
set_option maxHeartbeats 20000000
namespace Go.Proofs.YtfdmnogfflcllaaGreatDoor
open Go.Proofs.Tryz Go.RowKit Go.Shelf
theorem AY{p:Prop}(h:p:=by
 refine ent func7 rfl ntmps7 ?_
 gi_wp2_with (first
  |(refine Cl 24 t.out ?_;rintro e X f;obtain⟨K,rfl,g,d⟩:=f.of;replace F:=Hd (F.out.go d);have E:=aW F.out;have s:=Hd g;clear d f g;obtain⟨z,m⟩:=aC (K !=0);cases z)
  |(refine⟨bq,?_⟩))
 ·go_ret;exact iD.bad rfl oR F.out.bl
 go_ret;exact iD.bad rfl (fo.1 m) F.out.bl):p:=h
abbrev aM:=List (List Int)×List Int×List Int×List fC
def toC(x:aM):dS:=⟨x.1,x.2.1,x.2.2.1,x.2.2.2⟩
section
variable {w:World}{M:List Nat}{x:aM}{t1 t2 t3 t4:dK}
theorem aaK{cs:List Value}(h:Rep.rd w M x cs):∃t1 t2 t3 t4:dK,cs=dI t1 t2 t3 t4/\jE w M (toC x) t1 t2 t3 t4:=by obtain⟨_,_,rfl,⟨a,c,C,rfl,b⟩,_,_,rfl,⟨A2,n2,c2,rfl,h2⟩,_,_,rfl,⟨A3,n3,c3,rfl,h3⟩,A4,n4,c4,rfl,h4⟩:=h;exact⟨⟨a,c,C⟩,⟨A2,n2,c2⟩,⟨A3,n3,c3⟩,⟨A4,n4,c4⟩,rfl,b.less pf,h2,h3,h4⟩
theorem acW(h:jE w M (toC x) t1 t2 t3 t4)(hm:Sl (List Int) w M t1.A t1.n t1.c x.1):Rep.rd w M x (dI t1 t2 t3 t4):=⟨[t1.v],_,rfl,⟨_,_,_,rfl,hm⟩, [t2.v],_,rfl,⟨_,_,_,rfl,h.bonus⟩, [t3.v],_,rfl,⟨_,_,_,rfl,h.malus⟩,_,_,_,rfl,h.prev⟩
theorem Sl.abJ{A:Option Addr}{n c k:Nat}{l:List aM}(h:Sl aM w M A n c l)(hk:l[k]?=some x):∃b o,∃t1 t2 t3 t4:dK,A=some ⟨b,o,none⟩/\(w.cell? ⟨b,o+k*4,none⟩=some t1.v/\w.cell? ⟨b,o+k*4+1,none⟩=some t2.v/\w.cell? ⟨b,o+k*4+2,none⟩=some t3.v/\w.cell? ⟨b,o+k*4+3,none⟩=some t4.v)/\jE w M (toC x) t1 t2 t3 t4:=by obtain⟨b,o,e,rfl,a,d⟩:=h.get hk;obtain⟨t1,t2,t3,t4,rfl,I⟩:=aaK a;exact⟨b,o,t1,t2,t3,t4,rfl,⟨d.2 0 _ rfl,d.2 1 _ rfl,d.2 2 _ rfl,d.2 3 _ rfl⟩,I⟩
end
section
attribute [local go_sem] cK
section
variable {M:List Nat}{r:aS}{s1 s2 s3 s4 s5 s6 s7:dK}{w:World}{A:Option Addr}{n cp:Nat}{l:List aM}
def FwL(r:aS)(l:List aM):Prop:=l.length<=6/\∀c,c∈l->yI r (toC c)
theorem aeF(hr:dG w M r s1 s2 s3 s4 s5 s6 s7)(hl:Sl aM w M A n cp l)(hM:b_ M w):
 Calls prog 6 #[.agg (aV r s1 s2 s3 s4 s5 s6 s7).toArray,.slice A n cp] w (Says (FwL r l) w):=by
 refine wid ?_;obtain⟨P,hP⟩:=aC (FwL r l);rw[hP];obtain⟨W1,an,F1⟩:=dR ((Fr.nil w).a w (aV r s1 s2 s3 s4 s5 s6 s7) 28);have o1:=aW F1;have F:=Hd F1;have ao:=hl.small;have H:=h_ hr hl hM hl.len;have HP:=Hd hP;clear F1 hr hl hM hP;by_cases h6:((n:Nat):Int)>6;·refine ent func6 rfl ntmps6 ?_;gi_wp2;go_ret;exact Says.no rfl F.out.bl
 obtain⟨Q,hQ⟩:∃Q:Nat->Prop,∀k,Q k↔∀x,x∈l.take k->yI r (toC x):=⟨_,fun _=>oA⟩;have D:=Hd hQ;obtain⟨R,hR⟩:∃R:List Value,aV r s1 s2 s3 s4 s5 s6 s7=R:=⟨_,rfl⟩;have q:=Hd (show ∀V,Fr w V [(w.heap.size,R)]↔Fr w V [(w,aV r s1 s2 s3 s4 s5 s6 s7)]from fun V=>by rw[hR]);have X:=Hd ((q.out _).2 F.out);clear hQ hR;refine ent func6 rfl ntmps6 ?_;gi_wp2;clear o1;gi_loopw[5] (fun i wr=>∃k:Nat,k<=n/\i=.int .i64 k/\Hid (Q k)/\Hid (Fr w wr [(w.heap.size,R)])) (fun i _=>n-(intOf i).toNat);case atStart=>exact⟨0,bO _,rfl,Hd ((D.out 0).2 oO),X⟩
 case round=>
  obtain⟨k,hk,rfl,hT,Y⟩:=hrel;have F:=Hd ((q.out _).1 Y.out);by_cases E:k<n
  ·obtain⟨x,hx⟩:=dW l k (by rw[H.w];exact E);obtain⟨b,o,t1,t2,t3,t4,rfl,⟨s,t,u,v⟩,hc⟩:=(H.b.go F.out.bl).abJ hx;have HC:=Hd (zH ((H.a.go F.out.bl).go (bw wr wr).drew) (hc.go (bw wr wr).drew));have I:=ah (F.out.aQ 0 0);have J:=ah (F.out.aQ 0 1);have L:=ah (F.out.aQ 0 2);have N:=ah (F.out.aQ 0 3);have O:=ah (F.out.aQ 0 4);have S:=ah (F.out.aQ 0 5);have T:=ah (F.out.aQ 0 6);have U:=ah (F.out.aQ 0 7);have W:=ah (F.out.aQ 0 8);have v0:=ah s;have v1:=ah t;have v2:=ah u;have v3:=ah v;have HX:=Hd hx;clear hx s t u v hc;gi_wp2;refine ak [] (List.range 7) oF oF ?_;refine eH ?_;refine aH fun K f=>aA rfl rfl wy fun m d=>?_;gi_wp2;refine Cl 23 HC.out ?_;rintro e w2 C;obtain⟨b,rfl,hb,B⟩:=C.of;have F2:=Hd (F.out.drew.go B);have HB:=Hd hb;refine d _ _ ⟨?_,f _ _ ?_⟩;clear d m f K;·exact a_ B _
   clear hb B C I J L N O S T U W v0 v1 v2 v3;cases b
   all_goals
    refine lit ?_;refine eH ?_;refine aK ?_;refine lit ?_;gi_wp2
   ·go_ret;exact Says.no rfl F2.out.bl
   exact⟨⟨k+1,oE,by go_num,Hd ((D.out _).2 (bY HX.out ((D.out k).1 hT.out) (HB.out oY))),Hd ((q.out _).2 F2.out)⟩,by simp[intOf];omega⟩
  ·obtain rfl:k=n:=oE;have HE:=Hd (show P by
    rw[<-HP.out];refine⟨by rw[H.w];omega,?_⟩;have h:=(D.out k).1 hT.out
    rwa [bL (by rw[H.w];exact bh _)]at h)
   have o1:=aW F.out;have ae:=Hd (abn (H.a.go F.out.bl) (H.c.le F.out.bl.size));clear hk E hT
   gi_wp2_with (first
    |(refine Cl 24 ae.out ?_;rintro e w2 C;obtain⟨K,rfl,f,B⟩:=C.of;replace F:=Hd (F.out.go B);have o2:=aW F.out;have HK:=Hd f;clear B C f;obtain⟨z,G⟩:=aC (K !=0);cases z)
    |fail)
   rotate_left;·go_ret;exact Says.yes rfl HE.out F.out.bl
   have ab:K=0:=by simpa using G
   have HS:=Hd (HK.out.1 ab);subst ab;clear G;have X:=Hd ((q.out _).2 F.out);have ac:=H.a.aT.len;have af:=Hd ac;have am:=H.a.aT.small;clear o2 F ac;gi_loopw[6] (fun i wr=>∃j:Nat,j<=k/\i=.int .i64 j/\Hid (Fr w wr [(w.heap.size,R)])) (fun i _=>k-(intOf i).toNat);case atStart=>exact⟨0,bO _,rfl,X⟩
   case round=>
    obtain⟨j,hj,rfl,Y⟩:=hrel;have F:=Hd ((q.out _).1 Y.out);by_cases E:j<k
    ·obtain⟨x,hx⟩:=dW l j (by rw[H.w];exact E);obtain⟨b,o,t1,t2,t3,t4,rfl,⟨s,t,u,v⟩,hc⟩:=(H.b.go F.out.bl).abJ hx;have I:=ah (F.out.aQ 0 0);have J:=ah (F.out.aQ 0 1);have L:=ah (F.out.aQ 0 2);have N:=ah (F.out.aQ 0 3);have O:=ah (F.out.aQ 0 4);have S:=ah (F.out.aQ 0 5);have T:=ah (F.out.aQ 0 6);have U:=ah (F.out.aQ 0 7);have W:=ah (F.out.aQ 0 8);have v0:=ah s;have v1:=ah t;have v2:=ah u;have v3:=ah v;have aq:=hc.marks.small;by_cases ai:t1.n=s1.n;rotate_left;·have ag:(((t1.n:Nat):Int)==((s1.n:Nat):Int))=false:=oS;clear hx s t u v hc;gi_wp2;refine ak [] (List.range 28) oF oF ?_;refine eH ?_;refine aK ?_;refine lit ?_;gi_wp2;exact⟨⟨j+1,oE,by go_num,Hd ((q.out _).2 F.out.drew)⟩,by simp[intOf];omega⟩
     have ag:(((t1.n:Nat):Int)==((s1.n:Nat):Int))=true:=oS;have HM:=Hd (fun V (hb:Below wr wr V)=>aeh (lim:=5040) ((H.a.go F.out.bl).go hb) (hc.go hb) (fun y hy=>HS.out.1.2.1.aT y hy) (by rw[af.out,hc.marks.len];omega) oE);obtain⟨Z,hZ⟩:=aC (aby 5040 r.aT (aa 0 (toC x).marks) 1);rw[hZ]at HM;have HB:=Hd (show Below wr wr wr.drew from pd.drew);have HY:=h_ s t u v;clear hx s t u v hc hZ ai;by_cases G:Z>300;rotate_left
     ·have al:decide (300<Z)=false:=cE oE;gi_wp2;refine ak [] (List.range 28) oF oF ?_;refine eH ?_;refine aH fun K f=>aA rfl rfl wy fun m d=>?_;gi_wp2;refine Cl 25 (HM.out _ HB.out) ?_;rintro e w3 ⟨rfl,p⟩;have F3:=Hd (F.out.drew.go p);refine d _ _ ⟨?_,f _ _ ?_⟩;clear d m f K;·exact a_ p _
      clear p;refine lit ?_;refine eH ?_;refine aK ?_;refine lit ?_;gi_wp2;exact⟨⟨j+1,oE,by go_num,Hd ((q.out _).2 F3.out)⟩,by simp[intOf];omega⟩
     have al:decide (300<Z)=true:=cw oE;have ap:decide (Z>300)=true:=cw oE;clear G;by_cases ad:Z<=5040
     ·have aj:decide (Z<=5040)=true:=cw ad;gi_wp2;refine ak [] (List.range 28) oF oF ?_;refine eH ?_;refine aH fun K f=>aA rfl rfl wy fun m d=>?_;gi_wp2;refine Cl 25 (HM.out _ HB.out) ?_;rintro e w3 ⟨rfl,p⟩;have F3:=Hd (F.out.drew.go p);have g:=Hd (HB.out.trans (p.mono HB.out.size));refine d _ _ ⟨?_,f _ _ ?_⟩;clear d m f K;·exact a_ p _
      have o5:=abL F3.out;have x0:=stays ((a_ g.out []).cell oO HY.a);have x1:=stays ((a_ g.out []).cell oO HY.b);have x2:=stays ((a_ g.out []).cell oO HY.c);have x3:=stays ((a_ g.out []).cell oO HY.w);clear p I J L N O S T U W v0 v1 v2 v3;refine lit ?_;refine eH ?_;refine aH fun K f=>aA rfl rfl wy fun m d=>?_;gi_wp2;refine Cl 25 (HM.out _ g.out) ?_;rintro e w4 ⟨rfl,hb4⟩;have F4:=Hd (F3.out.go hb4);refine d _ _ ⟨?_,f _ _ ?_⟩;clear d m f K;·exact a_ hb4 _
      clear hb4;refine lit ?_;refine eH ?_;refine aK ?_;refine lit ?_;gi_wp2;go_ret;exact Says.no rfl F4.out.bl
     have aj:decide (Z<=5040)=false:=cE ad;gi_wp2;refine ak [] (List.range 28) oF oF ?_;refine eH ?_;refine aH fun K f=>aA rfl rfl wy fun m d=>?_;gi_wp2;refine Cl 25 (HM.out _ HB.out) ?_;rintro e w3 ⟨rfl,p⟩;have F3:=Hd (F.out.drew.go p);have g:=Hd (HB.out.trans (p.mono HB.out.size));refine d _ _ ⟨?_,f _ _ ?_⟩;clear d m f K;·exact a_ p _
     have o5:=abL F3.out;have x0:=stays ((a_ g.out []).cell oO HY.a);have x1:=stays ((a_ g.out []).cell oO HY.b);have x2:=stays ((a_ g.out []).cell oO HY.c);have x3:=stays ((a_ g.out []).cell oO HY.w);clear p I J L N O S T U W v0 v1 v2 v3;refine lit ?_;refine eH ?_;refine aH fun K f=>aA rfl rfl wy fun m d=>?_;gi_wp2;refine Cl 25 (HM.out _ g.out) ?_;rintro e w4 ⟨rfl,hb4⟩;have F4:=Hd (F3.out.go hb4);refine d _ _ ⟨?_,f _ _ ?_⟩;clear d m f K;·exact a_ hb4 _
     clear hb4;refine lit ?_;refine eH ?_;refine aK ?_;refine lit ?_;gi_wp2;exact⟨⟨j+1,oE,by go_num,Hd ((q.out _).2 F4.out)⟩,by simp[intOf];omega⟩
    ·obtain rfl:j=k:=oE;gi_wp2;go_ret;exact Says.yes rfl HE.out F.out.bl
def afo(r:aS)(i:Int)(l:List aM)(en:Int):Prop:=aa4 r/\∃(k:Nat) (x:aJ) (e:Nat),i=(k:Int)/\r.rounds[k]?=some x/\(∀c,c∈l->kS r k x.2.1 (toC c)=true)/\afn r k x/\en=(e:Int)/\e<l.length
theorem ac7{x:aJ}{k:Nat}(h:aa4 r)(hx:r.rounds[k]?=some x):∀y,y∈r.aT->fJ (rX y)=true:=fun y hy=>DX (h.1.2.1.aT y hy) (MN (h.1.2.1.rounds x (aR hx)) hy)
theorem afp{i en:Int}(hr:dG w M r s1 s2 s3 s4 s5 s6 s7)(hl:Sl aM w M A n cp l)(hM:b_ M w)(h6:n<=6):
 Calls prog 7 #[.agg (aV r s1 s2 s3 s4 s5 s6 s7).toArray,.int .i64 i,.slice A n cp,.int .i64 en] w (iD (afo r i l en) w):=by
 refine wid ?_;obtain⟨P,B⟩:=aC (afo r i l en);rw[B];obtain⟨W1,ae,F1⟩:=dR ((Fr.nil w).a w (aV r s1 s2 s3 s4 s5 s6 s7) 28);have W:=aW F1;have F:=Hd F1;have H:=h_ hr hl hM hl.len;have HP:=Hd B;have t:=Hd (abn (hr.go F1.bl) (hM.le F1.bl.size));have O:=hr.rounds.len;have ad:=hr.rounds.small;have G:=Hd O;clear F1 hr hl hM B O;by_cases hi:i<0;·have ai:(decide (i<0))=true:=cw hi;exact AY
 obtain⟨k,rfl⟩:∃k:Nat,i=(k:Int):=⟨i.toNat,oE⟩;by_cases hk:s5.n<=k;·have ab:((k:Nat):Int)>=((s5.n:Nat):Int):=oE;exact AY
 obtain⟨x,hx⟩:=dW r.rounds k (by rw[G.out];omega);have ab:¬((k:Nat):Int)>=((s5.n:Nat):Int):=oE;have HX:=Hd hx;clear hx;obtain⟨R,T⟩:∃R:List Value,aV r s1 s2 s3 s4 s5 s6 s7=R:=⟨_,rfl⟩;have y:=Hd (show ∀V,Fr w V [(w.heap.size,R)]↔Fr w V [(w,aV r s1 s2 s3 s4 s5 s6 s7)]from fun V=>by rw[T]);clear T;refine ent func7 rfl ntmps7 ?_
 gi_wp2_with (first
  |(refine Cl 24 t.out ?_;rintro e X f;obtain⟨K,rfl,g,d⟩:=f.of;replace F:=Hd (F.out.go d);have E:=aW F.out;have s:=Hd g;clear d f g;obtain⟨z,m⟩:=aC (K !=0);cases z)
  |fail)
 rotate_left;·go_ret;exact iD.bad rfl (fo.1 m) F.out.bl
 have S:K=0:=by simpa using m
 have p:=Hd (s.out.1 S);subst S;clear m;have F0:=Hd ((y.out _).2 F.out);clear W E F;gi_loopw[10] (fun v wr=>∃j:Nat,j<=n/\v=.int .i64 j/\Hid (∀c,c∈l.take j->kS r k x.2.1 (toC c)=true)/\Hid (Fr w wr [(w.heap.size,R)])) (fun v _=>n-(intOf v).toNat);case atStart=>exact⟨0,bO _,rfl,Hd oO,F0⟩
 case round=>
  obtain⟨j,hj,rfl,C,hF⟩:=hrel;have F:=Hd ((y.out _).1 hF.out);by_cases U:j<n
  ·obtain⟨c,I⟩:=dW l j (by rw[H.w];exact U);obtain⟨b,o,t1,t2,t3,t4,rfl,⟨Y,Z,y2,y3⟩,hcs⟩:=(H.b.go F.out.bl).abJ I;have N:=Hd (MJ ((H.a.go F.out.bl).go (bw wr wr).drew) (hcs.go (bw wr wr).drew) HX.out (ac7 p.out HX.out) (H.c.le (w':=wr.drew) F.out.bl.size));obtain⟨z,m⟩:=aC (kS r k x.2.1 (toC c));rw[m]at N;have u0:=ah (F.out.aQ 0 0);have u1:=ah (F.out.aQ 0 1);have u2:=ah (F.out.aQ 0 2);have u3:=ah (F.out.aQ 0 3);have u4:=ah (F.out.aQ 0 4);have u5:=ah (F.out.aQ 0 5);have u6:=ah (F.out.aQ 0 6);have u7:=ah (F.out.aQ 0 7);have u8:=ah (F.out.aQ 0 8);have v0:=ah Y;have v1:=ah Z;have v2:=ah y2;have v3:=ah y3;have L:=Hd2 I m;clear I m Y Z y2 y3 hcs;gi_wp2;refine ak [] (List.range 8) oF oF ?_;refine eH ?_;refine aH fun K g=>aA rfl rfl wy fun K' Q=>?_;gi_wp2;refine Cl 26 N.out ?_;rintro e J ⟨rfl,D⟩;have F3:=Hd (F.out.drew.go D);refine Q _ _ ⟨?_,g _ _ ?_⟩;clear Q K' g K;·exact a_ D _
   clear D u0 u1 u2 u3 u4 u5 u6 u7 u8 v0 v1 v2 v3;cases z
   all_goals
    refine lit ?_;refine eH ?_;refine aK ?_;refine lit ?_;gi_wp2
   ·go_ret;exact iD.bad rfl oR F3.out.bl
   exact⟨⟨j+1,oE,by go_num,Hd (bY L.a C.out L.u),Hd ((y.out _).2 F3.out)⟩,by simp[intOf];omega⟩
  ·obtain rfl:j=n:=oE;have HA:=Hd (show ∀c,c∈l->kS r k x.2.1 (toC c)=true by have h:=C.out;rwa [bL (by rw[H.w];exact bh _)]at h);have W:=aW F.out;have q:=(abm (Dn (Dl p.b).1).1).len;have HL:=Hd (aeE (H.a.go F.out.bl) p.out HX.out (H.c.le F.out.bl.size) q.1 (by have h:=q.2.2.2;rw[G.out]at h;omega));have ac:=Hd q;clear hj U C q;by_cases he:en<0
   ·have af:decide (en<0)=true:=cw he
    gi_wp2_with (first
     |(refine Cl 27 HL.out ?_;rintro e J f;obtain⟨b,rfl,hb,d⟩:=f.of;replace F:=Hd (F.out.go d);have HB:=Hd hb;clear hb d f;cases b)
     |(refine⟨bq,?_⟩))
    all_goals
     go_ret;exact iD.bad rfl oR F.out.bl
   obtain⟨e,rfl⟩:∃e:Nat,en=(e:Int):=⟨en.toNat,oE⟩;by_cases ag:j<=e
   ·have aa:((e:Nat):Int)>=((j:Nat):Int):=oE
    gi_wp2_with (first
     |(refine Cl 27 HL.out ?_;rintro e J f;obtain⟨b,rfl,hb,d⟩:=f.of;replace F:=Hd (F.out.go d);have HB:=Hd hb;clear hb d f;cases b)
     |fail)
    all_goals
     go_ret;exact iD.bad rfl oR F.out.bl
   have aa:¬((e:Nat):Int)>=((j:Nat):Int):=oE
   gi_wp2_with (first
    |(refine Cl 27 HL.out ?_;rintro e J f;obtain⟨b,rfl,hb,d⟩:=f.of;replace F:=Hd (F.out.go d);have HB:=Hd hb;clear hb d f;cases b)
    |fail)
   ·go_ret;exact iD.bad rfl oR F.out.bl
   go_ret;exact iD.ok rfl (by rw[<-HP.out];exact⟨p.out,k,x,e,rfl,HX.out,HA.out,HB.out oY,rfl,by rw[H.w];omega⟩) F.out.bl
end
end
