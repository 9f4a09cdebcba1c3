/- Lemmas and walks; no statement is proved here. -/
import Derived.Test.YtlcgbfkdnmdigaaGreatDoorM34
import Derived.Test.YtlcgbfkdnmdigaaGreatDoorM32
set_option linter.unusedVariables false
set_option linter.unusedSimpArgs false
set_option maxRecDepth 20000
set_option maxHeartbeats 6000000
namespace Go.Proofs.YtlcgbfkdnmdigaaGreatDoor
open Go.Proofs.Tryz Go.RowKit Go.Shelf
theorem aea{p:Prop}(h:p:=by
 gi_wp2_with (first
  |(have g:=G2.out;clear g;refine Cl 117 (aj _ _ _ _) ?_;rintro e w2 ⟨rfl,rfl⟩;rw[HQ.out.2.2])
  |(have g:=G1.out;clear g;refine Cl 117 (aj _ _ _ _) ?_;rintro e w2 ⟨rfl,rfl⟩;rw[HQ.out.2.1];have G2:=Hd trivial)
  |(refine Cl 117 (aj _ _ _ _) ?_;rintro e w2 ⟨rfl,rfl⟩;rw[HQ.out.1];have G1:=Hd trivial)
  |(refine Cl 145 HX.out.1 ?_;rintro e w2 ⟨rfl,hb2⟩;have F2:=Hd (hF.out.go hb2);clear hb2)
  |(refine Cl 154 HX.out.2 ?_;rintro e w2 hw;obtain⟨b,rfl,hb,hb2⟩:=hw.of;have F2:=Hd (hF.out.go hb2);have HB:=Hd hb;clear hb hb2 hw;cases b)
  |(refine⟨trivial,?_⟩))
 go_ret;exact Says.no rfl hF.out.bl):p:=h
theorem aex{p:Prop}(h:p:=by
 gi_wp2;refine ak [] [0,1,2,3,4,5,6,7,8,9,10,11,12,13,14,15,16,17,18,19,20,21] (by kernel_rfl) (by kernel_rfl) ?_;repeat(first|refine jR ?_|refine dY ?_|refine jS ?_|refine dY ?_ rfl rfl (dU rfl (by(simp[yielded];rfl))))
 refine aH fun K hK=>aA rfl rfl wy fun K' hK'=>?_;gi_wp2;refine Cl 117 (aj _ _ _ _) ?_;rintro e w2 ⟨rfl,rfl⟩;rw[HQ.out.1];refine hK' _ _ ⟨?_,hK _ _ ?_⟩;clear hK' K' hK K;·exact Keeps.refl _ _
 refine lit ?_;repeat(first|refine jR ?_|refine dY ?_|refine jS ?_|refine dY ?_ rfl rfl (dU rfl (by(simp[yielded];rfl))))
 refine aK ?_;refine lit ?_;gi_wp2;go_ret;exact Says.no rfl Nu.out):p:=h
theorem aey{p:Prop}(h:p:=by
 obtain⟨y,hy⟩:=dW l j (by rw[HL.out];exact hlt);obtain⟨b,o,B,m',d',rfl,⟨p0,p1,p2,p3,p4⟩,-,hys⟩:=(HI.out.2.go hF.out.bl).qQ hy;have HC:=Hd (HI.out.1 y (List.mem_of_getElem? hy) (at_:=at_) hys);have HY:=Hd hy;clear hy hys
 gi_wp2_with (first
  |(refine Cl 64 HC.out ?_;rintro e w2 hw;obtain⟨b,rfl,hb,hb2⟩:=hw.of;have F2:=Hd (hF.out.go hb2);have HB:=Hd hb;clear hb hb2 hw;cases b)
  |fail)
 ·exact agS
 go_ret;exact mZ.yes rfl F2.out.bl):p:=h
theorem aeX{p:Prop}(h:p:=by
 gi_wp2;refine ak [] [0,1,2,3,4,5,6,7,8,9,10,11,12,13,14,15,16,17,18] (by kernel_rfl) (by kernel_rfl) ?_;repeat(first|refine jR ?_|refine dY ?_|refine jS ?_|refine dY ?_ rfl rfl (dU rfl (by(simp[yielded];rfl))))
 refine aK ?_;refine lit ?_;gi_wp2;go_ret;exact Says.no rfl HFD.out.bl):p:=h
theorem af5{p:Prop}(h:p:=by
 refine ent func61 rfl ntmps61 ?_;gi_wp2_with (first|(refine⟨trivial,?_⟩))
 go_ret;exact Says.no rfl F.out.bl):p:=h
variable {M:List Nat}{A:Option Addr}{n c m:Nat}{w w':World}{r:aS}{s1 s2 s3 s4 s5 s6 s7:dK}{p:Prop}{e:Ending}{v:Value}
section
attribute [local go_sem] Oper.semAt_some
theorem tq{a lo hi:Int}(h:(decide (lo<=a)&&decide (a<=hi))=true):lo<=a/\a<=hi:=by simpa using h
theorem nC{l:List bW}(hs:Sl bW w M A n c l):
 Calls prog 115 #[.slice A n c] w (Says (∀x,x∈l->mQ x) w):=by
 refine wid ?_;obtain⟨P,hP⟩:=aC (∀x,x∈l->mQ x);rw[hP];have hsm:=hs.small;have H:=fB hs hs.len hP;clear hs hP;refine ent func115 rfl ntmps115 ?_;gi_wp2;gi_loopw[3] (fun i wr=>∃k:Nat,k<=n/\i=.int .i64 k/\w=wr/\Hid (∀x,x∈l.take k->mQ x)) (fun i _=>n-(intOf i).toNat);case atStart=>exact⟨0,Nat.zero_le _,rfl,rfl,Hd (by simp)⟩
 case round=>
  obtain⟨k,hk,rfl,rfl,hR⟩:=hrel;by_cases hlt:k<n
  ·obtain⟨y,hy⟩:=dW l k (by rw[H.out.2.1];exact hlt);obtain⟨b,o,es,rfl,hes,hrw⟩:=H.out.1.get hy;obtain⟨rfl,-⟩:=oU hes;have v1:w.cell? ⟨b,o+k*3+1,none⟩=some (.int .i64 y.2.1):=hrw.2 1 _ rfl;have v2:w.cell? ⟨b,o+k*3+2,none⟩=some (.int .i64 y.2.2):=hrw.2 2 _ rfl;obtain⟨q1,hq1⟩:=aC (decide (0<=y.2.1)&&decide (y.2.1<=1048576));obtain⟨q2,hq2⟩:=aC (decide (1<=y.2.2)&&decide (y.2.2<=100));have HQ:=fB hq1 hq2 hy;clear hes hrw hy hq1 hq2;cases q1<;>cases q2
   all_goals
    gi_wp2_with (first
     |(have g:=G1.out;clear g;refine Cl 117 (aj _ _ _ _) ?_;rintro e w2 ⟨rfl,rfl⟩;rw[HQ.out.2.1])
     |(refine Cl 117 (aj _ _ _ _) ?_;rintro e w2 ⟨rfl,rfl⟩;rw[HQ.out.1];have G1:=Hd trivial)
     |(refine⟨trivial,?_⟩))
   iterate 3
    ·go_ret;exact Says.no rfl (Below.refl _ _)
   exact⟨⟨k+1,by omega,by go_num,trivial,Hd (bY HQ.out.2.2 hR.out ⟨(tq HQ.out.1).1,(tq HQ.out.1).2,(tq HQ.out.2.1).1,(tq HQ.out.2.1).2⟩)⟩,by simp[intOf];omega⟩
  ·obtain rfl:k=n:=by omega
   have HE:=Hd (show P by rw[<-H.out.2.2];intro x hx;refine hR.out x ?_;rw[List.take_of_length_le (by rw[H.out.2.1];exact Nat.le_refl _)];exact hx);clear hk hlt;gi_wp2;go_ret;exact Says.yes rfl HE.out (Below.refl _ _)
theorem nD{l:List Int}(hs:Sl Int w M A n c l):
 Calls prog 116 #[.slice A n c] w (Says (pW 1099511627776 l) w):=by
 refine wid ?_;obtain⟨P,hP⟩:=aC (pW 1099511627776 l);rw[hP];have hsm:=hs.small;have H:=fB hs hs.len hP;clear hs hP;refine ent func116 rfl ntmps116 ?_;gi_wp2;gi_loopw[3] (fun i wr=>∃k:Nat,k<=n/\i=.int .i64 k/\Hid (Below w.heap.size w wr)/\Hid ((∀x,x∈l.take k->0<=x/\x<=1099511627776)/\∀(i:Nat) (x y:Int),i+1<k->l[i]?=some x->l[i+1]?=some y->y<=x)) (fun i _=>n-(intOf i).toNat);case atStart=>exact⟨0,Nat.zero_le _,rfl,Hd (Below.refl _ _),Hd ⟨by simp,fun i x y hi=>by omega⟩⟩
 case round=>
  obtain⟨k,hk,rfl,hB,hR⟩:=hrel;by_cases hlt:k<n
  ·obtain⟨b,o,y,rfl,c0,-,-,hy⟩:=(H.out.1.go hB.out).pR hlt;obtain⟨q1,hq1⟩:=aC (decide (0<=y)&&decide (y<=1099511627776));have HQ:=Hd2 hq1 hy;have Nu:=Hd hB.out.drew;have v0:=ah c0;clear hq1 hy;cases q1;·clear c0;exact aex
   rcases Nat.eq_zero_or_pos k with rfl|hp
   ·simp only[Nat.add_zero]at v0;clear c0;gi_wp2;refine ak [] [0,1,2,3,4,5,6,7,8,9,10,11,12,13,14,15,16,17,18,19,20,21] (by kernel_rfl) (by kernel_rfl) ?_;repeat(first|refine jR ?_|refine dY ?_|refine jS ?_|refine dY ?_ rfl rfl (dU rfl (by(simp[yielded];rfl))))
    refine aH fun K hK=>aA rfl rfl wy fun K' hK'=>?_;gi_wp2;refine Cl 117 (aj _ _ _ _) ?_;rintro e w2 ⟨rfl,rfl⟩;rw[HQ.out.1];refine hK' _ _ ⟨?_,hK _ _ ?_⟩;clear hK' K' hK K;·exact Keeps.refl _ _
    refine lit ?_;repeat(first|refine jR ?_|refine dY ?_|refine jS ?_|refine dY ?_ rfl rfl (dU rfl (by(simp[yielded];rfl))))
    refine aK ?_;refine lit ?_;gi_wp2;exact⟨⟨1,by omega,by go_num,Nu,Hd ⟨bY HQ.out.2 hR.out.1 (tq HQ.out.1),fun i x y hi=>by omega⟩⟩,by simp[intOf];omega⟩
   obtain⟨j,rfl⟩:∃j,k=j+1:=⟨k-1,by omega⟩;obtain⟨b2,o2,z,e2,c1,-,-,hz⟩:=(H.out.1.go hB.out).pR (show j<n by omega);cases e2;have v1:=ah c1;have n1:IntKind.i64.wrap ((j:Nat):Int)=((j:Nat):Int):=by rw[IntKind.wrap_i64];omega
   have n3:0<((j+1:Nat):Int):=by omega
   have HZ:=Hd hz;have hjn:j<n:=by omega
   clear c0 c1 hz hp;by_cases hg:z<y;·have hgd:decide (z<y)=true:=decide_eq_true hg;exact aex
   have hgd:decide (z<y)=false:=decide_eq_false hg;gi_wp2;refine ak [] [0,1,2,3,4,5,6,7,8,9,10,11,12,13,14,15,16,17,18,19,20,21] (by kernel_rfl) (by kernel_rfl) ?_;repeat(first|refine jR ?_|refine dY ?_|refine jS ?_|refine dY ?_ rfl rfl (dU rfl (by(simp[yielded];rfl))))
   refine aH fun K hK=>aA rfl rfl wy fun K' hK'=>?_;gi_wp2;refine Cl 117 (aj _ _ _ _) ?_;rintro e w2 ⟨rfl,rfl⟩;rw[HQ.out.1];refine hK' _ _ ⟨?_,hK _ _ ?_⟩;clear hK' K' hK K;·exact Keeps.refl _ _
   refine lit ?_;repeat(first|refine jR ?_|refine dY ?_|refine jS ?_|refine dY ?_ rfl rfl (dU rfl (by(simp[yielded];rfl))))
   refine aK ?_;refine lit ?_;gi_wp2;exact⟨⟨j+1+1,by omega,by go_num,Nu,Hd ⟨bY HQ.out.2 hR.out.1 (tq HQ.out.1),fun i x y' hi hx hy=>by
    by_cases e:i=j;·subst e;rw[HZ.out]at hx;rw[HQ.out.2]at hy;cases hx;cases hy;omega
    exact hR.out.2 i x y' (by omega) hx hy⟩⟩,by simp[intOf];omega⟩
  ·obtain rfl:k=n:=by omega
   have HE:=Hd (show P by rw[<-H.out.2.2];have h1:=hR.out.1;rw[List.take_of_length_le (by rw[H.out.2.1];exact Nat.le_refl _)]at h1;exact Qo l _ (fun x hx=>(h1 x hx).1) (fun x hx=>(h1 x (List.mem_of_getElem? hx)).2) (fun i x y hx hy=>hR.out.2 i x y (by have:=(List.getElem?_eq_some_iff.1 hy).1;rw[H.out.2.1]at this;exact this) hx hy));clear hk hlt;gi_wp2;go_ret;exact Says.yes rfl HE.out hB.out
theorem Ol{x:aU}(hs:Sl aU w M A m c x.l):
 CB 145 #[.agg #[.int .i64 x.kind,.string x.name,.int .i64 x.n,.int .i64 x.d,.slice A m c],.agg #[.int .i64 0,.string ⟨#[]⟩,.int .i64 0,.int .i64 0,.slice none 0 0]] (.bool (fE x (.mk 0 ⟨#[]⟩ 0 0 []))) w:=
 He x (y:=.mk 0 ⟨#[]⟩ 0 0 []) (M':= []) hs Sl.nil0
set_option maxHeartbeats 8000000 in
theorem Ji{yn yt:ByteArray}{yp yq yc yno:Int}{wQ zo:Bool}{ys:aU}{B:Option Addr}{d:Nat}(hr:dG w M r s1 s2 s3 s4 s5 s6 s7)(hc:∀c,c∈r.aT->zM c)(hs:Sl aU w M B m d ys.l):
 Calls prog 120 #[.agg (aV r s1 s2 s3 s4 s5 s6 s7).toArray,.agg #[.string yn,.int .i64 yp,.int .i64 yq,.int .i64 yc,.bool wQ,.bool zo,.int .i64 ys.kind,.string ys.name,.int .i64 ys.n,.int .i64 ys.d,.slice B m d,.string yt,.int .i64 yno]] w (Says (Dj r (yn,yp,yq,yc,wQ,zo,ys,yt,yno)) w):=by
 refine wid ?_;obtain⟨A1,q1,c1⟩:=s1;have h1:Sl bT w M A1 q1 c1 r.aT:=hr.aT;obtain⟨P,hP⟩:=aC (Dj r (yn,yp,yq,yc,wQ,zo,ys,yt,yno));rw[hP];have hsm:=h1.small;obtain⟨W1,hW1,F1⟩:=dR (((Fr.nil w).a w.heap.size (aV r ⟨A1,q1,c1⟩ s2 s3 s4 s5 s6 s7) 28).a (w.heap.size+1) [.string yn,.int .i64 yp,.int .i64 yq,.int .i64 yc,.bool wQ,.bool zo,.int .i64 ys.kind,.string ys.name,.int .i64 ys.n,.int .i64 ys.d,.slice B m d,.string yt,.int .i64 yno] 50);have HF:=Hd F1;have o1:=aW F1;have H:=h_ h1 h1.len hc hP;have HS:=Hd hs;clear F1 h1 hc hP hr hs;refine ent func120 rfl ntmps120 ?_;gi_wp2;gi_loopw[5] (fun i wr=>∃k:Nat,k<=q1/\i=.int .i64 k/\Hid (∀c,c∈r.aT.take k->c.2.2.2.2.2.1<=256/\2*c.2.2.2.2.2.1<yp)/\Hid (Fr w wr [(w.heap.size,aV r ⟨A1,q1,c1⟩ s2 s3 s4 s5 s6 s7),(w.heap.size+1, [.string yn,.int .i64 yp,.int .i64 yq,.int .i64 yc,.bool wQ,.bool zo,.int .i64 ys.kind,.string ys.name,.int .i64 ys.n,.int .i64 ys.d,.slice B m d,.string yt,.int .i64 yno])])) (fun i _=>q1-(intOf i).toNat);case atStart=>exact⟨0,Nat.zero_le _,rfl,Hd (by simp),HF⟩
 case round=>
  obtain⟨k,hk,rfl,hR,hF⟩:=hrel;have o2:=aW hF.out;by_cases hlt:k<q1
  ·obtain⟨c,hck⟩:=dW r.aT k (by rw[H.out.2.1];exact hlt);obtain⟨b,o,es,rfl,hes,hrw⟩:=(H.out.1.go hF.out.bl).get hck;obtain⟨rfl,-⟩:=lT hes;obtain⟨t,ht⟩:=aC c.2.2.2.2.2.1;have hco:=H.out.2.2.1 c (List.mem_of_getElem? hck);have ht0:0<=t:=by rw[<-ht];exact hco.2.2.2.2.2.2.2.1
   have v0:=ah (show wr.cell? ⟨b,o+k*7+5,none⟩=some (.int .i64 t) by rw[<-ht];exact hrw.2 5 _ rfl);have v1:=ah (hF.out.aQ 0 1);have v2:=ah (hF.out.aQ 1 1);have HC:=Hd2 hck ht;have HFD:=Hd hF.out.drew;clear hck hes hrw ht hco;by_cases g1:256<t;·have g1d:decide (256<t)=true:=decide_eq_true g1;exact aeX
   have n1:IntKind.i64.wrap (2*t)=2*t:=by rw[IntKind.wrap_i64];omega
   have g1d:decide (256<t)=false:=decide_eq_false g1;by_cases g2:yp<=2*t;·have g2d:decide (yp<=2*t)=true:=decide_eq_true g2;exact aeX
   have g2d:decide (yp<=2*t)=false:=decide_eq_false g2;gi_wp2;refine ak [] [0,1,2,3,4,5,6,7,8,9,10,11,12,13,14,15,16,17,18] (by kernel_rfl) (by kernel_rfl) ?_;repeat(first|refine jR ?_|refine dY ?_|refine jS ?_|refine dY ?_ rfl rfl (dU rfl (by(simp[yielded];rfl))))
   refine aK ?_;refine lit ?_;gi_wp2;exact⟨⟨k+1,by omega,by go_num,Hd (bY HC.out.1 hR.out (by rw[HC.out.2];omega)),HFD⟩,by simp[intOf];omega⟩
  ·obtain rfl:k=q1:=by omega
   have HT:=Hd (show ∀c,c∈r.aT->c.2.2.2.2.2.1<=256/\2*c.2.2.2.2.2.1<yp by have h:=hR.out;exact afr);obtain⟨qa,ha⟩:=aC (decide (1<=yp)&&decide (yp<=256));obtain⟨qb,hb⟩:=aC (decide (1<=yq)&&decide (yq<=4096));obtain⟨qc,hc⟩:=aC (decide (1<=yc)&&decide (yc<=3));obtain⟨z,hz⟩:=aC (fE ys (.mk 0 ⟨#[]⟩ 0 0 []));have HX:=Hd2 (Ol (HS.out.go hF.out.bl)) (KQ ys (HS.out.go hF.out.bl));rw[hz]at HX;have HQ:=fB ha hb hc;have HZ:=Hd hz;clear hk hlt hR ha hb hc hz;cases qa;·exact aea
   cases qb;·exact aea
   cases qc;·exact aea
   have HP:=Hd (fun(a:wQ=true->ys.kind=0/\ys.name.toList= []/\ys.n=0/\ys.d=0/\ys.l= []) (b:wQ=false->∀y,y∈iZ ys->pX y)=>(show P by rw[<-H.out.2.2.2];exact⟨tq HQ.out.1,tq HQ.out.2.1,tq HQ.out.2.2,fun c hc=>Yo (HT.out c hc).1 (HT.out c hc).2 (tq HQ.out.1).1,a,b⟩));cases wQ
   ·gi_wp2_with (first
      |(have g:=G2.out;clear g;refine Cl 117 (aj _ _ _ _) ?_;rintro e w2 ⟨rfl,rfl⟩;rw[HQ.out.2.2])
      |(have g:=G1.out;clear g;refine Cl 117 (aj _ _ _ _) ?_;rintro e w2 ⟨rfl,rfl⟩;rw[HQ.out.2.1];have G2:=Hd trivial)
      |(refine Cl 117 (aj _ _ _ _) ?_;rintro e w2 ⟨rfl,rfl⟩;rw[HQ.out.1];have G1:=Hd trivial)
      |(refine Cl 145 HX.out.1 ?_;rintro e w2 ⟨rfl,hb2⟩;have F2:=Hd (hF.out.go hb2);clear hb2)
      |(refine Cl 154 HX.out.2 ?_;rintro e w2 hw;obtain⟨b,rfl,hb,hb2⟩:=hw.of;have F2:=Hd (hF.out.go hb2);have HB:=Hd hb;clear hb hb2 hw;cases b)
      |(refine⟨trivial,?_⟩))
    ·go_ret;exact Says.no rfl F2.out.bl
    go_ret;exact Says.yes rfl (HP.out (fun h=>by cases h) (fun _=>HB.out trivial)) F2.out.bl
   cases z
   ·gi_wp2_with (first
      |(have g:=G2.out;clear g;refine Cl 117 (aj _ _ _ _) ?_;rintro e w2 ⟨rfl,rfl⟩;rw[HQ.out.2.2])
      |(have g:=G1.out;clear g;refine Cl 117 (aj _ _ _ _) ?_;rintro e w2 ⟨rfl,rfl⟩;rw[HQ.out.2.1];have G2:=Hd trivial)
      |(refine Cl 117 (aj _ _ _ _) ?_;rintro e w2 ⟨rfl,rfl⟩;rw[HQ.out.1];have G1:=Hd trivial)
      |(refine Cl 145 HX.out.1 ?_;rintro e w2 ⟨rfl,hb2⟩;have F2:=Hd (hF.out.go hb2);clear hb2)
      |(refine Cl 154 HX.out.2 ?_;rintro e w2 hw;obtain⟨b,rfl,hb,hb2⟩:=hw.of;have F2:=Hd (hF.out.go hb2);have HB:=Hd hb;clear hb hb2 hw;cases b)
      |(refine⟨trivial,?_⟩))
    go_ret;exact Says.no rfl F2.out.bl
   gi_wp2_with (first
    |(have g:=G2.out;clear g;refine Cl 117 (aj _ _ _ _) ?_;rintro e w2 ⟨rfl,rfl⟩;rw[HQ.out.2.2])
    |(have g:=G1.out;clear g;refine Cl 117 (aj _ _ _ _) ?_;rintro e w2 ⟨rfl,rfl⟩;rw[HQ.out.2.1];have G2:=Hd trivial)
    |(refine Cl 117 (aj _ _ _ _) ?_;rintro e w2 ⟨rfl,rfl⟩;rw[HQ.out.1];have G1:=Hd trivial)
    |(refine Cl 145 HX.out.1 ?_;rintro e w2 ⟨rfl,hb2⟩;have F2:=Hd (hF.out.go hb2);clear hb2)
    |(refine Cl 154 HX.out.2 ?_;rintro e w2 hw;obtain⟨b,rfl,hb,hb2⟩:=hw.of;have F2:=Hd (hF.out.go hb2);have HB:=Hd hb;clear hb hb2 hw;cases b)
    |(refine⟨trivial,?_⟩))
   go_ret;exact Says.yes rfl (HP.out (fun _=>by have h:=(GZ ys _).1 HZ.out;rw[h];exact⟨rfl,by simp[aU.name,Lib.toList_data],rfl,rfl,rfl⟩) (fun h=>by cases h)) F2.out.bl
def KR(w:World)(R:List Value)(Q:Nat->Prop)(n:Nat)(i:Value)(wr:World):Prop:=∃k:Nat,k<=n/\i=.int .i64 k/\Hid (Q k)/\Hid (Fr w wr [(w.heap.size,R)])
attribute [irreducible] KR
set_option maxHeartbeats 8000000 in
theorem Om(hr:dG w M r s1 s2 s3 s4 s5 s6 s7):
 Calls prog 61 #[.agg (aV r s1 s2 s3 s4 s5 s6 s7).toArray] w (Says (F15 r) w):=by
 refine wid ?_;obtain⟨A1,q1,c1⟩:=s1;obtain⟨A4,q4,c4⟩:=s4;obtain⟨A5,q5,c5⟩:=s5;obtain⟨A7,q7,c7⟩:=s7;have h1:Sl bT w M A1 q1 c1 r.aT:=hr.aT;have h4:Sl dA w M A4 q4 c4 r.ties:=hr.ties;have h5:Sl aJ w M A5 q5 c5 r.rounds:=hr.rounds;have h7:Sl Int w M A7 q7 c7 r.points:=hr.points;obtain⟨P,hP⟩:=aC (F15 r);rw[hP];have m1:=h1.small;have m4:=h4.small;have m5:=h5.small;obtain⟨qb,yK⟩:=aC (decide (0<=r.best)&&decide (r.best<=64));obtain⟨best,Qp⟩:=aC r.best;have HQ:=Hd2 yK Qp;obtain⟨W1,hW1,F1⟩:=dR ((Fr.nil w).a w.heap.size [.string r.name,.slice A1 q1 c1,.slice s2.A s2.n s2.c,.slice s3.A s3.n s3.c,.slice A4 q4 c4,.slice A5 q5 c5,.slice s6.A s6.n s6.c,.slice A7 q7 c7,.int .i64 best] 28);have F:=Hd F1;have o1:=aW F1;have H:=h_ h1 h4 h5 h7;have HL:=h_ h1.len h4.len h5.len h7.len;have HR:=Hd2 hr hP;show CallsIn _ _ _ _ #[.agg #[.string r.name,.slice A1 q1 c1,.slice s2.A s2.n s2.c,.slice s3.A s3.n s3.c,.slice A4 q4 c4,.slice A5 q5 c5,.slice s6.A s6.n s6.c,.slice A7 q7 c7,.int .i64 r.best]] _ _;rw[Qp];rw[Qp]at yK;clear F1 h1 h4 h5 h7 hP hr Qp;by_cases z1:q1=0;·subst z1;exact af5
 by_cases z5:q5=0;·subst z5;exact af5
 obtain⟨R,hR⟩:∃R:List Value, [.string r.name,.slice A1 q1 c1,.slice s2.A s2.n s2.c,.slice s3.A s3.n s3.c,.slice A4 q4 c4,.slice A5 q5 c5,.slice s6.A s6.n s6.c,.slice A7 q7 c7,.int .i64 best]=R:=⟨_,rfl⟩;have RU:=Hd (show ∀V,Fr w V [(w.heap.size,R)]↔Fr w V [(w.heap.size, [.string r.name,.slice A1 q1 c1,.slice s2.A s2.n s2.c,.slice s3.A s3.n s3.c,.slice A4 q4 c4,.slice A5 q5 c5,.slice s6.A s6.n s6.c,.slice A7 q7 c7,.int .i64 best])]from fun V=>by rw[hR]);obtain⟨Q1,EL⟩:∃Q:Nat->Prop,∀k,Q k↔∀c,c∈r.aT.take k->zM c:=⟨_,fun _=>Iff.rfl⟩;obtain⟨Q4,Vt⟩:∃Q:Nat->Prop,∀k,Q k↔∀t,t∈r.ties.take k->t.2≠ []/\∀k,k∈t.2->sZ k:=⟨_,fun _=>Iff.rfl⟩;obtain⟨Q5,ZT⟩:∃Q:Nat->Prop,∀k,Q k↔∀x,x∈r.rounds.take k->Dj r x:=⟨_,fun _=>Iff.rfl⟩;have sD:=Hd EL;have Fg:=Hd Vt;have Qq:=Hd ZT;clear EL Vt ZT hR;have b1:(((q1:Nat):Int)==0)=false:=beq_eq_false_iff_ne.2 (by omega);have b5:(((q5:Nat):Int)==0)=false:=beq_eq_false_iff_ne.2 (by omega);obtain⟨zb,hzb⟩:=aC (best==0);obtain⟨z7,hz7⟩:=aC (((q7:Nat):Int)==0);have HZ:=Hd2 hzb hz7;by_cases hzz:zb=z7;rotate_left
 ·cases zb<;>cases z7
  case neg.false.false=>exact absurd rfl hzz
  case neg.true.true=>exact absurd rfl hzz
  all_goals
   clear hzz;refine ent func61 rfl ntmps61 ?_
   gi_wp2_with (first
    |(have g:=HP7.out;clear g;refine Cl 117 (aj _ _ _ _) ?_;rintro e w2 ⟨rfl,rfl⟩;rw[yK];cases qb)
    |(have g:=HP6.out;clear g;refine Cl 116 (nD (HR.out.1.points.go F.out.bl)) ?_;rintro e w2 hw;obtain⟨b,rfl,hb,hb2⟩:=hw.of;have HP7:=Hd hb;replace F:=Hd (F.out.go hb2);have o1:=aW F.out;clear hb hb2 hw;cases b)
    |(have g:=HB3.out;clear g;refine Cl 116 (nD (HR.out.1.prizes.go F.out.bl)) ?_;rintro e w2 hw;obtain⟨b,rfl,hb,hb2⟩:=hw.of;have HP6:=Hd hb;replace F:=Hd (F.out.go hb2);have o1:=aW F.out;clear hb hb2 hw;cases b)
    |(have g:=HB2.out;clear g;refine Cl 115 (nC (HR.out.1.malus.go F.out.bl)) ?_;rintro e w2 hw;obtain⟨b,rfl,hb,hb2⟩:=hw.of;have HB3:=Hd hb;replace F:=Hd (F.out.go hb2);have o1:=aW F.out;clear hb hb2 hw;cases b)
    |(refine Cl 115 (nC (HR.out.1.bonus.go F.out.bl)) ?_;rintro e w2 hw;obtain⟨b,rfl,hb,hb2⟩:=hw.of;have HB2:=Hd hb;replace F:=Hd (F.out.go hb2);have o1:=aW F.out;clear hb hb2 hw;cases b)
    |(refine⟨trivial,?_⟩))
   all_goals try(go_ret;exact Says.no rfl F.out.bl;done)
 subst hzz;refine ent func61 rfl ntmps61 ?_
 gi_wp2_with (first
  |(have g:=HP7.out;clear g;refine Cl 117 (aj _ _ _ _) ?_;rintro e w2 ⟨rfl,rfl⟩;rw[yK];cases qb)
  |(have g:=HP6.out;clear g;refine Cl 116 (nD (HR.out.1.points.go F.out.bl)) ?_;rintro e w2 hw;obtain⟨b,rfl,hb,hb2⟩:=hw.of;have HP7:=Hd hb;replace F:=Hd (F.out.go hb2);have o1:=aW F.out;clear hb hb2 hw;cases b)
  |(have g:=HB3.out;clear g;refine Cl 116 (nD (HR.out.1.prizes.go F.out.bl)) ?_;rintro e w2 hw;obtain⟨b,rfl,hb,hb2⟩:=hw.of;have HP6:=Hd hb;replace F:=Hd (F.out.go hb2);have o1:=aW F.out;clear hb hb2 hw;cases b)
  |(have g:=HB2.out;clear g;refine Cl 115 (nC (HR.out.1.malus.go F.out.bl)) ?_;rintro e w2 hw;obtain⟨b,rfl,hb,hb2⟩:=hw.of;have HB3:=Hd hb;replace F:=Hd (F.out.go hb2);have o1:=aW F.out;clear hb hb2 hw;cases b)
  |(refine Cl 115 (nC (HR.out.1.bonus.go F.out.bl)) ?_;rintro e w2 hw;obtain⟨b,rfl,hb,hb2⟩:=hw.of;have HB2:=Hd hb;replace F:=Hd (F.out.go hb2);have o1:=aW F.out;clear hb hb2 hw;cases b)
  |(refine⟨trivial,?_⟩))
 all_goals try(go_ret;exact Says.no rfl F.out.bl;done)
 have HBP:=Hd (show r.best=0↔r.points= [] by
  have h1:=HZ.out.1;have h2:=HZ.out.2;have h3:=HL.out.2.2.2;rw[HQ.out.2];constructor
  ·intro e;rw[e]at h1;rw[<-h1]at h2;have:((q7:Nat):Int)=0:=by simpa using h2
   exact List.length_eq_zero_iff.1 (by omega)
  intro e;rw[e]at h3;have h4:q7=0:=by simpa using h3.symm
  rw[h4]at h2;rw[<-h2]at h1;simpa using h1)
 have HI:=Zw (HB2.out trivial) (HB3.out trivial) (HP6.out trivial) (HP7.out trivial) (show 0<=r.best/\r.best<=64 from tq HQ.out.1) HBP.out;have HC:=Hd2 (show r.aT≠ [] by intro e;have:=HL.out.1;rw[e]at this;exact z1 (by simpa using this.symm)) (show r.rounds≠ [] by intro e;have:=HL.out.2.2.1;rw[e]at this;exact z5 (by simpa using this.symm));have F0:=Hd ((RU.out _).2 F.out);clear o1 HB2 HB3 HP6 HP7 HBP F;gi_loopw[3] (fun i wr=>KR w R Q1 q1 i wr) (fun i _=>q1-(intOf i).toNat);case atStart=>unfold KR;exact⟨0,Nat.zero_le _,rfl,Hd ((sD.out 0).2 (by simp)),F0⟩
 case round=>
  unfold KR at hrel;obtain⟨k,hk,rfl,hT,hF⟩:=hrel;have F:=Hd ((RU.out _).1 hF.out);have o1:=aW F.out;by_cases hlt:k<q1
  ·obtain⟨c,hck⟩:=dW r.aT k (by rw[HL.out.1];exact hlt);obtain⟨b,o,es,rfl,hes,hrw⟩:=(H.out.1.go F.out.bl).get hck;obtain⟨rfl,-⟩:=lT hes;have v0:wr.cell? ⟨b,o+k*7,none⟩=some (.string c.1):=hrw.2 0 _ rfl;have v1:wr.cell? ⟨b,o+k*7+1,none⟩=some (.int .i64 c.2.1):=hrw.2 1 _ rfl;have v2:wr.cell? ⟨b,o+k*7+2,none⟩=some (.int .i64 c.2.2.1):=hrw.2 2 _ rfl;have v3:wr.cell? ⟨b,o+k*7+3,none⟩=some (.int .i64 c.2.2.2.1):=hrw.2 3 _ rfl;have v4:wr.cell? ⟨b,o+k*7+4,none⟩=some (.int .i64 c.2.2.2.2.1):=hrw.2 4 _ rfl;have v5:wr.cell? ⟨b,o+k*7+5,none⟩=some (.int .i64 c.2.2.2.2.2.1):=hrw.2 5 _ rfl;have v6:wr.cell? ⟨b,o+k*7+6,none⟩=some (.bool c.2.2.2.2.2.2):=hrw.2 6 _ rfl;have HCK:=Hd hck;clear hck hes hrw
   gi_wp2_with (first
    |(refine Cl 118 (RS c _) ?_;rintro e w2 hw;obtain⟨b,rfl,hb,hb2⟩:=hw.of;have HX:=Hd hb;replace F:=Hd (F.out.go hb2);have o1:=aW F.out;clear hb hb2 hw;cases b)
    |fail)
   ·go_ret;exact Says.no rfl F.out.bl
   exact⟨by unfold KR;exact⟨k+1,by omega,by go_num,Hd ((sD.out _).2 (bY HCK.out ((sD.out k).1 hT.out) (HX.out trivial))),Hd ((RU.out _).2 F.out)⟩,by simp[intOf];omega⟩
  ·obtain rfl:k=q1:=by omega
   have Dx:=Hd (show ∀c,c∈r.aT->zM c by have h:=(sD.out k).1 hT.out;rwa [List.take_of_length_le (by rw[HL.out.1];exact Nat.le_refl _)]at h);clear hk hlt hT;gi_wp2;clear o1 F;gi_loopw[4] (fun i wr=>KR w R Q4 q4 i wr) (fun i _=>q4-(intOf i).toNat);case atStart=>unfold KR;exact⟨0,Nat.zero_le _,rfl,Hd ((Fg.out 0).2 (by simp)),hF⟩
   case round=>
    unfold KR at hrel;obtain⟨j,hj,rfl,hT,hF⟩:=hrel;have F:=Hd ((RU.out _).1 hF.out);have o1:=aW F.out;by_cases hlt:j<q4
    ·obtain⟨t,htk⟩:=dW r.ties j (by rw[HL.out.2.1];exact hlt);obtain⟨b,o,B,m,d,rfl,⟨p0,p1⟩,hks⟩:=(H.out.2.1.go F.out.bl).n_ htk;have hml:=hks.len;have hmm:=hks.small;obtain⟨ks,Fh⟩:=aC t.2;rw[Fh]at hks hml;obtain⟨V,rfl⟩:∃V,V=wr:=⟨_,rfl⟩;have HT:=oK htk Fh hks hml p1;by_cases hm0:m=0;·subst hm0;clear htk Fh hks hml;gi_wp2;go_ret;exact Says.no rfl F.out.bl
     have hmb:(((m:Nat):Int)==0)=false:=beq_eq_false_iff_ne.2 (by omega);obtain⟨Q6,hQ6⟩:∃Q:Nat->Prop,∀k,Q k↔∀y,y∈ks.take k->sZ y:=⟨_,fun _=>Iff.rfl⟩;have HQ6:=Hd hQ6;clear htk Fh hks hml hQ6;gi_wp2;clear o1;gi_loopw[5] (fun i wr=>KR w R Q6 m i wr/\Hid (Below V.heap.size V wr)) (fun i _=>m-(intOf i).toNat);case atStart=>exact⟨by unfold KR;exact⟨0,Nat.zero_le _,rfl,Hd ((HQ6.out 0).2 (by simp)),hF⟩,Hd (Below.refl _ _)⟩
     case round=>
      obtain⟨hrel,hV⟩:=hrel;unfold KR at hrel;obtain⟨g,hg,rfl,hG,hF⟩:=hrel;have F:=Hd ((RU.out _).1 hF.out);have o1:=aW F.out;have p1:=(Keeps.of_below hV.out []).cell (by simp) HT.out.2.2.2.2;by_cases hlg:g<m
      ·obtain⟨y,hy⟩:=dW ks g (by rw[HT.out.2.2.2.1];exact hlg);obtain⟨b3,o3,rfl,y0,y1,y2⟩:=(HT.out.2.2.1.go hV.out).xQ hy;have HY:=Hd hy;clear hy
       gi_wp2_with (first
        |(refine Cl 119 (Oi y _) ?_;rintro e w2 hw;obtain⟨b,rfl,hb,hb2⟩:=hw.of;have HX:=Hd hb;replace F:=Hd (F.out.go hb2);have hV2:=Hd (hV.out.trans (hb2.mono hV.out.size));clear hb hb2 hw;cases b)
        |fail)
       ·go_ret;exact Says.no rfl F.out.bl
       exact⟨⟨by unfold KR;exact⟨g+1,by omega,by go_num,Hd ((HQ6.out _).2 (bY HY.out ((HQ6.out g).1 hG.out) (HX.out trivial))),Hd ((RU.out _).2 F.out)⟩,hV2⟩,by simp[intOf];omega⟩
      ·obtain rfl:g=m:=by omega
       have HK6:=Hd (show t.2≠ []/\∀y,y∈t.2->sZ y by
        rw[HT.out.2.1];refine⟨fun e=>hm0 (by have:=HT.out.2.2.2.1;rw[e]at this;exact this.symm),?_⟩;have h:=(HQ6.out g).1 hG.out
        rwa [List.take_of_length_le (by rw[HT.out.2.2.2.1];exact Nat.le_refl _)]at h)
       clear hg hlg hG hV;gi_wp2;exact⟨by unfold KR;exact⟨j+1,by omega,by go_num,Hd ((Fg.out _).2 (bY HT.out.1 ((Fg.out j).1 hT.out) HK6.out)),hF⟩,by simp[intOf];omega⟩
    ·obtain rfl:j=q4:=by omega
     have XZ:=Hd (show ∀t,t∈r.ties->t.2≠ []/\∀k,k∈t.2->sZ k by have h:=(Fg.out j).1 hT.out;rwa [List.take_of_length_le (by rw[HL.out.2.1];exact Nat.le_refl _)]at h);clear hj hlt hT;gi_wp2;clear o1 F;gi_loopw[6] (fun i wr=>KR w R Q5 q5 i wr) (fun i _=>q5-(intOf i).toNat);case atStart=>unfold KR;exact⟨0,Nat.zero_le _,rfl,Hd ((Qq.out 0).2 (by simp)),hF⟩
     case round=>
      unfold KR at hrel;obtain⟨g,hg,rfl,hT,hF⟩:=hrel;have F:=Hd ((RU.out _).1 hF.out);have o1:=aW F.out;by_cases hlt:g<q5
      ·obtain⟨y,hy⟩:=dW r.rounds g (by rw[HL.out.2.2.1];exact hlt);obtain⟨b1,u1,D1,m1,e1,rfl,⟨x0,x1,x2,x3,x4,x5⟩,⟨x6,x7,x8,x9,x10⟩,⟨x11,x12⟩,-,-,hs1⟩:=(H.out.2.2.1.go F.out.bl).iw hy;obtain⟨yn,yp,yq,yc,wQ,zo,ys,yt,yno⟩:=y;simp only[au]at x0 x1 x2 x3 x4 x5 x6 x7 x8 x9 x10 x11 x12 hs1;have hcr:=Ji (yn:=yn) (yt:=yt) (yp:=yp) (yq:=yq) (yc:=yc) (yno:=yno) (wQ:=wQ) (zo:=zo) ((HR.out.1.go F.out.bl).go (Below.refl _ _).drew) Dx.out (hs1.go (Below.refl _ _).drew);simp only[aV]at hcr;rw[HQ.out.2]at hcr;have HRC:=Hd hcr;clear hcr;have HD:=Hd F.out.drew;have HY:=Hd hy;have v0:=ah x0;have v1:=ah x1;have v2:=ah x2;have v3:=ah x3;have v4:=ah x4;have v5:=ah x5;have v6:=ah x6;have v7:=ah x7;have v8:=ah x8;have v9:=ah x9;have v10:=ah x10;have v11:=ah x11;have v12:=ah x12;have u0:=ah (F.out.aQ 0 0);have u1':=ah (F.out.aQ 0 1);have u2:=ah (F.out.aQ 0 2);have u3:=ah (F.out.aQ 0 3);have u4:=ah (F.out.aQ 0 4);have u5:=ah (F.out.aQ 0 5);have u6:=ah (F.out.aQ 0 6);have u7:=ah (F.out.aQ 0 7);have u8:=ah (F.out.aQ 0 8);clear hy hs1 x0 x1 x2 x3 x4 x5 x6 x7 x8 x9 x10 x11 x12;gi_wp2;refine ak [] [0,1,2,3,4,5,6,7] (by kernel_rfl) (by kernel_rfl) ?_;refine eH ?_;refine aH fun K hK=>aA rfl rfl wy fun K' hK'=>?_;gi_wp2;refine Cl 120 HRC.out ?_;rintro e w2 hw;obtain⟨b,rfl,hb,hb2⟩:=hw.of;have HX:=Hd hb;have F2:=Hd (HD.out.go hb2);refine hK' _ _ ⟨?_,hK _ _ ?_⟩;clear hK' K' hK K;·exact Keeps.of_below hb2 _
       clear hb hb2 hw;cases b;·refine lit ?_;refine eH ?_;refine aK ?_;refine lit ?_;gi_wp2;go_ret;exact Says.no rfl F2.out.bl
       refine lit ?_;refine eH ?_;refine aK ?_;refine lit ?_;gi_wp2;exact⟨by unfold KR;exact⟨g+1,by omega,by go_num,Hd ((Qq.out _).2 (bY HY.out ((Qq.out g).1 hT.out) (HX.out (by trivial)))),Hd ((RU.out _).2 F2.out)⟩,by simp[intOf];omega⟩
      ·obtain rfl:g=q5:=by omega
       have HK5:=Hd (show ∀x,x∈r.rounds->Dj r x by have h:=(Qq.out g).1 hT.out;rwa [List.take_of_length_le (by rw[HL.out.2.2.1];exact Nat.le_refl _)]at h);clear hg hlt hT;gi_wp2;go_ret;exact Says.yes rfl (by rw[<-HR.out.2];exact⟨HC.out.1,HC.out.2,Dx.out,HI.out.1,HI.out.2.1,HI.out.2.2.1,HI.out.2.2.2.1,HI.out.2.2.2.2.1,HI.out.2.2.2.2.2,XZ.out,HK5.out⟩) F.out.bl
theorem aaV{ts:List dA}{t i:Nat}{x:dA}(h:ts[i]?=some x):KJ ts (t+1) i=min ((x.2.map (uV (KJ ts t))).sum) 33:=by rw[KJ,h];rfl
theorem Vy(ts:List dA):∀t i,KJ ts t i<=33
 |0,_=>by simp[KJ]
 |t+1,i=>by
  unfold KJ;split;·omega
  omega
def qH(ts:List dA)(t u:Nat):Int:=((KJ ts t u:Nat):Int)
theorem Oq(ts:List dA)(n:Nat):List.replicate n (0:Int)=(List.range n).map (qH ts 0):=by
 apply List.ext_getElem;·simp
 intro i h1 h2;simp[qH,KJ]
set_option maxHeartbeats 8000000 in
theorem Vz(hr:dG w M r s1 s2 s3 s4 s5 s6 s7)(hf:Vx r)(hl:s4.n<=1000)(hk:∀t,t∈r.ties->t.2.length<=1000):
 Calls prog 63 #[.agg (aV r s1 s2 s3 s4 s5 s6 s7).toArray] w fun e w'=>∃A c,e=.returned (.slice A s4.n c)/\Sl Int w' [] A s4.n c ((List.range s4.n).map (qH r.ties s4.n))/\Below w.heap.size w w':=by
 refine wid ?_;obtain⟨A4,n,c4⟩:=s4;have h4:Sl dA w M A4 n c4 r.ties:=hr.ties;obtain⟨L,hL⟩:∃L:List (Nat×List Value), [(w.heap.size,aV r s1 s2 s3 ⟨A4,n,c4⟩ s5 s6 s7)]=L:=⟨_,rfl⟩;obtain⟨W1,hW1,F1⟩:=dR ((Fr.nil w).a w.heap.size (aV r s1 s2 s3 ⟨A4,n,c4⟩ s5 s6 s7) 28);have HL:=Hd (show ∀V,Fr w V L->Fr w V [(w.heap.size,aV r s1 s2 s3 ⟨A4,n,c4⟩ s5 s6 s7)]from fun V h=>by rw[hL];exact h);have F1:Fr w W1 L:=by rw[<-hL];exact F1
 have HN:n<=1000:=hl;have er:((List.replicate n (0:Int)).map (Value.int .i64)).toArray=Array.replicate n (Value.int .i64 0):=by simp
 have mk:=qR (t:=26) underlying26 n (by omega);rw[er]at mk;obtain⟨W2,hW2⟩:=aC (W1.alloc (.cells (Array.replicate n (Value.int .i64 0)) 3));have T0:=Hd2 (show Sl Int W2 [] (some ⟨W1.heap.size,0,none⟩) n n ((List.range n).map (qH r.ties 0)) by rw[<-Oq,<-hW2,<-er];exact(show Row _ _ _ from World.alloc_heap_new W1 _).sl (by simp) (by simp) (by omega) (fun x hx=>by rw[(List.mem_replicate.1 hx).2];unfold i64;omega)) (show Fr w W2 L by rw[<-hW2];exact F1.go (by exact bel));have H:=h_ h4 h4.len hf hk;have o1:=aW (HL.out _ F1);have o2:=aW (HL.out _ T0.out.2);clear F1 h4 hr hf hl hL hk er;refine ent func63 rfl ntmps63 ?_;gi_wp2;clear o1 o2;gi_loopw[3,4] (fun v i wr=>Yp (α:=Int) w L (fun t=>(List.range n).map (qH r.ties t)) n v i wr) (fun _ i _=>n-(intOf i).toNat);case atStart=>unfold Yp;exact⟨0,_,_,Nat.zero_le _,rfl,rfl,Hd T0.out.1,Hd T0.out.2⟩
 case round=>
  unfold Yp at hrel;obtain⟨t,A,c,ht,rfl,rfl,hS,hF⟩:=hrel;have o3:=aW (HL.out _ hF.out);by_cases hlt:t<n
  ·obtain⟨VA,rfl⟩:∃V,V=wr:=⟨_,rfl⟩;obtain⟨VB,hVB⟩:=aC (VA.alloc (.cells #[] 3));have RB:=Hd (show yg (α:=Int) 3 w VA L (.slice (some ⟨VA.heap.size,0,none⟩) 0 0) 0 ((List.range 0).map (qH r.ties (t+1))) VB by rw[<-hVB];exact yg.lit hF.out _);have o5:=aW (HL.out _ RB.out.fr);gi_wp2;clear o3 o5;gi_loopw[5,6] (fun v i wr=>RZ (α:=Int) 3 w VA L (fun j=>(List.range j).map (qH r.ties (t+1))) n v i wr) (fun _ i _=>n-(intOf i).toNat);case atStart=>unfold RZ;exact⟨0,Nat.zero_le _,rfl,RB⟩
   case round=>
    unfold RZ at hrel;obtain⟨j,hj,rfl,hO⟩:=hrel;have o3:=aW (HL.out _ hO.out.fr);by_cases hlj:j<n
    ·obtain⟨x,hx⟩:=dW r.ties j (by rw[H.out.2.1];exact hlj);obtain⟨b,o,B,m',d',rfl,⟨p0,p1⟩,hks⟩:=(H.out.1.go hO.out.fr.bl).n_ hx;have hkl:=H.out.2.2.2 x (List.mem_of_getElem? hx);have hkm:=hks.len;have HC:=Hd (count_any (nm:=x.1) (KJ r.ties t) hks (hS.out.go hO.out.bb) (fun u hu=>yh (qH r.ties t) hu) (Vy r.ties t) (fun y hy h5=>by
      exact afV) (by omega))
     rw[<-aaV (t:=t) hx]at HC;obtain⟨z,hz⟩:=aC (KJ r.ties (t+1) j);have abX:=Vy r.ties (t+1) j;rw[hz]at HC abX;have HZ:=Hd hz;clear hx hks hz hkl hkm
     gi_wp2_with (first
      |(have g:=HA;clear g;gi_at_builtin;refine wpListIn_plain rfl fun K hK'=>?_;have X:=HA.out.1;refine aI _ _ _ rfl rfl rfl X (hK' _ _ ?_);clear hK' K X)
      |(refine Cl 122 HC.out ?_;rintro e w3 ⟨rfl,hb3⟩;obtain⟨v',wA,r1,R1⟩:=(hO.out.go hb3).app (x:=((z:Nat):Int)) (cs:= [.int .i64 ((z:Nat):Int)]) underlying26 RY ⟨rfl,by unfold i64;omega⟩ (by omega);have HA:=Hd2 r1 R1;have o4:=aW (HL.out _ R1.fr);clear r1 R1 hb3)
      |fail)
     exact⟨by unfold RZ;exact⟨j+1,by omega,by go_num,Hd (by have h:yg _ _ _ _ _ _ ((List.range j).map (qH r.ties (t+1))++ [((z:Nat):Int)]) _:=HA.out.2;rw[show((z:Nat):Int)=qH r.ties (t+1) j by rw[qH,HZ.out],<-ou]at h;exact h)⟩,by simp[intOf];omega⟩
    ·obtain rfl:j=n:=by omega
     exact afe
  ·obtain rfl:t=n:=by omega
   exact agl
def mZ(p:Prop)(w:World)(e:Ending)(w':World):Prop:=∃b,e=.returned (.bool b)/\(b=false->p)/\Below w.heap.size w w'
attribute [irreducible] mZ
theorem mZ.yes(h:e=.returned (.bool true))(hb:Below w.heap.size w w'):mZ p w e w':=by unfold mZ;exact⟨true,h,fun e=>(by cases e),hb⟩
theorem mZ.no(h:e=.returned (.bool false))(hp:p)(hb:Below w.heap.size w w'):mZ p w e w':=by unfold mZ;exact⟨false,h,fun _=>hp,hb⟩
theorem mZ.of(h:mZ p w e w'):∃b,e=.returned (.bool b)/\(b=false->p)/\Below w.heap.size w w':=by unfold mZ at h;exact h
def Qr(at_:Int)(y:aU):Prop:=y.kind=5->y.n<at_
def LtC(x:aU):Prop:=∀{M:List Nat}{A:Option Addr}{m c:Nat}{at_:Int}{w:World},Sl aU w M A m c x.l->Calls prog 64 #[.agg #[.int .i64 x.kind,.string x.name,.int .i64 x.n,.int .i64 x.d,.slice A m c],.int .i64 at_] w (mZ (∀y,y∈iZ x->Qr at_ y) w)
theorem R_(x:aU):LtC x:=by
 induction x using iY with
 |_ x ih=>
 intro M A m c at_ w hs;obtain⟨k,s,n,d,l⟩:=x;simp only[aU.kind,aU.name,aU.n,aU.d,aU.l]at hs |-;refine wid ?_;have hl:=hs.len;have hsm:=hs.small;obtain⟨P,hP⟩:=aC (∀y,y∈iZ (.mk k s n d l)->Qr at_ y);rw[hP];obtain⟨W1,hW1,F1⟩:=dR ((Fr.nil w).a w.heap.size [.int .i64 k,.string s,.int .i64 n,.int .i64 d,.slice A m c] 48);have o1:=aW F1;have HP:=Hd hP;have HF:=Hd F1;have ih':∀y,y∈l->LtC y:=ih;have HI:=Hd2 ih' hs;have HL:=Hd hl;clear F1 hs ih ih' hl hP;by_cases h5:k=5
 ·subst h5;by_cases hn:at_<=n;·have hnd:decide (at_<=n)=true:=decide_eq_true hn;refine ent func64 rfl ntmps64 ?_;gi_wp2;go_ret;exact mZ.yes (by first|rfl|simp[*]) HF.out.bl
  have hnd:decide (at_<=n)=false:=decide_eq_false hn;have HN:=Hd (show n<at_ by omega);refine ent func64 rfl ntmps64 ?_;gi_wp2_with (first|(refine⟨trivial,?_⟩))
  gi_loopw[5] (fun i wr=>∃j:Nat,j<=m/\i=.int .i64 j/\Hid (∀z,z∈l.take j->∀y,y∈iZ z->Qr at_ y)/\Hid (Fr w wr [(w.heap.size, [.int .i64 5,.string s,.int .i64 n,.int .i64 d,.slice A m c])])) (fun i _=>m-(intOf i).toNat);case atStart=>exact⟨0,Nat.zero_le _,rfl,Hd (by simp),HF⟩
  case round=>
   obtain⟨j,hj,rfl,hR,hF⟩:=hrel;have o3:=aW hF.out;by_cases hlt:j<m;·exact aey
   ·obtain rfl:j=m:=by omega
    have HE:=Hd (show P by rw[<-HP.out];refine o_ (fun _=>HN.out) (fun z hz=>hR.out z ?_);exact agP);clear hj hlt;gi_wp2;go_ret;exact mZ.no rfl HE.out hF.out.bl
 have h5b:(k==5)=false:=beq_eq_false_iff_ne.2 h5;refine ent func64 rfl ntmps64 ?_;gi_wp2_with (first|(refine⟨trivial,?_⟩))
 gi_loopw[5] (fun i wr=>∃j:Nat,j<=m/\i=.int .i64 j/\Hid (∀z,z∈l.take j->∀y,y∈iZ z->Qr at_ y)/\Hid (Fr w wr [(w.heap.size, [.int .i64 k,.string s,.int .i64 n,.int .i64 d,.slice A m c])])) (fun i _=>m-(intOf i).toNat);case atStart=>exact⟨0,Nat.zero_le _,rfl,Hd (by simp),HF⟩
 case round=>
  obtain⟨j,hj,rfl,hR,hF⟩:=hrel;have o3:=aW hF.out;by_cases hlt:j<m;·exact aey
  ·obtain rfl:j=m:=by omega
   have HE:=Hd (show P by rw[<-HP.out];refine o_ (fun e=>absurd e h5) (fun z hz=>hR.out z ?_);exact agP);clear hj hlt;gi_wp2;go_ret;exact mZ.no rfl HE.out hF.out.bl
theorem bD.ac3{e:TypeId}{base:Nat}{xs:List bK}(h:bD bK e w M base v n xs)(M':List Nat):bD bK e w M' base v n xs:=by obtain⟨cs,h1,h2⟩:=h.ex;refine⟨h.len,cs,h1,fun k x hk=>?_⟩;obtain⟨es,a,b⟩:=h2 k x hk;obtain⟨rfl,i1,i2⟩:=rd_key a;exact⟨_,⟨[_],_,rfl,⟨rfl,i1⟩, [_],_,rfl,rfl,⟨rfl,i2⟩⟩,b⟩
theorem yg.ac4{α:Type} [kJ α] {e t:TypeId}{u wr:World}{k:Nat}{L:List (Nat×List Value)}{xs ys:List α}(h:yg e w u L v k xs wr)(ht:prog.underlying t=some (.slice e))(hi:iU e (Rep.sz α))(hy:Sl α wr (bP v++ []) A m c ys)(hn:k+m<=100000):
 ∃v' w',(Builtin.append_ #[t,t] t #[v,.slice A m c]).run prog wr=.ok v' w'/\yg e w u L v' (k+m) (xs++ys) w'/\Keeps (bP v) wr w':=by
 obtain⟨i,z,i1,i2,i3,i4,i5⟩:=hi;have hnb:(k+m)*i.bytes<=140737488355328:=Nat.le_trans (Nat.mul_le_mul hn i5) (by decide);obtain⟨v',w',r1,r2,r3,r4⟩:=h.own.uy (ty:=t) h.bb.size ht i1 i2 i3 i4 hy hnb (by omega);exact⟨v',w',r1,⟨r2,h.fr.ZI r3 (fun q hq=>⟨Nat.le_trans h.hW (h.own.lt hq).1,fun b vs hm e=>by have h1:=(h.own.lt hq).1;have h2:=h.hL b vs hm;omega⟩),h.bb.grown r3 h.bb.size (fun q hq=>(h.own.lt hq).1),h.hL,h.hW⟩,r3.size,fun q hq hm=>r3.block q hq (fun e=>hm (bJ.2 e.symm))⟩
def XeC(r:aS)(i:Nat):Prop:=∀{M M':List Nat}{s1 s2 s3 s4 s5 s6 s7:dK}{w:World},dG w M r s1 s2 s3 s4 s5 s6 s7->b_ M' w->Calls prog 65 #[.agg (aV r s1 s2 s3 s4 s5 s6 s7).toArray,.int .i64 (i:Int)] w fun e w'=>∃A m c,e=.returned (.slice A m c)/\Sl bK w' M' A m c (Jd r i)/\Below w.heap.size w w'
def XwR(r:aS)(ks:List bK)(w u:World)(L:List (Nat×List Value))(n:Nat)(v i:Value)(wr:World):Prop:=∃(k:Nat) (v0:Value),k<=n/\v0=v/\i=.int .i64 k/\Hid (yg 116 w u L v0 (zf r (ks.take k)).length (zf r (ks.take k)) wr)
attribute [irreducible] XwR
theorem yg.nil{α:Type} [kJ α] {w w1:World}{L:List (Nat×List Value)}(h:Fr w w1 L)(e:TypeId):yg (α:=α) e w w1 L (.slice none 0 0) 0 [] w1:=⟨bD.nil _ _ _,h,Below.refl _ _,h.lt,h.bl.size⟩
set_option maxHeartbeats 8000000 in
theorem Fj{rk:Nat->Nat}(T:T15 r rk)(i:Nat)(ih:∀j,rk j<rk i->j<r.ties.length->XeC r j)(hi:i<r.ties.length):XeC r i:=by
 intro M M' s1 s2 s3 s4 s5 s6 s7 w hr hM;refine wid ?_;obtain⟨A4,n,c4⟩:=s4;have h4:Sl dA w M A4 n c4 r.ties:=hr.ties;have hn4:=h4.len;obtain⟨t,ht⟩:=dW r.ties i hi;have hin:i<n:=by omega
 have hin2:n<=5:=by rw[<-hn4];exact T.few
 obtain⟨L,hL⟩:∃L:List (Nat×List Value), [(w.heap.size,aV r s1 s2 s3 ⟨A4,n,c4⟩ s5 s6 s7)]=L:=⟨_,rfl⟩;obtain⟨W1,hW1,F1⟩:=dR ((Fr.nil w).a w.heap.size (aV r s1 s2 s3 ⟨A4,n,c4⟩ s5 s6 s7) 28);have HL:=Hd (show ∀V,Fr w V L->Fr w V [(w.heap.size,aV r s1 s2 s3 ⟨A4,n,c4⟩ s5 s6 s7)]from fun V h=>by rw[hL];exact h);have FL:Fr w W1 L:=by rw[<-hL];exact F1
 clear F1;obtain⟨b,o,B,m,d,rfl,⟨p0,p1⟩,hks⟩:=(h4.go FL.bl).n_ ht;obtain⟨ks,Fh⟩:=aC t.2;rw[Fh]at hks;have hkm:=hks.len;have hk4:m<=4:=by have:=T.keys t (List.mem_of_getElem? ht);rw[Fh]at this;omega
 have hex:Jd r i=zf r ks:=by rw[KH T ht,Fh];rfl
 have HLW:=Hd ((HL.out _ FL).mJ 0);have R0:=Hd (show yg (α:=bK) 116 w W1 L (.slice none 0 0) 0 [] W1 from yg.nil FL _);have H:=oK hr ht Fh hks hkm;have HT:=fB T hex (T.len i hi);have IH:=Hd ih;have HM:=Hd2 hM FL.bl.size;have o1:=aW (HL.out _ FL);clear FL h4 hr ht hks Fh hkm hL hex ih hM T hn4;refine ent func65 rfl ntmps65 ?_;gi_wp2;clear o1;gi_loopw[5,7] (fun v i wr=>XwR r ks w W1 L m v i wr) (fun _ i _=>m-(intOf i).toNat);case atStart=>unfold XwR;exact⟨0,_,Nat.zero_le _,rfl,rfl,R0⟩
 case round=>
  unfold XwR at hrel;obtain⟨k,v,hk,rfl,rfl,hO⟩:=hrel;obtain⟨V,rfl⟩:∃V,V=wr:=⟨_,rfl⟩;have o3:=aW (HL.out _ hO.out.fr);have hle:(zf r (ks.take k)).length<=32:=by have h1:=Vk r ks k;have h2:=HT.out.2.2;rw[HT.out.2.1]at h2;omega
  by_cases hlt:k<m
  ·obtain⟨y,hy⟩:=dW ks k (by rw[H.out.2.2.2.2];exact hlt);obtain⟨b3,ZU,rfl,y0',y1',y2'⟩:=H.out.2.2.2.1.xQ hy;have hb3:=World.block_lt_of_cell? W1 _ y0';have y0:=(Keeps.of_below hO.out.bb []).cell (by simp) y0';have y1:=(Keeps.of_below hO.out.bb []).cell (by simp) y1';have y2:=(Keeps.of_below hO.out.bb []).cell (by simp) y2';clear y0' y1' y2';have hst:=KI r hy;obtain⟨yk,ys,yn⟩:=y;simp only at y0 y1 y2;by_cases h5:yk=5
   ·subst h5;obtain⟨u,rfl,hu,hrk⟩:=HT.out.1.ref i t H.out.2.1 (5,ys,yn) (by rw[H.out.2.2.1];exact List.mem_of_getElem? hy) rfl;simp only[if_true,Int.toNat_natCast]at hst;have hnot:∀q,q<W1.heap.size->q∉bP v:=fun q hq hm=>by have:=(hO.out.own.lt (bJ.1 hm)).1;omega
    have Yq:w.heap.size<W1.heap.size:=HLW.out;obtain⟨wd,hwd⟩:=aC V.drew;have hbd:Below V.heap.size V wd:=by rw[<-hwd];exact(Below.refl _ _).drew
    have HRD:=Hd (hO.out.go hbd);have HC:=Hd (IH.out u hrk hu (M:=M) (M':=bP v) (H.out.1.go (hO.out.fr.bl.trans (hbd.mono hO.out.fr.bl.size))) (fun q hq=>Nat.lt_of_lt_of_le (hO.out.own.lt (bJ.1 hq)).2 hbd.size));have hfo:=HL.out _ hO.out.fr;have u0:=aF (hnot _ Yq) (hfo.aQ 0 0);have u1:=aF (hnot _ Yq) (hfo.aQ 0 1);have u2:=aF (hnot _ Yq) (hfo.aQ 0 2);have u3:=aF (hnot _ Yq) (hfo.aQ 0 3);have u4:=aF (hnot _ Yq) (hfo.aQ 0 4);have u5:=aF (hnot _ Yq) (hfo.aQ 0 5);have u6:=aF (hnot _ Yq) (hfo.aQ 0 6);have u7:=aF (hnot _ Yq) (hfo.aQ 0 7);have u8:=aF (hnot _ Yq) (hfo.aQ 0 8);have x2:=aF (hnot _ hb3) y2;have yT:=Hd hwd;have HST:=fB hst hle (HT.out.1.len u hu);clear hy hst hrk hbd hfo hwd hnot hle;gi_wp2;refine aP (bP v) 9 (by kernel_rfl) (by kernel_rfl) ?_;refine ay 0 ?_;refine ay 1 ?_;refine ay 2 ?_;refine ay 3 ?_;refine ay 4 ?_;refine ay 5 ?_;refine ay 6 ?_;rw[yT.out];refine eU 7 fun K hK=>?_;gi_wp2;refine Cl 65 HC.out ?_;rintro e w2 ⟨A2,m2,c2,rfl,hs2,hb2⟩;refine hK _ _ ⟨?_,?_⟩;clear hK K;·exact Keeps.of_below hb2 _
    refine lit ?_;have hl2:=hs2.len;obtain⟨v',wA,r1,R1,kA⟩:=(HRD.out.go hb2).ac4 (t:=106) underlying106 qy (hs2.less (fun q hq=>by simpa using hq)) (by have:=HST.out.2.1;have:=HST.out.2.2;omega);rw[<-HST.out.1]at R1;have HA:=Hd2 r1 (show yg (α:=bK) 116 w W1 L v' (zf r (ks.take (k+1))).length (zf r (ks.take (k+1))) wA by
     have e:(zf r (ks.take (k+1))).length=(zf r (ks.take k)).length+m2:=by rw[HST.out.1,List.length_append,hl2]
     rw[e];exact R1)
    have o4:=aW (HL.out _ R1.fr);clear R1 hs2 hl2 hb2 r1;refine oQ 8 [] (by kernel_rfl) (dN (by decide) rfl ?_ (fun K hK=>?_) gU);·exact wy
    refine aI _ _ _ rfl rfl rfl HA.out.1 (hK _ _ ⟨kA,?_⟩);clear hK K;refine lit ?_;refine iq 1 ?_;refine jW fun K hK K' hK'=>?_;gi_wp2;refine tail_nil _ ?_;simp only[cu];gi_wp2;exact⟨by unfold XwR;exact⟨k+1,_,by omega,rfl,by go_num,Hd HA.out.2⟩,by simp[intOf];omega⟩
   have h5b:(yk==5)=false:=beq_eq_false_iff_ne.2 h5;rw[if_neg h5]at hst;obtain⟨b9,o9,es9,e9,abY,-⟩:=(H.out.2.2.2.1).get hy;have hri:=(rd_key abY).2;obtain⟨v',wA,r1,R1⟩:=hO.out.app (x:=(yk,ys,yn)) (cs:= [.int .i64 yk,.string ys,.int .i64 yn]) underlying106 qy ⟨[_],_,rfl,⟨rfl,hri.1⟩, [_],_,rfl,rfl,⟨rfl,hri.2⟩⟩ (by omega);rw[<-hst]at R1;have HA:=Hd2 r1 (show yg (α:=bK) 116 w W1 L v' (zf r (ks.take (k+1))).length (zf r (ks.take (k+1))) wA by
    have e:(zf r (ks.take (k+1))).length=(zf r (ks.take k)).length+1:=by rw[hst];simp
    rw[e];exact R1)
   have o4:=aW (HL.out _ R1.fr);clear hy hst r1 R1 abY e9 hri h5 hle
   gi_wp2_with (first
    |(have g:=HA;clear g;gi_at_builtin;refine wpListIn_plain rfl fun K hK'=>?_;have X:=HA.out.1;refine aI _ _ _ rfl rfl rfl X (hK' _ _ ?_);clear hK' K X)
    |fail)
   exact⟨by unfold XwR;exact⟨k+1,_,by omega,rfl,by go_num,Hd HA.out.2⟩,by simp[intOf];omega⟩
  ·obtain rfl:k=m:=by omega
   have hO2:=hO.out;rw[List.take_of_length_le (by rw[H.out.2.2.2.2];exact Nat.le_refl _)]at hO2 hle;obtain⟨A9,c9,rfl,hs9⟩:=(hO2.own.ac3 M').sl (by omega) (fun q hq=>Nat.lt_of_lt_of_le (HM.out.1 q hq) HM.out.2);have HE:=Hd2 hs9 hO2.fr.bl;clear hk hlt hO2 hs9 hO;gi_wp2;go_ret;exact⟨A9,_,c9,rfl,by rw[HT.out.2.1];exact HE.out.1,HE.out.2⟩
theorem yj{r:aS}{rk:Nat->Nat}(T:T15 r rk):∀(N i:Nat),rk i<N->i<r.ties.length->XeC r i
 |0,_,h,_=>by omega
 |N+1,i,h,hi=>Fj T i (fun j hj hl=>yj T N j (by omega) hl) hi
def iD(p:Prop)(w:World)(e:Ending)(w':World):Prop:=∃k:Int,e=.returned (.int .i64 k)/\(k=0->p)/\Below w.heap.size w w'
attribute [irreducible] iD
theorem iD.bad{k:Int}(h:e=.returned (.int .i64 k))(hk:¬k=0)(hb:Below w.heap.size w w'):iD p w e w':=by unfold iD;exact⟨k,h,fun e=>absurd e hk,hb⟩
theorem iD.ok(h:e=.returned (.int .i64 0))(hp:p)(hb:Below w.heap.size w w'):iD p w e w':=by unfold iD;exact⟨0,h,fun _=>hp,hb⟩
theorem iD.of(h:iD p w e w'):∃k:Int,e=.returned (.int .i64 k)/\(k=0->p)/\Below w.heap.size w w':=by unfold iD at h;exact h
structure Sm(r:aS):Prop where
 fw:RF r
 ties:r.ties.length<=5\/16<r.ties.length
 keys:∀t,t∈r.ties->t.2.length<=4\/32<t.2.length
def Sound(r:aS):Prop:=ZH r/\F15 r/\(∃rk,T15 r rk)/\∀i x,r.rounds[i]?=some x->backOk r i x
theorem KU(hw:Sm r)(hs:fD r=true):r.ties.length<=5/\∀t,t∈r.ties->t.2.length<=4:=by
 unfold fD sJ at hs;simp only[Bool.and_eq_true,Bool.not_eq_true',List.any_cons,List.any_nil,Bool.or_eq_false_iff,jA,decide_eq_false_iff_not,List.all_eq_true]at hs;obtain⟨⟨hs,ht⟩,-⟩:=hs;refine⟨?_,fun t htm=>?_⟩;·have:=hw.ties;omega
 have h1:=hw.keys t htm;have h2:=ht t htm;unfold jY jA at h2;simp only[Bool.not_eq_true',decide_eq_false_iff_not]at h2;omega
theorem DC{nm:List ByteArray}{s:ByteArray}{n:Int}(h:lU nm s n):∃u:Nat,n=(u:Int)/\u<nm.length:=by
 obtain⟨h1,h2⟩:=h;refine⟨xA nm s,h2.symm,?_⟩;unfold xB at h1;unfold xA
 cases e:gW nm s nm.length with
 |none=>rw[e]at h1;cases h1
 |some j=>exact CO e
theorem Oy(hr:dG w M r s1 s2 s3 s4 s5 s6 s7)(hw:Sm r)(hM:b_ M w):
 Calls prog 28 #[.agg (aV r s1 s2 s3 s4 s5 s6 s7).toArray] w (iD (Sound r) w):=by
 refine wid ?_;obtain⟨P,hP⟩:=aC (Sound r);rw[hP];obtain⟨A5,q5,c5⟩:=s5;have h5:Sl aJ w M A5 q5 c5 r.rounds:=hr.rounds;have h4l:=hr.ties.len;obtain⟨W1,hW1,F1⟩:=dR ((Fr.nil w).a w.heap.size (aV r s1 s2 s3 s4 ⟨A5,q5,c5⟩ s6 s7) 28);have o1:=aW F1;have F:=Hd F1;have HC:=Hd (Ox (hr.go F1.bl) hw.fw (hM.le F1.bl.size));have H:=oK hr hw hP h5 h5.len;have HM:=Hd2 hM h4l;have m5:q5<=1000:=by rw[<-h5.len];exact hw.fw.len.2.2.2
 have m4:s4.n<=1000:=by rw[<-h4l];exact hw.fw.len.2.2.1
 obtain⟨C,hC⟩:=aC (xY r);rw[hC]at HC;clear F1 hr hw hP h5 hM h4l;by_cases hC0:C=0;rotate_left
 ·have hcb:(C !=0)=true:=bne_iff_ne.2 hC0;refine ent func28 rfl ntmps28 ?_
  gi_wp2_with (first
   |(refine Cl 20 HC.out ?_;rintro e w2 ⟨rfl,hb2⟩;replace F:=Hd (F.out.go hb2);clear hb2)
   |fail)
  go_ret;exact iD.bad rfl hC0 F.out.bl
 subst hC0;have HR:=Hd (aaT hC);have II:=Hd hC;have HSM:=Hd (Dn (Dl hC).1).1;clear hC;refine ent func28 rfl ntmps28 ?_
 gi_wp2_with (first
  |(have g:=HF1.out;clear g;have X:=Jj (H.out.1.go F.out.bl) HR.out m4;refine Cl 62 X ?_;clear X;rintro e w2 ⟨A,c,rfl,hsl,hb2⟩;replace F:=Hd (F.out.go hb2);have o1:=aW F.out;have HCI:=Hd2 hsl (Below.refl w2.heap.size w2);clear hb2 hsl)
  |(have g:=Z4.out;clear g;have X:=Om (H.out.1.go F.out.bl);refine Cl 61 X ?_;clear X;rintro e w2 hw;obtain⟨b,rfl,hb,hb2⟩:=hw.of;have HF1:=Hd hb;replace F:=Hd (F.out.go hb2);have o1:=aW F.out;clear hb hb2 hw;cases b)
  |(refine Cl 20 HC.out ?_;rintro e w2 ⟨rfl,hb2⟩;replace F:=Hd (F.out.go hb2);have o1:=aW F.out;have Z4:=Hd trivial;clear hb2)
  |fail)
 ·go_ret;exact iD.bad rfl (by decide) F.out.bl
 have Jl:=Hd (HF1.out (by trivial));clear HF1 HC Z4;obtain⟨n,hn⟩:=aC s4.n;have HNN:=Hd hn;obtain⟨V1,hV1⟩:=aC w2;subst hV1;gi_loopw[5] (fun i wr=>∃k:Nat,k<=s4.n/\i=.int .i64 k/\w2=wr/\Hid (∀j,j<k->vw r.ties s4.n j=false)) (fun i _=>s4.n-(intOf i).toNat);case atStart=>exact⟨0,Nat.zero_le _,rfl,rfl,Hd (fun j hj=>by omega)⟩
 case round=>
  obtain⟨k,hk,rfl,rfl,hR⟩:=hrel;by_cases hlt:k<s4.n
  ·obtain⟨b,o,rfl,c0⟩:=HCI.out.1.Vu (yh (vw r.ties s4.n) hlt);obtain⟨z,hz⟩:=aC (vw r.ties s4.n k);rw[hz]at c0;have HZ:=Hd hz;clear hz;cases z
   ·gi_wp2;exact⟨⟨k+1,by omega,by go_num,trivial,Hd (fun j hj=>by
     by_cases e:j=k;·rw[e];exact HZ.out
     exact hR.out j (by omega))⟩,by simp[intOf];omega⟩
   gi_wp2;go_ret;exact iD.bad rfl (by decide) F.out.bl
  ·have hkn:s4.n=k:=by omega
   have XH:=Hd (show ∀j,j<s4.n->vw r.ties s4.n j=false by rw[hkn]at hR |-;exact hR.out);have hkd:¬((k:Int)<((s4.n:Nat):Int)):=by omega
   clear hk hlt hR hkn hn
   gi_wp2_with (first
    |(have X:=Vz (H.out.1.go F.out.bl) HR.out m4 H.out.2.1.fw.NT;refine Cl 63 X ?_;clear X;rintro e w3 ⟨A3,c3,rfl,hsl,hb3⟩;replace F:=Hd (F.out.go hb3);have o1:=aW F.out;have HMI:=Hd hsl;clear hb3 hsl)
    |fail)
   gi_loopw[7] (fun i wr=>∃k:Nat,k<=s4.n/\i=.int .i64 k/\w3=wr/\Hid (∀j,j<k->KJ r.ties s4.n j<=32)) (fun i _=>s4.n-(intOf i).toNat);case atStart=>exact⟨0,Nat.zero_le _,rfl,rfl,Hd (fun j hj=>by omega)⟩
   case round=>
    obtain⟨g,hg,rfl,rfl,hR⟩:=hrel;by_cases hlt:g<s4.n
    ·obtain⟨b,o,x,rfl,c0,-,-,ex⟩:=HMI.out.pR hlt;rw[yh (qH r.ties s4.n) hlt]at ex;cases ex;obtain⟨z,hz⟩:=aC (KJ r.ties s4.n g);rw[qH,hz]at c0;have HZ:=Hd hz;clear hz;by_cases h32:((z:Nat):Int)>32;·gi_wp2;go_ret;exact iD.bad rfl (by decide) F.out.bl
     gi_wp2;exact⟨⟨g+1,by omega,by go_num,trivial,Hd (fun j hj=>by
      by_cases e:j=g;·rw[e,HZ.out];omega
      exact hR.out j (by omega))⟩,by simp[intOf];omega⟩
    ·have hgn:s4.n=g:=by omega
     have HMA:=Hd (show ∀j,j<s4.n->KJ r.ties s4.n j<=32 by rw[hgn]at hR |-;exact hR.out);have hgd:¬((g:Int)<((s4.n:Nat):Int)):=by omega
     clear hg hlt hR hgn;have HG:=Hd (aaO II.out H.out.2.1.fw Jl.out);obtain⟨rk,hrk⟩:=aaQ (KU H.out.2.1 HSM.out).1 (KU H.out.2.1 HSM.out).2 HR.out (fun i hi=>by rw[HM.out.2]at hi |-;exact XH.out i hi) (fun i hi=>by rw[HM.out.2]at hi |-;exact HMA.out i hi);have HT:=Hd hrk;clear hrk;gi_wp2;clear o1 hkd hgd;gi_loopw[8] (fun i wr=>∃k:Nat,k<=q5/\i=.int .i64 k/\Hid (∀i x,i<k->r.rounds[i]?=some x->backOk r i x)/\Hid (Fr w wr [(w.heap.size,aV r s1 s2 s3 s4 ⟨A5,q5,c5⟩ s6 s7)])) (fun i _=>q5-(intOf i).toNat);case atStart=>exact⟨0,Nat.zero_le _,rfl,Hd (fun i x hi=>by omega),F⟩
     case round=>
      obtain⟨k,hk,rfl,hB,hF⟩:=hrel;replace F:=Hd hF.out;have o1:=aW F.out;by_cases hlt:k<q5
      ·obtain⟨y,hy⟩:=dW r.rounds k (by rw[H.out.2.2.2.2];exact hlt);have hrd:=HG.out.rounds y (List.mem_of_getElem? hy);have hno:XE y= -1\/∃u:Nat,XE y=(u:Int)/\u<r.ties.length:=by
        rcases hrd.2.2.2.2 with h|h;·exact .inl h.2
        exact .inr (by have:=DC h.2;rwa [List.length_map]at this)
       obtain⟨b1,u1,D1,m1,e1,rfl,⟨x0,x1,x2,x3,x4,x5⟩,⟨x6,x7,x8,x9,x10⟩,⟨x11,x12⟩,-,-,hs1⟩:=(H.out.2.2.2.1.go F.out.bl).iw hy;have HL:=Hd (R_ (au y) (at_:=(k:Int)) hs1);obtain⟨no,Yv⟩:=aC (XE y);rw[Yv]at hno;have ac8:wr.cell? ⟨b1,u1+k*13+12,none⟩=some (.int .i64 no):=by rw[<-Yv];exact x12
       have HY:=fB hy Yv ac8;clear hy hrd hs1 x12 Yv;rcases hno with rfl|⟨u,rfl,hu⟩
       ·gi_wp2_with (first
          |(refine Cl 64 HL.out ?_;rintro e w4 hw;obtain⟨b,rfl,hb,hb2⟩:=hw.of;have HX:=Hd hb;have ab7:=(Keeps.of_below hb2 []).cell (by simp) HY.out.2.2;replace F:=Hd (F.out.go hb2);have o2:=aW F.out;clear hb hb2 hw;cases b)
          |fail)
        ·exact⟨⟨k+1,by omega,by go_num,Hd (fun i x hi hx=>by
           by_cases e:i=k;·subst e;rw[HY.out.1]at hx;cases hx;exact⟨HX.out (by trivial),fun h=>by have h2:XE y= -1:=HY.out.2.1;have h3:0<=XE y:=h;omega⟩
           exact hB.out i x (by omega) hx),F⟩,by simp[intOf];omega⟩
        go_ret;exact iD.bad rfl (by decide) F.out.bl
       have hul:¬((u:Int)<0):=by omega
       have HU:=Hd hu;clear hu
       gi_wp2_with (first
        |(refine Cl 64 HL.out ?_;rintro e w4 hw;obtain⟨b,rfl,hb,hb2⟩:=hw.of;have HX:=Hd hb;have ab7:=(Keeps.of_below hb2 []).cell (by simp) HY.out.2.2;replace F:=Hd (F.out.go hb2);have o2:=aW F.out;have v12:=ah ab7;have v0:=ah (F.out.aQ 0 0);have v1:=ah (F.out.aQ 0 1);have v2:=ah (F.out.aQ 0 2);have v3:=ah (F.out.aQ 0 3);have v4:=ah (F.out.aQ 0 4);have v5:=ah (F.out.aQ 0 5);have v6:=ah (F.out.aQ 0 6);have v7:=ah (F.out.aQ 0 7);have v8:=ah (F.out.aQ 0 8);have X:=yj HT.out (rk u+1) u (Nat.lt_succ_self _) HU.out (M:=M) (M':= []) (H.out.1.go F.out.drew.bl) (b_.nil _);have HXC:=Hd X;clear hb hb2 hw X;cases b)
        |fail)
       rotate_left;·go_ret;exact iD.bad rfl (by decide) F.out.bl
       refine aP [] 8 (by kernel_rfl) (by kernel_rfl) ?_;refine ay 0 ?_;refine ay 1 ?_;refine ay 2 ?_;refine ay 3 ?_;refine ay 4 ?_;refine ay 5 ?_;refine ay 6 ?_;refine eU 7 fun K hK=>?_;gi_wp2;refine Cl 65 HXC.out ?_;rintro e w5 ⟨A2,m2,c2,rfl,hs2,hb2⟩;replace F:=Hd (F.out.drew.go hb2);have o3:=aW F.out;have hl2:=hs2.len;have hm2:m2<=32:=by rw[<-hl2];exact HT.out.len u HU.out
       have HS2:=Hd2 hs2 hl2;refine hK _ _ ⟨?_,?_⟩;clear hK K;·exact Keeps.of_below hb2 _
       clear hb2 hs2 hl2;refine lit ?_;refine iq 1 ?_;refine jW fun K hK K' hK'=>?_;gi_wp2;refine tail_nil _ ?_;simp only[cu];gi_wp2;gi_loopw[10] (fun i wr=>∃j:Nat,j<=m2/\i=.int .i64 j/\w5=wr/\Hid (∀y,y∈(Jd r u).take j->Hg k y)) (fun i _=>m2-(intOf i).toNat);case atStart=>exact⟨0,Nat.zero_le _,rfl,rfl,Hd (by simp)⟩
       case round=>
        obtain⟨j,hj,rfl,rfl,hJ⟩:=hrel;by_cases hlj:j<m2
        ·obtain⟨z,hz⟩:=dW (Jd r u) j (by rw[HS2.out.2];exact hlj);obtain⟨b3,ZU,rfl,y0,y1,y2⟩:=HS2.out.1.xQ hz;obtain⟨zk,zs,zn⟩:=z;simp only at y0 y1 y2;have HZ:=Hd hz;clear hz;by_cases z2:zk=2
         ·subst z2;by_cases hg:(k:Int)<=zn;·have hgd:decide ((k:Int)<=zn)=true:=decide_eq_true hg;gi_wp2;go_ret;exact iD.bad rfl (by decide) F.out.bl
          have hgd:decide ((k:Int)<=zn)=false:=decide_eq_false hg;gi_wp2;exact⟨⟨j+1,by omega,by go_num,trivial,Hd (bY HZ.out hJ.out (.inr (by show zn<_;omega)))⟩,by simp[intOf];omega⟩
         have z2b:(zk==2)=false:=beq_eq_false_iff_ne.2 z2;gi_wp2_with (first|(refine⟨trivial,?_⟩))
         exact⟨⟨j+1,by omega,by go_num,trivial,Hd (bY HZ.out hJ.out (.inl z2))⟩,by simp[intOf];omega⟩
        ·obtain rfl:j=m2:=by omega
         have HE:=Hd (show ∀y,y∈Jd r u->Hg k y by have h:=hJ.out;rwa [List.take_of_length_le (by rw[HS2.out.2];exact Nat.le_refl _)]at h);clear hj hlj hJ;gi_wp2;exact⟨⟨k+1,by omega,by go_num,Hd (fun i x hi hx=>by
          by_cases e:i=k;·subst e;rw[HY.out.1]at hx;cases hx;exact⟨HX.out (by trivial),fun _=>⟨u,HY.out.2.1,HU.out,HE.out⟩⟩
          exact hB.out i x (by omega) hx),F⟩,by simp[intOf];omega⟩
      ·obtain rfl:k=q5:=by omega
       have HE:=Hd (show P by rw[<-H.out.2.2.1];exact⟨HG.out,Jl.out,⟨rk,HT.out⟩,fun i x hx=>hB.out i x (by have:=(List.getElem?_eq_some_iff.1 hx).1;rw[H.out.2.2.2.2]at this;exact this) hx⟩);clear hk hlt hB;gi_wp2;go_ret;exact iD.ok rfl HE.out F.out.bl
end
end Go.Proofs.YtlcgbfkdnmdigaaGreatDoor
