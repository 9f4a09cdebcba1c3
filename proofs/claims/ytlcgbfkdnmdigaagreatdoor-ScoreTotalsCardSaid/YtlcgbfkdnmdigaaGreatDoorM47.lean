/- Lemmas and walks; no statement is proved here. -/
import Derived.Test.YtlcgbfkdnmdigaaGreatDoorTie
import Derived.Test.YtlcgbfkdnmdigaaGreatDoorCards
import Derived.LaidMore
import Derived.Stop.Joined
import Derived.Stop.LaidErr
import Derived.SevenTiedAt
import Derived.Test.YtlcgbfkdnmdigaaGreatDoorRows
import Derived.JoinedOf
import Derived.Test.YtlcgbfkdnmdigaaGreatDoorM46
set_option linter.unusedVariables false
set_option linter.unusedSimpArgs false
set_option maxRecDepth 20000
set_option maxHeartbeats 6000000
namespace Go.Proofs.YtlcgbfkdnmdigaaGreatDoor
open Go.Proofs.Tryz
section
open Go.RowKit Go.Shelf
attribute [local go_sem] Oper.semAt_some
def zL(x:aJ)(c:dS):Int:=if x.2.2.2.2.1=true then 150 else if eY c.marks=0 then 0 else 160
def ScoP(K:Int)(w:World)(e:Ending)(w':World):Prop:=∃p q A n c B m d,e=.returned (.tuple #[.agg #[.bool p,.slice A n c,.bool q,.slice B m d],.int .i64 K])/\Below w.heap.size w w'
theorem EJ{M:List Nat}{r:aS}{s1 s2 s3 s4 s5 s6 s7:dK}{c:dS}{t1 t2 t3 t4:dK}{w:World}{x:aJ}{i:Nat}(hr:dG w M r s1 s2 s3 s4 s5 s6 s7)(hc:jE w M c t1 t2 t3 t4)(hg:f_ r i c)(hw:yI r c)(hx:r.rounds[i]?=some x)(ht:Tab w)(hM:b_ M w):
 Calls prog 11 #[.agg (aV r s1 s2 s3 s4 s5 s6 s7).toArray,.int .i64 i,.agg (dI t1 t2 t3 t4).toArray] w (ScoP (zL x c) w):=by
 unfold zL
 cases hp:x.2.2.2.2.1 with
 |true=>rw[if_pos rfl];refine(PS hr hc hg hw hx hp ht hM).mono fun e w' h=>?_;exact⟨_,_,_,_,_,_,_,_,h.1,h.2⟩
 |false=>
  rw[if_neg (by simp)];by_cases hm:eY c.marks=0;·rw[if_pos hm];refine(Nj hr hc hg hw hx hp hm ht hM).mono fun e w' h=>?_;obtain⟨u,rfl,z,hb⟩:=h;obtain⟨p,q,A,n,c,B,m,d,rfl,-⟩:=QC.of z;exact⟨_,_,_,_,_,_,_,_,rfl,hb⟩
  ·rw[if_neg hm];refine(ED hr hc hg hw hx hp hm ht hM).mono fun e w' h=>?_;exact⟨_,_,_,_,_,_,_,_,h.1,h.2⟩
section
variable {r:aS}{s1 s2 s3 s4 s5 s6 s7:dK}{c:dS}{t1 t2 t3 t4:dK}{w:World}
theorem EK{i:Int}(hr:dG w [] r s1 s2 s3 s4 s5 s6 s7)(hc:jE w [] c t1 t2 t3 t4)(ht:Tab w)(hn:yI r c->¬f_ r i c):
 CB 3 #[.agg (aV r s1 s2 s3 s4 s5 s6 s7).toArray,.int .i64 i,.agg (dI t1 t2 t3 t4).toArray] (.bool true) w:=by
 refine wid ?_;obtain⟨W1,hW1,F1⟩:=dR (((Fr.nil w).a w.heap.size (aV r s1 s2 s3 s4 s5 s6 s7) 28).a (w.heap.size+1) (dI t1 t2 t3 t4) 32);have o1:=aW F1;have F:=Hd F1;have H:=fB hr hc ht;clear F1 hr hc ht;have HN:=Hd hn;clear hn;refine ent func3 rfl ntmps3 ?_
 gi_wp2_with (first
  |(have g:=G2.out;clear g;have X:=tY (i:=i) (H.out.1.go F.out.bl) (H.out.2.1.go F.out.bl) (HB.out (by trivial)).fw.1 (b_.nil _);refine Cl 9 X ?_;clear X;rintro e w4 hw;obtain⟨K,rfl,hK,hb2⟩:=hw.of;replace F:=Hd (F.out.go hb2);have hK0:K≠0:=fun e=>HN.out (HB.out (by trivial)) (hK e);have hkb:(K !=0)=true:=bne_iff_ne.2 hK0;clear hb2 hw hK hK0)
  |(have g:=G1.out;clear g;have X:=zH (H.out.1.go F.out.bl) (H.out.2.1.go F.out.bl);refine Cl 8 X ?_;clear X;rintro e w3 hw;obtain⟨b,rfl,hb,hb2⟩:=hw.of;replace F:=Hd (F.out.go hb2);have o3:=aW F.out;have HB:=Hd hb;have G2:=Hd trivial;clear hb hb2 hw;cases b)
  |(refine Cl 7 (EI (tab_below H.out.2.2 F.out.bl)) ?_;rintro e w2 ⟨rfl,hb2⟩;replace F:=Hd (F.out.go hb2);have o2:=aW F.out;have G1:=Hd trivial;clear hb2)
  |(refine⟨trivial,?_⟩))
 all_goals first
  |exact(gK (by assumption)).elim
  |(go_ret;exact⟨rfl,F.out.bl⟩)
end
section
variable {r:aS}{s1 s2 s3 s4 s5 s6 s7:dK}{c:dS}{t1 t2 t3 t4:dK}{w:World}{x:aJ}{i:Nat}
theorem Nl(hr:dG w [] r s1 s2 s3 s4 s5 s6 s7)(hc:jE w [] c t1 t2 t3 t4)(ht:Tab w)(hf:yI r c)(hg:f_ r i c)(hx:r.rounds[i]?=some x)(hm:¬eY c.marks=0):
 CB 3 #[.agg (aV r s1 s2 s3 s4 s5 s6 s7).toArray,.int .i64 i,.agg (dI t1 t2 t3 t4).toArray] (.bool true) w:=by
 refine wid ?_;obtain⟨A5,q5,c5⟩:=s5;obtain⟨B1,p1,d1⟩:=t1;have h5:Sl aJ w [] A5 q5 c5 r.rounds:=hr.rounds;have m1:Sl (List Int) w [] B1 p1 d1 c.marks:=hc.marks;have hi5:i<q5:=by rw[<-h5.len];exact(List.getElem?_eq_some_iff.1 hx).1
 have JC:=h5.small;have YZ:=m1.small;obtain⟨b5,o5,-,-,-,Zm,-⟩:=h5.iw hx;subst Zm;obtain⟨P,hP⟩:=aC x.2.2.2.2.1;obtain⟨W1,hW1,F1⟩:=dR (((Fr.nil w).a w.heap.size (aV r s1 s2 s3 s4 ⟨some ⟨b5,o5,none⟩,q5,c5⟩ s6 s7) 28).a (w.heap.size+1) (dI ⟨B1,p1,d1⟩ t2 t3 t4) 32);have o1:=aW F1;have F:=Hd F1;have H:=oK hr hc ht hf hg;have HX:=fB hx hP hm;have HL:=Hd2 m1.len hr.aT.len;clear F1 hr hc ht hf hg h5 m1 hx;have hK:zL x c=if P=true then 150 else 160:=by unfold zL;rw[hP,if_neg hm]
 obtain⟨N,hN⟩:=aC (eY c.marks);have HN:=Hd hN;have hN0:((N:Nat):Int)>0:=by rw[hN]at hm;omega
 clear hm hP hN;cases P
 all_goals
  have HK:=Hd hK;simp only[Bool.false_eq_true,if_true,if_false]at HK;clear hK;refine ent func3 rfl ntmps3 ?_
  gi_wp2_with (first
   |(have g:=G5.out;clear g;have X:=z_ (H.out.2.1.go F.out.bl) H.out.2.2.2.1.lens.1 H.out.2.2.2.1.mark;rw[HN.out]at X;refine Cl 12 X ?_;clear X;rintro e w8 ⟨rfl,hb2⟩
     skip
     replace F:=Hd (F.out.go hb2);have o8:=aW F.out;obtain⟨b3,ZU,D,m3,e3,eA,⟨-,-,-,-,y4,-⟩,-⟩:=(H.out.1.rounds.go F.out.bl).iw HX.out.1;cases eA;rw[HX.out.2.1]at y4;clear hb2)
   |(have g:=G4.out;clear g;have X:=EJ (H.out.1.go F.out.bl) (H.out.2.1.go F.out.bl) H.out.2.2.2.2 H.out.2.2.2.1 HX.out.1 (tab_below H.out.2.2.1 F.out.bl) (b_.nil _);rw[HK.out]at X;refine Cl 11 X ?_;clear X;rintro e w6 hw;unfold ScoP at hw;obtain⟨p,q,A,n,c',B,m,d,rfl,hb2⟩:=hw;obtain⟨W7,XM,F7⟩:=dR ((F.out.go hb2).a w6.heap.size [.bool p,.slice A n c',.bool q,.slice B m d] 42);have hb7:Below w6.heap.size w6 W7:=by rw[<-XM];exact bel
     skip
     replace F:=Hd F7;have o6:=aW F.out;have G5:=Hd trivial;clear hb2 hb7 F7)
   |(have g:=G3.out;clear g;have X:=EF (H.out.1.go F.out.bl) (H.out.2.1.go F.out.bl) H.out.2.2.2.2 HX.out.2.2 H.out.2.2.2.1.lens.1 H.out.2.2.2.1.mark (tab_below H.out.2.2.1 F.out.bl) (b_.nil _);refine Cl 10 X ?_;clear X;rintro e w5 ⟨rfl,hb2⟩;replace F:=Hd (F.out.go hb2);have o5:=aW F.out;have G4:=Hd trivial;clear hb2)
   |(have g:=G2.out;clear g;have X:=tY (i:=(i:Int)) (H.out.1.go F.out.bl) (H.out.2.1.go F.out.bl) H.out.2.2.2.1.fw.1 (b_.nil _);refine Cl 9 X ?_;clear X;rintro e w4 hw;obtain⟨K,rfl,hK,hb2⟩:=hw.of;replace F:=Hd (F.out.go hb2);have o4:=aW F.out;have G3:=Hd trivial;clear hb2 hw hK;rcases MO K with rfl|hkb)
   |(have g:=G1.out;clear g;have X:=zH (H.out.1.go F.out.bl) (H.out.2.1.go F.out.bl);refine Cl 8 X ?_;clear X;rintro e w3 hw;obtain⟨b,rfl,hb,hb2⟩:=hw.of;replace F:=Hd (F.out.go hb2);have o3:=aW F.out;have G2:=Hd trivial;clear hb hb2 hw;cases b)
   |(refine Cl 7 (EI (tab_below H.out.2.2.1 F.out.bl)) ?_;rintro e w2 ⟨rfl,hb2⟩;replace F:=Hd (F.out.go hb2);have o2:=aW F.out;have G1:=Hd trivial;clear hb2)
   |(refine⟨trivial,?_⟩))
  all_goals first
   |exact(gK (by assumption)).elim
   |(go_ret;exact⟨rfl,F.out.bl⟩)
end
def TfR(w:World)(R:List (Nat×List Value))(A:Option Addr)(c:Nat)(xs:List fC)(n:Nat)(i:Value)(wr:World):Prop:=∃k:Nat,k<=n/\i=.int .i64 k/\Hid (Fr w wr R)/\Hid (Sl fC wr [] A n c xs)
attribute [irreducible] TfR
section
variable {r:aS}{s1 s2 s3 s4 s5 s6 s7:dK}{c:dS}{t1 t2 t3 t4:dK}{w:World}{x:aJ}{i:Nat}
theorem Np(hr:dG w [] r s1 s2 s3 s4 s5 s6 s7)(hc:jE w [] c t1 t2 t3 t4)(ht:Tab w)(hf:yI r c)(hg:f_ r i c)(hx:r.rounds[i]?=some x)(hm:eY c.marks=0):
 CB 3 #[.agg (aV r s1 s2 s3 s4 s5 s6 s7).toArray,.int .i64 i,.agg (dI t1 t2 t3 t4).toArray] (.bool true) w:=by
 obtain⟨A1,q1,c1⟩:=s1;refine wid ?_;obtain⟨A5,q5,c5⟩:=s5;obtain⟨B1,p1,d1⟩:=t1;have h5:Sl aJ w [] A5 q5 c5 r.rounds:=hr.rounds;have m1:Sl (List Int) w [] B1 p1 d1 c.marks:=hc.marks;have hi5:i<q5:=by rw[<-h5.len];exact(List.getElem?_eq_some_iff.1 hx).1
 have JC:=h5.small;have YZ:=m1.small;obtain⟨b5,o5,-,-,-,Zm,-⟩:=h5.iw hx;subst Zm;obtain⟨P,hP⟩:=aC x.2.2.2.2.1;obtain⟨W1,hW1,F1⟩:=dR (((Fr.nil w).a w.heap.size (aV r ⟨A1,q1,c1⟩ s2 s3 s4 ⟨some ⟨b5,o5,none⟩,q5,c5⟩ s6 s7) 28).a (w.heap.size+1) (dI ⟨B1,p1,d1⟩ t2 t3 t4) 32);have o1:=aW F1;have F:=Hd F1;have H:=oK hr hc ht hf hg;have HX:=fB hx hP hm;have HL:=Hd2 m1.len hr.aT.len;clear F1 hr hc ht hf hg h5 m1 hx;have hK:zL x c=if P=true then 150 else 0:=by unfold zL;rw[hP,if_pos hm]
 have HN:=Hd hm;have Z8:=(wK H.out.2.2.2.2).1;have hq1:q1=p1:=by have h1:=HL.out.1;have h2:r.aT.length=q1:=HL.out.2;omega
 subst hq1;have HT:=Hd (show(jq r c).length=q1 by unfold jq;rw[List.length_map,List.length_zip];have h1:=HL.out.1;omega);have HGP:=Hd Z8;clear hm hP Z8;cases P
 all_goals
  have HK:=Hd hK;simp only[Bool.false_eq_true,if_true,if_false]at HK;clear hK;refine ent func3 rfl ntmps3 ?_
  gi_wp2_with (first
   |(have g:=G5.out;clear g;have X:=z_ (H.out.2.1.go F.out.bl) H.out.2.2.2.1.lens.1 H.out.2.2.2.1.mark;rw[HN.out]at X;refine Cl 12 X ?_;clear X;rintro e w8 ⟨rfl,hb2⟩;replace HLS:=Hd (HLS.out.go hb2);replace F:=Hd (F.out.go hb2);have o8:=aW F.out;obtain⟨b3,ZU,D,m3,e3,eA,⟨-,-,-,-,y4,-⟩,-⟩:=(H.out.1.rounds.go F.out.bl).iw HX.out.1;cases eA;rw[HX.out.2.1]at y4;clear hb2)
   |(have g:=G4.out;clear g;have X:=EJ (H.out.1.go F.out.bl) (H.out.2.1.go F.out.bl) H.out.2.2.2.2 H.out.2.2.2.1 HX.out.1 (tab_below H.out.2.2.1 F.out.bl) (b_.nil _);rw[HK.out]at X;refine Cl 11 X ?_;clear X;rintro e w6 hw;unfold ScoP at hw;obtain⟨p,q,A,n,c',B,m,d,rfl,hb2⟩:=hw;obtain⟨W7,XM,F7⟩:=dR ((F.out.go hb2).a w6.heap.size [.bool p,.slice A n c',.bool q,.slice B m d] 42);have hb7:Below w6.heap.size w6 W7:=by rw[<-XM];exact bel
     replace HLS:=Hd ((HLS.out.go hb2).go hb7);replace F:=Hd F7;have o6:=aW F.out;have G5:=Hd trivial;clear hb2 hb7 F7)
   |(have g:=G3.out;clear g;have X:=Iu (H.out.1.go F.out.bl) (H.out.2.1.go F.out.bl) H.out.2.2.2.2 HX.out.2.2 H.out.2.2.2.1.lens.1 H.out.2.2.2.1.mark (tab_below H.out.2.2.1 F.out.bl) (b_.nil _);refine Cl 10 X ?_;clear X;rintro e w5 ⟨A9,n9,c9,rfl,hls,hb2⟩;have uF:q1=n9:=by have h1:=hls.len;rw[List.length_map,HT.out]at h1;exact h1
     subst uF;have HLS:=Hd hls;replace F:=Hd (F.out.go hb2);have o5':=aW F.out;have G4:=Hd trivial;clear hb2 hls)
   |(have g:=G2.out;clear g;have X:=tY (i:=(i:Int)) (H.out.1.go F.out.bl) (H.out.2.1.go F.out.bl) H.out.2.2.2.1.fw.1 (b_.nil _);refine Cl 9 X ?_;clear X;rintro e w4 hw;obtain⟨K,rfl,hK,hb2⟩:=hw.of;replace F:=Hd (F.out.go hb2);have o4:=aW F.out;have G3:=Hd trivial;clear hb2 hw hK;rcases MO K with rfl|hkb)
   |(have g:=G1.out;clear g;have X:=zH (H.out.1.go F.out.bl) (H.out.2.1.go F.out.bl);refine Cl 8 X ?_;clear X;rintro e w3 hw;obtain⟨b,rfl,hb,hb2⟩:=hw.of;replace F:=Hd (F.out.go hb2);have o3:=aW F.out;have G2:=Hd trivial;clear hb hb2 hw;cases b)
   |(refine Cl 7 (EI (tab_below H.out.2.2.1 F.out.bl)) ?_;rintro e w2 ⟨rfl,hb2⟩;replace F:=Hd (F.out.go hb2);have o2:=aW F.out;have G1:=Hd trivial;clear hb2)
   |(refine⟨trivial,?_⟩))
  try any_goals(exact(gK (by assumption)).elim)
  any_goals(go_ret;exact⟨rfl,F.out.bl⟩)
  have HFR:=Hd (show Fr w w8 [(w.heap.size,aV r ⟨A1,q1,c1⟩ s2 s3 s4 ⟨some ⟨b5,o5,none⟩,q5,c5⟩ s6 s7),(w.heap.size+1,dI ⟨B1,q1,d1⟩ t2 t3 t4)]from F.out.only (fun y hy=>by simp at hy |-;rcases hy with h|h<;>simp[h]));clear o1 o2 o3 o4 o5' o6 o8 y4;gi_loopw[100] (fun j wr=>TfR w [(w.heap.size,aV r ⟨A1,q1,c1⟩ s2 s3 s4 ⟨some ⟨b5,o5,none⟩,q5,c5⟩ s6 s7),(w.heap.size+1,dI ⟨B1,q1,d1⟩ t2 t3 t4)] A9 c9 ((jq r c).map jd) q1 j wr) (fun j _=>q1-(intOf j).toNat);case atStart=>unfold TfR;exact⟨0,Nat.zero_le _,rfl,HFR,HLS⟩
  case round=>
   unfold TfR at hrel;obtain⟨k,hk,rfl,hF,hS⟩:=hrel;have oF:=aW hF.out;by_cases hlt:k<q1
   ·obtain⟨y,hy⟩:=dW r.aT k (by have h2:r.aT.length=q1:=HL.out.2;omega);obtain⟨l,hl⟩:=dW c.marks k (by have h1:c.marks.length=q1:=HL.out.1;omega);obtain⟨g1,g2,g3,g4,g5⟩:=Ez H.out.2.2.2.2 HN.out hy hl;have hcr:Sl bT wr [] A1 q1 c1 r.aT:=H.out.1.aT.go hF.out.bl;obtain⟨b,o,rfl,u0,u1,u2,u3,u4,u5,u6⟩:=hcr.IU hy;have hmk:Sl (List Int) wr [] B1 q1 d1 c.marks:=H.out.2.1.marks.go hF.out.bl;obtain⟨b2,o2,Al,nl,cl,rfl,c0,hsl⟩:=hmk.tX hl;obtain⟨Q,hQ⟩:=aC (qJ y l);have X:=Ew (M:= []) (w:=wr) y (b_.nil _) hsl g1 g2 (by rw[<-hsl.len];exact g3) (by rw[<-hsl.len];exact g4) (by rw[<-hsl.len];exact g5);rw[hQ]at X;have Zy:=Hd X;have hqk:(jq r c)[k]?=some Q:=by rw[<-hQ];unfold jq;rw[List.getElem?_map,oG hy hl];rfl
    obtain⟨b9,o9,A6,n6,c6,A7,n7,c7,rfl,y0,y1,y2,y3,qc⟩:=hS.out.PI hqk;have HE:=oK y0 y1 y2 y3 qc;clear y0 y1 y2 y3 qc X hsl hmk hcr g1 g2 g3 g4 g5 hy hl hqk hQ
    gi_wp2_with (first
     |(refine Cl 13 Zy.out ?_;rintro e w9 ⟨u,rfl,z,hb2⟩;obtain⟨p',q',A',n',c'',B',m',d',rfl,qz⟩:=QC.of z;obtain⟨W10,hW10,F10⟩:=dR ((hF.out.go hb2).a w9.heap.size [.bool p',.slice A' n' c'',.bool q',.slice B' m' d'] 42);have uU:Below w9.heap.size w9 W10:=by rw[<-hW10];exact bel
       have HW:=fB F10 (qz.go uU) (hb2.trans (uU.mono hb2.size));clear z qz hb2 uU F10)
     |fail)
    have a0:=ah (HW.out.1.aQ 2 0);have a1:=ah (HW.out.1.aQ 2 1);have a2:=ah (HW.out.1.aQ 2 2);have a3:=ah (HW.out.1.aQ 2 3);have e0:=ah ((HW.out.2.2.cell (p:=⟨b9,_,none⟩) (World.block_lt_of_cell? wr _ HE.out.1)).trans HE.out.1);have e1:=ah ((HW.out.2.2.cell (p:=⟨b9,_,none⟩) (World.block_lt_of_cell? wr _ HE.out.2.1)).trans HE.out.2.1);have e2:=ah ((HW.out.2.2.cell (p:=⟨b9,_,none⟩) (World.block_lt_of_cell? wr _ HE.out.2.2.1)).trans HE.out.2.2.1);have e3:=ah ((HW.out.2.2.cell (p:=⟨b9,_,none⟩) (World.block_lt_of_cell? wr _ HE.out.2.2.2.1)).trans HE.out.2.2.2.1);have XS:=zK (w:=W10.drew) (HW.out.2.1.go (Below.refl _ _).drew).qw.rv ((HE.out.2.2.2.2.go HW.out.2.2).go (Below.refl _ _).drew).qw.rv;rw[decide_eq_true rfl]at XS;have HXS:=Hd XS;clear XS u0 u1 u2 u3 u4 u5 u6 c0 oF;refine ak [] [0,1,2,3,4,5,6,7,8,9,10] (by kernel_rfl) (by kernel_rfl) ?_;refine eH ?_;refine aH fun K hK=>aA rfl rfl wy fun K' hK'=>?_;gi_wp2;refine Cl 14 HXS.out ?_;rintro e w11 ⟨rfl,hb3⟩;have HZ:=Hd (HW.out.2.2.trans (((Below.refl W10.heap.size W10).drew.trans hb3).mono HW.out.2.2.size));refine hK' _ _ ⟨?_,hK _ _ ?_⟩;clear hK' K' hK K;·exact Keeps.of_below hb3 _
    clear hb3;refine lit ?_;refine eH ?_;refine aK ?_;refine lit ?_;gi_wp2;exact⟨by unfold TfR;exact⟨k+1,by omega,by go_num,Hd (hF.out.go HZ.out),Hd (hS.out.go HZ.out)⟩,by simp[intOf];omega⟩
   ·gi_wp2;go_ret;exact⟨rfl,hF.out.bl⟩
end
end
section
open Go.RowKit Go.Shelf
theorem zM{r:aS}{s1 s2 s3 s4 s5 s6 s7:dK}{c:dS}{t1 t2 t3 t4:dK}{w:World}{i:Int}(hr:dG w [] r s1 s2 s3 s4 s5 s6 s7)(hc:jE w [] c t1 t2 t3 t4)(ht:Tab w):
 CB 3 #[.agg (aV r s1 s2 s3 s4 s5 s6 s7).toArray,.int .i64 i,.agg (dI t1 t2 t3 t4).toArray] (.bool true) w:=by
 by_cases hf:yI r c
 ·by_cases hg:f_ r i c
  ·obtain⟨-,k,x,rfl,hx,-⟩:=id hg;by_cases hm:eY c.marks=0;·exact Np hr hc ht hf hg hx hm
   exact Nl hr hc ht hf hg hx hm
  exact EK hr hc ht fun _=>hg
 ·exact EK hr hc ht fun h=>absurd h hf
end
section
open Go.ChangeShapes Go.WideShapes Go.ChangeAt Go.RowKit Go.Deep Go.Joins
section
set_option maxRecDepth 100000
theorem own:ownKnob prog.godebug=none:=by kernel_rfl
theorem laidOut:laidOutB prog=true:=by kernel_rfl
theorem jU:Opens Int prog 3:=QU underlying3
theorem wM:Opens ByteArray prog 9:=IL underlying9
theorem uS:Opens (List Int) prog 26:=iI underlying26 (by kernel_rfl) (by decide+kernel) jU
theorem Zp:Opens bT prog 53:=fG underlying53 (by kernel_rfl) (aX rfl (by kernel_rfl) wM (aX rfl (by kernel_rfl) jU (aX rfl (by kernel_rfl) jU (aX rfl (by kernel_rfl) jU (aX rfl (by kernel_rfl) jU (aX rfl (by kernel_rfl) jU (iL rfl (by kernel_rfl) (qP underlying4))))))))
theorem Zq:Opens bW prog 61:=fG underlying61 (by kernel_rfl) (aX rfl (by kernel_rfl) wM (aX rfl (by kernel_rfl) jU (iL rfl (by kernel_rfl) jU)))
theorem op_key:Opens bK prog 116:=fG underlying116 (by kernel_rfl) (aX rfl (by kernel_rfl) jU (aX rfl (by kernel_rfl) wM (iL rfl (by kernel_rfl) jU)))
theorem op_tie:Opens dA prog 108:=fG underlying108 (by kernel_rfl) (aX rfl (by kernel_rfl) wM (iL rfl (by kernel_rfl) (iI underlying106 (by kernel_rfl) (by decide+kernel) op_key)))
theorem Zr:Opens aU prog 48:=NH underlying48 (by kernel_rfl) (by decide+kernel) ⟨rfl,rfl,rfl,rfl,rfl⟩ ⟨by kernel_rfl,by kernel_rfl,by kernel_rfl,by kernel_rfl,by kernel_rfl⟩ underlying3 underlying9 underlying3 underlying3 underlying46
theorem Xy:Opens aJ prog 50:=fG underlying50 (by kernel_rfl) (aX rfl (by kernel_rfl) wM (aX rfl (by kernel_rfl) jU (aX rfl (by kernel_rfl) jU (aX rfl (by kernel_rfl) jU (aX rfl (by kernel_rfl) (qP underlying4) (aX rfl (by kernel_rfl) (qP underlying4) (aX rfl (by kernel_rfl) Zr (aX rfl (by kernel_rfl) wM (iL rfl (by kernel_rfl) jU)))))))))
theorem Xz:Opens lG prog 40:=fG underlying40 (by kernel_rfl) (aX rfl (by kernel_rfl) (qP underlying4) (iL rfl (by kernel_rfl) uS))
theorem op_rat:Opens fC prog 42:=fG underlying42 (by kernel_rfl) (aX rfl (by kernel_rfl) Xz (iL rfl (by kernel_rfl) Xz))
abbrev RulT:=ByteArray×List bT×List bW×List bW×List dA×List aJ×List Int×List Int×Int
abbrev CrdT:=List (List Int)×List Int×List Int×List fC
theorem Nq:Opens (List bW) prog 23:=iI underlying23 (by kernel_rfl) (by decide+kernel) Zq
theorem XA:Opens RulT prog 28:=fG underlying28 (by kernel_rfl) (aX rfl (by kernel_rfl) wM (aX rfl (by kernel_rfl) (iI underlying22 (by kernel_rfl) (by decide+kernel) Zp) (aX rfl (by kernel_rfl) Nq (aX rfl (by kernel_rfl) Nq (aX rfl (by kernel_rfl) (iI underlying24 (by kernel_rfl) (by decide+kernel) op_tie) (aX rfl (by kernel_rfl) (iI underlying25 (by kernel_rfl) (by decide+kernel) Xy) (aX rfl (by kernel_rfl) uS (aX rfl (by kernel_rfl) uS (iL rfl (by kernel_rfl) jU)))))))))
theorem Zt:Opens CrdT prog 32:=fG underlying32 (by kernel_rfl) (aX rfl (by kernel_rfl) (iI underlying29 (by kernel_rfl) (by decide+kernel) uS) (aX rfl (by kernel_rfl) uS (aX rfl (by kernel_rfl) uS (iL rfl (by kernel_rfl) (iI underlying30 (by kernel_rfl) (by decide+kernel) op_rat)))))
section
variable {H:Type}{enc:TypeId×Value→H}{W:World}{v:Value}{d:DataW H}{p:List MemPlace}{b:Nat}
theorem Uc(hv:Value.okWide prog W .any b 28 v)(h:DataW.Trod enc prog W 0 (fun _=>true) true 28 v d p)(hw:∀n,n∈d.weights prog 28->n<=reachBytes):
 ∃r s1 s2 s3 s4 s5 s6 s7,v=.agg (aV r s1 s2 s3 s4 s5 s6 s7).toArray/\dG W [] r s1 s2 s3 s4 s5 s6 s7:=by
 obtain⟨cs,rfl,hsz⟩:=okWide_struct underlying28 hv;obtain⟨fuel,hg⟩:=h;rw[show(Value.cells (.agg cs)).toList=cs.toList from rfl]at hg;obtain⟨x,hx⟩:=XA H enc W true fuel _ d p hg hw;obtain⟨_,_,e,h0,_,_,rfl,⟨A1,n1,c1,rfl,g1⟩,_,_,rfl,⟨A2,n2,c2,rfl,g2⟩,_,_,rfl,⟨A3,n3,c3,rfl,g3⟩,_,_,rfl,⟨A4,n4,c4,rfl,g4⟩,_,_,rfl,⟨A5,n5,c5,rfl,g5⟩,_,_,rfl,⟨A6,n6,c6,rfl,g6⟩,_,_,rfl,⟨A7,n7,c7,rfl,g7⟩,⟨rfl,h8⟩⟩:=hx;have e0:_=_:=h0;subst e0;exact⟨⟨x.1,x.2.1,x.2.2.1,x.2.2.2.1,x.2.2.2.2.1,x.2.2.2.2.2.1,x.2.2.2.2.2.2.1,x.2.2.2.2.2.2.2.1,x.2.2.2.2.2.2.2.2⟩,⟨A1,n1,c1⟩,⟨A2,n2,c2⟩,⟨A3,n3,c3⟩,⟨A4,n4,c4⟩,⟨A5,n5,c5⟩,⟨A6,n6,c6⟩,⟨A7,n7,c7⟩,congrArg Value.agg (Array.toList_inj.1 e),g1,g2,g3,g4,g5,g6,g7,h8⟩
theorem XB(hv:Value.okWide prog W .any b 32 v)(h:DataW.Trod enc prog W 0 (fun _=>true) true 32 v d p)(hw:∀n,n∈d.weights prog 32->n<=reachBytes):
 ∃c t1 t2 t3 t4,v=.agg (dI t1 t2 t3 t4).toArray/\jE W [] c t1 t2 t3 t4:=by
 obtain⟨cs,rfl,hsz⟩:=okWide_struct underlying32 hv;obtain⟨fuel,hg⟩:=h;rw[show(Value.cells (.agg cs)).toList=cs.toList from rfl]at hg;obtain⟨x,hx⟩:=Zt H enc W true fuel _ d p hg hw;obtain⟨_,_,e,⟨A1,n1,c1,rfl,g1⟩,_,_,rfl,⟨A2,n2,c2,rfl,g2⟩,_,_,rfl,⟨A3,n3,c3,rfl,g3⟩,⟨A4,n4,c4,rfl,g4⟩⟩:=hx;exact⟨⟨x.1,x.2.1,x.2.2.1,x.2.2.2⟩,⟨A1,n1,c1⟩,⟨A2,n2,c2⟩,⟨A3,n3,c3⟩,⟨A4,n4,c4⟩,congrArg Value.agg (Array.toList_inj.1 e),g1,g2,g3,g4⟩
theorem Zu(hv:Value.okWide prog W .any b 3 v)(h:DataW.Trod enc prog W 0 (fun _=>true) true 3 v d p):∃x,v=.int .i64 x/\i64 x:=by obtain⟨x,rfl,-,-,wx⟩:=open_int underlying3 hv h;exact⟨x,rfl,wf_i64 wx⟩
end
end
end
section
open Go.ChangeShapes Go.WideShapes Go.ChangeAt Go.RowKit
section
set_option maxRecDepth 100000
theorem door_met(os:Os)(args:Array Value):laidMetH prog Rows.scoreTotalsRow.laid ((World.doorLaid prog 400 os).forCall (fun _ _=>0) ⟨#[],args, []⟩).memory:=laidMetH_of_parts3 (fuel:=8) (laidMet_of_run' 8 (by kernel_rfl) (by kernel_rfl)) (by kernel_rfl) (by kernel_rfl)
theorem tab_of{W:World}(h:laidMetH prog Rows.scoreTotalsRow.laid W):Tab W:=by rw[MakeChecks.laidMetH_plain _ _ _ (by kernel_rfl)]at h;exact Lib.tabIs_of_head (t:=286) (e:=5) (g:=0) (n:=256) (rest:= []) (by kernel_rfl) (by kernel_rfl) underlying286 underlying5 (by kernel_rfl) (by kernel_rfl) (laidMet.tail h)
theorem wO(os:Os)(started:os.Started)(H:Type)(enc:TypeId×Value->H):
 ReturnsInHanded {} checked os 3 .any (fun w args=>(Rows.scoreTotalsSpec.pre enc prog f3 [] false w args/\laidMetH prog Rows.scoreTotalsRow.laid w)/\sizedMet enc prog f3 (OpenSpec.ofChange Rows.scoreTotalsSpec) false w args) (Rows.scoreTotalsSpec.post enc prog f3 false true false false):=by
 refine returnsInHanded_of_change_and (C:=checked) (X:=fun w _=>laidMetH prog Rows.scoreTotalsRow.laid w) (fun _ _ _ hh h=>h.of_heap hh) own started (by kernel_rfl) func3 (ChangeSpec.witness_shaped (enc:=enc) (C:=checked) (os:=os) (X:=fun w _=>laidMetH prog Rows.scoreTotalsRow.laid w) false (World.doorLaid prog 400 os) #[.agg #[.string ⟨#[]⟩,.slice none 0 0,.slice none 0 0,.slice none 0 0,.slice none 0 0,.slice none 0 0,.slice none 0 0,.slice none 0 0,.int .i64 0],.int .i64 0,.agg #[.slice none 0 0,.slice none 0 0,.slice none 0 0,.slice none 0 0]] 8 rfl (World.shaped_of_RefB (by kernel_rfl) (by kernel_rfl)) (by kernel_rfl) (by kernel_rfl) (by kernel_rfl) (door_met os _)) ?_;intro W base args ds gs before hval0 hW _ hsz0 hL _;have hsz:(DataW.weightsEach prog (f3.params.toList++Rows.scoreTotalsSpec.plain.varTypes prog) (ds++gs)).all (· <=reachBytes)=true:=hsz0;have hval:∀(j:Nat) t v,f3.params[j]?=some t->args[j]?=some v->Value.okWide prog W .any base t v:=hval0;have hW':=hW;have hlt:=hW.lt;obtain⟨p,q,hA0,hV,rfl,hfz,hnd⟩:=hW;have hA:DataW.TrodAll enc prog W 0 (fun _=>true) true f3.params.toList args.toList ds p:=hA0;rw[params3]at hA hval hsz;obtain⟨v0,v1,v2,d0,d1,d2,p0,p1,p2,rfl,rfl,rfl,h0,h1,h2⟩:=trodAll_three hA;obtain⟨rfl,rfl⟩:=trodVars_none hV;clear hA0 hval0 hsz0;have hwt:∀(j:Nat) (t:TypeId) (d:DataW H), [28,3,32][j]?=some t-> [d0,d1,d2][j]?=some d->∀n,n∈d.weights prog t->n<=reachBytes:=by
  intro j t d ht hd n hn;have:=List.all_eq_true.1 hsz n (DataW.weights_mem_each (j:=j) (by
   rw[List.getElem?_append_left (List.getElem?_eq_some_iff.1 ht).1];exact ht) (by
   rw[List.append_nil];exact hd) n hn)
  simpa using this
 obtain⟨r0,s01,s02,s03,s04,s05,s06,s07,rfl,hx0⟩:=Uc (hval 0 _ _ rfl rfl) h0 (hwt 0 _ _ rfl rfl);obtain⟨x1,rfl,hx1⟩:=Zu (hval 1 _ _ rfl rfl) h1;obtain⟨c2,t21,t22,t23,t24,rfl,hx2⟩:=XB (hval 2 _ _ rfl rfl) h2 (hwt 2 _ _ rfl rfl);simp only[List.append_nil]at hW' hlt;refine(zM hx0 hx2 (tab_of hL)).mono fun e W' ⟨he,hb⟩=>?_;subst he;refine⟨_,rfl,_,_,_, [],p0++(p1++p2), [],hW',trodAll_mk1 (shut_bool underlying4 true),?_,rfl,hb.frame _,fun h=>by cases h⟩;exact trodAll_mk3 (hb.trod laidOut (by kernel_rfl) (by decide+kernel) h0 (fun x hx=>hlt x (by simp[hx]))) (hb.trod laidOut (by kernel_rfl) (by decide+kernel) h1 (fun x hx=>hlt x (by simp[hx]))) (hb.trod laidOut (by kernel_rfl) (by decide+kernel) h2 (fun x hx=>hlt x (by simp[hx])))
end
end
section
section
set_option maxRecDepth 100000
theorem EL:(Rows.scoreTotalsRow.wf (OpenSpec.ofChange Rows.scoreTotalsSpec))=true:=by kernel_rfl
theorem EM:(laidOutB prog)=true:=by kernel_rfl
theorem EN:(mapsRowed prog)=true:=by kernel_rfl
theorem EO:(f3.params.all (prog.readableRec ·))=true:=by kernel_rfl
theorem EP:(namedTie prog Rows.scoreTotalsRow.named Rows.scoreTotalsSpec.vars)=true:=by kernel_rfl
theorem ER:((Rows.scoreTotalsRow.stops== []))=true:=by kernel_rfl
theorem ES:((prog.stops== []))=true:=by kernel_rfl
theorem ET:((Rows.scoreTotalsRow.knobs== []))=true:=by kernel_rfl
theorem EU:((prog.stopKnobs== []))=true:=by kernel_rfl
theorem Az:((Rows.scoreTotalsRow.maps==(f3.params.toList++Rows.scoreTotalsSpec.plain.varTypes prog).any (prog.mapsRec ·)))=true:=by kernel_rfl
theorem AA:((Rows.scoreTotalsRow.ifaces==(f3.params.toList++Rows.scoreTotalsSpec.plain.varTypes prog).any (prog.ifacesRec ·)))=true:=by kernel_rfl
theorem AB:((Rows.scoreTotalsRow.mapsOut==prog.mapsAmong f3.resultTypes.toList))=true:=by kernel_rfl
theorem AL:((Rows.scoreTotalsRow.loops==(f3.params.toList++Rows.scoreTotalsSpec.plain.varTypes prog).any (prog.loopsFrom ·)))=true:=by kernel_rfl
theorem AO:((Rows.scoreTotalsRow.wideKeys==(f3.params.toList++Rows.scoreTotalsSpec.plain.varTypes prog++f3.resultTypes.toList).any (prog.wideKeysFrom ·)))=true:=by kernel_rfl
theorem AP:(Rows.scoreTotalsSpec.vars.all (prog.varReadable ·))=true:=by kernel_rfl
theorem AQ:(f3.resultTypes.all (fun t=>prog.readableRec t&&decide (t<prog.types.size)))=true:=by kernel_rfl
theorem AU:((Rows.scoreTotalsRow.ifacesOut==f3.resultTypes.toList.any (prog.ifacesRec ·)))=true:=by kernel_rfl
theorem AV:((Rows.scoreTotalsRow.loopsOut==f3.resultTypes.toList.any (prog.loopsFrom ·)))=true:=by kernel_rfl
theorem AX:((Rows.scoreTotalsRow.plainKeys==prog.plainKeys))=true:=by kernel_rfl
theorem AY:(Rows.scoreTotalsRow.shortTexts.isNone)=true:=by kernel_rfl
theorem AZ:(prog.stopsHeard)=true:=by kernel_rfl
theorem A_:(prog.mayEnter)=true:=by kernel_rfl
theorem Ba:((Rows.scoreTotalsRow.lifted==prog.liftsFinal))=true:=by kernel_rfl
theorem Bc:((prog.make==some Rows.scoreTotalsRow.make))=true:=by kernel_rfl
theorem Bf:((Rows.scoreTotalsRow.kinds==(if Rows.scoreTotalsRow.domain.isEmpty then []else f3.params.toList.map fun t=>match prog.underlying t with|some (.int k)=>some k|_=>none)))=true:=by kernel_rfl
theorem Bg:((Rows.scoreTotalsRow.pinned==Rows.scoreTotalsRow.pinnedBy))=true:=by kernel_rfl
theorem Bh:((Rows.scoreTotalsRow.veiled==(f3.params.toList++Rows.scoreTotalsSpec.plain.varTypes prog++f3.resultTypes.toList).any (prog.veiledRec ·)))=true:=by kernel_rfl
theorem Bj:(Rows.scoreTotalsRow.veiledFits prog f3.params.toList (f3.params.toList++Rows.scoreTotalsSpec.plain.varTypes prog++f3.resultTypes.toList))=true:=by kernel_rfl
end
section
set_option maxRecDepth 100000
theorem EW:((Rows.scoreTotalsRow.inPlace==prog.inPlace 3))=true:=by kernel_rfl
theorem Bl:((Rows.scoreTotalsRow.named==prog.varsNamed 3))=true:=by kernel_rfl
end
section
set_option maxRecDepth 100000
theorem Bo:((Rows.scoreTotalsRow.unfollowed==prog.unfollowed 3))=true:=by kernel_rfl
theorem Bq:((Rows.scoreTotalsRow.recurses==prog.recurses 3))=true:=by kernel_rfl
end
section
set_option maxRecDepth 100000
theorem gB{a b:Bool}(h:a=true)(k:b=true):(a&&b)=true:=by rw[h,k];rfl
theorem wP:joinedFacts prog 3 f3 Rows.scoreTotalsSpec Rows.scoreTotalsRow=true:=gB (gB (gB (gB (gB (gB (gB (gB (gB (gB (gB (gB (gB (gB (gB (gB (gB (gB (gB (gB (gB (gB (gB (gB (gB (gB (gB (gB (gB (gB (gB (EL) EM) EN) EO) EP) ER) ES) ET) EU) EW) Bo) Bq) Bl) Az) AA) AB) AL) AO) AP) AQ) AU) AV) AX) AY) AZ) A_) Ba) Bc) Bf) Bg) Bh) Bj
end
open Go.ChangeShapes Go.WideShapes Go.ChangeAt Go.RowKit
section
set_option maxRecDepth 100000
theorem Bv:Rows.ScoreTotalsSaid:=
 OpenClaim.holds_of_wide 3 f3 rfl rfl rfl rfl rfl rfl rfl ⟨rfl,rfl,rfl,rfl,rfl⟩ rfl rfl rfl rfl rfl (by kernel_rfl) func3 wP
  (of_decide_eq_true (by kernel_rfl)) (by unfold Func.isWrapper;rw[if_neg (of_decide_eq_false (by kernel_rfl))];exact⟨rfl,rfl⟩)
  (fun os started H enc _=>wO os started H enc)
end
end
end Go.Proofs.YtlcgbfkdnmdigaaGreatDoor
