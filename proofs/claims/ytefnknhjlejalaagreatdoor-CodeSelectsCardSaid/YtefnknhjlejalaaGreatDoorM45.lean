/- Lemmas and walks; no statement is proved here. -/
import Derived.Test.YtefnknhjlejalaaGreatDoorM33
import Derived.Test.YtefnknhjlejalaaGreatDoorM41
import Derived.Test.YtefnknhjlejalaaGreatDoorM44
set_option linter.unusedVariables false
set_option linter.unusedSimpArgs false
set_option maxRecDepth 20000
set_option maxHeartbeats 6000000
namespace Go.Proofs.YtefnknhjlejalaaGreatDoor
open Go.Proofs.Tryz Go.RowKit Go.Shelf
theorem acZ{p:Prop}(h:p:=by
 refine ent func106 rfl ntmps106 ?_
 gi_wp2_with (first
  |(have g:=G1.out;clear g;have X:=HC.out.2 _ F.out.bl;refine Cl 147 X ?_;clear X;rintro e w2 ⟨rfl,hb2⟩;replace F:=Hd (F.out.go hb2);have o1:=opc F.out;clear hb2)
  |(have X:=HC.out.1 _ F.out.bl;refine Cl 147 X ?_;clear X;rintro e w2 ⟨rfl,hb2⟩;replace F:=Hd (F.out.go hb2);have o1:=opc F.out;have G1:=Hd trivial;clear hb2)
  |(refine⟨trivial,?_⟩))
 go_ret;exact⟨by rw[HZ.out];simp[*],F.out.bl⟩):p:=h
theorem adO{p:Prop}(h:p:=by
 clear hZ;refine ent func72 rfl ntmps72 ?_
 gi_wp2_with (first
  |(refine Cl 34 HC.out ?_;rintro e w2 ⟨rfl,hb2⟩;replace F:=Hd (F.out.go hb2);have o1:=opc F.out;clear hb2)
  |fail)
 go_ret;exact⟨by rw[HZ.out];rfl,F.out.bl⟩):p:=h
theorem aed{p:Prop}(h:p:=by have hr2:=hr.out;rw[List.drop_of_length_le (by rw[H.out.2.1];omega)]at hr2;have HR:=Hd hr2;clear hr2;gi_wp2;go_ret;exact⟨-1,rfl,by rw[<-HR.out];rfl,hB.out⟩):p:=h
theorem aer{p:Prop}(h:p:=by
 try rw[hwF]
 exact⟨rfl,.agg #[.bool p2,.slice A2 n2 c2,.bool q2,.slice B2 m2 d2],by simp[results,go_sem,t0,t1,t2,t3],_,rfl,hQ,bF⟩):p:=h
theorem ae6{p:Prop}(h:p:=by
 rcases List.mem_cons.1 hk with rfl|hk;·exact h.hb
 exact Nat.lt_of_lt_of_le (h.bM k hk) h.wu):p:=h
theorem afa{p:Prop}(h:p:=by go_ret;exact⟨by rw[HZ.out,<-hS.out,HY.out.1,HY.out.2];simp;omega,Below.refl _ _⟩):p:=h
theorem afb{p:Prop}(h:p:=by unfold jq;rw[List.length_take,List.length_map,List.length_zip,HL.out.2.2.1,HM.out];omega):p:=h
variable {A B:Option Addr}{n m d g i k:Nat}{c:dS}{l:List Int}{lb:Array Value}{P:Int→Bool}{p:Bool}{q:Rt}{r:aS}{s1 s2 s3 s4 s5 s6 s7 t1 t2 t3 t4:dK}{x:aJ}{y:bT}
section
attribute [local go_sem] Oper.semAt_some
theorem zY{M:List Nat}{c:Nat}{xs:List bW}{w:World}(hx:Sl bW w M A n c xs)(hs:Sl Int w M B m d l):
 CB 147 #[.slice A n c,.slice B m d] (.bool (dV xs l)) w:=by
 refine wid ?_;have hsm:=hs.small;have hsn:=hx.small;have H:=h_ hx hx.len hs hs.len;obtain⟨Z,hZ⟩:=aC (dV xs l);have HZ:=Hd (show Z=(decide (m=n)&&(xs.zip l).all fun p=>countB p.1 p.2) by rw[<-hZ,dV,hs.len,hx.len]);rw[hZ];clear hs hx hZ;by_cases hp:m=n;rotate_left;·have hpb:(((m:Nat):Int)!=((n:Nat):Int))=true:=bne_iff_ne.2 (by omega);have HH:=Hd hp;refine ent func147 rfl ntmps147 ?_;gi_wp2;go_ret;exact⟨by rw[HZ.out,decide_eq_false HH.out];rfl,Below.refl _ _⟩
 subst hp;refine ent func147 rfl ntmps147 ?_;gi_wp2;gi_loopw[14] (fun i wr=>∃k:Nat,k<=m/\i=.int .i64 k/\w=wr/\Hid (((xs.zip l).drop k).all (fun p=>countB p.1 p.2)=(xs.zip l).all fun p=>countB p.1 p.2)) (fun i _=>m-(intOf i).toNat);case atStart=>exact⟨0,Nat.zero_le _,rfl,rfl,Hd rfl⟩
 case round=>
  obtain⟨k,hk,rfl,rfl,hS⟩:=hrel;by_cases hlt:k<m
  ·obtain⟨x,hx⟩:=dW xs k (by rw[H.out.2.1];exact hlt);obtain⟨b,o,y,rfl,c0,-,-,hy⟩:=H.out.2.2.1.pR hlt;obtain⟨b2,o2,rfl,-,-,x2⟩:=H.out.1.NQ hx;have hst:=iC (P:=fun p:bW×Int=>countB p.1 p.2) (oG hx hy);obtain⟨t,ht⟩:=aC x.2.2;rw[ht]at x2;have HY:=Hd2 hst (show countB x y=(decide (0<=y)&&decide (y<=t)) by rw[countB,ht]);clear hy hx hst ht;by_cases g1:y<0
   ·gi_wp2_with (first|(refine⟨trivial,?_⟩))
    exact afa
   by_cases g2:y>t;·gi_wp2;exact afa
   gi_wp2;exact⟨⟨k+1,by omega,by go_num,trivial,Hd (by rw[<-hS.out,HY.out.1,HY.out.2,decide_eq_true (show 0<=y by omega),decide_eq_true (show y<=t by omega)];rfl)⟩,by simp[intOf];omega⟩
  ·obtain rfl:k=m:=by omega
   have HE:=Hd (show Z=true by rw[HZ.out,<-hS.out,jr (by rw[List.length_zip,H.out.2.1,H.out.2.2.2];omega)];simp);clear hk hlt;gi_wp2;go_ret;exact⟨by rw[HE.out];rfl,Below.refl _ _⟩
theorem Xf{M:List Nat}{c:Nat}{w:World}(eg:∀args w,(callFunc g args).run prog w=.ok (.enter g args) w)(hs:Sl Int w M A n c l)(hg:∀x V,x∈l->Below w.heap.size w V->Calls prog g (#[.int .i64 x]++lb) V fun e w'=>e=.returned (.bool (P x))/\Below V.heap.size V w'):
 Calls prog 110 #[.slice A n c,.func (.func g) #[] lb] w fun e w'=>∃i:Int,e=.returned (.int .i64 i)/\decide (0<=i)=l.any P/\Below w.heap.size w w':=by
 refine wid ?_;have hsm:=hs.small;have H:=fB hs hs.len hg;clear hs hg;refine ent func110 rfl ntmps110 ?_;gi_wp2;gi_loopw[8] (fun i wr=>∃k:Nat,k<=n/\i=.int .i64 k/\Hid ((l.drop k).any P=l.any P)/\Hid (Below w.heap.size w wr)) (fun i _=>n-(intOf i).toNat);case atStart=>exact⟨0,Nat.zero_le _,rfl,Hd rfl,Hd (Below.refl _ _)⟩
 case round=>
  obtain⟨k,hk,rfl,hr,hB⟩:=hrel;by_cases hlt:k<n
  ·obtain⟨b,o,x,rfl,hc,-,hd,hx⟩:=(H.out.1.go hB.out).pR hlt;have hr2:=hr.out;rw[hd,List.any_cons]at hr2;have X:=H.out.2.2 x wr (List.mem_of_getElem? hx) hB.out;obtain⟨z,hz⟩:=aC (P x);rw[hz]at X hr2;have HX:=Hd X;have HR:=Hd hr2;clear hr2 hd hz hx X;cases z
   all_goals gi_wp2_with (first
    |(refine Cl g HX.out ?_;rintro e w2 ⟨rfl,hb2⟩;have HB2:=Hd (hB.out.trans (hb2.mono hB.out.size));clear hb2)
    |fail)
   ·exact⟨⟨k+1,by omega,by go_num,Hd (by have:=HR.out;rwa [Bool.false_or]at this),HB2⟩,by simp[intOf];omega⟩
   go_ret;exact⟨k,rfl,by rw[<-HR.out,Bool.true_or];simp,HB2.out⟩
  ·exact aed
theorem MP{M:List Nat}{c:Nat}{w:World}(eg:∀args w,(callFunc g args).run prog w=.ok (.enter g args) w)(hs:Sl Int w M A n c l)(hg:∀x V,x∈l->Below w.heap.size w V->Calls prog g (#[.int .i64 x]++lb) V fun e w'=>e=.returned (.bool (P x))/\Below V.heap.size V w'):
 CB 76 #[.slice A n c,.func (.func g) #[] lb] (.bool (l.any P)) w:=by
 refine wid ?_;have H:=Hd (Xf eg hs hg);clear hs hg;refine ent func76 rfl ntmps76 ?_
 gi_wp2_with (first
  |(refine Cl 110 H.out ?_;rintro e w2 ⟨i,rfl,hi,hb2⟩;have HI:=Hd2 hi hb2;clear hi hb2)
  |fail)
 go_ret;exact⟨by rw[<-HI.out.1];rfl,HI.out.2⟩
theorem Pg{M:List Nat}{c:Nat}{q:Bool}{l1 l2:List Int}{w:World}(hM:b_ M w)(hx:Sl Int w M A n c l1)(hy:Sl Int w M B m d l2):
 CB 151 #[.agg #[.bool p,.slice A n c,.bool q,.slice B m d]] (.bool (!dF ((p,l1),(q,l2)))) w:=by
 refine wid ?_;obtain⟨W1,hW1,F1⟩:=nam ((Fr.nil w).a w.heap.size [.bool p,.slice A n c,.bool q,.slice B m d] 30);have o1:=opc F1;have F:=Hd F1;have X:=Em (p:=p) (q:=q) (hM.le F1.bl.size) (hx.go F1.bl) (hy.go F1.bl);obtain⟨z,hz⟩:=aC (dF ((p,l1),(q,l2)));rw[hz]at X |-;have HX:=Hd X;clear F1 hx hy hM X hz;cases z
 all_goals
  refine ent func151 rfl ntmps151 ?_
  gi_wp2_with (first
   |(refine Cl 23 HX.out ?_;rintro e w2 ⟨rfl,hb2⟩;simp only[qM,if_true,if_false,Bool.false_eq_true];have F2:=Hd (F.out.go hb2);clear hb2)
   |fail)
  go_ret;exact⟨rfl,F2.out.bl⟩
theorem TL{M:List Nat}{c:Nat}{l:List RatR}{w:World}(hM:b_ M w)(hs:Sl RatR w M A n c l):
 Calls prog 188 #[.slice A n c,.func (.func 151) #[] #[]] w fun e w'=>∃i:Int,e=.returned (.int .i64 i)/\decide (0<=i)=l.any (fun x=> !dF x)/\Below w.heap.size w w':=by
 refine wid ?_;have hsm:=hs.small;have H:=fB hs hs.len hM;have eg:=enters_of (P:=prog) func151 (by kernel_rfl) rfl;clear hs hM;refine ent func188 rfl ntmps188 ?_;gi_wp2;gi_loopw[8] (fun i wr=>∃k:Nat,k<=n/\i=.int .i64 k/\Hid ((l.drop k).any (fun x=> !dF x)=l.any (fun x=> !dF x))/\Hid (Below w.heap.size w wr)) (fun i _=>n-(intOf i).toNat);case atStart=>exact⟨0,Nat.zero_le _,rfl,Hd rfl,Hd (Below.refl _ _)⟩
 case round=>
  obtain⟨k,hk,rfl,hr,hB⟩:=hrel;by_cases hlt:k<n
  ·obtain⟨y,hy⟩:=dW l k (by rw[H.out.2.1];exact hlt);obtain⟨b,o,E1,n1,a1,E2,n2,a2,rfl,x0,x1,x2,x3,hn1,hn2⟩:=(H.out.1.go hB.out).ratat hy;have hr2:=hr.out;rw[List.drop_eq_getElem_cons (by rw[H.out.2.1];exact hlt),List.any_cons,(List.getElem?_eq_some_iff.1 hy).2]at hr2;have X:=Pg (p:=y.1.1) (q:=y.2.1) (H.out.2.2.le hB.out.size) hn1 hn2;obtain⟨z,hz⟩:=aC (dF ((y.1.1,y.1.2),(y.2.1,y.2.2)));rw[hz]at X;rw[show dF y=z from hz]at hr2;have HX:=Hd X;have HR:=Hd hr2;clear hr2 hz hy X hn1 hn2;cases z
   all_goals gi_wp2_with (first
    |(refine Cl 151 HX.out ?_;rintro e w2 ⟨rfl,hb2⟩;have HB2:=Hd (hB.out.trans (hb2.mono hB.out.size));clear hb2)
    |fail)
   ·go_ret;exact⟨k,rfl,by rw[<-HR.out,Bool.not_false,Bool.true_or];simp,HB2.out⟩
   exact⟨⟨k+1,by omega,by go_num,Hd (by have:=HR.out;rwa [Bool.not_true,Bool.false_or]at this),HB2⟩,by simp[intOf];omega⟩
  ·exact aed
theorem JF{M:List Nat}{c:Nat}{l:List RatR}{w:World}(hM:b_ M w)(hs:Sl RatR w M A n c l):
 CB 150 #[.slice A n c,.func (.func 151) #[] #[]] (.bool (l.any fun x=> !dF x)) w:=by
 refine wid ?_;have H:=Hd (TL hM hs);clear hs hM;refine ent func150 rfl ntmps150 ?_
 gi_wp2_with (first
  |(refine Cl 188 H.out ?_;rintro e w2 ⟨i,rfl,hi,hb2⟩;have HI:=Hd2 hi hb2;clear hi hb2)
  |fail)
 go_ret;exact⟨by rw[<-HI.out.1];rfl,HI.out.2⟩
theorem ZN{c:bT}{m:Int}(hr:fJ (rX c)=true):pz (rX c) m=if Nv (rX c) m=true then(kC c m,0)else(0,160):=by unfold pz;rw[if_pos hr];rfl
theorem Ph{M:List Nat}{bk bi q cp j:Nat}{cs:List bT}{c:bT}{m:Int}{w:World}(h1:w.cell? ⟨bk,5,none⟩=some (.slice A q cp))(h2:w.cell? ⟨bi,0,none⟩=some (.int .i64 j))(hs:Sl bT w M A q cp cs)(hc:cs[j]?=some c)(hr:fJ (rX c)=true):
 CB 148 #[.int .i64 m,.pointer (some ⟨bk,0,none⟩),.pointer (some ⟨bi,0,none⟩)] (.bool (!oD c m)) w:=by
 refine wid ?_;have hjq:j<q:=by rw[<-hs.len];exact(List.getElem?_eq_some_iff.1 hc).1
 have hsm:=hs.small;obtain⟨b,o,rfl,u0,u1,u2,u3,u4,u5,u6⟩:=hs.IU hc;have HB:=Hd (DJ c.1 c.2.1 c.2.2.1 c.2.2.2.1 c.2.2.2.2.1 c.2.2.2.2.2.1 c.2.2.2.2.2.2 m w);rw[show(⟨c.1,c.2.1,c.2.2.1,c.2.2.2.1,c.2.2.2.2.1,c.2.2.2.2.2.1,c.2.2.2.2.2.2⟩:DF)=rX c from rfl,ZN hr]at HB;obtain⟨z,hz⟩:=aC (Nv (rX c) m);obtain⟨Z,hZ⟩:=aC (oD c m);have HZ:=Hd (show Z=(decide (m= -1)||z) by rw[<-hZ,oD,hz]);rw[hz]at HB;rw[hZ];clear hs hc hr hz hZ;by_cases hm:m= -1
 ·subst hm;refine ent func148 rfl ntmps148 ?_
  gi_wp2_with (first
   |(refine Cl 149 HB.out ?_;rintro e w2 ⟨rfl,hb2⟩)
   |(refine⟨trivial,?_⟩))
  all_goals
   go_ret;exact⟨by rw[HZ.out];simp,hb2⟩
 ·have hmb:(m != -1)=true:=bne_iff_ne.2 hm;have HH:=Hd hm;clear hm;cases z
  all_goals
   simp only[if_true,if_false,Bool.false_eq_true]at HB;refine ent func148 rfl ntmps148 ?_
   gi_wp2_with (first
    |(refine Cl 149 HB.out ?_;rintro e w2 ⟨rfl,hb2⟩)
    |fail)
   go_ret;exact⟨by rw[HZ.out,decide_eq_false HH.out];first|rfl|simp,hb2⟩
abbrev pY(r:aS)(s1 s2 s3 s4 s5 s6 s7:dK)(i:Nat)(t1 t2 t3 t4:dK):List Value:= [.slice t1.A t1.n t1.c,.slice t2.A t2.n t2.c,.slice t3.A t3.n t3.c,.slice t4.A t4.n t4.c,.string r.name,.slice s1.A s1.n s1.c,.slice s2.A s2.n s2.c,.slice s3.A s3.n s3.c,.slice s4.A s4.n s4.c,.slice s5.A s5.n s5.c,.slice s6.A s6.n s6.c,.slice s7.A s7.n s7.c,.int .i64 r.best,.int .i64 i]
theorem Y4(l:List Int)(P:Int->Bool):(l.any fun m=> !P m)= !l.all P:=by induction l<;>simp_all
theorem Xg(l:List RatR)(P:RatR->Bool):(l.any fun m=> !P m)= !l.all P:=by induction l<;>simp_all
theorem Pj{M:List Nat}{w:World}(hr:dG w M r s1 s2 s3 s4 s5 s6 s7)(hc:jE w M c t1 t2 t3 t4)(hx:r.rounds[i]?=some x)(hq:∀y,y∈r.aT->fJ (rX y)=true)(hM:b_ M w):
 CB 106 #[.agg (pY r s1 s2 s3 s4 s5 s6 s7 i t1 t2 t3 t4).toArray] (.bool (kS r i x.2.1 c)) w:=by
 refine wid ?_;obtain⟨A1,q1,c1⟩:=s1;obtain⟨A5,q5,c5⟩:=s5;obtain⟨B1,p1,d1⟩:=t1;obtain⟨B4,p4,d4⟩:=t4;have h1:Sl bT w M A1 q1 c1 r.aT:=hr.aT;have h5:Sl aJ w M A5 q5 c5 r.rounds:=hr.rounds;have m1:Sl (List Int) w M B1 p1 d1 c.marks:=hc.marks;have m4:Sl RatR w M B4 p4 d4 c.prev:=hc.prev;have YZ:=m1.small;have acG:=m4.small;have hi:i<q5:=by rw[<-h5.len];exact(List.getElem?_eq_some_iff.1 hx).1
 have JC:=h5.small;obtain⟨zb,hzb⟩:=aC (dV r.bonus c.bonus);obtain⟨zm,hzm⟩:=aC (dV r.malus c.malus);have X:(∀V,Below w.heap.size w V->Calls prog 147 #[.slice s2.A s2.n s2.c,.slice t2.A t2.n t2.c] V fun e w'=>e=.returned (.bool (dV r.bonus c.bonus))/\Below V.heap.size V w')/\(∀V,Below w.heap.size w V->Calls prog 147 #[.slice s3.A s3.n s3.c,.slice t3.A t3.n t3.c] V fun e w'=>e=.returned (.bool (dV r.malus c.malus))/\Below V.heap.size V w'):=⟨fun V hb=>zY (hr.bonus.go hb) (hc.bonus.go hb),fun V hb=>zY (hr.malus.go hb) (hc.malus.go hb)⟩;rw[hzb,hzm]at X;have HC:=Hd X;obtain⟨W1,hW1,F1⟩:=nam ((Fr.nil w).a w.heap.size (pY r ⟨A1,q1,c1⟩ s2 s3 s4 ⟨A5,q5,c5⟩ s6 s7 i ⟨B1,p1,d1⟩ t2 t3 ⟨B4,p4,d4⟩) 118);have o1:=opc F1;have F:=Hd F1;have H:=Hd5 h1 h5 m1 m4 hM;have HL:=h_ h1.len m1.len m4.len hq;obtain⟨Z,hZ⟩:=aC (kS r i x.2.1 c);have HZ:=Hd (show Z=(decide (p1=q1)&&zb&&zm&&decide (p4=i)&&((r.aT.zip c.marks).all fun q=>jc q.1 x.2.1 q.2)&&c.prev.all dF) by rw[<-hZ,kS,hzb,hzm,h1.len,m1.len,m4.len]);rw[hZ];have HX:=Hd hx;clear F1 h1 h5 m1 m4 hM hr hc hq hZ hzb hzm X hx;by_cases g1:p1=q1;rotate_left;·have g1b:(((p1:Nat):Int)!=((q1:Nat):Int))=true:=bne_iff_ne.2 (by omega);exact acZ
 subst g1;cases zb;·exact acZ
 cases zm;·exact acZ
 by_cases g4:p4=i;rotate_left;·have g4b:(((p4:Nat):Int)!=((i:Nat):Int))=true:=bne_iff_ne.2 (by omega);exact acZ
 subst g4;refine ent func106 rfl ntmps106 ?_
 gi_wp2_with (first
  |(have g:=G1.out;clear g;have X:=HC.out.2 _ F.out.bl;refine Cl 147 X ?_;clear X;rintro e w2 ⟨rfl,hb2⟩;replace F:=Hd (F.out.go hb2);have o1:=opc F.out;clear hb2)
  |(have X:=HC.out.1 _ F.out.bl;refine Cl 147 X ?_;clear X;rintro e w2 ⟨rfl,hb2⟩;replace F:=Hd (F.out.go hb2);have o1:=opc F.out;have G1:=Hd trivial;clear hb2)
  |(refine⟨trivial,?_⟩))
 have HZ2:=Hd (show Z=(((r.aT.zip c.marks).all fun q=>jc q.1 x.2.1 q.2)&&c.prev.all dF) by rw[HZ.out];simp);clear HZ HC G1;obtain⟨R,hR⟩:∃R:List (Nat×List Value), [(w.heap.size,pY r ⟨A1,p1,c1⟩ s2 s3 s4 ⟨A5,q5,c5⟩ s6 s7 p4 ⟨B1,p1,d1⟩ t2 t3 ⟨B4,p4,d4⟩)]=R:=⟨_,rfl⟩;have HR:=Hd (show ∀V,Fr w V R↔Fr w V [(w.heap.size,pY r ⟨A1,p1,c1⟩ s2 s3 s4 ⟨A5,q5,c5⟩ s6 s7 p4 ⟨B1,p1,d1⟩ t2 t3 ⟨B4,p4,d4⟩)]from fun V=>by rw[hR]);replace F:=Hd ((HR.out _).2 F.out);clear hR o1;gi_loopw[48] (fun i wr=>∃k:Nat,k<=p1/\i=.int .i64 k/\Hid (((r.aT.zip c.marks).drop k).all (fun q=>jc q.1 x.2.1 q.2)=(r.aT.zip c.marks).all fun q=>jc q.1 x.2.1 q.2)/\Hid (Fr w wr R)) (fun i _=>p1-(intOf i).toNat);case atStart=>exact⟨0,Nat.zero_le _,rfl,Hd rfl,F⟩
 case round=>
  obtain⟨k,hk,rfl,hS,hF⟩:=hrel;replace F:=Hd ((HR.out _).1 hF.out);by_cases hlt:k<p1
  ·obtain⟨y,hy⟩:=dW r.aT k (by rw[HL.out.1];exact hlt);obtain⟨l,hl⟩:=dW c.marks k (by rw[HL.out.2.1];exact hlt);obtain⟨W5,CZ,F5⟩:=nam (F.out.a wr.heap.size [.int .i64 k] 3);have o1:=opc F.out;have o5:=opc F5;obtain⟨b2,o2,Al,nl,cl,rfl,c0,hsl⟩:=(H.out.2.2.1.go F.out.bl).tX hl;obtain⟨b3,o3,D,m,e,rfl,⟨-,y1,-⟩,-⟩:=(H.out.2.1.go F5.bl).iw HX.out;have hst:=iC (P:=fun q:bT×List Int=>jc q.1 x.2.1 q.2) (oG hy hl);have hyr:=HL.out.2.2.2 y (List.mem_of_getElem? hy);have hb5:Below wr.heap.size wr W5:=by rw[<-CZ];exact(Below.refl _ wr).alloc (Nat.le_refl _) _
   have X:=MP (P:=fun m=> !oD y m) (lb:=#[.pointer (some ⟨w.heap.size,0,none⟩),.pointer (some ⟨wr.heap.size,0,none⟩)]) (enters_of (P:=prog) func148 (by kernel_rfl) rfl) (hsl.go hb5) (fun m V _ hV=>Ph (M:=M) (bk:=w.heap.size) (bi:=wr.heap.size) (j:=k) ((F5.go hV).aQ 0 5) ((F5.go hV).aQ 1 0) (H.out.1.go (F5.go hV).bl) hy hyr);rw[Y4]at X;obtain⟨zl,hzl⟩:=aC (l.all (oD y));rw[hzl]at X;have Zy:=Hd X;obtain⟨pn,hpn⟩:=aC x.2.1;have HY:=Hd2 hst (show jc y x.2.1 l=(decide ((nl:Int)=pn)&&zl) by rw[jc,hzl,hsl.len,hpn]);rw[hpn]at y1;have Yu:=Hd F5;clear hy hl hst hyr X hzl hsl F5 hb5 hpn;by_cases hp:((nl:Nat):Int)=pn
   ·subst hp;cases zl
    all_goals gi_wp2_with (first
     |(refine Cl 76 Zy.out ?_;rintro e w6 ⟨rfl,hb2⟩;have F6:=Hd (Yu.out.go hb2);clear hb2)
     |fail)
    ·go_ret;exact⟨by rw[HZ2.out,<-hS.out,HY.out.1,HY.out.2];simp,F6.out.bl⟩
    exact⟨⟨k+1,by omega,by go_num,Hd (by rw[<-hS.out,HY.out.1,HY.out.2];simp),Hd ((HR.out _).2 F6.out.hd)⟩,by simp[intOf];omega⟩
   have hpb:(((nl:Nat):Int)!=pn)=true:=bne_iff_ne.2 hp;have HH:=Hd hp;clear hp;gi_wp2_with (first|(refine⟨trivial,?_⟩))
   go_ret;exact⟨by rw[HZ2.out,<-hS.out,HY.out.1,HY.out.2,decide_eq_false HH.out];simp,Yu.out.bl⟩
  ·obtain rfl:k=p1:=by omega
   have o1:=opc F.out;have HE:=Hd (show Z=c.prev.all dF by rw[HZ2.out,<-hS.out,jr (by rw[List.length_zip,HL.out.1,HL.out.2.1];omega)];simp);have X:=JF (H.out.2.2.2.2.le F.out.bl.size) (H.out.2.2.2.1.go F.out.bl);rw[Xg,<-HE.out]at X;have Zy:=Hd X;clear hk hlt hS X;cases Z
   all_goals
    gi_wp2_with (first
     |(refine Cl 150 Zy.out ?_;rintro e w6 ⟨rfl,hb2⟩;have F6:=Hd (F.out.go hb2);clear hb2)
     |fail)
    go_ret;exact⟨rfl,F6.out.bl⟩
def vF(r:aS)(i:Int)(c:dS):Int:=if i<0 then 1 else match r.rounds[i.toNat]? with
 |none=>1
 |some x=>if kS r i.toNat x.2.1 c=true then 0 else 170
theorem Pv{i:Int}(h:f_ r i c):vF r i c=0:=by obtain⟨-,k,x,rfl,hx,hc⟩:=h;unfold vF;rw[if_neg (by omega),Int.toNat_natCast,hx];simp[hc]
theorem zZ(h:Sound r)(hx:r.rounds[k]?=some x):∀y,y∈r.aT->fJ (rX y)=true:=fun y hy=>DX (h.2.1.aT y hy) (MN (h.2.1.rounds x (List.mem_of_getElem? hx)) hy)
theorem rO{M:List Nat}{i:Int}{w:World}(hr:dG w M r s1 s2 s3 s4 s5 s6 s7)(hc:jE w M c t1 t2 t3 t4)(hs:Sound r)(ht:Tab w)(hM:b_ M w):
 CB 72 #[.agg (aV r s1 s2 s3 s4 s5 s6 s7).toArray,.int .i64 i,.agg (dI t1 t2 t3 t4).toArray] (.int .i64 (vF r i c)) w:=by
 refine wid ?_;obtain⟨Z,hZ⟩:=aC (vF r i c);rw[hZ];have hl5:=hr.rounds.len;have JC:=hr.rounds.small;obtain⟨W1,hW1,F1⟩:=nam (((Fr.nil w).a w.heap.size (aV r s1 s2 s3 s4 s5 s6 s7) 52).a (w.heap.size+1) (dI t1 t2 t3 t4) 59);have o1:=opc F1;have F:=Hd F1;obtain⟨rk,T⟩:=hs.2.2.1;have HC:=Hd (Pq (hr.go F1.bl) hs.1 hs.2.1 T hs.2.2.2 (tab_below ht F1.bl) (hM.le F1.bl.size));have H:=Hd5 hr hc hs hM hl5;clear F1 hr hc hs hM hl5 ht T;by_cases hi:i<0;·have hib:(decide (i<0))=true:=decide_eq_true hi;have HZ:=Hd (show Z=1 by rw[<-hZ,vF,if_pos hi]);exact adO
 obtain⟨k,rfl⟩:∃k:Nat,i=(k:Int):=⟨i.toNat,by omega⟩;by_cases hk:s5.n<=k
 ·have hkg:((k:Nat):Int)>=((s5.n:Nat):Int):=by omega
  have HZ:=Hd (show Z=1 by rw[<-hZ,vF,if_neg hi,Int.toNat_natCast,List.getElem?_eq_none (by rw[H.out.2.2.2.2];omega)]);exact adO
 obtain⟨x,hx⟩:=dW r.rounds k (by rw[H.out.2.2.2.2];omega);have hkl:¬((k:Nat):Int)>=((s5.n:Nat):Int):=by omega
 obtain⟨z,hz⟩:=aC (kS r k x.2.1 c);have HZ:=Hd (show Z=if z=true then 0 else 170 by rw[<-hZ,vF,if_neg hi,Int.toNat_natCast,hx];simp only[hz]);have HX:=Hd2 hx hz;clear hx hz hZ;cases z
 all_goals
  refine ent func72 rfl ntmps72 ?_
  gi_wp2_with (first
   |(have g:=G1.out;clear g;have X:=Pj (H.out.1.go F.out.bl) (H.out.2.1.go F.out.bl) HX.out.1 (zZ H.out.2.2.1 HX.out.1) (H.out.2.2.2.1.le F.out.bl.size);rw[HX.out.2]at X;refine Cl 106 X ?_;clear X;rintro e w3 ⟨rfl,hb2⟩;replace F:=Hd (F.out.go hb2);clear hb2)
   |(refine Cl 34 HC.out ?_;rintro e w2 ⟨rfl,hb2⟩;replace F:=Hd (F.out.go hb2);have o1:=opc F.out;have G1:=Hd trivial;clear hb2)
   |fail)
  go_ret;exact⟨by rw[HZ.out];rfl,F.out.bl⟩
theorem kD{M:List Nat}{i:Int}{w:World}(hr:dG w M r s1 s2 s3 s4 s5 s6 s7)(hc:jE w M c t1 t2 t3 t4)(hg:f_ r i c)(ht:Tab w)(hM:b_ M w):
 CB 72 #[.agg (aV r s1 s2 s3 s4 s5 s6 s7).toArray,.int .i64 i,.agg (dI t1 t2 t3 t4).toArray] (.int .i64 0) w:=by
 have h:=rO (i:=i) hr hc hg.1 ht hM
 rwa [Pv hg]at h
theorem rP(w:World):Calls prog 71 #[.int .i64 0] w fun e w'=>e=.returned (.tuple #[])/\w=w':=by refine wid ?_;refine ent func71 rfl ntmps71 ?_;gi_wp2;go_end0;exact⟨rfl,rfl⟩
theorem wJ{M:List Nat}{v:Value}{w:World}(hM:b_ M w)(hq:QW w M v q):Calls prog 108 #[v,.int .i64 0] w fun e w'=>∃u,e=.returned u/\QW w' M u q/\Below w.heap.size w w':=by
 refine wid ?_;obtain⟨p2,q2,A2,n2,c2,B2,m2,d2,rfl,qc⟩:=QC.of hq;obtain⟨W1,hW1,F1⟩:=nam (((Fr.nil w).a w.heap.size [.bool p2,.slice A2 n2 c2,.bool q2,.slice B2 m2 d2] 30).a (w.heap.size+1) [.bool false,.slice none 0 0,.bool false,.slice none 0 0] 30);have o1:=opc F1;have G:=Hd2 F1 ((qc.more (b:=w.heap.size+1) (by omega)).go F1.bl);clear hq qc F1 hM;refine ent func108 rfl ntmps108 ?_
 gi_wp2_with (first
  |(refine Cl 71 (rP _) ?_;rintro e w2 ⟨rfl,rfl⟩)
  |fail)
 obtain⟨wF,hwF,t0,t1,t2,t3,hQ,bF⟩:=nN (M:=M) (G.out.1.aQ 1 0) (G.out.1.aQ 1 1) (G.out.1.aQ 1 2) (G.out.1.aQ 1 3) (x:=q) G.out.2.num.sl G.out.2.den.sl G.out.2.num.neg G.out.2.den.neg G.out.1.bl (Nat.le_succ _);exact aer
theorem M_{M:List Nat}{w:World}(hc:jE w M c t1 t2 t3 t4)(hm:eY c.marks=0)(hl:∀l,l∈c.marks->l.length<=1000000):
 CB 73 #[.agg (pY r s1 s2 s3 s4 s5 s6 s7 i t1 t2 t3 t4).toArray] (.tuple #[]) w:=by
 refine wid ?_;obtain⟨A,n,cp⟩:=t1;have h1:Sl (List Int) w M A n cp c.marks:=hc.marks;have hsm:=h1.small;obtain⟨W1,hW1,F1⟩:=nam ((Fr.nil w).a w.heap.size (pY r s1 s2 s3 s4 s5 s6 s7 i ⟨A,n,cp⟩ t2 t3 t4) 118);have o1:=opc F1;have F:=Hd F1;have H:=h_ (h1.go F1.bl) h1.len hl hm;clear F1 hc hm h1 hl;refine ent func73 rfl ntmps73 ?_;gi_wp2;gi_loopw[8] (fun i wr=>∃k:Nat,k<=n/\i=.int .i64 k/\W1=wr) (fun i _=>n-(intOf i).toNat);case atStart=>exact⟨0,Nat.zero_le _,rfl,rfl⟩
 case round=>
  obtain⟨k,hk,rfl,rfl⟩:=hrel;by_cases hlt:k<n
  ·obtain⟨l,hlk⟩:=dW c.marks k (by rw[H.out.2.1];exact hlt);obtain⟨b,o,B,m,d,rfl,c0,hsl⟩:=H.out.1.tX hlk;have X:=rD B l m d (-1) W1 hsl.len (by rw[<-hsl.len];exact H.out.2.2.1 l (List.mem_of_getElem? hlk)) hsl;rw[show decide ((-1:Int)∈l)=false from decide_eq_false fun e=>Et H.out.2.2.2 l (List.mem_of_getElem? hlk) _ e rfl]at X;have HX:=Hd X;clear X hlk hsl
   gi_wp2_with (first
    |(refine Cl 107 HX.out ?_;rintro e w2 ⟨rfl,rfl⟩)
    |fail)
   exact⟨⟨k+1,by omega,by go_num,trivial⟩,by simp[intOf];omega⟩
  ·gi_wp2;go_end0;exact⟨rfl,F.out.bl⟩
theorem Ez{i:Int}(h:f_ r i c)(hm:eY c.marks=0)(hy:r.aT[k]?=some y)(hl:c.marks[k]?=some l):
 fJ (rX y)=true/\(∀m,m∈l->Nv (rX y) m=true)/\0<l.length/\l.length<=256/\2*y.2.2.2.2.2.1<l.length:=by
 obtain⟨hs,j,x,rfl,hx,hc⟩:=h;have hr:=hs.2.1.rounds x (List.mem_of_getElem? hx);unfold kS at hc;simp only[Bool.and_eq_true]at hc;have h1:=List.all_eq_true.1 hc.1.2 _ (List.mem_of_getElem? (oG hy hl));unfold jc at h1;simp only[Bool.and_eq_true]at h1;have h2:=of_decide_eq_true h1.1;have h3:=hr.1;have h4:=hr.2.2.2.1 y (List.mem_of_getElem? hy);rw[Int.tdiv_eq_ediv_of_nonneg (by omega)]at h4;refine⟨zZ hs hx y (List.mem_of_getElem? hy),fun m hmm=>?_,by omega,by omega,by omega⟩;have h5:=List.all_eq_true.1 h1.2 m hmm;unfold oD at h5;rw[decide_eq_false (Et hm l (List.mem_of_getElem? hl) m hmm),Bool.false_or]at h5;exact h5
theorem Ac{M:List Nat}{w:World}(hr:dG w M r s1 s2 s3 s4 s5 s6 s7)(hc:jE w M c t1 t2 t3 t4)(hg:f_ r i c)(hm:eY c.marks=0)(hy:r.aT[k]?=some y)(hl:c.marks[k]?=some l)(hM:b_ M w):
 Calls prog 74 #[.agg (pY r s1 s2 s3 s4 s5 s6 s7 i t1 t2 t3 t4).toArray,.int .i64 k] w fun e w'=>∃u,e=.returned u/\QW w' M u (qJ y l)/\Below w.heap.size w w':=by
 refine wid ?_;obtain⟨A1,q1,c1⟩:=s1;obtain⟨B1,p1,d1⟩:=t1;have h1:Sl bT w M A1 q1 c1 r.aT:=hr.aT;have m1:Sl (List Int) w M B1 p1 d1 c.marks:=hc.marks;have YZ:=m1.small;have ab9:=h1.small;have hkq:k<q1:=by rw[<-h1.len];exact(List.getElem?_eq_some_iff.1 hy).1
 have hkp:k<p1:=by rw[<-m1.len];exact(List.getElem?_eq_some_iff.1 hl).1
 obtain⟨g1,g2,g3,g4,g5⟩:=Ez hg hm hy hl;obtain⟨W1,hW1,F1⟩:=nam (((Fr.nil w).a w.heap.size (pY r ⟨A1,q1,c1⟩ s2 s3 s4 s5 s6 s7 i ⟨B1,p1,d1⟩ t2 t3 t4) 118).a (w.heap.size+1) [.bool false,.slice none 0 0,.bool false,.slice none 0 0] 30);have F:=Hd F1;obtain⟨b,o,rfl,u0,u1,u2,u3,u4,u5,u6⟩:=(h1.go F1.bl).IU hy;obtain⟨b2,o2,Al,nl,cl,rfl,c0,hsl⟩:=((m1.more (b:=w.heap.size+1) (Nat.le_succ _)).go F1.bl).tX hl;have o1:=opc F1.drew;have v0:=ah u0;have v1:=ah u1;have v2:=ah u2;have v3:=ah u3;have v4:=ah u4;have v5:=ah u5;have v6:=ah u6;have v7:=ah c0;have z5:=ah (F1.aQ 0 5);have z0:=ah (F1.aQ 0 0);have hM2:b_ ((w.heap.size+1)::M) W1:=(hM.le F1.bl.size).cons (F1.mJ 1);obtain⟨Q,hQ⟩:=aC (qJ y l);have X:=Ew (M:=(w.heap.size+1)::M) (w:=W1.drew) y (hM2.le (Nat.le_refl _)) (hsl.go (Below.refl _ _).drew) g1 g2 (by rw[<-hsl.len];exact g3) (by rw[<-hsl.len];exact g4) (by rw[<-hsl.len];exact g5);rw[hQ]at X |-;have HX:=Hd X;have qx:=Hd hM2;clear X g1 g2 g3 g4 g5 hQ hsl hM2 u0 u1 u2 u3 u4 u5 u6 c0 h1 m1 hr hc hg hm hy hl hM F1;refine ent func74 rfl ntmps74 ?_;gi_wp2;refine iF [] 16 1 [0,1,2,3,4,5,6,7,8,9,10,11,12,13,14,15] (by kernel_rfl) (by kernel_rfl) rfl ?_;refine eH ?_;refine aH fun K hK=>aA rfl rfl wy fun K' hK'=>?_;gi_wp2;refine Cl 109 HX.out ?_;rintro e w2 ⟨u,rfl,z2,hb2⟩;have F2:=Hd (F.out.drew.go hb2);have HG:=Hd (wJ (M:=(w.heap.size+1)::M) (qx.out.le (Nat.le_trans (Nat.le_refl _) hb2.size)) z2);refine hK' _ _ ⟨?_,hK _ _ ?_⟩;clear hK' K' hK K;·exact Keeps.of_below hb2 _
 clear hb2 z2;refine lit ?_;refine eH ?_;refine aH fun K hK=>aA rfl rfl wy fun K' hK'=>?_;gi_wp2;refine Cl 108 HG.out ?_;rintro e w3 ⟨u,rfl,z2,hb2⟩;obtain⟨p2,q2,A2,n2,c2,B2,m2,d2,rfl,qc⟩:=QC.of z2;have G:=Hd2 (F2.out.go hb2) qc;refine hK' _ _ ⟨?_,hK _ _ ?_⟩;clear hK' K' hK K;·exact Keeps.of_below hb2 _
 clear hb2 z2 qc;refine lit ?_;refine aK ?_;have o2:=opc G.out.1;refine jW fun K hK K' hK'=>?_;gi_wp2;refine tail_nil _ ?_;gi_wp2;obtain⟨wF,hwF,t0,t1,t2,t3,hQ,bF⟩:=nN (M:=M) (G.out.1.aQ 1 0) (G.out.1.aQ 1 1) (G.out.1.aQ 1 2) (G.out.1.aQ 1 3) (x:=Q) G.out.2.num.sl G.out.2.den.sl G.out.2.num.neg G.out.2.den.neg G.out.1.bl (Nat.le_succ _);try rw[hwF]
 exact⟨rfl,.agg #[.bool p2,.slice A2 n2 c2,.bool q2,.slice B2 m2 d2],by simp[results,go_sem,t0,t1,t2,t3],_,rfl,hQ,bF⟩
theorem rQ(p:Addr)(w:World):
 CallsDIn Fence.wide n prog 70 #[.pointer (some p)] .returning w fun e u' w'=>e=.returned (.tuple #[])/\u'=.returning/\w'=w:=by
 refine callsDIn_of_wpSIn func70 rfl trivial fun c₀ cs hu=>?_;apply wpSIn_seq;apply wpSIn_region;simp[wpOpsSIn,go_sem,recoverD,hu,ntmps70,Exit.thenS];refine wpSIn_of_wpIn rfl ?_;refine Go.wpIn_mono (Q:=fun e a' w'=>e=.normal/\a'.defers= []/\w'=w) ?_ ?_;rotate_left;·rintro e a' w' ⟨rfl,hd,rfl⟩;cases c₀;simp_all[bodyPostS,results,results70,hd]
 clear hu;simp only[Array.replicate_succ,Array.replicate_zero,List.push_toArray,List.append_toArray,List.nil_append,List.cons_append,List.setIfInBounds_toArray,List.set_cons_succ,List.set_cons_zero];gi_wp2
theorem TQ(pe pl:Addr)(u:FrameMode)(w:World)(hc:w.cell? pe=some (.int .i64 0)):
 CallsDIn Fence.wide n prog 69 #[.pointer (some pe),.pointer (some pl)] u w fun e u' w'=>u'=u/\(e=.returned (.tuple #[])/\w'=w):=by
 refine callsDIn_of_wp func69 rfl trivial ?_;simp only[ntmps69,List.size_toArray,List.length_cons,List.length_nil,Nat.reduceAdd,Nat.reduceSub,Array.replicate_succ,Array.replicate_zero,List.push_toArray,List.append_toArray,List.nil_append,List.cons_append];gi_wp2;go_end0;exact⟨rfl,rfl⟩
theorem Iq:iU 30 (Rep.sz RatR):=iU.mk' Xp rfl (by omega)
theorem dG.moreL{w:World}{M:List Nat}{r:aS}{s1 s2 s3 s4 s5 s6 s7:dK}(h:dG w M r s1 s2 s3 s4 s5 s6 s7)(L:List Nat)(hL:∀k,k∈L->w.heap.size<=k):dG w (L++M) r s1 s2 s3 s4 s5 s6 s7:=⟨h.aT.moreL L hL,h.bonus.moreL L hL,h.malus.moreL L hL,h.ties.moreL L hL,h.rounds.moreL L hL,h.prizes.moreL L hL,h.points.moreL L hL,h.best⟩
theorem jE.moreL{w:World}{M:List Nat}{c:dS}{s1 s2 s3 s4:dK}(h:jE w M c s1 s2 s3 s4)(L:List Nat)(hL:∀k,k∈L->w.heap.size<=k):jE w (L++M) c s1 s2 s3 s4:=⟨h.marks.moreL L hL,h.bonus.moreL L hL,h.malus.moreL L hL,h.prev.moreL L hL⟩
theorem bD.aa9{α:Type} [kJ α] {e:TypeId}{w w':World}{M K:List Nat}{base:Nat}{v:Value}{xs:List α}(h:bD α e w M base v n xs)(k:Keeps K w w')(hK:∀x,x∈K->x∈M)(hv:∀g,v.ownBlock=some g->g∉K):bD α e w' M base v n xs:=by exact adU
structure PG(M:List Nat)(w u:World)(L:List (Nat×List Value))(bl:Nat)(v:Value)(xs:List Rt)(wr:World):Prop where
 own:bD RatR 30 wr (bl::M) u.heap.size v xs.length (xs.map jd)
 fr:Fr w wr (L++ [(bl, [v])])
 sz:u.heap.size<=wr.heap.size
 wu:w.heap.size<=u.heap.size
 bM:b_ M w
 hL:∀b vs,(b,vs)∈L->b<u.heap.size/\b≠bl
 hb:bl<u.heap.size
section
variable {M:List Nat}{w u wr wz:World}{L:List (Nat×List Value)}{bl:Nat}{v:Value}{xs:List Rt}
theorem PG.go(h:PG M w u L bl v xs wr)(hb:Below wr.heap.size wr wz):PG M w u L bl v xs wz:=⟨h.own.go hb,h.fr.go hb,Nat.le_trans h.sz hb.size,h.wu,h.bM,h.hL,h.hb⟩
theorem PG.nil(h:Fr w u (L++ [(bl, [.slice none 0 0])]))(hL:∀b vs,(b,vs)∈L->b≠bl)(hM:b_ M w):PG M w u L bl (.slice none 0 0) [] u:=⟨bD.nil _ _ _,h,Nat.le_refl _,h.bl.size,hM,fun b vs hm=>⟨h.lt b vs (by simp[hm]),hL b vs hm⟩,h.lt bl [.slice none 0 0] (by simp)⟩
theorem PG.bel(h:PG M w u L bl v xs wr):b_ (bP v++bl::M) wr:=fun q hq=>by
 rcases List.mem_append.1 hq with hq|hq;·exact(h.own.lt (bJ.1 hq)).2
 rcases List.mem_cons.1 hq with rfl|hq;·exact Nat.lt_of_lt_of_le h.hb h.sz
 exact Nat.lt_of_lt_of_le (h.bM q hq) (Nat.le_trans h.wu h.sz)
theorem PG.app(h:PG M w u L bl v xs wr){r:Bool}{c:Nat}(hq:QC wr (bP v++bl::M) q p r A n c B m d)(hn:xs.length<=1000):
 ∃v' w',(Builtin.append_ #[23,23] 23 #[v,.slice (some ⟨wr.heap.size,0,none⟩) 1 1]).run prog (wr.alloc (.cells #[.bool p,.slice A n c,.bool r,.slice B m d] 30))=.ok v' w'/\w'.cell? ⟨bl,0,none⟩=some v/\w'.frozen? ⟨bl,0,none⟩=false/\(∃A' c',v'=.slice A' (xs.length+1) c')/\PG M w u L bl v' (xs++ [q]) (w'.setCell ⟨bl,0,none⟩ v')/\Keeps (bP v) (wr.alloc (.cells #[.bool p,.slice A n c,.bool r,.slice B m d] 30)) w':=by
 obtain⟨⟨rfl,s1⟩,⟨rfl,s2⟩⟩:=hq;obtain⟨v',w',r1,r2,r3,r4,r5⟩:=h.own.app1 (t:=23) underlying23 Iq h.sz (fun q hq=>h.bel q (List.mem_append_right _ hq)) (x:=jd q) (JB s1 s2) (by omega);have hf:=h.fr.ZI r3 (fun g hg=>⟨Nat.le_trans h.wu (h.own.lt hg).1,fun b vs hm e=>by
  have h1:=(h.own.lt hg).1;rcases List.mem_append.1 hm with hm|hm;·have:=(h.hL b vs hm).1;omega
  simp only[List.mem_singleton,Prod.mk.injEq]at hm;have:=h.hb;omega⟩)
 have hc:=hf.at_ bl [v] (by simp) 0 v rfl;have Xr:∀g,v'.ownBlock=some g->g∉ [bl]:=fun g hg hm=>by have h1:=(r2.lt hg).1;simp only[List.mem_singleton]at hm;have:=h.hb;omega
 have kp:Keeps [bl] w' (w'.setCell ⟨bl,0,none⟩ v'):=(Keeps.refl [bl] w').setCell (p:=⟨bl,0,none⟩) (.inl (by simp)) _;have hsz:wr.heap.size<=w'.heap.size:=r3.size;refine⟨v',w',r1,hc.1,hc.2,?_,⟨?_,?_,Nat.le_trans h.sz (Nat.le_trans hsz kp.size),h.wu,h.bM,h.hL,h.hb⟩,r5⟩
 ·obtain⟨A',c',e,-⟩:=r2.sl (by omega) (fun k hk=>by
    exact ae6)
  exact⟨A',c',e⟩
 ·have:=r2.aa9 kp (fun x hx=>by simp at hx;simp[hx]) Xr;simpa using this
 ·exact hf.qY (fun c vs hm=>(h.hL c vs hm).2) (j:=0) rfl v'
theorem PG.sl(h:PG M w u L bl v xs wr)(hn:xs.length<=1000):∃A c,v=.slice A xs.length c/\Sl RatR wr (bl::M) A xs.length c (xs.map jd):=h.own.sl (by omega) (fun k hk=>by exact ae6)
end
def jq(r:aS)(c:dS):List Rt:=(r.aT.zip c.marks).map fun p=>qJ p.1 p.2
def TtR(M:List Nat)(w u:World)(L:List (Nat×List Value))(bl:Nat)(F:Nat->List Rt)(n:Nat)(i:Value)(wr:World):Prop:=∃(k:Nat) (v:Value),k<=n/\i=.int .i64 k/\Hid (PG M w u L bl v (F k) wr)
attribute [irreducible] TtR
theorem TT(hy:r.aT[k]?=some y)(hl:c.marks[k]?=some l):(jq r c).take (k+1)=(jq r c).take k++ [qJ y l]:=by unfold jq;rw[<-List.map_take,<-List.map_take,take_snoc (oG hy hl),List.map_append];rfl
theorem Iu{M:List Nat}{w:World}(hr:dG w M r s1 s2 s3 s4 s5 s6 s7)(hc:jE w M c t1 t2 t3 t4)(hg:f_ r i c)(hm:eY c.marks=0)(hl:c.marks.length<=70)(hll:∀l,l∈c.marks->l.length<=20)(ht:Tab w)(hM:b_ M w):
 Calls prog 37 #[.agg (aV r s1 s2 s3 s4 s5 s6 s7).toArray,.int .i64 i,.agg (dI t1 t2 t3 t4).toArray] w fun e w'=>∃A n cp,e=.returned (.tuple #[.slice A n cp,.int .i64 0])/\Sl RatR w' M A n cp ((jq r c).map jd)/\Below w.heap.size w w':=by
 refine wid ?_;obtain⟨B1,p1,d1⟩:=t1;have m1:Sl (List Int) w M B1 p1 d1 c.marks:=hc.marks;have hsm:=m1.small;obtain⟨W1,hW1,F1⟩:=nam (((((Fr.nil w).a w.heap.size (aV r s1 s2 s3 s4 s5 s6 s7) 52).a (w.heap.size+1) (dI ⟨B1,p1,d1⟩ t2 t3 t4) 59).a (w.heap.size+2) [.slice none 0 0] 23).a (w.heap.size+3) [.int .i64 0] 31);have o1:=opc F1;have F:=Hd F1;have HC:=Hd (kD (i:=(i:Int)) (hr.go F1.bl) (hc.go F1.bl) hg (tab_below ht F1.bl) (hM.le F1.bl.size));have H:=Hd5 hr hc hg hm hM;have HL:=h_ hl hll m1.len hr.aT.len;clear F1 hr hc hg hm hl hll ht hM m1;refine qj func37 rfl ntmps37 ?_
 gi_wp2_with (first
  |(have g:=G2.out;clear g;have X:=M_ (r:=r) (s1:=s1) (s2:=s2) (s3:=s3) (s4:=s4) (s5:=s5) (s6:=s6) (s7:=s7) (i:=i) (H.out.2.1.go F.out.bl) H.out.2.2.2.1 (fun l hl=>Nat.le_trans (HL.out.2.1 l hl) (by omega));refine Cl 73 X ?_;clear X;rintro e w4 ⟨rfl,hb4⟩;have FO:=F.out.go hb4;have o4:=opc FO;replace F:=Hd FO;clear FO hb4)
  |(have g:=G1.out;clear g;refine Cl 71 (rP _) ?_;rintro e w2' ⟨rfl,rfl⟩;obtain⟨w3,hw3,F3⟩:=nam (F.out.a w2.heap.size (pY r s1 s2 s3 s4 s5 s6 s7 i ⟨B1,p1,d1⟩ t2 t3 t4) 118);have o3:=opc F3;replace F:=Hd F3;have G2:=Hd trivial;clear F3)
  |(refine Cl 72 HC.out ?_;rintro e w2 ⟨rfl,hb2⟩;have FO:=F.out.go hb2;have hk2:w.heap.size+3<w2.heap.size:=FO.mJ 3;have o2:=opc FO;replace F:=Hd FO;have G1:=Hd trivial;clear FO hb2)
  |fail)
 obtain⟨L,hL⟩:∃L:List (Nat×List Value), [(w.heap.size,aV r s1 s2 s3 s4 s5 s6 s7),(w.heap.size+1,dI ⟨B1,p1,d1⟩ t2 t3 t4),(w.heap.size+3, [.int .i64 0]),(w2.heap.size,pY r s1 s2 s3 s4 s5 s6 s7 i ⟨B1,p1,d1⟩ t2 t3 t4)]=L:=⟨_,rfl⟩;have HLL:=Hd (show ∀V v,Fr w V (L++ [(w.heap.size+2, [v])])->Fr w V [(w.heap.size,aV r s1 s2 s3 s4 s5 s6 s7),(w.heap.size+1,dI ⟨B1,p1,d1⟩ t2 t3 t4),(w.heap.size+3, [.int .i64 0]),(w2.heap.size,pY r s1 s2 s3 s4 s5 s6 s7 i ⟨B1,p1,d1⟩ t2 t3 t4),(w.heap.size+2, [v])]from fun V v h=>by rw[<-hL]at h;exact h);have FL:Fr w w4 (L++ [(w.heap.size+2, [.slice none 0 0])]):=by rw[<-hL];exact F.out.only (fun x hx=>by simp at hx |-;rcases hx with h|h|h|h|h<;>simp[h])
 have R0:=Hd (show PG M w w4 L (w.heap.size+2) (.slice none 0 0) [] w4 from PG.nil FL (fun b vs hm=>by rw[<-hL]at hm;simp at hm;omega) H.out.2.2.2.2);have HLe:=Hd hL;have HM:=Hd (show r.aT.length=p1 from by obtain⟨-,j,x,-,-,hc⟩:=H.out.2.2.1;unfold kS at hc;simp only[Bool.and_eq_true]at hc;have h1:=of_decide_eq_true hc.1.1.1.1.1;have h2:=HL.out.2.2.1;omega);clear hL o1 o2 o3 o4 F G1 G2 HC FL;gi_loopw[26] (fun i wr=>TtR M w w4 L (w.heap.size+2) (fun k=>(jq r c).take k) p1 i wr) (fun i _=>p1-(intOf i).toNat);case atStart=>unfold TtR;exact⟨0,_,Nat.zero_le _,rfl,R0⟩
 case round=>
  unfold TtR at hrel;obtain⟨k,v,hk,rfl,hR⟩:=hrel;by_cases hlt:k<p1
  ·obtain⟨y,hy⟩:=dW r.aT k (by have:=HM.out;rw[this];exact hlt);obtain⟨l,hlk⟩:=dW c.marks k (by rw[HL.out.2.2.1];exact hlt);have hst:=TT hy hlk;have hnot:∀q,q<w4.heap.size->q∉bP v:=fun q hq hm=>by have:=(hR.out.own.lt (bJ.1 hm)).1;omega
   obtain⟨wd,hwd⟩:=aC wr.drew;have hbd:Below wr.heap.size wr wd:=by rw[<-hwd];exact(Below.refl _ _).drew
   have HRD:=Hd (hR.out.go hbd);have hfo:=HLL.out _ _ hR.out.fr;have hbl:w.heap.size+2<w4.heap.size:=hR.out.hb;have hkb:w2.heap.size<w4.heap.size:=(hR.out.hL w2.heap.size (pY r s1 s2 s3 s4 s5 s6 s7 i ⟨B1,p1,d1⟩ t2 t3 t4) (by rw[<-HLe.out];simp)).1;have hge:∀q,q∈bP v++ [w.heap.size+2]->w.heap.size<=q:=fun q hq=>by
    rcases List.mem_append.1 hq with hq|hq;·have:=(hR.out.own.lt (bJ.1 hq)).1;omega
    rw[List.mem_singleton]at hq;omega
   have hr2:=(H.out.1.moreL (bP v++ [w.heap.size+2]) hge).go (HRD.out.fr.bl);have hc2:=(H.out.2.1.moreL (bP v++ [w.heap.size+2]) hge).go (HRD.out.fr.bl);rw[List.append_assoc]at hr2 hc2;have HC:=Hd (Ac hr2 hc2 H.out.2.2.1 H.out.2.2.2.1 hy hlk HRD.out.bel);have x0:=aF (hnot _ hbl) (hfo.aQ 4 0);have u0:=aF (hnot _ hkb) (hfo.aQ 3 0);have u1:=aF (hnot _ hkb) (hfo.aQ 3 1);have u2:=aF (hnot _ hkb) (hfo.aQ 3 2);have u3:=aF (hnot _ hkb) (hfo.aQ 3 3);have u4:=aF (hnot _ hkb) (hfo.aQ 3 4);have u5:=aF (hnot _ hkb) (hfo.aQ 3 5);have u6:=aF (hnot _ hkb) (hfo.aQ 3 6);have u7:=aF (hnot _ hkb) (hfo.aQ 3 7);have u8:=aF (hnot _ hkb) (hfo.aQ 3 8);have u9:=aF (hnot _ hkb) (hfo.aQ 3 9);have u10:=aF (hnot _ hkb) (hfo.aQ 3 10);have u11:=aF (hnot _ hkb) (hfo.aQ 3 11);have u12:=aF (hnot _ hkb) (hfo.aQ 3 12);have u13:=aF (hnot _ hkb) (hfo.aQ 3 13);have yT:=Hd hwd;have hlen:((jq r c).take k).length=k:=by exact afb
   have HST:=Hd2 hst hlen;clear hy hlk hst hbd hfo hwd hnot hge hr2 hc2 hbl hkb hlen;gi_wp2;refine aP (bP v) 6 (by kernel_rfl) (by kernel_rfl) ?_;refine ay 0 ?_;refine ay 1 ?_;refine ay 2 ?_;rw[yT.out];refine eU 3 fun K hK=>?_;gi_wp2;refine Cl 74 HC.out ?_;rintro e w5 ⟨u,rfl,z2,hb2⟩;obtain⟨p2,q2,A2,n2,c2,B2,m2,d2,rfl,qc⟩:=QC.of z2;refine hK _ _ ⟨?_,?_⟩;clear hK K;·exact Keeps.of_below hb2 _
   refine lit ?_;obtain⟨v',w',r1,k1,k2,⟨A',c',rfl⟩,R1,kA⟩:=(HRD.out.go hb2).app qc (by rw[HST.out.2];have:=HL.out.1;have:=HL.out.2.2.1;omega);rw[HST.out.2]at r1 R1;rw[<-HST.out.1]at R1;have HA:=Hd2 r1 R1;clear r1 R1 z2 qc hb2;refine eU 4 fun K hK=>?_;gi_wp2;refine⟨(Keeps.refl _ _).alloc _,?_⟩;refine lit ?_;refine oQ 5 [] (by kernel_rfl) (dN (by decide) rfl ?_ (fun K hK=>?_) gU);·exact wy
   refine aI _ _ _ rfl rfl rfl HA.out.1 (hK _ _ ⟨kA,?_⟩);clear hK K;refine lit ?_;refine iq 1 ?_;refine jW fun K hK K' hK'=>?_;gi_wp2;refine tail_nil _ ?_;simp only[cu];gi_wp2;exact⟨by unfold TtR;exact⟨k+1,_,by omega,by go_num,HA.out.2⟩,by simp[intOf];omega⟩
  ·obtain rfl:k=p1:=by omega
   have hfo:=HLL.out _ _ hR.out.fr;have o5:=opc hfo;have q1:=aN (hfo.aQ 4 0);have q2:=aN (hfo.aQ 2 0);obtain⟨A',c',hv,hs⟩:=hR.out.sl (by have h:=HL.out.1;unfold jq;simp;omega);have hlen:((jq r c).take k).length=k:=by exact afb
   have hall:(jq r c).take k=jq r c:=List.take_of_length_le (by unfold jq;rw[List.length_map,List.length_zip,HL.out.2.2.1,HM.out];omega);rw[hlen]at hv hs;simp only[hall]at hs;subst hv;have HS:=Hd2 hs (hfo.aQ 2 0);have HFB:=Hd hfo.bl;clear hs hk hlt hlen hall;gi_wp2;refine leavesIn_cons (f:=70) (args:=#[.pointer (some ⟨w.heap.size+1+1+1,0,none⟩)]) (by simp) (by simp) (by simp[go_sem]) (fun _ _=>trivial) ?_;refine(rQ ⟨w.heap.size+1+1+1,0,none⟩ _).mono ?_;rintro e u' w'' ⟨rfl,rfl,rfl⟩;refine leavesIn_cons (f:=69) (args:=#[.pointer (some ⟨w.heap.size+1+1+1,0,none⟩),.pointer (some ⟨w.heap.size+1+1,0,none⟩)]) (by simp[settle]) (by simp[settle]) (by simp[go_sem]) (fun _ _=>trivial) ?_;refine(TQ _ _ _ _ HS.out.2).mono ?_;rintro e u' w'' ⟨rfl,rfl,rfl⟩;refine⟨.tuple #[.slice A' k c',.int .i64 0],?_,A',k,c',rfl,HS.out.1.less (fun q hq=>List.mem_cons_of_mem _ hq),HFB.out⟩;simp[results,results37,go_sem,o5]
end
end Go.Proofs.YtefnknhjlejalaaGreatDoor
