/- Lemmas and walks; no statement is proved here. -/
import Derived.Test.YtefnknhjlejalaaGreatDoorM18
set_option linter.unusedVariables false
set_option linter.unusedSimpArgs false
set_option maxRecDepth 20000
set_option maxHeartbeats 6000000
namespace Go.Proofs.YtefnknhjlejalaaGreatDoor
open Go.Proofs.Tryz Go.RowKit Go.Shelf
theorem afu{p:Prop}(h:p:=by simp[results,go_sem,HW.out.2.1,HW.out.2.2.1,HW.out.2.2.2.1,HW.out.2.2.2.2.1]):p:=h
theorem adQ{p:Prop}(h:p:=by gi_wp2;rw[HW.out.1];exact⟨rfl,.tuple #[.agg #[.bool p,.slice A1 n1 c1,.bool q,.slice A2 n2 c2],.int .i64 0],by exact afu,_,rfl,HW.out.2.2.2.2.2.1,HW.out.2.2.2.2.2.2⟩):p:=h
theorem aeL{p:Prop}(h:p:=by refine ent func59 rfl ntmps59 ?_;gi_wp2;go_ret;exact⟨by first|(rw[HE.out];done)|(rw[HE.out];rfl),rfl⟩):p:=h
theorem afc{p:Prop}(h:p:=by have HK:=Hd (show qM (dF ((p,r.1.2),(q,r.2.2)))=100 by rw[HR.out,hr];rfl);exact bY):p:=h
variable {k d:Nat}
section
attribute [local go_sem] Oper.semAt_some
theorem G_{α:Type}{P:α->Bool}{l:List α}{x:α}(h:l[k]?=some x)(hx:P x=false):l.all P=false:=by rw[List.all_eq_false];exact⟨x,List.mem_of_getElem? h,by simp[hx]⟩
theorem Dp{α:Type}{P:α->Bool}{l:List α}{x:α}(h:(l.take k).all P=true)(hk:l[k]?=some x)(hx:P x=true):(l.take (k+1)).all P=true:=by rw[take_snoc hk,List.all_append,h];simp[hx]
theorem undef_no{b:Bool}(h:some undef=some (Value.bool b)):False:=by simp[undef]at h
theorem JK(n most:Int)(w:World):Calls prog 59 #[.int .i64 n,.int .i64 most] w fun e w'=>e=.returned (.bool (bf n most))/\w'=w:=by
 refine wid ?_;by_cases h1:0<=n
 ·by_cases h2:n<most;·have HE:=Hd (show bf n most=true from decide_eq_true ⟨h1,h2⟩);exact aeL
  have HE:=Hd (show bf n most=false from decide_eq_false (fun h=>h2 h.2));refine ent func59 rfl ntmps59 ?_;gi_wp2;go_ret;exact⟨by first|(rw[HE.out];done)|(rw[HE.out];rfl)|(rw[HE.out];simp;omega),rfl⟩
 have HE:=Hd (show bf n most=false from decide_eq_false (fun h=>h1 h.1));exact aeL
theorem Dq(r:RatR):kW r=decide (r=((false, []),(false, []))):=by
 unfold kW;by_cases h:r=((false, []),(false, []));·rw[h];rfl
 rw[decide_eq_false h];simp[h]
theorem EU{M:List Nat}{v:Value}{r:RatR}{w:World}(hx:RV w M v r):CB 60 #[v] (.bool (kW r)) w:=by
 refine wid ?_;obtain⟨A,n,c,B,m,d,rfl,a1,a2⟩:=hx;obtain⟨⟨p,l⟩,⟨q,k⟩⟩:=r;simp only at a1 a2 |-;obtain⟨V,hV⟩:=aC (kW ((p,l),(q,k)));rw[hV];have HV:=Hd ((Dq _).symm.trans hV);obtain⟨W1,hW1,F1⟩:=nam ((Fr.nil w).a w.heap.size [.bool p,.slice A n c,.bool q,.slice B m d] 30);refine op1 F1 ?_;intros;have X:=Hd2 (show RV W1 M (.agg #[.bool p,.slice A n c,.bool q,.slice B m d]) ((p,l),(q,k))from⟨_,_,_,_,_,_,rfl,a1.go F1.bl,a2.go F1.bl⟩) (show RV W1 M (.agg #[.bool false,.slice none 0 0,.bool false,.slice none 0 0]) ((false, []),(false, []))from⟨_,_,_,_,_,_,rfl,Sl.nil0,Sl.nil0⟩);have F:=Hd F1;clear a1 a2 F1 hV;refine ent func60 rfl ntmps60 ?_;gi_wp2_with (refine Cl 13 (mg X.out.1 X.out.2) ?_;rintro e w2 ⟨rfl,hb2⟩;rw[HV.out];have G2:=Hd (F.out.go hb2);clear hb2)
 go_ret;exact⟨rfl,G2.out.bl⟩
theorem bY{p:Prop}(h:p:=by
 refine ent func27 rfl ntmps27 ?_
 gi_wp2_with (first
  |(refine Cl 59 (JK _ _ _) ?_;rintro e wb ⟨rfl,rfl⟩)
  |(refine Cl 60 (EU X.out.1) ?_;rintro e w2 ⟨rfl,hb2⟩;have G2:=Hd (F.out.go hb2);clear hb2)
  |(refine Cl 14 (MI (M:=M) (l1:=r.1.2) (l2:=r.2.2) X.out.2.2.2 X.out.2.1 X.out.2.2.1) ?_;rintro e w2 ⟨rfl,hb2⟩;rw[HK.out];have F2:=F.out.go hb2;refine op1 F2 ?_;intros;have G2:=Hd F2;clear hb2 F2)
  |(refine⟨trivial,?_⟩))
 all_goals first
  |exact(undef_no (by assumption)).elim
  |(go_ret;exact⟨by first|(rw[HE.out];done)|(rw[HE.out];rfl)|(rw[HE.out];simp;assumption),by first|exact G2.out.bl|exact F.out.bl⟩)):p:=h
set_option maxRecDepth 100000 in
set_option maxHeartbeats 8000000 in
theorem EW{M:List Nat}{op a b c d i m:Int}{r:RatR}{A B:Option Addr}{n1 c1 n2 c2:Nat}{p q:Bool}{w:World}(hM:b_ M w)(hp:r.1.1=p)(hq:r.2.1=q)(h1:Sl Int w M A n1 c1 r.1.2)(h2:Sl Int w M B n2 c2 r.2.2):
 CB 27 #[.agg #[.int .i64 op,.int .i64 a,.int .i64 b,.int .i64 c,.int .i64 d,.bool p,.slice A n1 c1,.bool q,.slice B n2 c2],.int .i64 i,.int .i64 m] (.bool (aj i m (op,a,b,c,d,r))) w:=by
 refine wid ?_;obtain⟨W1,hW1,F1⟩:=nam ((Fr.nil w).a w.heap.size [.int .i64 op,.int .i64 a,.int .i64 b,.int .i64 c,.int .i64 d,.bool p,.slice A n1 c1,.bool q,.slice B n2 c2] 38);refine op1 F1 ?_;intros;have X:=h_ (show RV W1 M (.agg #[.bool p,.slice A n1 c1,.bool q,.slice B n2 c2]) r from⟨A,n1,c1,B,n2,c2,by rw[hp,hq],h1.go F1.bl,h2.go F1.bl⟩) (h1.go F1.bl) (h2.go F1.bl) (hM.le F1.bl.size);have F:=Hd F1;have HR:=Hd (show((p,r.1.2),(q,r.2.2))=r by rw[<-hp,<-hq]);clear h1 h2 hM F1 hp hq;by_cases ho1:op=1
 ·subst ho1;cases hr:dF r;·have HE:=Hd (show aj i m (1,a,b,c,d,r)=false by simp[aj,hr]);exact afc
  skip
  have HK:=Hd (show qM (dF ((p,r.1.2),(q,r.2.2)))=0 by rw[HR.out,hr];rfl);by_cases ha:a=0
  ·subst ha;by_cases hb:b=0
   ·subst hb;by_cases hc:c=0
    ·subst hc;by_cases hd:d=0;·subst hd;have HE:=Hd (show aj i m (1,0,0,0,0,r)=true by simp[aj,hr]);exact bY
     have HE:=Hd (show aj i m (1,0,0,0,d,r)=false by simp[aj,hr,hd]);exact bY
    have HE:=Hd (show aj i m (1,0,0,c,d,r)=false by simp[aj,hr,hc]);exact bY
   have HE:=Hd (show aj i m (1,0,b,c,d,r)=false by simp[aj,hr,hb]);exact bY
  have HE:=Hd (show aj i m (1,a,b,c,d,r)=false by simp[aj,hr,ha]);exact bY
 by_cases ho2:op=2
 ·subst ho2;cases ha:bf a m;·have HE:=Hd (show aj i m (2,a,b,c,d,r)=false by simp[aj,ha]);exact bY
  skip
  by_cases hb:b=0
  ·subst hb;by_cases hc:c=0
   ·subst hc;by_cases hd:d=0
    ·subst hd;cases hz:kW r;·have HE:=Hd (show aj i m (2,a,0,0,0,r)=false by simp[aj,ha,hz]);exact bY
     skip
     have HE:=Hd (show aj i m (2,a,0,0,0,r)=true by simp[aj,ha,hz]);exact bY
    have HE:=Hd (show aj i m (2,a,0,0,d,r)=false by simp[aj,ha,hd]);exact bY
   have HE:=Hd (show aj i m (2,a,0,c,d,r)=false by simp[aj,ha,hc]);exact bY
  have HE:=Hd (show aj i m (2,a,b,c,d,r)=false by simp[aj,ha,hb]);exact bY
 by_cases ho3:op=3
 ·subst ho3;cases ha:bf a i;·have HE:=Hd (show aj i m (3,a,b,c,d,r)=false by simp[aj,ha]);exact bY
  skip
  cases hb:bf b i;·have HE:=Hd (show aj i m (3,a,b,c,d,r)=false by simp[aj,ha,hb]);exact bY
  skip
  by_cases hc:c=0
  ·subst hc;by_cases hd:d=0
   ·subst hd;cases hz:kW r;·have HE:=Hd (show aj i m (3,a,b,0,0,r)=false by simp[aj,ha,hb,hz]);exact bY
    skip
    have HE:=Hd (show aj i m (3,a,b,0,0,r)=true by simp[aj,ha,hb,hz]);exact bY
   have HE:=Hd (show aj i m (3,a,b,0,d,r)=false by simp[aj,ha,hb,hd]);exact bY
  have HE:=Hd (show aj i m (3,a,b,c,d,r)=false by simp[aj,ha,hb,hc]);exact bY
 by_cases ho4:op=4
 ·subst ho4;cases ha:bf a i;·have HE:=Hd (show aj i m (4,a,b,c,d,r)=false by simp[aj,ha]);exact bY
  skip
  cases hb:bf b i;·have HE:=Hd (show aj i m (4,a,b,c,d,r)=false by simp[aj,ha,hb]);exact bY
  skip
  by_cases hc:c=0
  ·subst hc;by_cases hd:d=0
   ·subst hd;cases hz:kW r;·have HE:=Hd (show aj i m (4,a,b,0,0,r)=false by simp[aj,ha,hb,hz]);exact bY
    skip
    have HE:=Hd (show aj i m (4,a,b,0,0,r)=true by simp[aj,ha,hb,hz]);exact bY
   have HE:=Hd (show aj i m (4,a,b,0,d,r)=false by simp[aj,ha,hb,hd]);exact bY
  have HE:=Hd (show aj i m (4,a,b,c,d,r)=false by simp[aj,ha,hb,hc]);exact bY
 by_cases ho6:op=6
 ·subst ho6;cases ha:bf a i;·have HE:=Hd (show aj i m (6,a,b,c,d,r)=false by simp[aj,ha]);exact bY
  skip
  cases hb:bf b i;·have HE:=Hd (show aj i m (6,a,b,c,d,r)=false by simp[aj,ha,hb]);exact bY
  skip
  by_cases hc:c=0
  ·subst hc;by_cases hd:d=0
   ·subst hd;cases hz:kW r;·have HE:=Hd (show aj i m (6,a,b,0,0,r)=false by simp[aj,ha,hb,hz]);exact bY
    skip
    have HE:=Hd (show aj i m (6,a,b,0,0,r)=true by simp[aj,ha,hb,hz]);exact bY
   have HE:=Hd (show aj i m (6,a,b,0,d,r)=false by simp[aj,ha,hb,hd]);exact bY
  have HE:=Hd (show aj i m (6,a,b,c,d,r)=false by simp[aj,ha,hb,hc]);exact bY
 by_cases ho7:op=7
 ·subst ho7;cases ha:bf a i;·have HE:=Hd (show aj i m (7,a,b,c,d,r)=false by simp[aj,ha]);exact bY
  skip
  cases hb:bf b i;·have HE:=Hd (show aj i m (7,a,b,c,d,r)=false by simp[aj,ha,hb]);exact bY
  skip
  by_cases hc:c=0
  ·subst hc;by_cases hd:d=0
   ·subst hd;cases hz:kW r;·have HE:=Hd (show aj i m (7,a,b,0,0,r)=false by simp[aj,ha,hb,hz]);exact bY
    skip
    have HE:=Hd (show aj i m (7,a,b,0,0,r)=true by simp[aj,ha,hb,hz]);exact bY
   have HE:=Hd (show aj i m (7,a,b,0,d,r)=false by simp[aj,ha,hb,hd]);exact bY
  have HE:=Hd (show aj i m (7,a,b,c,d,r)=false by simp[aj,ha,hb,hc]);exact bY
 by_cases ho5:op=5
 ·subst ho5;cases ha:bf a i;·have HE:=Hd (show aj i m (5,a,b,c,d,r)=false by simp[aj,ha]);exact bY
  skip
  by_cases hb:b=0
  ·subst hb;by_cases hc:c=0
   ·subst hc;by_cases hd:d=0
    ·subst hd;cases hr:dF r;·have HE:=Hd (show aj i m (5,a,0,0,0,r)=false by simp[aj,ha,hr]);exact afc
     skip
     have HK:=Hd (show qM (dF ((p,r.1.2),(q,r.2.2)))=0 by rw[HR.out,hr];rfl);have HE:=Hd (show aj i m (5,a,0,0,0,r)=true by simp[aj,ha,hr]);exact bY
    have HE:=Hd (show aj i m (5,a,0,0,d,r)=false by simp[aj,ha,hd]);exact bY
   have HE:=Hd (show aj i m (5,a,0,c,d,r)=false by simp[aj,ha,hc]);exact bY
  have HE:=Hd (show aj i m (5,a,b,c,d,r)=false by simp[aj,ha,hb]);exact bY
 by_cases Uj:op=8
 ·subst Uj;cases ha:bf a i;·have HE:=Hd (show aj i m (8,a,b,c,d,r)=false by simp[aj,ha]);exact bY
  skip
  cases hb:bf b i;·have HE:=Hd (show aj i m (8,a,b,c,d,r)=false by simp[aj,ha,hb]);exact bY
  skip
  cases hc:bf c i;·have HE:=Hd (show aj i m (8,a,b,c,d,r)=false by simp[aj,ha,hb,hc]);exact bY
  skip
  cases hd:bf d i;·have HE:=Hd (show aj i m (8,a,b,c,d,r)=false by simp[aj,ha,hb,hc,hd]);exact bY
  skip
  cases hz:kW r;·have HE:=Hd (show aj i m (8,a,b,c,d,r)=false by simp[aj,ha,hb,hc,hd,hz]);exact bY
  skip
  have HE:=Hd (show aj i m (8,a,b,c,d,r)=true by simp[aj,ha,hb,hc,hd,hz]);exact bY
 have HE:=Hd (show aj i m (op,a,b,c,d,r)=false by simp[aj,ho1,ho2,ho3,ho4,ho5,ho6,ho7,Uj]);exact bY
structure qC(w:World)(M:List Nat)(A:Option Addr)(n c:Nat)(l:List Rt):Prop where
 len:l.length=n
 small:n<=140737488355328
 at_:∀{k:Nat},k<n->∃b o p q A1 n1 c1 A2 n2 c2,A=some ⟨b,o,none⟩/\(w.cell? ⟨b,o+k*4,none⟩=some (.bool p)/\w.cell? ⟨b,o+k*4+1,none⟩=some (.slice A1 n1 c1)/\w.cell? ⟨b,o+k*4+2,none⟩=some (.bool q)/\w.cell? ⟨b,o+k*4+3,none⟩=some (.slice A2 n2 c2))/\QC w M (aW l k) p q A1 n1 c1 A2 n2 c2
theorem qC.of{w:World}{M:List Nat}{A:Option Addr}{n c:Nat}{l:List Rt}(h:Sl RatR w M A n c (l.map jd)):qC w M A n c l:=by
 have hn:=h.len;simp at hn;refine⟨hn,h.small,fun{k} hk=>?_⟩;obtain⟨x,hx⟩:=dW l k (by omega);have he:aW l k=x:=by simp[aW,hx]
 obtain⟨b,o,A1,n1,c1,A2,n2,c2,rfl,h0,h1,h2,h3,s1,s2⟩:=h.ratat (k:=k) (x:=jd x) (by rw[List.getElem?_map,hx];rfl);rw[he];exact⟨b,o,_,_,A1,n1,c1,A2,n2,c2,rfl,⟨h0,h1,h2,h3⟩,⟨rfl,s1⟩,⟨rfl,s2⟩⟩
theorem qC.go{w w':World}{M:List Nat}{A:Option Addr}{n c:Nat}{l:List Rt}(h:qC w M A n c l)(hb:Below w.heap.size w w'):qC w' M A n c l:=⟨h.len,h.small,fun{k} hk=>by obtain⟨b,o,p,q,A1,n1,c1,A2,n2,c2,rfl,⟨h0,h1,h2,h3⟩,qc⟩:=h.at_ hk;have hl:b<w.heap.size:=World.block_lt_of_cell? w _ h0;exact⟨b,o,p,q,A1,n1,c1,A2,n2,c2,rfl,⟨(hb.cell (p:=⟨b,_,none⟩) hl).trans h0,(hb.cell (p:=⟨b,_,none⟩) hl).trans h1,(hb.cell (p:=⟨b,_,none⟩) hl).trans h2,(hb.cell (p:=⟨b,_,none⟩) hl).trans h3⟩,qc.go hb⟩⟩
theorem qC.more{w:World}{M:List Nat}{A:Option Addr}{n c b:Nat}{l:List Rt}(h:qC w M A n c l)(hb:w.heap.size<=b):qC w (b::M) A n c l:=⟨h.len,h.small,fun{k} hk=>by obtain⟨b',o,p,q,A1,n1,c1,A2,n2,c2,rfl,hc,qc⟩:=h.at_ hk;exact⟨b',o,p,q,A1,n1,c1,A2,n2,c2,rfl,hc,qc.more hb⟩⟩
theorem qC.drew{w:World}{M:List Nat}{A:Option Addr}{n c:Nat}{l:List Rt}(h:qC w M A n c l):qC w.drew M A n c l:=⟨h.len,h.small,fun{k} hk=>by obtain⟨b',o,p,q,A1,n1,c1,A2,n2,c2,rfl,hc,qc⟩:=h.at_ hk;exact⟨b',o,p,q,A1,n1,c1,A2,n2,c2,rfl,hc,⟨qc.num.drew,qc.den.drew⟩⟩⟩
structure ou(w:World)(M:List Nat)(mb:Nat)(A:Option Addr)(n c:Nat)(B:Option Addr)(m d:Nat)(ins regs:List Rt):Prop where
 c0:w.cell? ⟨mb,0,none⟩=some (.slice A n c)
 c1:w.cell? ⟨mb,1,none⟩=some (.slice B m d)
 si:qC w M A n c ins
 sr:qC w M B m d regs
theorem ou.lt{w:World}{M:List Nat}{mb:Nat}{A B:Option Addr}{n c m:Nat}{ins regs:List Rt}(h:ou w M mb A n c B m d ins regs):mb<w.heap.size:=World.block_lt_of_cell? w _ h.c0
theorem ou.go{w w':World}{M:List Nat}{mb:Nat}{A B:Option Addr}{n c m d:Nat}{ins regs:List Rt}(h:ou w M mb A n c B m d ins regs)(hb:Below w.heap.size w w'):ou w' M mb A n c B m d ins regs:=⟨(hb.cell (p:=⟨mb,0,none⟩) h.lt).trans h.c0,(hb.cell (p:=⟨mb,1,none⟩) h.lt).trans h.c1,h.si.go hb,h.sr.go hb⟩
theorem ou.drew{w:World}{M:List Nat}{mb:Nat}{A B:Option Addr}{n c m d:Nat}{ins regs:List Rt}(h:ou w M mb A n c B m d ins regs):ou w.drew M mb A n c B m d ins regs:=⟨h.c0,h.c1,h.si.drew,h.sr.drew⟩
theorem ou.more{w:World}{M:List Nat}{mb k:Nat}{A B:Option Addr}{n c m d:Nat}{ins regs:List Rt}(h:ou w M mb A n c B m d ins regs)(hk:w.heap.size<=k):ou w (k::M) mb A n c B m d ins regs:=⟨h.c0,h.c1,h.si.more hk,h.sr.more hk⟩
set_option maxHeartbeats 8000000 in
theorem yJ{M:List Nat}{mb:Nat}{A B:Option Addr}{n c m:Nat}{ins regs:List Rt}{a b y z:Nat}{w:World}(hM:b_ M w)(hm:ou w M mb A n c B m d ins regs)(ha:a<m)(hb:b<m)(hy:y<m)(hz:z<m)(oa:(aW regs a).ok)(ob:(aW regs b).ok)(hf:Fine (aW regs a) (aW regs b)):
 Calls prog 51 #[.pointer (some ⟨mb,0,none⟩),.int .i64 (a:Int),.int .i64 (b:Int),.int .i64 (y:Int),.int .i64 (z:Int)] w (QR w M (if rW (aW regs a) (aW regs b)<=0 then aW regs y else aW regs z)):=by
 refine wid ?_;obtain⟨W1,hW1,F1⟩:=nam ((Fr.nil w).a4 w.heap.size 30);have FO:=F1;refine op1 FO ?_;intros;have hm1:=(hm.more (k:=w.heap.size) (Nat.le_refl _)).go F1.bl;have hM1:b_ (w.heap.size::M) W1:=(hM.le F1.bl.size).cons (F1.mJ 0);have hsm:=hm1.sr.small;obtain⟨b1,o1,p1,q1,A1,n1,c1,B1,m1,d1,rfl,⟨h0,h1,h2,h3⟩,qc1⟩:=hm1.sr.at_ ha;obtain⟨b2,o2,p2,q2,A2,n2,c2,B2,m2,d2,e0,⟨k0,k1,k2,k3⟩,qc2⟩:=hm1.sr.at_ hb;obtain⟨rfl,rfl⟩:b1=b2/\o1=o2:=by simpa using e0
 have v0:=ah h0;have v1:=ah h1;have v2:=ah h2;have v3:=ah h3;have v4:=ah k0;have v5:=ah k1;have v6:=ah k2;have v7:=ah k3;have v8:=ah hm1.c1;have X:=Iw qc1 qc2 hm1 hM1 oa ob hf;have F:=Hd F1;obtain⟨cc,hcc⟩:=aC (rW (aW regs a) (aW regs b));rw[hcc];have HC:=Hd hcc;clear hm hm1 hM hM1 qc1 qc2 oa ob hf F1 FO e0 h0 h1 h2 h3 k0 k1 k2 k3 hcc;by_cases hc:cc<=0;all_goals(
 refine ent func51 rfl ntmps51 ?_;gi_wp2;refine aP [] 20 (by kernel_rfl) (by kernel_rfl) ?_;refine ay 0 ?_;refine ay 1 ?_;refine ay 2 ?_;refine ay 3 ?_;refine ay 4 ?_;refine ay 5 ?_;refine ay 6 ?_;refine ay 7 ?_;refine ay 8 ?_;refine ay 9 ?_;refine ay 10 ?_;refine ay 11 ?_;refine ay 12 ?_;refine ay 13 ?_;refine eU 14 fun K hK=>?_;gi_wp2;refine Cm (Ov (M:=w.heap.size::M) (a:=aW regs a) (b:=aW regs b) (X.out.2.2.2.1.le (w':=W1.drew) (Nat.le_refl _)) (show QW W1.drew _ _ _ from(show QC W1.drew _ _ _ _ _ _ _ _ _ _ from⟨X.out.1.num.drew,X.out.1.den.drew⟩).qw) (show QW W1.drew _ _ _ from(show QC W1.drew _ _ _ _ _ _ _ _ _ _ from⟨X.out.2.1.num.drew,X.out.2.1.den.drew⟩).qw) X.out.2.2.2.2.1 X.out.2.2.2.2.2.1 X.out.2.2.2.2.2.2) ?_;rintro e w5 ⟨rfl,hb5⟩;rw[HC.out];have F5:=F.out.drew.go hb5;refine op1 F5 ?_;intros;have M5:=X.out.2.2.1.drew.go hb5;have mc1:=M5.c1;have G5:=Hd2 F5 M5;clear F5 M5;refine hK _ _ ⟨?_,?_⟩;clear hK K;·exact Keeps.of_below hb5 []
 refine lit ?_;clear hb5;refine ay 15 ?_;refine ay 16 ?_;refine ay 17 ?_;refine ay 18 ?_;refine ay 19 ?_;obtain⟨b8,o8,p8,q8,A8,n8,c8,B8,m8,d8,e8,⟨i0,i1,i2,i3⟩,PL⟩:=G5.out.2.sr.at_ hy;obtain⟨b9,o9,p9,q9,A9,n9,c9,B9,m9,d9,e9,⟨j0,j1,j2,j3⟩,jJ⟩:=G5.out.2.sr.at_ hz;obtain⟨rfl,rfl⟩:b1=b8/\o1=o8:=by simpa using e8
 obtain⟨rfl,rfl⟩:b1=b9/\o1=o9:=by simpa using e9
 have HQ:=Hd2 PL jJ;clear PL jJ e8 e9;refine iq 0 ?_;refine tail_nil _ ?_;simp only[cu];gi_wp2;have hx:=G5.out.1.nth 0
 first
  |(obtain⟨wF,hwF,t0,t1,t2,t3,hQ,bF⟩:=nN (M:=M) (hx 0 _ rfl) (hx 1 _ rfl) (hx 2 _ rfl) (hx 3 _ rfl) (x:=aW regs y) HQ.out.1.num.sl HQ.out.1.den.sl HQ.out.1.num.neg HQ.out.1.den.neg G5.out.1.bl (Nat.le_refl _);rw[hwF];refine⟨rfl,.tuple #[.agg #[.bool p8,.slice A8 n8 c8,.bool q8,.slice B8 m8 d8],.int .i64 0],by simp[results,go_sem,t0,t1,t2,t3],_,rfl,by(first|exact hQ|(rw[if_pos hc];exact hQ)),bF⟩)
  |(obtain⟨wF,hwF,t0,t1,t2,t3,hQ,bF⟩:=nN (M:=M) (hx 0 _ rfl) (hx 1 _ rfl) (hx 2 _ rfl) (hx 3 _ rfl) (x:=aW regs z) HQ.out.2.num.sl HQ.out.2.den.sl HQ.out.2.num.neg HQ.out.2.den.neg G5.out.1.bl (Nat.le_refl _);rw[hwF];refine⟨rfl,.tuple #[.agg #[.bool p9,.slice A9 n9 c9,.bool q9,.slice B9 m9 d9],.int .i64 0],by simp[results,go_sem,t0,t1,t2,t3],_,rfl,by(first|exact hQ|(rw[if_neg (by omega)];exact hQ)),bF⟩))
structure XC(w:World)(M:List Nat)(r:RatR)(p q:Bool)(A:Option Addr)(n c:Nat)(B:Option Addr)(m d:Nat):Prop where
 hp:r.1.1=p
 hq:r.2.1=q
 s1:Sl Int w M A n c r.1.2
 s2:Sl Int w M B m d r.2.2
theorem XC.go{w w':World}{M:List Nat}{r:RatR}{p q:Bool}{A B:Option Addr}{n c m d:Nat}(h:XC w M r p q A n c B m d)(hb:Below w.heap.size w w'):XC w' M r p q A n c B m d:=⟨h.hp,h.hq,h.s1.go hb,h.s2.go hb⟩
theorem XC.more{w:World}{M:List Nat}{r:RatR}{p q:Bool}{A B:Option Addr}{n c m d k:Nat}(h:XC w M r p q A n c B m d)(hk:w.heap.size<=k):XC w (k::M) r p q A n c B m d:=⟨h.hp,h.hq,h.s1.more hk,h.s2.more hk⟩
theorem XC.qc{w:World}{M:List Nat}{r:RatR}{p q:Bool}{A B:Option Addr}{n c m:Nat}(h:XC w M r p q A n c B m d)(hr:dF r=true):QC w M (OE r) p q A n c B m d:=by obtain⟨x,hx,rfl⟩:=(zx r).1 hr;rw[Lm];obtain⟨h1,h2,h3,h4⟩:=h;exact⟨⟨h1,h3⟩,⟨h2,h4⟩⟩
theorem He{r:RatR}(hr:dF r=true):(OE r).ok:=by obtain⟨x,hx,rfl⟩:=(zx r).1 hr;rw[Lm];exact hx
theorem bH{a:Int}{l:Nat}(h:bf a l=true):∃k:Nat,a=k/\k<l:=by have:=of_decide_eq_true h;exact⟨a.toNat,by omega,by omega⟩
theorem xU(a b:Rt):(if rW a b<=0 then a else b)=yc a b:=by
 unfold yc;rw[Ir a b];by_cases h:rW a b<=0;·rw[if_pos h,if_neg (by omega)]
 rw[if_neg h,if_pos (by omega)]
theorem xX{a b:Rt}(ha:a.ok)(hb:b.ok):(if rW a b<=0 then b else a)=yh a b:=by
 unfold yh;by_cases h:rW a b<0;·rw[if_pos (by omega),if_pos h]
 rw[if_neg h];by_cases h0:rW a b<=0
 ·rw[if_pos h0];refine(X_ ha hb ?_).symm;have hz:rW a b=0:=by omega
  unfold rW at hz
  repeat' split at hz
  all_goals omega
 rw[if_neg h0]
section
variable {M:List Nat}{mb:Nat}{A B A1 A2:Option Addr}{n c m l n1 c1 n2 c2:Nat}{ins regs:List Rt}{op a b x3 x4:Int}{r:RatR}{p q:Bool}{w:World}
theorem PN(hM:b_ M w)(hm:ou w M mb A n c B m l ins regs)(hx:XC w M r p q A1 n1 c1 A2 n2 c2)(hr:dF r=true):
 Calls prog 42 #[.pointer (some ⟨mb,0,none⟩),.agg #[.int .i64 op,.int .i64 a,.int .i64 b,.int .i64 x3,.int .i64 x4,.bool p,.slice A1 n1 c1,.bool q,.slice A2 n2 c2]] w (QR w M (OE r)):=by
 refine wid ?_;obtain⟨W1,hW1,F1⟩:=nam (((Fr.nil w).a w.heap.size [.int .i64 op,.int .i64 a,.int .i64 b,.int .i64 x3,.int .i64 x4,.bool p,.slice A1 n1 c1,.bool q,.slice A2 n2 c2] 38).a4 (w.heap.size+1) 30);have FO:=F1;refine op1 FO ?_;intros;have hm1:=(hm.more (k:=w.heap.size+1) (by omega)).go F1.bl;have hx1:=(hx.more (k:=w.heap.size+1) (by omega)).go F1.bl;have hM1:b_ ((w.heap.size+1)::M) W1:=(hM.le F1.bl.size).cons (F1.mJ 1);have F:=Hd F1;have hsm:=hm1.sr.small;have hsi:=hm1.si.small;clear hm hx hM F1 FO;have qc:=hx1.qc hr;obtain⟨wF,hwF,t0,t1,t2,t3,hQ,bF⟩:=nN (M:=M) (F.out.aQ 1 0) (F.out.aQ 1 1) (F.out.aQ 1 2) (F.out.aQ 1 3) (x:=OE r) qc.num.sl qc.den.sl qc.num.neg qc.den.neg F.out.bl (by omega);have HW:=Iw hwF t0 t1 t2 t3 hQ bF;clear hm1 hx1 hM1 qc hwF t0 t1 t2 t3 hQ bF hr;refine ent func42 rfl ntmps42 ?_;exact adQ
theorem PO(hM:b_ M w)(hm:ou w M mb A n c B m l ins regs)(hx:XC w M r p q A1 n1 c1 A2 n2 c2)(ha:bf a n=true):
 Calls prog 43 #[.pointer (some ⟨mb,0,none⟩),.agg #[.int .i64 op,.int .i64 a,.int .i64 b,.int .i64 x3,.int .i64 x4,.bool p,.slice A1 n1 c1,.bool q,.slice A2 n2 c2]] w (QR w M (aW ins a)):=by
 refine wid ?_;obtain⟨ka,rfl,hka⟩:=bH ha;obtain⟨W1,hW1,F1⟩:=nam (((Fr.nil w).a w.heap.size [.int .i64 op,.int .i64 (ka:Int),.int .i64 b,.int .i64 x3,.int .i64 x4,.bool p,.slice A1 n1 c1,.bool q,.slice A2 n2 c2] 38).a4 (w.heap.size+1) 30);have FO:=F1;refine op1 FO ?_;intros;have hm1:=(hm.more (k:=w.heap.size+1) (by omega)).go F1.bl;have hx1:=(hx.more (k:=w.heap.size+1) (by omega)).go F1.bl;have hM1:b_ ((w.heap.size+1)::M) W1:=(hM.le F1.bl.size).cons (F1.mJ 1);have F:=Hd F1;have hsm:=hm1.sr.small;have hsi:=hm1.si.small;clear hm hx hM F1 FO;obtain⟨b9,o9,p9,q9,A9,n9,c9,B9,m9,d9,rfl,⟨h0,h1,h2,h3⟩,jJ⟩:=hm1.si.at_ hka;have F9:=F.out.drew;refine op1 F9 ?_;intros;have G9:=Hd2 F9 (show QC W1.drew _ _ _ _ _ _ _ _ _ _ from⟨jJ.num.drew,jJ.den.drew⟩);have v0:=ah h0;have v1:=ah h1;have v2:=ah h2;have v3:=ah h3;have v8:=ah hm1.c0;have v9:=ah (F.out.aQ 0 1);clear hm1 hx1 hM1 jJ h0 h1 h2 h3 F9;refine ent func43 rfl ntmps43 ?_;gi_wp2;refine aP [] 8 (by kernel_rfl) (by kernel_rfl) ?_;refine ay 0 ?_;refine ay 1 ?_;refine ay 2 ?_;refine ay 3 ?_;refine ay 4 ?_;refine ay 5 ?_;refine ay 6 ?_;refine ay 7 ?_;refine iq 2 ?_;refine jW fun K hK K' hK'=>?_;gi_wp2;refine jW fun K hK K' hK'=>?_;gi_wp2;refine tail_nil _ ?_;simp only[cu];gi_wp2;have hx:=F.out.nth 1;obtain⟨wF,hwF,t0,t1,t2,t3,hQ,bF⟩:=nN (V:=W1.drew) (M:=M) (hx 0 _ rfl) (hx 1 _ rfl) (hx 2 _ rfl) (hx 3 _ rfl) (x:=aW ins ka) G9.out.2.num.sl G9.out.2.den.sl G9.out.2.num.neg G9.out.2.den.neg G9.out.1.bl (by omega);have Oy:World.drew ((((W1.setCell ⟨w.heap.size+1,0,none⟩ (.bool p9)).setCell ⟨w.heap.size+1,1,none⟩ (.slice A9 n9 c9)).setCell ⟨w.heap.size+1,2,none⟩ (.bool q9)).setCell ⟨w.heap.size+1,3,none⟩ (.slice B9 m9 d9))=wF:=hwF;rw[Oy];exact⟨rfl,.tuple #[.agg #[.bool p9,.slice A9 n9 c9,.bool q9,.slice B9 m9 d9],.int .i64 0],by simp[results,go_sem,t0,t1,t2,t3],_,rfl,hQ,bF⟩
theorem PS(hM:b_ M w)(hm:ou w M mb A n c B m l ins regs)(hx:XC w M r p q A1 n1 c1 A2 n2 c2)(ha:bf a m=true)(hb:bf b m=true)(oa:(aW regs a).ok)(ob:(aW regs b).ok)(hf:Fine (aW regs a) (aW regs b)):
 Calls prog 44 #[.pointer (some ⟨mb,0,none⟩),.agg #[.int .i64 op,.int .i64 a,.int .i64 b,.int .i64 x3,.int .i64 x4,.bool p,.slice A1 n1 c1,.bool q,.slice A2 n2 c2]] w (QR w M (Js (aW regs a) (aW regs b))):=by
 refine wid ?_;obtain⟨ka,rfl,hka⟩:=bH ha;obtain⟨kb,rfl,hkb⟩:=bH hb;obtain⟨W1,hW1,F1⟩:=nam (((Fr.nil w).a w.heap.size [.int .i64 op,.int .i64 (ka:Int),.int .i64 (kb:Int),.int .i64 x3,.int .i64 x4,.bool p,.slice A1 n1 c1,.bool q,.slice A2 n2 c2] 38).a4 (w.heap.size+1) 30);have FO:=F1;refine op1 FO ?_;intros;have hm1:=(hm.more (k:=w.heap.size+1) (by omega)).go F1.bl;have hx1:=(hx.more (k:=w.heap.size+1) (by omega)).go F1.bl;have hM1:b_ ((w.heap.size+1)::M) W1:=(hM.le F1.bl.size).cons (F1.mJ 1);have F:=Hd F1;have hsm:=hm1.sr.small;have hsi:=hm1.si.small;clear hm hx hM F1 FO;obtain⟨b3,o3,p3,q3,A3,n3,c3,B3,m3,d3,rfl,⟨h0,h1,h2,h3⟩,qc3⟩:=hm1.sr.at_ hka;obtain⟨b4,o4,p4,q4,A4,n4,c4,B4,m4,d4,e0,⟨k0,k1,k2,k3⟩,qc4⟩:=hm1.sr.at_ hkb;obtain⟨rfl,rfl⟩:b3=b4/\o3=o4:=by simpa using e0
 have X:=Zw (show QC W1.drew _ _ _ _ _ _ _ _ _ _ from⟨qc3.num.drew,qc3.den.drew⟩) (show QC W1.drew _ _ _ _ _ _ _ _ _ _ from⟨qc4.num.drew,qc4.den.drew⟩) hM1 oa ob hf;have v0:=ah h0;have v1:=ah h1;have v2:=ah h2;have v3:=ah h3;have v4:=ah k0;have v5:=ah k1;have v6:=ah k2;have v7:=ah k3;have v8:=ah hm1.c1;have hins:=F.out.nth 0;have v9:=ah (hins 1 _ rfl);have v10:=ah (hins 2 _ rfl);clear hm1 hx1 hM1 qc3 qc4 h0 h1 h2 h3 k0 k1 k2 k3 e0 oa ob hf hins ha hb;refine ent func44 rfl ntmps44 ?_;gi_wp2;refine aP [] 19 (by kernel_rfl) (by kernel_rfl) ?_;refine ay 0 ?_;refine ay 1 ?_;refine ay 2 ?_;refine ay 3 ?_;refine ay 4 ?_;refine ay 5 ?_;refine ay 6 ?_;refine ay 7 ?_;refine ay 8 ?_;refine ay 9 ?_;refine ay 10 ?_;refine ay 11 ?_;refine ay 12 ?_;refine ay 13 ?_;refine ay 14 ?_;refine ay 15 ?_;refine eU 16 fun K hK=>?_;gi_wp2;refine Cm (MZ (M:=(w.heap.size+1)::M) (a:=aW regs ka) (b:=aW regs kb) (X.out.2.2.1.le (w':=W1.drew) (Nat.le_refl _)) X.out.1.qw X.out.2.1.qw X.out.2.2.2.1 X.out.2.2.2.2.1 X.out.2.2.2.2.2) ?_;rintro e w9 ⟨u9,rfl,z9,Ns⟩;obtain⟨p9,q9,A9,n9,c9,B9,m9,d9,rfl,jJ⟩:=QC.of z9;have F9:=F.out.drew.go Ns;refine op1 F9 ?_;intros;have G9:=Hd2 F9 jJ;clear z9 jJ F9;refine hK _ _ ⟨?_,?_⟩;clear hK K;·exact Keeps.of_below Ns []
 refine lit ?_;clear Ns;refine ay 17 ?_;refine ay 18 ?_;refine iq 2 ?_;refine jW fun K hK K' hK'=>?_;gi_wp2;refine jW fun K hK K' hK'=>?_;gi_wp2;refine tail_nil _ ?_;simp only[cu];gi_wp2;have hx:=G9.out.1.nth 1;obtain⟨wF,hwF,t0,t1,t2,t3,hQ,bF⟩:=nN (M:=M) (hx 0 _ rfl) (hx 1 _ rfl) (hx 2 _ rfl) (hx 3 _ rfl) (x:=Js (aW regs ka) (aW regs kb)) G9.out.2.num.sl G9.out.2.den.sl G9.out.2.num.neg G9.out.2.den.neg G9.out.1.bl (by omega);rw[hwF];refine⟨rfl,.tuple #[.agg #[.bool p9,.slice A9 n9 c9,.bool q9,.slice B9 m9 d9],.int .i64 0],by simp[results,go_sem,t0,t1,t2,t3],_,rfl,hQ,bF⟩
theorem P_(hM:b_ M w)(hm:ou w M mb A n c B m l ins regs)(hx:XC w M r p q A1 n1 c1 A2 n2 c2)(ha:bf a m=true)(hb:bf b m=true)(oa:(aW regs a).ok)(ob:(aW regs b).ok)(hf:Fine (aW regs a) (aW regs b)):
 Calls prog 46 #[.pointer (some ⟨mb,0,none⟩),.agg #[.int .i64 op,.int .i64 a,.int .i64 b,.int .i64 x3,.int .i64 x4,.bool p,.slice A1 n1 c1,.bool q,.slice A2 n2 c2]] w (QR w M (OG (aW regs a) (aW regs b))):=by
 refine wid ?_;obtain⟨ka,rfl,hka⟩:=bH ha;obtain⟨kb,rfl,hkb⟩:=bH hb;obtain⟨W1,hW1,F1⟩:=nam (((Fr.nil w).a w.heap.size [.int .i64 op,.int .i64 (ka:Int),.int .i64 (kb:Int),.int .i64 x3,.int .i64 x4,.bool p,.slice A1 n1 c1,.bool q,.slice A2 n2 c2] 38).a4 (w.heap.size+1) 30);have FO:=F1;refine op1 FO ?_;intros;have hm1:=(hm.more (k:=w.heap.size+1) (by omega)).go F1.bl;have hx1:=(hx.more (k:=w.heap.size+1) (by omega)).go F1.bl;have hM1:b_ ((w.heap.size+1)::M) W1:=(hM.le F1.bl.size).cons (F1.mJ 1);have F:=Hd F1;have hsm:=hm1.sr.small;have hsi:=hm1.si.small;clear hm hx hM F1 FO;obtain⟨b3,o3,p3,q3,A3,n3,c3,B3,m3,d3,rfl,⟨h0,h1,h2,h3⟩,qc3⟩:=hm1.sr.at_ hka;obtain⟨b4,o4,p4,q4,A4,n4,c4,B4,m4,d4,e0,⟨k0,k1,k2,k3⟩,qc4⟩:=hm1.sr.at_ hkb;obtain⟨rfl,rfl⟩:b3=b4/\o3=o4:=by simpa using e0
 have X:=Zw (show QC W1.drew _ _ _ _ _ _ _ _ _ _ from⟨qc3.num.drew,qc3.den.drew⟩) (show QC W1.drew _ _ _ _ _ _ _ _ _ _ from⟨qc4.num.drew,qc4.den.drew⟩) hM1 oa ob hf;have v0:=ah h0;have v1:=ah h1;have v2:=ah h2;have v3:=ah h3;have v4:=ah k0;have v5:=ah k1;have v6:=ah k2;have v7:=ah k3;have v8:=ah hm1.c1;have hins:=F.out.nth 0;have v9:=ah (hins 1 _ rfl);have v10:=ah (hins 2 _ rfl);clear hm1 hx1 hM1 qc3 qc4 h0 h1 h2 h3 k0 k1 k2 k3 e0 oa ob hf hins ha hb;refine ent func46 rfl ntmps46 ?_;gi_wp2;refine aP [] 19 (by kernel_rfl) (by kernel_rfl) ?_;refine ay 0 ?_;refine ay 1 ?_;refine ay 2 ?_;refine ay 3 ?_;refine ay 4 ?_;refine ay 5 ?_;refine ay 6 ?_;refine ay 7 ?_;refine ay 8 ?_;refine ay 9 ?_;refine ay 10 ?_;refine ay 11 ?_;refine ay 12 ?_;refine ay 13 ?_;refine ay 14 ?_;refine ay 15 ?_;refine eU 16 fun K hK=>?_;gi_wp2;refine Cm (Xl (M:=(w.heap.size+1)::M) (a:=aW regs ka) (b:=aW regs kb) (X.out.2.2.1.le (w':=W1.drew) (Nat.le_refl _)) X.out.1.qw X.out.2.1.qw X.out.2.2.2.1 X.out.2.2.2.2.1 X.out.2.2.2.2.2) ?_;rintro e w9 ⟨u9,rfl,z9,Ns⟩;obtain⟨p9,q9,A9,n9,c9,B9,m9,d9,rfl,jJ⟩:=QC.of z9;have F9:=F.out.drew.go Ns;refine op1 F9 ?_;intros;have G9:=Hd2 F9 jJ;clear z9 jJ F9;refine hK _ _ ⟨?_,?_⟩;clear hK K;·exact Keeps.of_below Ns []
 refine lit ?_;clear Ns;refine ay 17 ?_;refine ay 18 ?_;refine iq 2 ?_;refine jW fun K hK K' hK'=>?_;gi_wp2;refine jW fun K hK K' hK'=>?_;gi_wp2;refine tail_nil _ ?_;simp only[cu];gi_wp2;have hx:=G9.out.1.nth 1;obtain⟨wF,hwF,t0,t1,t2,t3,hQ,bF⟩:=nN (M:=M) (hx 0 _ rfl) (hx 1 _ rfl) (hx 2 _ rfl) (hx 3 _ rfl) (x:=OG (aW regs ka) (aW regs kb)) G9.out.2.num.sl G9.out.2.den.sl G9.out.2.num.neg G9.out.2.den.neg G9.out.1.bl (by omega);rw[hwF];refine⟨rfl,.tuple #[.agg #[.bool p9,.slice A9 n9 c9,.bool q9,.slice B9 m9 d9],.int .i64 0],by simp[results,go_sem,t0,t1,t2,t3],_,rfl,hQ,bF⟩
theorem Qa(hM:b_ M w)(hm:ou w M mb A n c B m l ins regs)(hx:XC w M r p q A1 n1 c1 A2 n2 c2)(hr:dF r=true)(ha:bf a m=true)(oa:(aW regs a).ok)(hf:Fine (aW regs a) (OE r)):
 Calls prog 48 #[.pointer (some ⟨mb,0,none⟩),.agg #[.int .i64 op,.int .i64 a,.int .i64 b,.int .i64 x3,.int .i64 x4,.bool p,.slice A1 n1 c1,.bool q,.slice A2 n2 c2]] w (QR w M (VQ (aW regs a) (OE r))):=by
 refine wid ?_;obtain⟨ka,rfl,hka⟩:=bH ha;obtain⟨W1,hW1,F1⟩:=nam (((Fr.nil w).a w.heap.size [.int .i64 op,.int .i64 (ka:Int),.int .i64 b,.int .i64 x3,.int .i64 x4,.bool p,.slice A1 n1 c1,.bool q,.slice A2 n2 c2] 38).a4 (w.heap.size+1) 30);have FO:=F1;refine op1 FO ?_;intros;have hm1:=(hm.more (k:=w.heap.size+1) (by omega)).go F1.bl;have hx1:=(hx.more (k:=w.heap.size+1) (by omega)).go F1.bl;have hM1:b_ ((w.heap.size+1)::M) W1:=(hM.le F1.bl.size).cons (F1.mJ 1);have F:=Hd F1;have hsm:=hm1.sr.small;have hsi:=hm1.si.small;clear hm hx hM F1 FO;obtain⟨b3,o3,p3,q3,A3,n3,c3,B3,m3,d3,rfl,⟨h0,h1,h2,h3⟩,qc3⟩:=hm1.sr.at_ hka;have qc4:=hx1.qc hr;have X:=Zw (show QC W1.drew _ _ _ _ _ _ _ _ _ _ from⟨qc3.num.drew,qc3.den.drew⟩) (show QC W1.drew _ _ _ _ _ _ _ _ _ _ from⟨qc4.num.drew,qc4.den.drew⟩) hM1 oa (He hr) hf;have v0:=ah h0;have v1:=ah h1;have v2:=ah h2;have v3:=ah h3;have v8:=ah hm1.c1;have hins:=F.out.nth 0;have v9:=ah (hins 1 _ rfl);have v10:=ah (hins 5 _ rfl);have v11:=ah (hins 6 _ rfl);have v12:=ah (hins 7 _ rfl);have v13:=ah (hins 8 _ rfl);clear hm1 hx1 hM1 qc3 qc4 h0 h1 h2 h3 oa hf hins ha hr;refine ent func48 rfl ntmps48 ?_;gi_wp2;refine aP [] 13 (by kernel_rfl) (by kernel_rfl) ?_;refine ay 0 ?_;refine ay 1 ?_;refine ay 2 ?_;refine ay 3 ?_;refine ay 4 ?_;refine ay 5 ?_;refine ay 6 ?_;refine ay 7 ?_;refine ay 8 ?_;refine ay 9 ?_;refine eU 10 fun K hK=>?_;gi_wp2;refine Cm (Xk (M:=(w.heap.size+1)::M) (a:=aW regs ka) (b:=OE r) (X.out.2.2.1.le (w':=W1.drew) (Nat.le_refl _)) X.out.1.qw X.out.2.1.qw X.out.2.2.2.1 X.out.2.2.2.2.1 X.out.2.2.2.2.2) ?_;rintro e w9 ⟨u9,rfl,z9,Ns⟩;obtain⟨p9,q9,A9,n9,c9,B9,m9,d9,rfl,jJ⟩:=QC.of z9;have F9:=F.out.drew.go Ns;refine op1 F9 ?_;intros;have G9:=Hd2 F9 jJ;clear z9 jJ F9;refine hK _ _ ⟨?_,?_⟩;clear hK K;·exact Keeps.of_below Ns []
 refine lit ?_;clear Ns;refine ay 11 ?_;refine ay 12 ?_;refine iq 2 ?_;refine jW fun K hK K' hK'=>?_;gi_wp2;refine jW fun K hK K' hK'=>?_;gi_wp2;refine tail_nil _ ?_;simp only[cu];gi_wp2;have hx:=G9.out.1.nth 1;obtain⟨wF,hwF,t0,t1,t2,t3,hQ,bF⟩:=nN (M:=M) (hx 0 _ rfl) (hx 1 _ rfl) (hx 2 _ rfl) (hx 3 _ rfl) (x:=VQ (aW regs ka) (OE r)) G9.out.2.num.sl G9.out.2.den.sl G9.out.2.num.neg G9.out.2.den.neg G9.out.1.bl (by omega);rw[hwF];refine⟨rfl,.tuple #[.agg #[.bool p9,.slice A9 n9 c9,.bool q9,.slice B9 m9 d9],.int .i64 0],by simp[results,go_sem,t0,t1,t2,t3],_,rfl,hQ,bF⟩
theorem Qb(hM:b_ M w)(hm:ou w M mb A n c B m l ins regs)(hx:XC w M r p q A1 n1 c1 A2 n2 c2)(ha:bf a m=true)(hb:bf b m=true)(oa:(aW regs a).ok)(ob:(aW regs b).ok)(hf:Fine (aW regs a) (aW regs b)):
 Calls prog 50 #[.pointer (some ⟨mb,0,none⟩),.agg #[.int .i64 op,.int .i64 a,.int .i64 b,.int .i64 x3,.int .i64 x4,.bool p,.slice A1 n1 c1,.bool q,.slice A2 n2 c2]] w (QR w M (yc (aW regs a) (aW regs b))):=by
 refine wid ?_
 first
  |rw[<-xU]
  |rw[<-xU (aW regs a) (aW regs b)]
 obtain⟨ka,rfl,hka⟩:=bH ha;obtain⟨kb,rfl,hkb⟩:=bH hb;obtain⟨W1,hW1,F1⟩:=nam (((Fr.nil w).a w.heap.size [.int .i64 op,.int .i64 (ka:Int),.int .i64 (kb:Int),.int .i64 x3,.int .i64 x4,.bool p,.slice A1 n1 c1,.bool q,.slice A2 n2 c2] 38).a4 (w.heap.size+1) 30);have FO:=F1;refine op1 FO ?_;intros;have hm1:=(hm.more (k:=w.heap.size+1) (by omega)).go F1.bl;have hx1:=(hx.more (k:=w.heap.size+1) (by omega)).go F1.bl;have hM1:b_ ((w.heap.size+1)::M) W1:=(hM.le F1.bl.size).cons (F1.mJ 1);have F:=Hd F1;have hsm:=hm1.sr.small;have hsi:=hm1.si.small;clear hm hx hM F1 FO;have X:=Hd5 hm1 hM1 oa ob hf;obtain⟨R,hR⟩:=aC (if rW (aW regs (ka:Int)) (aW regs (kb:Int))<=0 then aW regs (ka:Int)else aW regs (kb:Int));rw[hR];have HR:=Hd hR;clear hm1 hx1 hM1 oa ob hf ha hb hR;refine ent func50 rfl ntmps50 ?_;gi_wp2_with (refine Cl 51 (yJ (M:=(w.heap.size+1)::M) (a:=ka) (b:=kb) (y:=ka) (z:=kb) X.out.2.1 X.out.1 hka hkb hka hkb X.out.2.2.1 X.out.2.2.2.1 X.out.2.2.2.2) ?_;rintro e w9 ⟨u9,rfl,z9,Ns⟩;obtain⟨p9,q9,A9,n9,c9,B9,m9,d9,rfl,jJ⟩:=QC.of z9;have F9:=F.out.go Ns;refine op1 F9 ?_;intros;have G9:=Hd2 F9 jJ;clear z9 jJ F9 Ns)
 rw[HR.out]at G9;have hx:=G9.out.1.nth 1;obtain⟨wF,hwF,t0,t1,t2,t3,hQ,bF⟩:=nN (M:=M) (hx 0 _ rfl) (hx 1 _ rfl) (hx 2 _ rfl) (hx 3 _ rfl) (x:=R) G9.out.2.num.sl G9.out.2.den.sl G9.out.2.num.neg G9.out.2.den.neg G9.out.1.bl (by omega);rw[hwF];refine⟨rfl,.tuple #[.agg #[.bool p9,.slice A9 n9 c9,.bool q9,.slice B9 m9 d9],.int .i64 0],by simp[results,go_sem,t0,t1,t2,t3],_,rfl,hQ,bF⟩
theorem Qc(hM:b_ M w)(hm:ou w M mb A n c B m l ins regs)(hx:XC w M r p q A1 n1 c1 A2 n2 c2)(ha:bf a m=true)(hb:bf b m=true)(oa:(aW regs a).ok)(ob:(aW regs b).ok)(hf:Fine (aW regs a) (aW regs b)):
 Calls prog 52 #[.pointer (some ⟨mb,0,none⟩),.agg #[.int .i64 op,.int .i64 a,.int .i64 b,.int .i64 x3,.int .i64 x4,.bool p,.slice A1 n1 c1,.bool q,.slice A2 n2 c2]] w (QR w M (yh (aW regs a) (aW regs b))):=by
 refine wid ?_
 first
  |rw[<-xX oa ob]
  |rw[<-xX oa ob (aW regs a) (aW regs b)]
 obtain⟨ka,rfl,hka⟩:=bH ha;obtain⟨kb,rfl,hkb⟩:=bH hb;obtain⟨W1,hW1,F1⟩:=nam (((Fr.nil w).a w.heap.size [.int .i64 op,.int .i64 (ka:Int),.int .i64 (kb:Int),.int .i64 x3,.int .i64 x4,.bool p,.slice A1 n1 c1,.bool q,.slice A2 n2 c2] 38).a4 (w.heap.size+1) 30);have FO:=F1;refine op1 FO ?_;intros;have hm1:=(hm.more (k:=w.heap.size+1) (by omega)).go F1.bl;have hx1:=(hx.more (k:=w.heap.size+1) (by omega)).go F1.bl;have hM1:b_ ((w.heap.size+1)::M) W1:=(hM.le F1.bl.size).cons (F1.mJ 1);have F:=Hd F1;have hsm:=hm1.sr.small;have hsi:=hm1.si.small;clear hm hx hM F1 FO;have X:=Hd5 hm1 hM1 oa ob hf;obtain⟨R,hR⟩:=aC (if rW (aW regs (ka:Int)) (aW regs (kb:Int))<=0 then aW regs (kb:Int)else aW regs (ka:Int));rw[hR];have HR:=Hd hR;clear hm1 hx1 hM1 oa ob hf ha hb hR;refine ent func52 rfl ntmps52 ?_;gi_wp2_with (refine Cl 51 (yJ (M:=(w.heap.size+1)::M) (a:=ka) (b:=kb) (y:=kb) (z:=ka) X.out.2.1 X.out.1 hka hkb hkb hka X.out.2.2.1 X.out.2.2.2.1 X.out.2.2.2.2) ?_;rintro e w9 ⟨u9,rfl,z9,Ns⟩;obtain⟨p9,q9,A9,n9,c9,B9,m9,d9,rfl,jJ⟩:=QC.of z9;have F9:=F.out.go Ns;refine op1 F9 ?_;intros;have G9:=Hd2 F9 jJ;clear z9 jJ F9 Ns)
 rw[HR.out]at G9;have hx:=G9.out.1.nth 1;obtain⟨wF,hwF,t0,t1,t2,t3,hQ,bF⟩:=nN (M:=M) (hx 0 _ rfl) (hx 1 _ rfl) (hx 2 _ rfl) (hx 3 _ rfl) (x:=R) G9.out.2.num.sl G9.out.2.den.sl G9.out.2.num.neg G9.out.2.den.neg G9.out.1.bl (by omega);rw[hwF];refine⟨rfl,.tuple #[.agg #[.bool p9,.slice A9 n9 c9,.bool q9,.slice B9 m9 d9],.int .i64 0],by simp[results,go_sem,t0,t1,t2,t3],_,rfl,hQ,bF⟩
theorem Qi(hM:b_ M w)(hm:ou w M mb A n c B m l ins regs)(hx:XC w M r p q A1 n1 c1 A2 n2 c2)(ha:bf a m=true)(hb:bf b m=true)(hy:bf x3 m=true)(hz:bf x4 m=true)(oa:(aW regs a).ok)(ob:(aW regs b).ok)(hf:Fine (aW regs a) (aW regs b)):
 Calls prog 53 #[.pointer (some ⟨mb,0,none⟩),.agg #[.int .i64 op,.int .i64 a,.int .i64 b,.int .i64 x3,.int .i64 x4,.bool p,.slice A1 n1 c1,.bool q,.slice A2 n2 c2]] w (QR w M (if rW (aW regs a) (aW regs b)<=0 then aW regs x3 else aW regs x4)):=by
 refine wid ?_;obtain⟨ka,rfl,hka⟩:=bH ha;obtain⟨kb,rfl,hkb⟩:=bH hb;obtain⟨ky,rfl,hky⟩:=bH hy;obtain⟨kz,rfl,hkz⟩:=bH hz;obtain⟨W1,hW1,F1⟩:=nam (((Fr.nil w).a w.heap.size [.int .i64 op,.int .i64 (ka:Int),.int .i64 (kb:Int),.int .i64 (ky:Int),.int .i64 (kz:Int),.bool p,.slice A1 n1 c1,.bool q,.slice A2 n2 c2] 38).a4 (w.heap.size+1) 30);have FO:=F1;refine op1 FO ?_;intros;have hm1:=(hm.more (k:=w.heap.size+1) (by omega)).go F1.bl;have hx1:=(hx.more (k:=w.heap.size+1) (by omega)).go F1.bl;have hM1:b_ ((w.heap.size+1)::M) W1:=(hM.le F1.bl.size).cons (F1.mJ 1);have F:=Hd F1;have hsm:=hm1.sr.small;have hsi:=hm1.si.small;clear hm hx hM F1 FO;have X:=Hd5 hm1 hM1 oa ob hf;obtain⟨R,hR⟩:=aC (if rW (aW regs (ka:Int)) (aW regs (kb:Int))<=0 then aW regs (ky:Int)else aW regs (kz:Int));rw[hR];have HR:=Hd hR;clear hm1 hx1 hM1 oa ob hf ha hb hR hy hz;refine ent func53 rfl ntmps53 ?_;gi_wp2_with (refine Cl 51 (yJ (M:=(w.heap.size+1)::M) (a:=ka) (b:=kb) (y:=ky) (z:=kz) X.out.2.1 X.out.1 hka hkb hky hkz X.out.2.2.1 X.out.2.2.2.1 X.out.2.2.2.2) ?_;rintro e w9 ⟨u9,rfl,z9,Ns⟩;obtain⟨p9,q9,A9,n9,c9,B9,m9,d9,rfl,jJ⟩:=QC.of z9;have F9:=F.out.go Ns;refine op1 F9 ?_;intros;have G9:=Hd2 F9 jJ;clear z9 jJ F9 Ns)
 rw[HR.out]at G9;have hx:=G9.out.1.nth 1;obtain⟨wF,hwF,t0,t1,t2,t3,hQ,bF⟩:=nN (M:=M) (hx 0 _ rfl) (hx 1 _ rfl) (hx 2 _ rfl) (hx 3 _ rfl) (x:=R) G9.out.2.num.sl G9.out.2.den.sl G9.out.2.num.neg G9.out.2.den.neg G9.out.1.bl (by omega);rw[hwF];refine⟨rfl,.tuple #[.agg #[.bool p9,.slice A9 n9 c9,.bool q9,.slice B9 m9 d9],.int .i64 0],by simp[results,go_sem,t0,t1,t2,t3],_,rfl,hQ,bF⟩
end
end
end Go.Proofs.YtefnknhjlejalaaGreatDoor
