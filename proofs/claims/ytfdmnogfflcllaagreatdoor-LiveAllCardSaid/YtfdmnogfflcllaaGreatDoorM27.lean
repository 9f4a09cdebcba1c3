/- Lemmas -/
import Derived.Test.YtfdmnogfflcllaaGreatDoorM26
set_option linter.all false
set_option maxRecDepth 100000
set_option maxHeartbeats 0
namespace Go.Proofs.YtfdmnogfflcllaaGreatDoor
open Go.Proofs.Tryz
theorem wO{p:Prop}(h:p:=by
 refine ent func71 ntmps71 ?_
 gi_wp2_with (first
  |(have g:=N.out;clear g;have X:=t.out.2 _ F.out.bl;refine Cl 125 X ?_;clear X;rintro e z ⟨rfl,f⟩;replace F:=Hd (F.out.go f);have o:=aW F.out;clear f)
  |(have X:=t.out.1 _ F.out.bl;refine Cl 125 X ?_;clear X;rintro e z ⟨rfl,f⟩;replace F:=Hd (F.out.go f);have o:=aW F.out;have N:=Hd trivial;clear f)
  |(refine⟨bO,?_⟩))
 go_ret;exact⟨by rw[HZ.out];simp[*],F.out.bl⟩):p:=h
theorem EF{p:Prop}(h:p:=by
 clear j;refine ent func40 ntmps40 ?_
 gi_wp2_with (first
  |(refine Cl 66 t.out ?_;rintro e s ⟨rfl,f⟩;replace F:=Hd (F.out.go f);have p:=aW F.out;clear f)
  |fail)
 go_ret;exact⟨by rw[HZ.out];rfl,F.out.bl⟩):p:=h
theorem X7{p:Prop}(h:p:=by go_ret;exact⟨by rw[HZ.out,<-e.out,HY.a,HY.u];simp;omega,bL _ _⟩):p:=h
variable {M:List Nat}{A B:Option Addr}{n m d g k:Nat}{c:dS}{l:List Int}{w:World}{lb:Array Value}{P:Int→Bool}{r:aS}{s1 s2 s3 s4 s5 s6 s7 t1 t2 t3 t4:dK}{x:aJ}{i:Int}{v:Value}{y:bT}
section
open Go.RowKit Go.Shelf
attribute [local go_sem] cX
theorem zY{c:Nat}{xs:List bW}(hx:Sl bW w M A n c xs)(hs:Sl Int w M B m d l):
 CB 125 #[.slice A n c,.slice B m d] (.bool (dV xs l)) w:=by
 refine wid ?_;have K:=hs.small;have N:=hx.small;have H:=h_ hx hx.len hs hs.len;obtain⟨Z,f⟩:=aC (dV xs l);have HZ:=Hd (show Z=(decide (m=n)&&(xs.zip l).all fun p=>countB p.1 p.2) by rw[<-f,dV,hs.len,hx.len]);rw[f];clear hs hx f;by_cases q:m=n;rotate_left;·have J:(((m:Nat):Int)!=((n:Nat):Int))=true:=fu.2 pj;have C:=Hd q;refine ent func125 ntmps125 ?_;gi_wp2;go_ret;exact⟨by rw[HZ.out,cE C.out];rfl,bL _ _⟩
 subst q;refine ent func125 ntmps125 ?_;gi_wp2;gi_loopw[14] (fun i wr=>∃k:Nat,k<=m/\i=k/\w=wr/\Hid (((xs.zip l).drop k).all (fun p=>countB p.1 p.2)=(xs.zip l).all fun p=>countB p.1 p.2)) (fun i _=>m-(intOf i).toNat);case atStart=>exact⟨0,cf _,rfl,rfl,Hd rfl⟩
 case round=>
  obtain⟨k,D,rfl,rfl,e⟩:=hrel;by_cases j:k<m
  ·obtain⟨x,hx⟩:=dW xs k (by rw[H.b];exact j);obtain⟨b,o,y,rfl,G,-,-,z⟩:=H.c.pR j;obtain⟨b2,O,rfl,-,-,F⟩:=H.a.NQ hx;have s:=iC (P:=fun p:bW×Int=>countB p.1 p.2) (oG hx z);obtain⟨t,X⟩:=aC x.2.2;rw[X]at F;have HY:=Hd2 s (show countB x y=(decide (0<=y)&&decide (y<=t)) by rw[countB,X]);clear z hx s X;by_cases I:y<0
   ·gi_wp2_with (first|(refine⟨bO,?_⟩))
    exact X7
   by_cases L:y>t;·gi_wp2;exact X7
   gi_wp2;exact⟨⟨k+1,pj,by go_num,bO,Hd (by rw[<-e.out,HY.a,HY.u,cx (show 0<=y by omega),cx (show y<=t by omega)];rfl)⟩,by simp[intOf];omega⟩
  ·obtain rfl:k=m:=pj;have E:=Hd (show Z=true by rw[HZ.out,<-e.out,jr (by rw[kI,H.b,H.w];omega)];simp);clear D j;gi_wp2;go_ret;exact⟨by rw[E.out];rfl,bL _ _⟩
theorem Xf{c:Nat}(eg:∀args w,(callFunc g args).run prog w=.ok (.enter g args) w)(hs:Sl Int w M A n c l)(hg:∀x V,x∈l->Below w w V->Calls prog g (#[.int .i64 x]++lb) V fun e w'=>e=.returned (.bool (P x))/\Below V V w'):
 Calls prog 174 #[.slice A n c,.func (.func g) #[] lb] w fun e w'=>∃i:Int,e=.returned i/\decide (0<=i)=l.any P/\Below w w w':=by
 refine wid ?_;have F:=hs.small;have H:=fB hs hs.len hg;clear hs hg;refine ent func174 ntmps174 ?_;gi_wp2;gi_loopw[8] (fun i wr=>∃k:Nat,k<=n/\i=k/\Hid ((l.drop k).any P=l.any P)/\Hid (Below w w wr)) (fun i _=>n-(intOf i).toNat);case atStart=>exact⟨0,cf _,rfl,Hd rfl,Hd pE⟩
 case round=>
  obtain⟨k,E,rfl,u,j⟩:=hrel;by_cases D:k<n
  ·obtain⟨b,o,x,rfl,K,-,t,hx⟩:=(H.a.go j.out).pR D;have f:=u.out;rw[t,ij]at f;have X:=H.v x wr (bh hx) j.out;obtain⟨z,C⟩:=aC (P x);rw[C]at X f;have HX:=Hd X;have p:=Hd f;clear f t C hx X;cases z
   all_goals gi_wp2_with (first
    |(refine Cl g HX.out ?_;rintro e G ⟨rfl,s⟩;have q:=Hd (j.out.trans (s.mono j.out.size));clear s)
    |fail)
   ·exact⟨⟨k+1,pj,by go_num,Hd (by have:=p.out;rwa [jz]at this),q⟩,by simp[intOf];omega⟩
   go_ret;exact⟨k,rfl,by rw[<-p.out,nB];simp,q.out⟩
  ·have f:=u.out;rw[cB (by rw[H.b];omega)]at f;have p:=Hd f;clear f;gi_wp2;go_ret;exact⟨-1,rfl,by rw[<-p.out];rfl,j.out⟩
theorem MP{c:Nat}(eg:∀args w,(callFunc g args).run prog w=.ok (.enter g args) w)(hs:Sl Int w M A n c l)(hg:∀x V,x∈l->Below w w V->Calls prog g (#[.int .i64 x]++lb) V fun e w'=>e=.returned (.bool (P x))/\Below V V w'):
 CB 128 #[.slice A n c,.func (.func g) #[] lb] (.bool (l.any P)) w:=by
 refine wid ?_;have H:=Hd (Xf eg hs hg);clear hs hg;refine ent func128 ntmps128 ?_
 gi_wp2_with (first
  |(refine Cl 174 H.out ?_;rintro e o ⟨i,rfl,j,f⟩;have b:=Hd2 j f;clear j f)
  |fail)
 go_ret;exact⟨by rw[<-b.a];rfl,b.u⟩
theorem Pg{c:Nat}{p q:Bool}{l1 l2:List Int}(hM:b_ M w)(hx:Sl Int w M A n c l1)(hy:Sl Int w M B m d l2):
 CB 130 #[.agg #[p,.slice A n c,q,.slice B m d]] (.bool (!dF ((p,l1),(q,l2)))) w:=by
 refine wid ?_;obtain⟨W1,o,F1⟩:=dR ((Fr.nil w).a w [p,.slice A n c,q,.slice B m d] 48);have s:=aW F1;have F:=Hd F1;have X:=Em (p:=p) (q:=q) (hM.le F1.bl.size) (hx.go F1.bl) (hy.go F1.bl);obtain⟨z,f⟩:=aC (dF ((p,l1),(q,l2)));rw[f]at X |-;have HX:=Hd X;clear F1 hx hy hM X f;cases z
 all_goals
  refine ent func130 ntmps130 ?_
  gi_wp2_with (first
   |(refine Cl 93 HX.out ?_;rintro e t ⟨rfl,b⟩;simp only[qM,mf,oB,gm];have j:=Hd (F.out.go b);clear b)
   |fail)
  go_ret;exact⟨rfl,j.out.bl⟩
theorem TL{c:Nat}{l:List fC}(hM:b_ M w)(hs:Sl fC w M A n c l):
 Calls prog 175 #[.slice A n c,.func (.func 130) #[] #[]] w fun e w'=>∃i:Int,e=.returned i/\decide (0<=i)=l.any (fun x=> !dF x)/\Below w w w':=by
 refine wid ?_;have O:=hs.small;have H:=fB hs hs.len hM;have L:=eR (P:=prog) func130 pk rfl;clear hs hM;refine ent func175 ntmps175 ?_;gi_wp2;gi_loopw[8] (fun i wr=>∃k:Nat,k<=n/\i=k/\Hid ((l.drop k).any (fun x=> !dF x)=l.any (fun x=> !dF x))/\Hid (Below w w wr)) (fun i _=>n-(intOf i).toNat);case atStart=>exact⟨0,cf _,rfl,Hd rfl,Hd pE⟩
 case round=>
  obtain⟨k,N,rfl,I,j⟩:=hrel;by_cases E:k<n
  ·obtain⟨y,t⟩:=dW l k (by rw[H.b];exact E);obtain⟨b,o,J,Q,a1,K,R,a2,rfl,T,V,W,Y,F,G⟩:=(H.a.go j.out).MG t;have f:=I.out;rw[cL (by rw[H.b];exact E),ij,(bu.1 t).2]at f;have X:=Pg (p:=y.1.1) (q:=y.2.1) (H.v.le j.out.size) F G;obtain⟨z,u⟩:=aC (dF ((y.1.1,y.1.2),(y.2.1,y.2.2)));rw[u]at X;rw[show dF y=z from u]at f;have HX:=Hd X;have s:=Hd f;clear f u t X F G;cases z
   all_goals gi_wp2_with (first
    |(refine Cl 130 HX.out ?_;rintro e S ⟨rfl,D⟩;have C:=Hd (j.out.trans (D.mono j.out.size));clear D)
    |fail)
   ·go_ret;exact⟨k,rfl,by rw[<-s.out,Bool.not_false,nB];simp,C.out⟩
   exact⟨⟨k+1,pj,by go_num,Hd (by have:=s.out;rwa [Bool.not_true,jz]at this),C⟩,by simp[intOf];omega⟩
  ·have f:=I.out;rw[cB (by rw[H.b];omega)]at f;have s:=Hd f;clear f;gi_wp2;go_ret;exact⟨-1,rfl,by rw[<-s.out];rfl,j.out⟩
theorem JF{c:Nat}{l:List fC}(hM:b_ M w)(hs:Sl fC w M A n c l):
 CB 129 #[.slice A n c,.func (.func 130) #[] #[]] (.bool (l.any fun x=> !dF x)) w:=by
 refine wid ?_;have H:=Hd (TL hM hs);clear hs hM;refine ent func129 ntmps129 ?_
 gi_wp2_with (first
  |(refine Cl 175 H.out ?_;rintro e o ⟨i,rfl,j,f⟩;have b:=Hd2 j f;clear j f)
  |fail)
 go_ret;exact⟨by rw[<-b.a];rfl,b.u⟩
theorem ag9{c:bT}{m:Int}(hr:fJ (rX c)=true):pz (rX c) m=if Nv (rX c) m=true then(kC c m,0)else(0,160):=by unfold pz;rw[if_pos hr];rfl
theorem Ph{bk bi q cp j:Nat}{cs:List bT}{c:bT}{m:Int}(h1:w.cell? ⟨bk,5,none⟩=some (.slice A q cp))(h2:w.cell? ⟨bi,0,none⟩=some (.int .i64 j))(hs:Sl bT w M A q cp cs)(hc:cs[j]?=some c)(hr:fJ (rX c)=true):
 CB 126 #[m,.pointer (some ⟨bk,0,none⟩),.pointer (some ⟨bi,0,none⟩)] (.bool (!oD c m)) w:=by
 refine wid ?_;have C:j<q:=by rw[<-hs.len];exact(bu.1 hc).1
 have E:=hs.small;obtain⟨b,o,rfl,F,G,H,I,J,K,L⟩:=hs.IU hc;have HB:=Hd (DJ c.1 c.2.1 c.2.2.1 c.2.2.2.1 c.2.2.2.2.1 c.2.2.2.2.2.1 c.2.2.2.2.2.2 m w);rw[show(⟨c.1,c.2.1,c.2.2.1,c.2.2.2.1,c.2.2.2.2.1,c.2.2.2.2.2.1,c.2.2.2.2.2.2⟩:DF)=rX c from rfl,ag9 hr]at HB;obtain⟨z,s⟩:=aC (Nv (rX c) m);obtain⟨Z,f⟩:=aC (oD c m);have HZ:=Hd (show Z=(decide (m= -1)||z) by rw[<-f,oD,s]);rw[s]at HB;rw[f];clear hs hc hr s f;by_cases a:m= -1
 ·subst a;refine ent func126 ntmps126 ?_
  gi_wp2_with (first
   |(refine Cl 127 HB.out ?_;rintro e u ⟨rfl,p⟩)
   |(refine⟨bO,?_⟩))
  all_goals
   go_ret;exact⟨by rw[HZ.out];simp,p⟩
 ·have D:(m != -1)=true:=fu.2 a;have t:=Hd a;clear a;cases z
  all_goals
   simp only[mf,oB,gm]at HB;refine ent func126 ntmps126 ?_
   gi_wp2_with (first
    |(refine Cl 127 HB.out ?_;rintro e u ⟨rfl,p⟩)
    |fail)
   go_ret;exact⟨by rw[HZ.out,cE t.out];first|rfl|simp,p⟩
abbrev pY(r:aS)(s1 s2 s3 s4 s5 s6 s7:dK)(i:Nat)(t1 t2 t3 t4:dK):List Value:= [.slice t1.A t1.n t1.c,.slice t2.A t2.n t2.c,.slice t3.A t3.n t3.c,.slice t4.A t4.n t4.c,r.name,.slice s1.A s1.n s1.c,.slice s2.A s2.n s2.c,.slice s3.A s3.n s3.c,.slice s4.A s4.n s4.c,.slice s5.A s5.n s5.c,.slice s6.A s6.n s6.c,.slice s7.A s7.n s7.c,r.best,i]
theorem Y4(l:List Int)(P:Int->Bool):(l.any fun m=> !P m)= !l.all P:=by induction l<;>simp_all
theorem Xg(l:List fC)(P:fC->Bool):(l.any fun m=> !P m)= !l.all P:=by induction l<;>simp_all
theorem Pj{i:Nat}(hr:dG w M r s1 s2 s3 s4 s5 s6 s7)(hc:jE w M c t1 t2 t3 t4)(hx:r.rounds[i]?=some x)(hq:∀y,y∈r.aT->fJ (rX y)=true)(hM:b_ M w):
 CB 71 #[.agg (pY r s1 s2 s3 s4 s5 s6 s7 i t1 t2 t3 t4).toArray] (.bool (kS r i x.2.1 c)) w:=by
 refine wid ?_;obtain⟨K,I,Q⟩:=s1;obtain⟨A5,J,c5⟩:=s5;obtain⟨L,p,S⟩:=t1;obtain⟨O,s,T⟩:=t4;have W:Sl bT w M K I Q r.aT:=hr.aT;have Y:Sl aJ w M A5 J c5 r.rounds:=hr.rounds;have E:Sl (List Int) w [] L p S c.marks:=hc.marks;have G:Sl fC w M O s T c.prev:=hc.prev;have YZ:=E.small;have ak:=G.small;have hi:i<J:=by rw[<-Y.len];exact(bu.1 hx).1
 have JC:=Y.small;obtain⟨zb,ae⟩:=aC (dV r.bonus c.bonus);obtain⟨zm,ag⟩:=aC (dV r.malus c.malus);have X:(∀V,Below w w V->Calls prog 125 #[.slice s2.A s2.n s2.c,.slice t2.A t2.n t2.c] V fun e w'=>e=.returned (.bool (dV r.bonus c.bonus))/\Below V V w')/\(∀V,Below w w V->Calls prog 125 #[.slice s3.A s3.n s3.c,.slice t3.A t3.n t3.c] V fun e w'=>e=.returned (.bool (dV r.malus c.malus))/\Below V V w'):=⟨fun V hb=>zY (hr.bonus.go hb) (hc.bonus.go hb),fun V hb=>zY (hr.malus.go hb) (hc.malus.go hb)⟩;rw[ae,ag]at X;have t:=Hd X;obtain⟨W1,an,F1⟩:=dR ((Fr.nil w).a w (pY r ⟨K,I,Q⟩ s2 s3 s4 ⟨A5,J,c5⟩ s6 s7 i ⟨L,p,S⟩ t2 t3 ⟨O,s,T⟩) 93);have o:=aW F1;have F:=Hd F1;have H:=oK W Y E G hM;have HL:=h_ W.len E.len G.len hq;obtain⟨Z,hZ⟩:=aC (kS r i x.2.1 c);have HZ:=Hd (show Z=(decide (p=I)&&zb&&zm&&decide (s=i)&&((r.aT.zip c.marks).all fun q=>jc q.1 x.2.1 q.2)&&c.prev.all dF) by rw[<-hZ,kS,ae,ag,W.len,E.len,G.len]);rw[hZ];have HX:=Hd hx;clear F1 W Y E G hM hr hc hq hZ ae ag X hx;by_cases g1:p=I;rotate_left;·have al:(((p:Nat):Int)!=((I:Nat):Int))=true:=fu.2 pj;exact wO
 subst g1;cases zb;·exact wO
 cases zm;·exact wO
 by_cases g4:s=i;rotate_left;·have am:(((s:Nat):Int)!=((i:Nat):Int))=true:=fu.2 pj;exact wO
 subst g4;refine ent func71 ntmps71 ?_
 gi_wp2_with (first
  |(have g:=N.out;clear g;have X:=t.out.2 _ F.out.bl;refine Cl 125 X ?_;clear X;rintro e z ⟨rfl,f⟩;replace F:=Hd (F.out.go f);have o:=aW F.out;clear f)
  |(have X:=t.out.1 _ F.out.bl;refine Cl 125 X ?_;clear X;rintro e z ⟨rfl,f⟩;replace F:=Hd (F.out.go f);have o:=aW F.out;have N:=Hd trivial;clear f)
  |(refine⟨bO,?_⟩))
 have aa:=Hd (show Z=(((r.aT.zip c.marks).all fun q=>jc q.1 x.2.1 q.2)&&c.prev.all dF) by rw[HZ.out];simp);clear HZ t N;obtain⟨R,hR⟩:∃R:List (Nat×List Value), [(w.heap.size,pY r ⟨K,p,Q⟩ s2 s3 s4 ⟨A5,J,c5⟩ s6 s7 s ⟨L,p,S⟩ t2 t3 ⟨O,s,T⟩)]=R:=⟨_,rfl⟩;have HR:=Hd (show ∀V,Fr w V R↔Fr w V [(w,pY r ⟨K,p,Q⟩ s2 s3 s4 ⟨A5,J,c5⟩ s6 s7 s ⟨L,p,S⟩ t2 t3 ⟨O,s,T⟩)]from fun V=>by rw[hR]);replace F:=Hd ((HR.out _).2 F.out);clear hR o;gi_loopw[48] (fun i wr=>∃k:Nat,k<=p/\i=k/\Hid (((r.aT.zip c.marks).drop k).all (fun q=>jc q.1 x.2.1 q.2)=(r.aT.zip c.marks).all fun q=>jc q.1 x.2.1 q.2)/\Hid (Fr w wr R)) (fun i _=>p-(intOf i).toNat);case atStart=>exact⟨0,cf _,rfl,Hd rfl,F⟩
 case round=>
  obtain⟨k,hk,rfl,C,hF⟩:=hrel;replace F:=Hd ((HR.out _).1 hF.out);by_cases ab:k<p
  ·obtain⟨y,hy⟩:=dW r.aT k (by rw[HL.a];exact ab);obtain⟨l,hl⟩:=dW c.marks k (by rw[HL.b];exact ab);obtain⟨W5,CZ,F5⟩:=dR (F.out.a wr [k] 3);have o:=aW F.out;have o5:=aW F5;obtain⟨b2,o2,Al,nl,cl,rfl,c0,ad⟩:=(H.c.go F.out.bl).tX hl;obtain⟨b3,o3,D,m,e,rfl,⟨-,y1,-⟩,-⟩:=(H.b.go F5.bl).iw HX.out;have ai:=iC (P:=fun q:bT×List Int=>jc q.1 x.2.1 q.2) (oG hy hl);have aj:=HL.w y (bh hy);have ah:Below wr wr W5:=by rw[<-CZ];exact(bL _ wr).alloc pD _
   have X:=MP (P:=fun m=> !oD y m) (lb:=#[.pointer (some ⟨w,0,none⟩),.pointer (some ⟨wr,0,none⟩)]) (eR (P:=prog) func126 pk rfl) (ad.go ah) (fun m V _ hV=>Ph (M:=M) (bk:=w.heap.size) (bi:=wr.heap.size) (j:=k) ((F5.go hV).aQ 0 5) ((F5.go hV).aQ 1 0) (H.a.go (F5.go hV).bl) hy aj);rw[Y4]at X;obtain⟨zl,af⟩:=aC (l.all (oD y));rw[af]at X;have Zy:=Hd X;obtain⟨pn,ac⟩:=aC x.2.1;have HY:=Hd2 ai (show jc y x.2.1 l=(decide ((nl:Int)=pn)&&zl) by rw[jc,af,ad.len,ac]);rw[ac]at y1;have Yu:=Hd F5;clear hy hl ai aj X af ad F5 ah ac;by_cases hp:((nl:Nat):Int)=pn
   ·subst hp;cases zl
    all_goals gi_wp2_with (first
     |(refine Cl 128 Zy.out ?_;rintro e w6 ⟨rfl,f⟩;have F6:=Hd (Yu.out.go f);clear f)
     |fail)
    ·go_ret;exact⟨by rw[aa.out,<-C.out,HY.a,HY.u];simp,F6.out.bl⟩
    exact⟨⟨k+1,pj,by go_num,Hd (by rw[<-C.out,HY.a,HY.u];simp),Hd ((HR.out _).2 F6.out.hd)⟩,by simp[intOf];omega⟩
   have ao:(((nl:Nat):Int)!=pn)=true:=fu.2 hp;have HH:=Hd hp;clear hp;gi_wp2_with (first|(refine⟨bO,?_⟩))
   go_ret;exact⟨by rw[aa.out,<-C.out,HY.a,HY.u,cE HH.out];simp,Yu.out.bl⟩
  ·obtain rfl:k=p:=pj;have o:=aW F.out;have HE:=Hd (show Z=c.prev.all dF by rw[aa.out,<-C.out,jr (by rw[kI,HL.a,HL.b];omega)];simp);have X:=JF (H.x.le F.out.bl.size) (H.d.go F.out.bl);rw[Xg,<-HE.out]at X;have Zy:=Hd X;clear hk ab C X;cases Z
   all_goals
    gi_wp2_with (first
     |(refine Cl 129 Zy.out ?_;rintro e w6 ⟨rfl,f⟩;have F6:=Hd (F.out.go f);clear f)
     |fail)
    go_ret;exact⟨rfl,F6.out.bl⟩
def vF(r:aS)(i:Int)(c:dS):Int:=if i<0 then 1 else match r.rounds[i.toNat]? with
 |none=>1
 |some x=>if kS r i.toNat x.2.1 c=true then 0 else 170
theorem Pv(h:f_ r i c):vF r i c=0:=by obtain⟨-,k,x,rfl,hx,K⟩:=h;unfold vF;rw[if_neg pj,fv,hx];simp[K]
theorem zZ(h:Sound r)(hx:r.rounds[k]?=some x):∀y,y∈r.aT->fJ (rX y)=true:=fun y hy=>DX (h.2.1.aT y hy) (MN (h.2.1.rounds x (bh hx)) hy)
theorem rO(hr:dG w M r s1 s2 s3 s4 s5 s6 s7)(hc:jE w M c t1 t2 t3 t4)(hs:Sound r)(ht:Tab w)(hM:b_ M w):
 CB 40 #[.agg (aV r s1 s2 s3 s4 s5 s6 s7).toArray,i,.agg (dI t1 t2 t3 t4).toArray] (.int .i64 (vF r i c)) w:=by
 refine wid ?_;obtain⟨Z,j⟩:=aC (vF r i c);rw[j];have q:=hr.rounds.len;have C:=hr.rounds.small;obtain⟨W1,D,F1⟩:=dR (((Fr.nil w).a w (aV r s1 s2 s3 s4 s5 s6 s7) 28).a (w+1) (dI t1 t2 t3 t4) 42);have p:=aW F1;have F:=Hd F1;obtain⟨K,T⟩:=hs.2.2.1;have t:=Hd (Pq (hr.go F1.bl) hs.1 hs.2.1 T hs.2.2.2 (tab_below ht F1.bl) (hM.le F1.bl.size));have H:=oK hr hc hs hM q;clear F1 hr hc hs hM q ht T;by_cases u:i<0;·have E:(decide (i<0))=true:=cx u;have HZ:=Hd (show Z=1 by rw[<-j,vF,if_pos u]);exact EF
 obtain⟨k,rfl⟩:∃k:Nat,i=(k:Int):=⟨i.toNat,pj⟩;by_cases G:s5.n<=k;·have I:((k:Nat):Int)>=((s5.n:Nat):Int):=pj;have HZ:=Hd (show Z=1 by rw[<-j,vF,if_neg u,fv,fW (by rw[H.x];omega)]);exact EF
 obtain⟨x,hx⟩:=dW r.rounds k (by rw[H.x];omega);have J:¬((k:Nat):Int)>=((s5.n:Nat):Int):=pj;obtain⟨z,o⟩:=aC (kS r k x.2.1 c);have HZ:=Hd (show Z=if z=true then 0 else 170 by rw[<-j,vF,if_neg u,fv,hx];simp only[o]);have HX:=Hd2 hx o;clear hx o j;cases z
 all_goals
  refine ent func40 ntmps40 ?_
  gi_wp2_with (first
   |(have g:=N.out;clear g;have X:=Pj (H.a.go F.out.bl) (H.b.go F.out.bl) HX.out.1 (zZ H.c HX.out.1) (H.d.le F.out.bl.size);rw[HX.out.2]at X;refine Cl 71 X ?_;clear X;rintro e L ⟨rfl,f⟩;replace F:=Hd (F.out.go f);clear f)
   |(refine Cl 66 t.out ?_;rintro e s ⟨rfl,f⟩;replace F:=Hd (F.out.go f);have p:=aW F.out;have N:=Hd trivial;clear f)
   |fail)
  go_ret;exact⟨by rw[HZ.out];rfl,F.out.bl⟩
theorem adq(hr:dG w M r s1 s2 s3 s4 s5 s6 s7)(hc:jE w M c t1 t2 t3 t4)(hg:f_ r i c)(ht:Tab w)(hM:b_ M w):
 CB 40 #[.agg (aV r s1 s2 s3 s4 s5 s6 s7).toArray,i,.agg (dI t1 t2 t3 t4).toArray] (.int .i64 0) w:=by
 have h:=rO (i:=i) hr hc hg.1 ht hM
 rwa [Pv hg]at h
theorem rP(w:World):Calls prog 39 #[.int .i64 0] w fun e w'=>e=.returned (.tuple #[])/\w=w':=by refine wid ?_;refine ent func39 ntmps39 ?_;gi_wp2;go_end0;exact⟨rfl,rfl⟩
theorem wJ{q:Rt}(hM:b_ M w)(hq:QW w M v q):Calls prog 77 #[v,.int .i64 0] w fun e w'=>∃u,e=.returned u/\QW w' M u q/\Below w w w':=by
 refine wid ?_;obtain⟨t,z,f,s,Q,j,p,o,rfl,C⟩:=QC.of hq;obtain⟨W1,F,F1⟩:=dR (((Fr.nil w).a w [t,.slice f s Q,z,.slice j p o] 48).a (w+1) [false,.slice none 0 0,false,.slice none 0 0] 48);have H:=aW F1;have G:=Hd2 F1 ((C.more (b:=w+1) pj).go F1.bl);clear hq C F1 hM;refine ent func77 ntmps77 ?_
 gi_wp2_with (first
  |(refine Cl 39 (rP _) ?_;rintro e I ⟨rfl,rfl⟩)
  |fail)
 obtain⟨J,E,t0,t1,t2,t3,hQ,D⟩:=nN (M:=M) (G.a.aQ 1 0) (G.a.aQ 1 1) (G.a.aQ 1 2) (G.a.aQ 1 3) (x:=q) G.u.num.sl G.u.den.sl G.u.num.neg G.u.den.neg G.a.bl (ja _);try rw[E]
 exact⟨rfl,.agg #[t,.slice f s Q,z,.slice j p o],by simp[results,go_sem,t0,t1,t2,t3],_,rfl,hQ,D⟩
theorem M_{i:Nat}(hc:jE w M c t1 t2 t3 t4)(hm:eY c.marks=0)(hl:∀l,l∈c.marks->l.length<=1000000):
 CB 41 #[.agg (pY r s1 s2 s3 s4 s5 s6 s7 i t1 t2 t3 t4).toArray] (.tuple #[]) w:=by
 refine wid ?_;obtain⟨A,n,p⟩:=t1;have f:Sl (List Int) w [] A n p c.marks:=hc.marks;have z:=f.small;obtain⟨W1,t,F1⟩:=dR ((Fr.nil w).a w (pY r s1 s2 s3 s4 s5 s6 s7 i ⟨A,n,p⟩ t2 t3 t4) 93);have C:=aW F1;have F:=Hd F1;have H:=h_ (f.go F1.bl) f.len hl hm;clear F1 hc hm f hl;refine ent func41 ntmps41 ?_;gi_wp2;gi_loopw[8] (fun i wr=>∃k:Nat,k<=n/\i=k/\W1=wr) (fun i _=>n-(intOf i).toNat);case atStart=>exact⟨0,cf _,rfl,rfl⟩
 case round=>
  obtain⟨k,u,rfl,rfl⟩:=hrel;by_cases q:k<n
  ·obtain⟨l,j⟩:=dW c.marks k (by rw[H.b];exact q);obtain⟨b,o,B,m,d,rfl,s,Y⟩:=H.a.tX j;have X:=rD B l m d (-1) W1 Y.len (by rw[<-Y.len];exact H.c l (bh j)) Y;rw[show decide ((-1:Int)∈l)=false from cE fun e=>Et H.w l (bh j) _ e rfl]at X;have HX:=Hd X;clear X j Y
   gi_wp2_with (first
    |(refine Cl 72 HX.out ?_;rintro e D ⟨rfl,rfl⟩)
    |fail)
   exact⟨⟨k+1,pj,by go_num,bO⟩,by simp[intOf];omega⟩
  ·gi_wp2;go_end0;exact⟨rfl,F.out.bl⟩
theorem Ez(h:f_ r i c)(hm:eY c.marks=0)(hy:r.aT[k]?=some y)(hl:c.marks[k]?=some l):
 fJ (rX y)=true/\(∀m,m∈l->Nv (rX y) m=true)/\0<l.length/\l.length<=256/\2*y.2.2.2.2.2.1<l.length:=by
 obtain⟨hs,j,x,rfl,hx,K⟩:=h;have f:=hs.2.1.rounds x (bh hx);unfold kS at K;simp only[cS]at K;have b:=cT.1 K.1.2 _ (bh (oG hy hl));unfold jc at b;simp only[cS]at b;have o:=cW b.1;have s:=f.1;have F:=f.2.2.2.1 y (bh hy);rw[eO pj]at F;refine⟨zZ hs hx y (bh hy),fun m e=>?_,pj,pj,pj⟩;have a:=cT.1 b.2 m e;unfold oD at a;rw[cE (Et hm l (bh hl) m e),jz]at a;exact a
theorem adr{i:Nat}(hr:dG w M r s1 s2 s3 s4 s5 s6 s7)(hc:jE w M c t1 t2 t3 t4)(hg:f_ r i c)(hm:eY c.marks=0)(hy:r.aT[k]?=some y)(hl:c.marks[k]?=some l)(hM:b_ M w):
 Calls prog 80 #[.agg (pY r s1 s2 s3 s4 s5 s6 s7 i t1 t2 t3 t4).toArray,k] w fun e w'=>∃u,e=.returned u/\QW w' M u (qJ y l)/\Below w w w':=by
 refine wid ?_;obtain⟨H,E,L⟩:=s1;obtain⟨I,D,N⟩:=t1;have s:Sl bT w M H E L r.aT:=hr.aT;have t:Sl (List Int) w [] I D N c.marks:=hc.marks;have YZ:=t.small;have ac:=s.small;have hkq:k<E:=by rw[<-s.len];exact(bu.1 hy).1
 have ae:k<D:=by rw[<-t.len];exact(bu.1 hl).1
 obtain⟨O,R,S,T,V⟩:=Ez hg hm hy hl;obtain⟨W1,ad,F1⟩:=dR (((Fr.nil w).a w (pY r ⟨H,E,L⟩ s2 s3 s4 s5 s6 s7 i ⟨I,D,N⟩ t2 t3 t4) 93).a (w+1) [false,.slice none 0 0,false,.slice none 0 0] 48);have F:=Hd F1;obtain⟨b,o,rfl,Z,u1,u2,u3,u4,u5,u6⟩:=(s.go F1.bl).IU hy;obtain⟨b2,o2,Al,nl,cl,rfl,J,Y⟩:=((t.more (b:=w+1) (ja _)).go F1.bl).tX hl;have o1:=aW F1.drew;have v0:=ah Z;have v1:=ah u1;have v2:=ah u2;have v3:=ah u3;have v4:=ah u4;have v5:=ah u5;have v6:=ah u6;have v7:=ah J;have z5:=ah (F1.aQ 0 5);have z0:=ah (F1.aQ 0 0);have C:b_ ((w.heap.size+1)::M) W1:=(hM.le F1.bl.size).cons (F1.mJ 1);obtain⟨Q,hQ⟩:=aC (qJ y l);have X:=Ew (M:=(w+1)::M) (w:=W1.drew) y (C.le pD) (Y.go pE.drew) O R (by rw[<-Y.len];exact S) (by rw[<-Y.len];exact T) (by rw[<-Y.len];exact V);rw[hQ]at X |-;have HX:=Hd X;have aa:=Hd C;clear X O R S T V hQ Y C Z u1 u2 u3 u4 u5 u6 J s t hr hc hg hm hy hl hM F1;refine ent func80 ntmps80 ?_;gi_wp2;refine iF [] 16 1 [0,1,2,3,4,5,6,7,8,9,10,11,12,13,14,15] pk pk rfl ?_;refine eH ?_;refine aH fun K j=>aA rfl rfl wy fun z p=>?_;gi_wp2;refine Cl 134 HX.out ?_;rintro e w2 ⟨u,rfl,q,f⟩;have F2:=Hd (F.out.drew.go f);have HG:=Hd (wJ (M:=(w+1)::M) (aa.out.le (cF pD f.size)) q);refine p _ _ ⟨?_,j _ _ ?_⟩;clear p z j K;·exact bq f _
 clear f q;refine lit ?_;refine eH ?_;refine aH fun K j=>aA rfl rfl wy fun z p=>?_;gi_wp2;refine Cl 77 HG.out ?_;rintro e w3 ⟨u,rfl,q,f⟩;obtain⟨p2,q2,A2,n2,c2,B2,m2,d2,rfl,W⟩:=QC.of q;have G:=Hd2 (F2.out.go f) W;refine p _ _ ⟨?_,j _ _ ?_⟩;clear p z j K;·exact bq f _
 clear f q W;refine lit ?_;refine aK ?_;have o2:=aW G.a;refine jW fun K j z p=>?_;gi_wp2;refine et _ ?_;gi_wp2;obtain⟨wF,ab,t0,t1,t2,t3,hQ,bF⟩:=nN (M:=M) (G.a.aQ 1 0) (G.a.aQ 1 1) (G.a.aQ 1 2) (G.a.aQ 1 3) (x:=Q) G.u.num.sl G.u.den.sl G.u.num.neg G.u.den.neg G.a.bl (ja _);try rw[ab]
 exact⟨rfl,.agg #[p2,.slice A2 n2 c2,q2,.slice B2 m2 d2],by simp[results,go_sem,t0,t1,t2,t3],_,rfl,hQ,bF⟩
theorem rQ(p:Addr)(w:World):
 CallsDIn Fence.wide n prog 38 #[.pointer (some p)] .returning w fun e u' w'=>e=.returned (.tuple #[])/\u'=.returning/\w'=w:=by
 refine callsDIn_of_wpSIn func38 rfl trivial fun c₀ cs hu=>?_;apply wpSIn_seq;apply wpSIn_region;simp[wpOpsSIn,go_sem,recoverD,hu,ntmps38,Exit.thenS];refine wpSIn_of_wpIn rfl ?_;refine nE (Q:=fun e a w'=>e=.normal/\a.defers= []/\w'=w) ?_ ?_;rotate_left;·rintro e a w' ⟨rfl,b,rfl⟩;cases c₀;simp_all[bodyPostS,results,results38,b]
 clear hu;simp only[gR,gS,i_,fp,df,d_,eN,fq,eM];gi_wp2
end
theorem Xp:(prog.info? 48).map (fun i=>(i.zero,i.size,i.bytes))=some (some (.agg #[false,.slice none 0 0,false,.slice none 0 0]),4,64):=pk
section
open Go.RowKit Go.Shelf
attribute [local go_sem] cX
theorem Iq:iU 48 (Rep.sz fC):=iU.mk' Xp rfl pj
theorem dG.moreL{w:World}{M:List Nat}{r:aS}{s1 s2 s3 s4 s5 s6 s7:dK}(h:dG w M r s1 s2 s3 s4 s5 s6 s7)(L:List Nat)(hL:∀k,k∈L->w.heap.size<=k):dG w (L++M) r s1 s2 s3 s4 s5 s6 s7:=⟨h.aT.moreL L hL,h.bonus.moreL L hL,h.malus.moreL L hL,h.ties.moreL L hL,h.rounds.moreL L hL,h.prizes.moreL L hL,h.points.moreL L hL,h.best⟩
theorem jE.moreL{w:World}{M:List Nat}{c:dS}{s1 s2 s3 s4:dK}(h:jE w M c s1 s2 s3 s4)(L:List Nat)(hL:∀k,k∈L->w.heap.size<=k):jE w (L++M) c s1 s2 s3 s4:=⟨h.marks,h.bonus.moreL L hL,h.malus.moreL L hL,h.prev.moreL L hL⟩
theorem bD.acO{α:Type} [kJ α] {e:TypeId}{w':World}{K:List Nat}{base:Nat}{xs:List α}(h:bD α e w M base v n xs)(k:Keeps K w w')(hK:∀x,x∈K->x∈M)(hv:∀g,v.ownBlock=some g->g∉K):bD α e w' M base v n xs:=by obtain⟨cs,o,p⟩:=h.ex;refine⟨h.len,cs,qp o (fun g q s=>k.block g s (hv g q)),fun j x hx=>?_⟩;obtain⟨f,a,b⟩:=p j x hx;exact⟨f,jf a (k.mono (fun x hx=>cP _ (hK x hx))),b⟩
structure PG(M:List Nat)(w u:World)(L:List (Nat×List Value))(bl:Nat)(v:Value)(xs:List Rt)(wr:World):Prop where
 own:bD fC 48 wr (bl::M) u.heap.size v xs.length (xs.map jd)
 fr:Fr w wr (L++ [(bl, [v])])
 sz:u.heap.size<=wr.heap.size
 wu:w.heap.size<=u.heap.size
 bM:b_ M w
 hL:∀b vs,(b,vs)∈L->b<u.heap.size/\b≠bl
 hb:bl<u.heap.size
def jq(r:aS)(c:dS):List Rt:=(r.aT.zip c.marks).map fun p=>qJ p.1 p.2
end
