/- Lemmas. -/
import Derived.Test.YtfdmnogfflcllaaGreatDoorM32
import Derived.Test.YtfdmnogfflcllaaGreatDoorM25
import Derived.Test.YtfdmnogfflcllaaGreatDoorM35
set_option linter.unusedVariables false
set_option linter.unusedSimpArgs false
set_option maxRecDepth 100000
set_option maxHeartbeats 20000000
namespace Go.Proofs.YtfdmnogfflcllaaGreatDoor
open Go.Proofs.Tryz
theorem uX{p:Prop}(h:p:=by
 refine ent func71 rfl ntmps71 ?_
 gi_wp2_with (first
  |(have g:=L.out;clear g;have X:=t.u _ F.out.bl;refine Cl 125 X ?_;clear X;rintro e p ⟨rfl,f⟩;replace F:=Hd (F.out.go f);have z:=aW F.out;clear f)
  |(have X:=t.a _ F.out.bl;refine Cl 125 X ?_;clear X;rintro e p ⟨rfl,f⟩;replace F:=Hd (F.out.go f);have z:=aW F.out;have L:=Hd trivial;clear f)
  |(refine⟨bq,?_⟩))
 go_ret;exact⟨by rw[HZ.out];simp[*],F.out.bl⟩):p:=h
theorem EF{p:Prop}(h:p:=by
 clear h;refine ent func40 rfl ntmps40 ?_
 gi_wp2_with (first
  |(refine Cl 66 t.out ?_;rintro e q ⟨rfl,f⟩;replace F:=Hd (F.out.go f);have o:=aW F.out;clear f)
  |fail)
 go_ret;exact⟨by rw[HZ.out];rfl,F.out.bl⟩):p:=h
theorem Ox{p:Prop}(h:p:=by rw[cA (by rw[H.b];omega)]at f;have j:=Hd f;clear f;gi_wp2;go_ret;exact⟨-1,rfl,by rw[<-j.out];rfl,h.out⟩):p:=h
theorem Xe{p:Prop}(h:p:=by go_ret;exact⟨by rw[HZ.out,<-e.out,HY.a,HY.u];simp;omega,bw _ _⟩):p:=h
variable {M:List Nat}{A B:Option Addr}{n m d g k:Nat}{c:dS}{l:List Int}{w:World}{lb:Array Value}{P:Int→Bool}{r:aS}{s1 s2 s3 s4 s5 s6 s7 t1 t2 t3 t4:dK}{x:aJ}{i:Int}{v:Value}{y:bT}
section
open Go.RowKit Go.Shelf
attribute [local go_sem] cK
theorem zY{c:Nat}{xs:List bW}(hx:Sl bW w M A n c xs)(hs:Sl Int w M B m d l):
 CB 125 #[.slice A n c,.slice B m d] (.bool (dV xs l)) w:=by
 refine wid ?_;have K:=hs.small;have L:=hx.small;have H:=h_ hx hx.len hs hs.len;obtain⟨Z,f⟩:=aC (dV xs l);have HZ:=Hd (show Z=(decide (m=n)&&(xs.zip l).all fun p=>countB p.1 p.2) by rw[<-f,dV,hs.len,hx.len]);rw[f];clear hs hx f;by_cases j:m=n;rotate_left;·have J:(((m:Nat):Int)!=((n:Nat):Int))=true:=fo.2 oE;have z:=Hd j;refine ent func125 rfl ntmps125 ?_;gi_wp2;go_ret;exact⟨by rw[HZ.out,cE z.out];rfl,bw _ _⟩
 subst j;refine ent func125 rfl ntmps125 ?_;gi_wp2;gi_loopw[14] (fun i wr=>∃k:Nat,k<=m/\i=.int .i64 k/\w=wr/\Hid (((xs.zip l).drop k).all (fun p=>countB p.1 p.2)=(xs.zip l).all fun p=>countB p.1 p.2)) (fun i _=>m-(intOf i).toNat);case atStart=>exact⟨0,bO _,rfl,rfl,Hd rfl⟩
 case round=>
  obtain⟨k,C,rfl,rfl,e⟩:=hrel;by_cases h:k<m
  ·obtain⟨x,hx⟩:=dW xs k (by rw[H.b];exact h);obtain⟨b,o,y,rfl,E,-,-,s⟩:=H.c.pR h;obtain⟨b2,N,rfl,-,-,D⟩:=H.a.NQ hx;have q:=iC (P:=fun p:bW×Int=>countB p.1 p.2) (oG hx s);obtain⟨t,S⟩:=aC x.2.2;rw[S]at D;have HY:=Hd2 q (show countB x y=(decide (0<=y)&&decide (y<=t)) by rw[countB,S]);clear s hx q S;by_cases G:y<0
   ·gi_wp2_with (first|(refine⟨bq,?_⟩))
    exact Xe
   by_cases I:y>t;·gi_wp2;exact Xe
   gi_wp2;exact⟨⟨k+1,oE,by go_num,bq,Hd (by rw[<-e.out,HY.a,HY.u,cw (show 0<=y by omega),cw (show y<=t by omega)];rfl)⟩,by simp[intOf];omega⟩
  ·obtain rfl:k=m:=oE;have F:=Hd (show Z=true by rw[HZ.out,<-e.out,jr (by rw[jx,H.b,H.w];omega)];simp);clear C h;gi_wp2;go_ret;exact⟨by rw[F.out];rfl,bw _ _⟩
theorem Xf{c:Nat}(eg:∀args w,(callFunc g args).run prog w=.ok (.enter g args) w)(hs:Sl Int w M A n c l)(hg:∀x V,x∈l->Below w w V->Calls prog g (#[.int .i64 x]++lb) V fun e w'=>e=.returned (.bool (P x))/\Below V V w'):
 Calls prog 174 #[.slice A n c,.func (.func g) #[] lb] w fun e w'=>∃i:Int,e=.returned (.int .i64 i)/\decide (0<=i)=l.any P/\Below w w w':=by
 refine wid ?_;have E:=hs.small;have H:=fB hs hs.len hg;clear hs hg;refine ent func174 rfl ntmps174 ?_;gi_wp2;gi_loopw[8] (fun i wr=>∃k:Nat,k<=n/\i=.int .i64 k/\Hid ((l.drop k).any P=l.any P)/\Hid (Below w w wr)) (fun i _=>n-(intOf i).toNat);case atStart=>exact⟨0,bO _,rfl,Hd rfl,Hd pd⟩
 case round=>
  obtain⟨k,D,rfl,t,h⟩:=hrel;by_cases C:k<n
  ·obtain⟨b,o,x,rfl,I,-,s,hx⟩:=(H.a.go h.out).pR C;have f:=t.out;rw[s,gP]at f;have X:=H.v x wr (aR hx) h.out;obtain⟨z,u⟩:=aC (P x);rw[u]at X f;have HX:=Hd X;have j:=Hd f;clear f s u hx X;cases z
   all_goals gi_wp2_with (first
    |(refine Cl g HX.out ?_;rintro e F ⟨rfl,q⟩;have p:=Hd (h.out.trans (q.mono h.out.size));clear q)
    |fail)
   ·exact⟨⟨k+1,oE,by go_num,Hd (by have:=j.out;rwa [jn]at this),p⟩,by simp[intOf];omega⟩
   go_ret;exact⟨k,rfl,by rw[<-j.out,mT];simp,p.out⟩
  ·have f:=t.out;exact Ox
theorem MP{c:Nat}(eg:∀args w,(callFunc g args).run prog w=.ok (.enter g args) w)(hs:Sl Int w M A n c l)(hg:∀x V,x∈l->Below w w V->Calls prog g (#[.int .i64 x]++lb) V fun e w'=>e=.returned (.bool (P x))/\Below V V w'):
 CB 128 #[.slice A n c,.func (.func g) #[] lb] (.bool (l.any P)) w:=by
 refine wid ?_;have H:=Hd (Xf eg hs hg);clear hs hg;refine ent func128 rfl ntmps128 ?_
 gi_wp2_with (first
  |(refine Cl 174 H.out ?_;rintro e h ⟨i,rfl,s,f⟩;have b:=Hd2 s f;clear s f)
  |fail)
 go_ret;exact⟨by rw[<-b.a];rfl,b.u⟩
theorem Pg{c:Nat}{p q:Bool}{l1 l2:List Int}(hM:b_ M w)(hx:Sl Int w M A n c l1)(hy:Sl Int w M B m d l2):
 CB 130 #[.agg #[.bool p,.slice A n c,.bool q,.slice B m d]] (.bool (!dF ((p,l1),(q,l2)))) w:=by
 refine wid ?_;obtain⟨W1,h,F1⟩:=dR ((Fr.nil w).a w [.bool p,.slice A n c,.bool q,.slice B m d] 48);have o:=aW F1;have F:=Hd F1;have X:=Em (p:=p) (q:=q) (hM.le F1.bl.size) (hx.go F1.bl) (hy.go F1.bl);obtain⟨z,f⟩:=aC (dF ((p,l1),(q,l2)));rw[f]at X |-;have HX:=Hd X;clear F1 hx hy hM X f;cases z
 all_goals
  refine ent func130 rfl ntmps130 ?_
  gi_wp2_with (first
   |(refine Cl 93 HX.out ?_;rintro e s ⟨rfl,b⟩;simp only[qM,lL,nA,fT];have j:=Hd (F.out.go b);clear b)
   |fail)
  go_ret;exact⟨rfl,j.out.bl⟩
theorem TL{c:Nat}{l:List fC}(hM:b_ M w)(hs:Sl fC w M A n c l):
 Calls prog 175 #[.slice A n c,.func (.func 130) #[] #[]] w fun e w'=>∃i:Int,e=.returned (.int .i64 i)/\decide (0<=i)=l.any (fun x=> !dF x)/\Below w w w':=by
 refine wid ?_;have N:=hs.small;have H:=fB hs hs.len hM;have K:=eK (P:=prog) func130 oF rfl;clear hs hM;refine ent func175 rfl ntmps175 ?_;gi_wp2;gi_loopw[8] (fun i wr=>∃k:Nat,k<=n/\i=.int .i64 k/\Hid ((l.drop k).any (fun x=> !dF x)=l.any (fun x=> !dF x))/\Hid (Below w w wr)) (fun i _=>n-(intOf i).toNat);case atStart=>exact⟨0,bO _,rfl,Hd rfl,Hd pd⟩
 case round=>
  obtain⟨k,L,rfl,G,h⟩:=hrel;by_cases D:k<n
  ·obtain⟨y,s⟩:=dW l k (by rw[H.b];exact D);obtain⟨b,o,I,O,a1,J,Q,a2,rfl,S,T,U,V,E,F⟩:=(H.a.go h.out).MG s;have f:=G.out;rw[cT (by rw[H.b];exact D),gP,(bj.1 s).2]at f;have X:=Pg (p:=y.1.1) (q:=y.2.1) (H.v.le h.out.size) E F;obtain⟨z,t⟩:=aC (dF ((y.1.1,y.1.2),(y.2.1,y.2.2)));rw[t]at X;rw[show dF y=z from t]at f;have HX:=Hd X;have j:=Hd f;clear f t s X E F;cases z
   all_goals gi_wp2_with (first
    |(refine Cl 130 HX.out ?_;rintro e R ⟨rfl,C⟩;have u:=Hd (h.out.trans (C.mono h.out.size));clear C)
    |fail)
   ·go_ret;exact⟨k,rfl,by rw[<-j.out,Bool.not_false,mT];simp,u.out⟩
   exact⟨⟨k+1,oE,by go_num,Hd (by have:=j.out;rwa [Bool.not_true,jn]at this),u⟩,by simp[intOf];omega⟩
  ·have f:=G.out;exact Ox
theorem JF{c:Nat}{l:List fC}(hM:b_ M w)(hs:Sl fC w M A n c l):
 CB 129 #[.slice A n c,.func (.func 130) #[] #[]] (.bool (l.any fun x=> !dF x)) w:=by
 refine wid ?_;have H:=Hd (TL hM hs);clear hs hM;refine ent func129 rfl ntmps129 ?_
 gi_wp2_with (first
  |(refine Cl 175 H.out ?_;rintro e h ⟨i,rfl,s,f⟩;have b:=Hd2 s f;clear s f)
  |fail)
 go_ret;exact⟨by rw[<-b.a];rfl,b.u⟩
theorem agN{c:bT}{m:Int}(hr:fJ (rX c)=true):pz (rX c) m=if Nv (rX c) m=true then(kC c m,0)else(0,160):=by unfold pz;rw[if_pos hr];rfl
theorem Ph{bk bi q cp j:Nat}{cs:List bT}{c:bT}{m:Int}(h1:w.cell? ⟨bk,5,none⟩=some (.slice A q cp))(h2:w.cell? ⟨bi,0,none⟩=some (.int .i64 j))(hs:Sl bT w M A q cp cs)(hc:cs[j]?=some c)(hr:fJ (rX c)=true):
 CB 126 #[.int .i64 m,.pointer (some ⟨bk,0,none⟩),.pointer (some ⟨bi,0,none⟩)] (.bool (!oD c m)) w:=by
 refine wid ?_;have u:j<q:=by rw[<-hs.len];exact(bj.1 hc).1
 have D:=hs.small;obtain⟨b,o,rfl,E,F,G,H,I,J,K⟩:=hs.IU hc;have HB:=Hd (DJ c.1 c.2.1 c.2.2.1 c.2.2.2.1 c.2.2.2.2.1 c.2.2.2.2.2.1 c.2.2.2.2.2.2 m w);rw[show(⟨c.1,c.2.1,c.2.2.1,c.2.2.2.1,c.2.2.2.2.1,c.2.2.2.2.2.1,c.2.2.2.2.2.2⟩:DF)=rX c from rfl,agN hr]at HB;obtain⟨z,p⟩:=aC (Nv (rX c) m);obtain⟨Z,f⟩:=aC (oD c m);have HZ:=Hd (show Z=(decide (m= -1)||z) by rw[<-f,oD,p]);rw[p]at HB;rw[f];clear hs hc hr p f;by_cases a:m= -1
 ·subst a;refine ent func126 rfl ntmps126 ?_
  gi_wp2_with (first
   |(refine Cl 127 HB.out ?_;rintro e t ⟨rfl,hb⟩)
   |(refine⟨bq,?_⟩))
  all_goals
   go_ret;exact⟨by rw[HZ.out];simp,hb⟩
 ·have C:(m != -1)=true:=fo.2 a;have s:=Hd a;clear a;cases z
  all_goals
   simp only[lL,nA,fT]at HB;refine ent func126 rfl ntmps126 ?_
   gi_wp2_with (first
    |(refine Cl 127 HB.out ?_;rintro e t ⟨rfl,hb⟩)
    |fail)
   go_ret;exact⟨by rw[HZ.out,cE s.out];first|rfl|simp,hb⟩
abbrev pY(r:aS)(s1 s2 s3 s4 s5 s6 s7:dK)(i:Nat)(t1 t2 t3 t4:dK):List Value:= [.slice t1.A t1.n t1.c,.slice t2.A t2.n t2.c,.slice t3.A t3.n t3.c,.slice t4.A t4.n t4.c,.string r.name,.slice s1.A s1.n s1.c,.slice s2.A s2.n s2.c,.slice s3.A s3.n s3.c,.slice s4.A s4.n s4.c,.slice s5.A s5.n s5.c,.slice s6.A s6.n s6.c,.slice s7.A s7.n s7.c,.int .i64 r.best,.int .i64 i]
theorem Y4(l:List Int)(P:Int->Bool):(l.any fun m=> !P m)= !l.all P:=by induction l<;>simp_all
theorem Xg(l:List fC)(P:fC->Bool):(l.any fun m=> !P m)= !l.all P:=by induction l<;>simp_all
theorem Pj{i:Nat}(hr:dG w M r s1 s2 s3 s4 s5 s6 s7)(hc:jE w M c t1 t2 t3 t4)(hx:r.rounds[i]?=some x)(hq:∀y,y∈r.aT->fJ (rX y)=true)(hM:b_ M w):
 CB 71 #[.agg (pY r s1 s2 s3 s4 s5 s6 s7 i t1 t2 t3 t4).toArray] (.bool (kS r i x.2.1 c)) w:=by
 refine wid ?_;obtain⟨J,G,O⟩:=s1;obtain⟨A5,I,c5⟩:=s5;obtain⟨K,h,Q⟩:=t1;obtain⟨N,o,S⟩:=t4;have T:Sl bT w M J G O r.aT:=hr.aT;have U:Sl aJ w M A5 I c5 r.rounds:=hr.rounds;have C:Sl (List Int) w [] K h Q c.marks:=hc.marks;have E:Sl fC w M N o S c.prev:=hc.prev;have YZ:=C.small;have ak:=E.small;have hi:i<I:=by rw[<-U.len];exact(bj.1 hx).1
 have JC:=U.small;obtain⟨zb,ae⟩:=aC (dV r.bonus c.bonus);obtain⟨zm,ag⟩:=aC (dV r.malus c.malus);have X:(∀V,Below w w V->Calls prog 125 #[.slice s2.A s2.n s2.c,.slice t2.A t2.n t2.c] V fun e w'=>e=.returned (.bool (dV r.bonus c.bonus))/\Below V V w')/\(∀V,Below w w V->Calls prog 125 #[.slice s3.A s3.n s3.c,.slice t3.A t3.n t3.c] V fun e w'=>e=.returned (.bool (dV r.malus c.malus))/\Below V V w'):=⟨fun V hb=>zY (hr.bonus.go hb) (hc.bonus.go hb),fun V hb=>zY (hr.malus.go hb) (hc.malus.go hb)⟩;rw[ae,ag]at X;have t:=Hd X;obtain⟨W1,an,F1⟩:=dR ((Fr.nil w).a w (pY r ⟨J,G,O⟩ s2 s3 s4 ⟨A5,I,c5⟩ s6 s7 i ⟨K,h,Q⟩ t2 t3 ⟨N,o,S⟩) 93);have z:=aW F1;have F:=Hd F1;have H:=oK T U C E hM;have HL:=h_ T.len C.len E.len hq;obtain⟨Z,hZ⟩:=aC (kS r i x.2.1 c);have HZ:=Hd (show Z=(decide (h=G)&&zb&&zm&&decide (o=i)&&((r.aT.zip c.marks).all fun q=>jc q.1 x.2.1 q.2)&&c.prev.all dF) by rw[<-hZ,kS,ae,ag,T.len,C.len,E.len]);rw[hZ];have HX:=Hd hx;clear F1 T U C E hM hr hc hq hZ ae ag X hx;by_cases g1:h=G;rotate_left;·have al:(((h:Nat):Int)!=((G:Nat):Int))=true:=fo.2 oE;exact uX
 subst g1;cases zb;·exact uX
 cases zm;·exact uX
 by_cases g4:o=i;rotate_left;·have am:(((o:Nat):Int)!=((i:Nat):Int))=true:=fo.2 oE;exact uX
 subst g4;refine ent func71 rfl ntmps71 ?_
 gi_wp2_with (first
  |(have g:=L.out;clear g;have X:=t.u _ F.out.bl;refine Cl 125 X ?_;clear X;rintro e p ⟨rfl,f⟩;replace F:=Hd (F.out.go f);have z:=aW F.out;clear f)
  |(have X:=t.a _ F.out.bl;refine Cl 125 X ?_;clear X;rintro e p ⟨rfl,f⟩;replace F:=Hd (F.out.go f);have z:=aW F.out;have L:=Hd trivial;clear f)
  |(refine⟨bq,?_⟩))
 have aa:=Hd (show Z=(((r.aT.zip c.marks).all fun q=>jc q.1 x.2.1 q.2)&&c.prev.all dF) by rw[HZ.out];simp);clear HZ t L;obtain⟨R,hR⟩:∃R:List (Nat×List Value), [(w.heap.size,pY r ⟨J,h,O⟩ s2 s3 s4 ⟨A5,I,c5⟩ s6 s7 o ⟨K,h,Q⟩ t2 t3 ⟨N,o,S⟩)]=R:=⟨_,rfl⟩;have HR:=Hd (show ∀V,Fr w V R↔Fr w V [(w,pY r ⟨J,h,O⟩ s2 s3 s4 ⟨A5,I,c5⟩ s6 s7 o ⟨K,h,Q⟩ t2 t3 ⟨N,o,S⟩)]from fun V=>by rw[hR]);replace F:=Hd ((HR.out _).2 F.out);clear hR z;gi_loopw[48] (fun i wr=>∃k:Nat,k<=h/\i=.int .i64 k/\Hid (((r.aT.zip c.marks).drop k).all (fun q=>jc q.1 x.2.1 q.2)=(r.aT.zip c.marks).all fun q=>jc q.1 x.2.1 q.2)/\Hid (Fr w wr R)) (fun i _=>h-(intOf i).toNat);case atStart=>exact⟨0,bO _,rfl,Hd rfl,F⟩
 case round=>
  obtain⟨k,hk,rfl,s,hF⟩:=hrel;replace F:=Hd ((HR.out _).1 hF.out);by_cases ab:k<h
  ·obtain⟨y,Y⟩:=dW r.aT k (by rw[HL.a];exact ab);obtain⟨l,hl⟩:=dW c.marks k (by rw[HL.b];exact ab);obtain⟨W5,CZ,F5⟩:=dR (F.out.a wr [.int .i64 k] 3);have z:=aW F.out;have o5:=aW F5;obtain⟨b2,o2,Al,nl,cl,rfl,c0,ad⟩:=(H.c.go F.out.bl).tX hl;obtain⟨b3,o3,D,m,e,rfl,⟨-,y1,-⟩,-⟩:=(H.b.go F5.bl).iw HX.out;have ai:=iC (P:=fun q:bT×List Int=>jc q.1 x.2.1 q.2) (oG Y hl);have aj:=HL.w y (aR Y);have ah:Below wr wr W5:=by rw[<-CZ];exact(bw _ wr).alloc pc _
   have X:=MP (P:=fun m=> !oD y m) (lb:=#[.pointer (some ⟨w,0,none⟩),.pointer (some ⟨wr,0,none⟩)]) (eK (P:=prog) func126 oF rfl) (ad.go ah) (fun m V _ hV=>Ph (M:=M) (bk:=w.heap.size) (bi:=wr.heap.size) (j:=k) ((F5.go hV).aQ 0 5) ((F5.go hV).aQ 1 0) (H.a.go (F5.go hV).bl) Y aj);rw[Y4]at X;obtain⟨zl,af⟩:=aC (l.all (oD y));rw[af]at X;have Zy:=Hd X;obtain⟨pn,ac⟩:=aC x.2.1;have HY:=Hd2 ai (show jc y x.2.1 l=(decide ((nl:Int)=pn)&&zl) by rw[jc,af,ad.len,ac]);rw[ac]at y1;have Yu:=Hd F5;clear Y hl ai aj X af ad F5 ah ac;by_cases W:((nl:Nat):Int)=pn
   ·subst W;cases zl
    all_goals gi_wp2_with (first
     |(refine Cl 128 Zy.out ?_;rintro e w6 ⟨rfl,f⟩;have F6:=Hd (Yu.out.go f);clear f)
     |fail)
    ·go_ret;exact⟨by rw[aa.out,<-s.out,HY.a,HY.u];simp,F6.out.bl⟩
    exact⟨⟨k+1,oE,by go_num,Hd (by rw[<-s.out,HY.a,HY.u];simp),Hd ((HR.out _).2 F6.out.hd)⟩,by simp[intOf];omega⟩
   have ao:(((nl:Nat):Int)!=pn)=true:=fo.2 W;have HH:=Hd W;clear W;gi_wp2_with (first|(refine⟨bq,?_⟩))
   go_ret;exact⟨by rw[aa.out,<-s.out,HY.a,HY.u,cE HH.out];simp,Yu.out.bl⟩
  ·obtain rfl:k=h:=oE;have z:=aW F.out;have HE:=Hd (show Z=c.prev.all dF by rw[aa.out,<-s.out,jr (by rw[jx,HL.a,HL.b];omega)];simp);have X:=JF (H.x.le F.out.bl.size) (H.d.go F.out.bl);rw[Xg,<-HE.out]at X;have Zy:=Hd X;clear hk ab s X;cases Z
   all_goals
    gi_wp2_with (first
     |(refine Cl 129 Zy.out ?_;rintro e w6 ⟨rfl,f⟩;have F6:=Hd (F.out.go f);clear f)
     |fail)
    go_ret;exact⟨rfl,F6.out.bl⟩
def vF(r:aS)(i:Int)(c:dS):Int:=if i<0 then 1 else match r.rounds[i.toNat]? with
 |none=>1
 |some x=>if kS r i.toNat x.2.1 c=true then 0 else 170
theorem Pv(h:f_ r i c):vF r i c=0:=by obtain⟨-,k,x,rfl,hx,I⟩:=h;unfold vF;rw[if_neg oE,fp,hx];simp[I]
theorem zZ(h:Sound r)(hx:r.rounds[k]?=some x):∀y,y∈r.aT->fJ (rX y)=true:=fun y hy=>DX (h.2.1.aT y hy) (MN (h.2.1.rounds x (aR hx)) hy)
theorem rO(hr:dG w M r s1 s2 s3 s4 s5 s6 s7)(hc:jE w M c t1 t2 t3 t4)(hs:Sound r)(ht:Tab w)(hM:b_ M w):
 CB 40 #[.agg (aV r s1 s2 s3 s4 s5 s6 s7).toArray,.int .i64 i,.agg (dI t1 t2 t3 t4).toArray] (.int .i64 (vF r i c)) w:=by
 refine wid ?_;obtain⟨Z,h⟩:=aC (vF r i c);rw[h];have p:=hr.rounds.len;have C:=hr.rounds.small;obtain⟨W1,D,F1⟩:=dR (((Fr.nil w).a w (aV r s1 s2 s3 s4 s5 s6 s7) 28).a (w+1) (dI t1 t2 t3 t4) 42);have o:=aW F1;have F:=Hd F1;obtain⟨K,T⟩:=hs.2.2.1;have t:=Hd (Pq (hr.go F1.bl) hs.1 hs.2.1 T hs.2.2.2 (tab_below ht F1.bl) (hM.le F1.bl.size));have H:=oK hr hc hs hM p;clear F1 hr hc hs hM p ht T;by_cases s:i<0;·have E:(decide (i<0))=true:=cw s;have HZ:=Hd (show Z=1 by rw[<-h,vF,if_pos s]);exact EF
 obtain⟨k,rfl⟩:∃k:Nat,i=(k:Int):=⟨i.toNat,oE⟩;by_cases G:s5.n<=k;·have I:((k:Nat):Int)>=((s5.n:Nat):Int):=oE;have HZ:=Hd (show Z=1 by rw[<-h,vF,if_neg s,fp,fL (by rw[H.x];omega)]);exact EF
 obtain⟨x,hx⟩:=dW r.rounds k (by rw[H.x];omega);have J:¬((k:Nat):Int)>=((s5.n:Nat):Int):=oE;obtain⟨z,j⟩:=aC (kS r k x.2.1 c);have HZ:=Hd (show Z=if z=true then 0 else 170 by rw[<-h,vF,if_neg s,fp,hx];simp only[j]);have HX:=Hd2 hx j;clear hx j h;cases z
 all_goals
  refine ent func40 rfl ntmps40 ?_
  gi_wp2_with (first
   |(have g:=L.out;clear g;have X:=Pj (H.a.go F.out.bl) (H.b.go F.out.bl) HX.a (zZ H.c HX.a) (H.d.le F.out.bl.size);rw[HX.u]at X;refine Cl 71 X ?_;clear X;rintro e N ⟨rfl,f⟩;replace F:=Hd (F.out.go f);clear f)
   |(refine Cl 66 t.out ?_;rintro e q ⟨rfl,f⟩;replace F:=Hd (F.out.go f);have o:=aW F.out;have L:=Hd trivial;clear f)
   |fail)
  go_ret;exact⟨by rw[HZ.out];rfl,F.out.bl⟩
theorem ada(hr:dG w M r s1 s2 s3 s4 s5 s6 s7)(hc:jE w M c t1 t2 t3 t4)(hg:f_ r i c)(ht:Tab w)(hM:b_ M w):
 CB 40 #[.agg (aV r s1 s2 s3 s4 s5 s6 s7).toArray,.int .i64 i,.agg (dI t1 t2 t3 t4).toArray] (.int .i64 0) w:=by
 have h:=rO (i:=i) hr hc hg.1 ht hM
 rwa [Pv hg]at h
theorem rP(w:World):Calls prog 39 #[.int .i64 0] w fun e w'=>e=.returned (.tuple #[])/\w=w':=by refine wid ?_;refine ent func39 rfl ntmps39 ?_;gi_wp2;go_end0;exact⟨rfl,rfl⟩
theorem wJ{q:Rt}(hM:b_ M w)(hq:QW w M v q):Calls prog 77 #[v,.int .i64 0] w fun e w'=>∃u,e=.returned u/\QW w' M u q/\Below w w w':=by
 refine wid ?_;obtain⟨t,z,f,s,j,h,p,o,rfl,C⟩:=QC.of hq;obtain⟨W1,H,F1⟩:=dR (((Fr.nil w).a w [.bool t,.slice f s j,.bool z,.slice h p o] 48).a (w+1) [.bool false,.slice none 0 0,.bool false,.slice none 0 0] 48);have I:=aW F1;have G:=Hd2 F1 ((C.more (b:=w+1) oE).go F1.bl);clear hq C F1 hM;refine ent func77 rfl ntmps77 ?_
 gi_wp2_with (first
  |(refine Cl 39 (rP _) ?_;rintro e J ⟨rfl,rfl⟩)
  |fail)
 obtain⟨K,E,F,t1,t2,t3,hQ,D⟩:=nN (M:=M) (G.a.aQ 1 0) (G.a.aQ 1 1) (G.a.aQ 1 2) (G.a.aQ 1 3) (x:=q) G.u.num.sl G.u.den.sl G.u.num.neg G.u.den.neg G.a.bl (iH _);try rw[E]
 exact⟨rfl,.agg #[.bool t,.slice f s j,.bool z,.slice h p o],by simp[results,go_sem,F,t1,t2,t3],_,rfl,hQ,D⟩
theorem M_{i:Nat}(hc:jE w M c t1 t2 t3 t4)(hm:eY c.marks=0)(hl:∀l,l∈c.marks->l.length<=1000000):
 CB 41 #[.agg (pY r s1 s2 s3 s4 s5 s6 s7 i t1 t2 t3 t4).toArray] (.tuple #[]) w:=by
 refine wid ?_;obtain⟨A,n,p⟩:=t1;have f:Sl (List Int) w [] A n p c.marks:=hc.marks;have z:=f.small;obtain⟨W1,t,F1⟩:=dR ((Fr.nil w).a w (pY r s1 s2 s3 s4 s5 s6 s7 i ⟨A,n,p⟩ t2 t3 t4) 93);have C:=aW F1;have F:=Hd F1;have H:=h_ (f.go F1.bl) f.len hl hm;clear F1 hc hm f hl;refine ent func41 rfl ntmps41 ?_;gi_wp2;gi_loopw[8] (fun i wr=>∃k:Nat,k<=n/\i=.int .i64 k/\W1=wr) (fun i _=>n-(intOf i).toNat);case atStart=>exact⟨0,bO _,rfl,rfl⟩
 case round=>
  obtain⟨k,u,rfl,rfl⟩:=hrel;by_cases q:k<n
  ·obtain⟨l,h⟩:=dW c.marks k (by rw[H.b];exact q);obtain⟨b,o,B,m,d,rfl,s,j⟩:=H.a.tX h;have X:=rD B l m d (-1) W1 j.len (by rw[<-j.len];exact H.c l (aR h)) j;rw[show decide ((-1:Int)∈l)=false from cE fun e=>Et H.w l (aR h) _ e rfl]at X;have HX:=Hd X;clear X h j
   gi_wp2_with (first
    |(refine Cl 72 HX.out ?_;rintro e D ⟨rfl,rfl⟩)
    |fail)
   exact⟨⟨k+1,oE,by go_num,bq⟩,by simp[intOf];omega⟩
  ·gi_wp2;go_end0;exact⟨rfl,F.out.bl⟩
theorem Ez(h:f_ r i c)(hm:eY c.marks=0)(hy:r.aT[k]?=some y)(hl:c.marks[k]?=some l):
 fJ (rX y)=true/\(∀m,m∈l->Nv (rX y) m=true)/\0<l.length/\l.length<=256/\2*y.2.2.2.2.2.1<l.length:=by
 obtain⟨hs,j,x,rfl,hx,I⟩:=h;have e:=hs.2.1.rounds x (aR hx);unfold kS at I;simp only[cJ]at I;have b:=cQ.1 I.1.2 _ (aR (oG hy hl));unfold jc at b;simp only[cJ]at b;have f:=cW b.1;have o:=e.1;have D:=e.2.2.2.1 y (aR hy);rw[eB oE]at D;refine⟨zZ hs hx y (aR hy),fun m a=>?_,oE,oE,oE⟩;have K:=cQ.1 b.2 m a;unfold oD at K;rw[cE (Et hm l (aR hl) m a),jn]at K;exact K
theorem Ac{i:Nat}(hr:dG w M r s1 s2 s3 s4 s5 s6 s7)(hc:jE w M c t1 t2 t3 t4)(hg:f_ r i c)(hm:eY c.marks=0)(hy:r.aT[k]?=some y)(hl:c.marks[k]?=some l)(hM:b_ M w):
 Calls prog 80 #[.agg (pY r s1 s2 s3 s4 s5 s6 s7 i t1 t2 t3 t4).toArray,.int .i64 k] w fun e w'=>∃u,e=.returned u/\QW w' M u (qJ y l)/\Below w w w':=by
 refine wid ?_;obtain⟨E,D,J⟩:=s1;obtain⟨H,C,L⟩:=t1;have s:Sl bT w M E D J r.aT:=hr.aT;have t:Sl (List Int) w [] H C L c.marks:=hc.marks;have YZ:=t.small;have ac:=s.small;have af:k<D:=by rw[<-s.len];exact(bj.1 hy).1
 have ae:k<C:=by rw[<-t.len];exact(bj.1 hl).1
 obtain⟨N,O,R,S,T⟩:=Ez hg hm hy hl;obtain⟨W1,ad,F1⟩:=dR (((Fr.nil w).a w (pY r ⟨E,D,J⟩ s2 s3 s4 s5 s6 s7 i ⟨H,C,L⟩ t2 t3 t4) 93).a (w+1) [.bool false,.slice none 0 0,.bool false,.slice none 0 0] 48);have F:=Hd F1;obtain⟨b,o,rfl,V,Y,Z,u3,u4,u5,u6⟩:=(s.go F1.bl).IU hy;obtain⟨b2,o2,Al,nl,cl,rfl,I,p⟩:=((t.more (b:=w+1) (iH _)).go F1.bl).tX hl;have o1:=aW F1.drew;have v0:=ah V;have v1:=ah Y;have v2:=ah Z;have v3:=ah u3;have v4:=ah u4;have v5:=ah u5;have v6:=ah u6;have v7:=ah I;have z5:=ah (F1.aQ 0 5);have z0:=ah (F1.aQ 0 0);have z:b_ ((w.heap.size+1)::M) W1:=(hM.le F1.bl.size).cons (F1.mJ 1);obtain⟨Q,hQ⟩:=aC (qJ y l);have X:=Ew (M:=(w+1)::M) (w:=W1.drew) y (z.le pc) (p.go pd.drew) N O (by rw[<-p.len];exact R) (by rw[<-p.len];exact S) (by rw[<-p.len];exact T);rw[hQ]at X |-;have HX:=Hd X;have aa:=Hd z;clear X N O R S T hQ p z V Y Z u3 u4 u5 u6 I s t hr hc hg hm hy hl hM F1;refine ent func80 rfl ntmps80 ?_;gi_wp2;refine iF [] 16 1 [0,1,2,3,4,5,6,7,8,9,10,11,12,13,14,15] oF oF rfl ?_;refine eH ?_;refine aH fun K h=>aA rfl rfl wy fun q j=>?_;gi_wp2;refine Cl 134 HX.out ?_;rintro e w2 ⟨u,rfl,W,f⟩;have F2:=Hd (F.out.drew.go f);have HG:=Hd (wJ (M:=(w+1)::M) (aa.out.le (cD pc f.size)) W);refine j _ _ ⟨?_,h _ _ ?_⟩;clear j q h K;·exact a_ f _
 clear f W;refine lit ?_;refine eH ?_;refine aH fun K h=>aA rfl rfl wy fun q j=>?_;gi_wp2;refine Cl 77 HG.out ?_;rintro e w3 ⟨u,rfl,W,f⟩;obtain⟨p2,q2,A2,n2,c2,B2,m2,d2,rfl,U⟩:=QC.of W;have G:=Hd2 (F2.out.go f) U;refine j _ _ ⟨?_,h _ _ ?_⟩;clear j q h K;·exact a_ f _
 clear f W U;refine lit ?_;refine aK ?_;have o2:=aW G.a;refine jW fun K h q j=>?_;gi_wp2;refine dC _ ?_;gi_wp2;obtain⟨wF,ab,t0,t1,t2,t3,hQ,bF⟩:=nN (M:=M) (G.a.aQ 1 0) (G.a.aQ 1 1) (G.a.aQ 1 2) (G.a.aQ 1 3) (x:=Q) G.u.num.sl G.u.den.sl G.u.num.neg G.u.den.neg G.a.bl (iH _);try rw[ab]
 exact⟨rfl,.agg #[.bool p2,.slice A2 n2 c2,.bool q2,.slice B2 m2 d2],by simp[results,go_sem,t0,t1,t2,t3],_,rfl,hQ,bF⟩
theorem rQ(p:Addr)(w:World):
 CallsDIn Fence.wide n prog 38 #[.pointer (some p)] .returning w fun e u' w'=>e=.returned (.tuple #[])/\u'=.returning/\w'=w:=by
 refine callsDIn_of_wpSIn func38 rfl trivial fun c₀ cs hu=>?_;apply wpSIn_seq;apply wpSIn_region;simp[wpOpsSIn,go_sem,recoverD,hu,ntmps38,Exit.thenS];refine wpSIn_of_wpIn rfl ?_;refine mU (Q:=fun e a w'=>e=.normal/\a.defers= []/\w'=w) ?_ ?_;rotate_left;·rintro e a w' ⟨rfl,b,rfl⟩;cases c₀;simp_all[bodyPostS,results,results38,b]
 clear hu;simp only[gH,gL,iG,fk,de,dx,eE,fl,eQ];gi_wp2
end
theorem Xp:(prog.info? 48).map (fun i=>(i.zero,i.size,i.bytes))=some (some (.agg #[.bool false,.slice none 0 0,.bool false,.slice none 0 0]),4,64):=oF
section
open Go.RowKit Go.Shelf
attribute [local go_sem] cK
theorem Iq:iU 48 (Rep.sz fC):=iU.mk' Xp rfl oE
theorem dG.moreL{w:World}{M:List Nat}{r:aS}{s1 s2 s3 s4 s5 s6 s7:dK}(h:dG w M r s1 s2 s3 s4 s5 s6 s7)(L:List Nat)(hL:∀k,k∈L->w.heap.size<=k):dG w (L++M) r s1 s2 s3 s4 s5 s6 s7:=⟨h.aT.moreL L hL,h.bonus.moreL L hL,h.malus.moreL L hL,h.ties.moreL L hL,h.rounds.moreL L hL,h.prizes.moreL L hL,h.points.moreL L hL,h.best⟩
theorem jE.moreL{w:World}{M:List Nat}{c:dS}{s1 s2 s3 s4:dK}(h:jE w M c s1 s2 s3 s4)(L:List Nat)(hL:∀k,k∈L->w.heap.size<=k):jE w (L++M) c s1 s2 s3 s4:=⟨h.marks,h.bonus.moreL L hL,h.malus.moreL L hL,h.prev.moreL L hL⟩
theorem bD.acI{α:Type} [kJ α] {e:TypeId}{w':World}{K:List Nat}{base:Nat}{xs:List α}(h:bD α e w M base v n xs)(k:Keeps K w w')(hK:∀x,x∈K->x∈M)(hv:∀g,v.ownBlock=some g->g∉K):bD α e w' M base v n xs:=by obtain⟨cs,o,p⟩:=h.ex;refine⟨h.len,cs,qp o (fun g O q=>k.block g q (hv g O)),fun j x hx=>?_⟩;obtain⟨f,a,b⟩:=p j x hx;exact⟨f,iN a (k.mono (fun x hx=>cL _ (hK x hx))),b⟩
structure PG(M:List Nat)(w u:World)(L:List (Nat×List Value))(bl:Nat)(v:Value)(xs:List Rt)(wr:World):Prop where
 own:bD fC 48 wr (bl::M) u.heap.size v xs.length (xs.map jd)
 fr:Fr w wr (L++ [(bl, [v])])
 sz:u.heap.size<=wr.heap.size
 wu:w.heap.size<=u.heap.size
 bM:b_ M w
 hL:∀b vs,(b,vs)∈L->b<u.heap.size/\b≠bl
 hb:bl<u.heap.size
def jq(r:aS)(c:dS):List Rt:=(r.aT.zip c.marks).map fun p=>qJ p.1 p.2
end
