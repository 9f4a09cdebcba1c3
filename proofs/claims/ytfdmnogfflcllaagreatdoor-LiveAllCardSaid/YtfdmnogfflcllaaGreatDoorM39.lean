/- Lemmas -/
import Derived.Test.YtfdmnogfflcllaaGreatDoorM37
import Derived.Test.YtfdmnogfflcllaaGreatDoorM38
set_option linter.all false
set_option maxRecDepth 100000
set_option maxHeartbeats 0
namespace Go.Proofs.YtfdmnogfflcllaaGreatDoor
open Go.Proofs.Tryz
theorem EU{p:Prop}(h:p:=by exact aa4 (cs:= [[_,_,_,_], [_,_,_,_], [_,_,_,_], [_,_,_,_]]) (b_.nil _) 42 exL (aaw (aa7 k.2.2.2.1) (aaw (aa7 k.2.2.1) (aaw (aa7 k.2.1) (aaw (aa7 k.1) adf)))) pt):p:=h
section
open Go.RowKit Go.Shelf
attribute [local go_sem] cX
section
variable {r:aS}{s1 s2 s3 s4 s5 s6 s7:dK}{w:World}{k:Nat}{e:Int}{x:aJ}
theorem Ranks_nil(hr:dG w [] r s1 s2 s3 s4 s5 s6 s7)(hs:Sound r)(ht:Tab w)(hx:r.rounds[k]?=some x)(hp:x.2.2.2.2.1=false)(hf:x.2.2.2.2.2.1=false)(hlv:abd r.aT.length (aaJ r.aT.length k (au x))=true)(hcl:r.aT.length<=1000)(hkl:k<=1000)(he:0<=e):
 Calls prog 9 #[.agg (aV r s1 s2 s3 s4 s5 s6 s7).toArray,k,.slice none 0 0,e] w fun e' w'=>e'=.returned (.tuple #[.slice none 0 0,.int .i64 1])/\Below w w w':=by
 refine wid ?_;obtain⟨W1,R,F1⟩:=dR ((((Fr.nil w).a w (aV r s1 s2 s3 s4 s5 s6 s7) 28).a (w+1) [e] 3).a (w+2) [.int .i64 0] 32);have B:=aW F1;have F:=Hd F1;have HB:=Hd (abe (hr.go F1.bl) hs (tab_below ht F1.bl) pH (bu.1 hx).1);have HL:=Hd (fun(V:World) (hb:Below w w V)=>acB (hr.go hb) hs hx hp hf hlv (tab_below ht hb) pH hcl hkl);have D:¬e<0:=pj;have O:decide (0<=e)=true:=cx he;have P:decide (e>=0)=true:=cx he;have Q:decide (e<0)=false:=cE D;clear F1 hr hs ht hx hp hf hlv;refine qj func9 rfl ntmps9 ?_
 gi_wp2_with (first
  |(have g:=N.out;clear g;refine Cl 30 (aas _ _) ?_;rintro e Z ⟨rfl,rfl⟩)
  |(refine Cl 29 HB.out ?_;rintro e I ⟨rfl,o⟩;have W:=F.out.go o;have E:=aW W;obtain⟨J,S,F3⟩:=dR (W.a I (evV r s1 s2 s3 s4 s5 s6 s7 k) 79);have G:=aW F3;obtain⟨K,T,F4⟩:=dR (F3.a J [.slice none 0 0] 82);have d:=aW F4;replace F:=Hd F4;have HX:=Hd (HL.out _ F4.bl);have N:=Hd trivial;clear o W F3 F4)
  |fail)
 clear B E G d;gi_loopw[33] (fun i wr=>i=.int .i64 0/\K=wr) (fun i _=>0);case atStart=>exact⟨rfl,rfl⟩
 case round=>
  obtain⟨rfl,rfl⟩:=hrel;have d:=aW F.out
  gi_wp2_with (first
   |(have g:=y.out;clear g;refine Cl 30 (aaS _ _) ?_;rintro e w6 ⟨rfl,rfl⟩)
   |(refine Cl 32 HX.out ?_;rintro e w5 ⟨rfl,u⟩;have W:=F.out.go u;have H:=aW W;replace F:=Hd W;have y:=Hd trivial;clear u W)
   |fail)
  have z:=F.out.bl;have l:=F.out.aQ 2 0;have f3:=F.out.zN 2 0;clear d H;refine eS (f:=28) (args:=#[.pointer (some ⟨w+1+1,0,none⟩)]) po po pB (fun _ _=>bO) ?_;refine(aan ⟨w+1+1,0,none⟩ 1 0 [] _ l f3).mono ?_;rintro e' X Y ⟨rfl,rfl,rfl⟩;refine⟨.tuple #[.slice none 0 0,.int .i64 1],?_,rfl,z.setCell (p:=⟨w+1+1,0,none⟩) px _⟩;simp[results,results9,go_sem,l]
end
def aaj:List Int->List Int->Bool
 | [], []=>true
 |x::a,y::b=>if x=y then aaj a b else false
 |_,_=>false
theorem abB:∀(a b:List Int),aaj a b=true↔a=b
 | [], []=>by simp[aaj]
 |x::a,y::b=>by
  simp only[aaj];by_cases h:x=y;·simp[h,abB a b]
  simp[h]
 | [],_::_=>by simp[aaj]
 |_::_, []=>by simp[aaj]
theorem aea{a b:List Int}(h:a.length≠b.length):aaj a b=false:=by rw[Bool.eq_false_iff];intro e;rw[abB]at e;exact h (by rw[e])
theorem abq{M N:List Nat}(A B:Option Addr)(n c m d:Nat)(xs ys:List Int)(w:World)(hx:Sl Int w M A n c xs)(hy:Sl Int w N B m d ys)(hm:n<=1000000):
 CB 16 #[.slice A n c,.slice B m d] (.bool (aaj xs ys)) w:=by
 refine(pd (n:=10)).1 ?_;have H:=Hd hx;have G:=Hd hy;clear hx hy;by_cases F:n=m
 ·subst F;refine ent func16 ntmps16 ?_;gi_wp2;gi_loopw[5] (fun i wr=>∃k:Nat,k<=n/\i=k/\Hid (aaj (xs.drop k) (ys.drop k)=aaj xs ys)/\Below w w wr) (fun i _=>n-(intOf i).toNat);case atStart=>exact⟨0,pj,rfl,rfl,bL _ _⟩
  case round=>
   obtain⟨k,P,rfl,I,hb⟩:=hrel;by_cases E:k<n
   ·obtain⟨b,o,x,rfl,K,_,z,_⟩:=(H.out.keep (bq hb M)).pR E;obtain⟨b2,R,y,rfl,J,_,D,_⟩:=(G.out.keep (bq hb N)).pR E;have g:=I.out;rw[z,D,aaj]at g;have l:=Hd g;clear g z D;have O:=ah K;have Q:=ah J;gi_wp2;refine ak [] [0,1,2,3,4,5,6,7,8] pk pk ?_;refine eH ?_;refine aK ?_;refine lit ?_;by_cases u:x=y
    ·rw[if_pos u]at l;subst u;gi_wp2;go_roundw;case rel=>exact⟨k+1,pj,by go_num,l.out,hb.drew⟩
     case measure=>simp[intOf];omega
    rw[if_neg u]at l;gi_wp2;go_ret;exact⟨wS l.out,hb.drew⟩
   ·have g:=I.out;rw[cB (by rw[H.out.len];omega),cB (by rw[G.out.len];omega),aaj]at g;have l:=Hd g;clear g;gi_wp2;go_ret;exact⟨wS l.out,hb⟩
 ·have hs:aaj xs ys=false:=by
    refine aea ?_;rw[H.out.len,G.out.len];exact F
  rw[hs];clear hs;refine ent func16 ntmps16 ?_;gi_wp2;go_ret;exact⟨rfl,bL _ _⟩
abbrev I1(x:Int):Rt:=⟨x,1⟩
theorem Nk{M:List Nat}{x:Int}{w:World}(hM:b_ M w)(hx:i64 x):
 Calls prog 21 #[x] w fun e w'=>∃u,e=.returned u/\QW w' M u (I1 x)/\Below w w w':=by
 refine wid ?_;obtain⟨W1,T,F1⟩:=dR ((Fr.nil w).a4 w 48);refine op1 F1 ?_;intros;have D:b_ (w.heap.size::M) W1:=(hM.le F1.bl.size).cons (F1.mJ 0);have F:=Hd F1;have X:=Hd2 D hx;clear hM hx D F1;refine ent func21 ntmps21 ?_
 gi_wp2_with (first
  |(refine⟨bO,?_⟩;gi_at_call 50;have Q:=g.out;clear Q;refine Cn (zC (M:=w::M) (n:=1) (X.a.le g.v) pA) ?_;rintro e S ⟨Y,rfl,K,l⟩;obtain⟨I,y,E,B,rfl,N⟩:=ZC.of K;have F3:=g.a.go l;refine op1 F3 ?_;intros;have d:=Hd2 F3 (show QC S (w.heap.size::M) (I1 x) H I o G z y E B from⟨g.b.go l,N⟩);clear K l F3 N)
  |(refine Cl 50 (zC (M:=w::M) (n:=x) X.a X.u) ?_;rintro e Z ⟨W,rfl,J,i⟩;obtain⟨H,o,G,z,rfl,O⟩:=ZC.of J;have g:=fB (F.out.go i) O i.size;clear J i O)
  |fail)
 obtain⟨wF,R,t0,t1,t2,t3,hQ,P⟩:=nN (M:=M) (d.a.aQ 0 0) (d.a.aQ 0 1) (d.a.aQ 0 2) (d.a.aQ 0 3) (x:=I1 x) d.u.num.sl d.u.den.sl d.u.num.neg d.u.den.neg d.a.bl pD;try rw[R]
 exact⟨rfl,.agg #[H,.slice o G z,I,.slice y E B],by simp[results,go_sem,t0,t1,t2,t3],_,rfl,hQ,P⟩
theorem abR{M N:List Nat}{A B:Option Addr}{n c m d:Nat}{xs ys:List fC}{w:World}(hx:Sl fC w M A n c xs)(hy:Sl fC w N B m d ys)(e:xs=ys):
 CB 22 #[.slice A n c,.slice B m d] true w:=by
 refine wid ?_;subst e;have l1:=hx.len;have l2:=hy.len;obtain rfl:n=m:=pj;have ad:=hx.small;have H:=Hd2 hx hy;clear hx hy l2;refine ent func22 ntmps22 ?_;gi_wp2;gi_loopw[5] (fun i wr=>∃k:Nat,k<=n/\i=k/\Hid (Below w w wr)) (fun i _=>n-(intOf i).toNat);case atStart=>exact⟨0,cf _,rfl,Hd pE⟩
 case round=>
  obtain⟨k,hk,rfl,g⟩:=hrel;by_cases ac:k<n
  ·obtain⟨x,o⟩:=dW xs k pj;obtain⟨b1,o1,Q,n1,Y,R,n2,Z,aa,D,E,F,G,I,J⟩:=(H.a.go g.out).MG o;obtain⟨b2,o2,S,n3,c3,T,n4,c4,ab,f0,f1,f2,f3,y,z⟩:=(H.u.go g.out).MG o;subst aa;subst ab;have x0:=ah D;have x1:=ah E;have x2:=ah F;have x3:=ah G;have y0:=ah f0;have y1:=ah f1;have y2:=ah f2;have y3:=ah f3;have XS:=zK (w:=wr.drew) (va:=.agg #[x.1.1,.slice Q n1 Y,x.2.1,.slice R n2 Z]) (vb:=.agg #[x.1.1,.slice S n3 c3,x.2.1,.slice T n4 c4]) ⟨_,_,_,_,_,_,rfl,I.go (bL wr wr).drew,J.go (bL wr wr).drew⟩ ⟨_,_,_,_,_,_,rfl,y.go (bL wr wr).drew,z.go (bL wr wr).drew⟩;rw[cx rfl]at XS;have W:=Hd XS;clear o XS D E F G f0 f1 f2 f3 I J y z;gi_wp2;refine ak [] (List.range 10) pk pk ?_;refine eH ?_;refine aH fun K O=>aA rfl rfl wy fun X P=>?_;gi_wp2;refine Cl 13 W.out ?_;rintro e w4 ⟨rfl,l⟩;have HB:=Hd (g.out.trans (((bL wr wr).drew.trans l).mono g.out.size));refine P _ _ ⟨?_,O _ _ ?_⟩;clear P X O K;·exact bq l _
   clear l x0 x1 x2 x3 y0 y1 y2 y3;refine lit ?_;refine eH ?_;refine aK ?_;refine lit ?_;gi_wp2;exact⟨⟨k+1,pj,by go_num,HB⟩,by simp[intOf];omega⟩
  ·gi_wp2;go_ret;exact⟨rfl,g.out⟩
theorem adf{α:Type} [Rep α] {w:World}{M:List Nat}:Rds (α:=α) w M [] []:=trivial
theorem aaw{α:Type} [Rep α] {w:World}{M:List Nat}{x:α}{xs:List α}{c:List Value}{cs:List (List Value)}(h:Rep.rd w M x c)(t:Rds w M xs cs):Rds w M (x::xs) (c::cs):=⟨h,t⟩
theorem adg{w:World}{M:List Nat}{r:Rt}{p q:Bool}{A B:Option Addr}{n c m d:Nat}(h:QC w M r p q A n c B m d):Rep.rd w M (jd r) [p,.slice A n c,q,.slice B m d]:=by obtain⟨⟨rfl,g⟩,⟨rfl,h2⟩⟩:=h;exact JB (x:=jd r) g h2
structure SaB(w V:World)(p:Int)(f:Bool)(b1 bc be b5:Nat):Prop where
 t:Tab V
 bl:Below w w V
 on:OnS w V p f bc be b5
 fr:Fr w V [(b1,onC bc b5)]
section
variable {w V V':World}{p:Int}{f:Bool}{b1 bc be b5:Nat}
theorem SaB.go(h:SaB w V p f b1 bc be b5)(hb:Below V V V'):SaB w V' p f b1 bc be b5:=⟨tab_below h.t hb,h.bl.trans (hb.mono h.bl.size),h.on.go hb,h.fr.go hb⟩
theorem St.ofB(h:SaB w V p f b1 bc be b5):St V (fun U=>SaB w U p f b1 bc be b5):=by unfold St;exact fun U d=>h.go d
end
theorem SaB.put{u V0 V U:World}{bc be b5 b1:Nat}{j:Nat}{u0 v:Value}{p:Int}{f:Bool}(ht:Tab u)(on:OnS u V0 1 false bc be b5)(hb:Below V0 V0 V)(F:Fr u V ([(b5,abI 1 false be)]++ [(b1,onC bc b5)]))(hj:(abI 1 false be)[j]?=some u0)(hs:(abI 1 false be).set j v=abI p f be)(h1:b1≠b5)(hU:V.setCell ⟨b5,j,none⟩ v=U):SaB u U p f b1 bc be b5:=by subst hU;obtain⟨o,k⟩:=(on.go hb).put hj hs;have f2:=Fr.qY (L:= [(b1,onC bc b5)]) (b:=b5) (C:=abI 1 false be) (F.only (fun x hx=>by simp at hx |-;exact hx.symm)) (fun c vs d=>by simp at d;rw[d.1];exact h1) hj v;exact⟨tab_below ht o.fr.bl,o.fr.bl,o,f2.hd⟩
theorem agm{a b:Nat}{X Y:Prop}(h:(a<=b/\X)\/(b<a/\Y))(g:a<=b):X:=h.elim And.right (fun h=>absurd h.1 pj)
theorem ahz{a b:Nat}{X Y:Prop}(h:(a<=b/\X)\/(b<a/\Y))(g:b<a):Y:=h.elim (fun h=>absurd h.1 pj) And.right
theorem afB{P Q X Y:Prop}(h:(P/\X)\/(Q/\Y))(g:¬Q):X:=h.elim And.right (fun h=>absurd h.1 g)
theorem adK{w:World}{m:Int}{s:dK}(hs:Sl (List Int) w [] s.A s.n s.c [[m]]):jE w [] (toC (exC [m])) s dH dH dH:=⟨hs,Sl.Es _ _,Sl.Es _ _,Sl.Es _ _⟩
theorem aa7{w:World}{m:Int}{s:dK}(hs:Sl (List Int) w [] s.A s.n s.c [[m]]):Rep.rd w [] (exC [m]) (dI s dH dH dH):=acd (adK hs) hs
theorem aeb{w:World}(ht:Tab w):CB 5 #[] true w:=by
 refine wid ?_;have HT:=Hd ht;clear ht;refine ent func5 ntmps5 ?_;gi_wp2;refine Cl 19 (abX _) ?_;intro e w2 I;unfold OnP at I;obtain⟨bc,be,b5,rfl,on⟩:=I;obtain⟨T,bD,F3⟩:=dR (((Fr.nil w).go on.fr.bl).a w2 (onC bc b5) 28);have hb:Below w2 w2 T:=by rw[<-bD];exact bel
 have P:=aW F3;have J:=Hd (St.ofB (show SaB w T 1 false w2.heap.size bc be b5 from⟨tab_below HT.out F3.bl,F3.bl,on.go hb,F3⟩));clear hb on F3;gi_wp2;clear P;have u:Below T T (T).drew:=pE.drew;replace J:=Hd (J.out.go u);clear u;have E:=ab7 J.out.at_.fr;refine aP [] 7 pk pk ?_;refine ay 0 ?_;refine eU 1 fun K d=>?_;gi_wp2;refine Cl 20 (aw _ j1) ?_;rintro e w4 ⟨s1,rfl,hs,hb⟩;replace J:=Hd ((J.out.go hb).add (fun V l=>hs.go l));refine d _ _ ⟨?_,?_⟩;clear d K;·exact bq hb _
 clear hb hs;refine lit ?_;have X:=abo (k:=0) (J.out.at_.2.on.rul j1) (adK J.out.at_.1) (abk (m:=(-1)) pj) (ac8 (.inl rfl) pt) (Pv (abk (m:=(-1)) pj)) J.out.at_.2.t (x:=exX 1 false) rfl rfl rfl aa3 pt pt;refine eU 2 fun K d=>?_;gi_wp2;refine Cl 10 X ?_;clear X;rintro e w5 ⟨h,hb⟩;obtain⟨A1,n1,c1,rfl,Y⟩:=agm h (aco pj);rw[agi]at Y;obtain rfl:=Y.len.symm;replace J:=Hd (((J.out.map fun V k=>k.2).go hb).add (fun V l=>Y.go l));refine d _ _ ⟨?_,?_⟩;clear d K;·exact bq hb _
 clear hb Y h;refine lit ?_;refine ay 3 ?_;refine ay 4 ?_;refine ay 5 ?_;refine ay 6 ?_
 skip
 refine iq 1 ?_;refine jW fun K d G O=>?_;gi_wp2;refine et _ ?_;simp only[cu];gi_wp2;clear E;have u:Below w5 w5 (w5).drew:=pE.drew;replace J:=Hd (J.out.go u);clear u;have E:=ab7 J.out.at_.2.fr;refine aP [] 7 pk pk ?_;refine ay 0 ?_;refine eU 1 fun K d=>?_;gi_wp2;refine Cl 20 (aw _ j1) ?_;rintro e w6 ⟨s2,rfl,hs,hb⟩;replace J:=Hd ((J.out.go hb).add (fun V l=>hs.go l));refine d _ _ ⟨?_,?_⟩;clear d K;·exact bq hb _
 clear hb hs;refine lit ?_;have X:=abo (k:=0) (J.out.at_.2.2.on.rul j1) (adK J.out.at_.1) (abk (m:=2) pj) (ac8 (.inl rfl) pt) (Pv (abk (m:=2) pj)) J.out.at_.2.2.t (x:=exX 1 false) rfl rfl rfl aa3 pt pt;refine eU 2 fun K d=>?_;gi_wp2;refine Cl 10 X ?_;clear X;rintro e w7 ⟨h,hb⟩;obtain⟨A2,n2,c2,rfl,Y⟩:=agm h (aco pj);rw[ady (m:=2) pj]at Y;obtain rfl:=Y.len.symm;replace J:=Hd (((J.out.map fun V k=>k.2).go hb).add (fun V l=>Y.go l));refine d _ _ ⟨?_,?_⟩;clear d K;·exact bq hb _
 clear hb Y h;refine lit ?_;refine ay 3 ?_;refine ay 4 ?_;refine ay 5 ?_;refine ay 6 ?_
 skip
 refine iq 1 ?_;refine jW fun K d G O=>?_;gi_wp2;refine et _ ?_;simp only[cu];gi_wp2;clear E;have u:Below w7 w7 (w7).drew:=pE.drew;replace J:=Hd (J.out.go u);clear u;have E:=ab7 J.out.at_.2.2.fr;refine aP [] 11 pk pk ?_;refine ay 0 ?_;refine eU 1 fun K d=>?_;gi_wp2;refine Cl 20 (aw _ j1) ?_;rintro e w8 ⟨an,rfl,hs,hb⟩;replace J:=Hd ((J.out.go hb).add (fun V l=>hs.go l));refine d _ _ ⟨?_,?_⟩;clear d K;·exact bq hb _
 clear hb hs;refine lit ?_;refine eU 2 fun K d=>?_;gi_wp2;refine Cl 20 (aw _ j1) ?_;rintro e ci ⟨ao,rfl,hs,hb⟩;replace J:=Hd ((J.out.go hb).add (fun V l=>hs.go l));refine d _ _ ⟨?_,?_⟩;clear d K;·exact bq hb _
 clear hb hs;refine lit ?_;refine eU 3 fun K d=>?_;gi_wp2;refine Cl 20 (aw _ j1) ?_;rintro e cj ⟨ap,rfl,hs,hb⟩;replace J:=Hd ((J.out.go hb).add (fun V l=>hs.go l));refine d _ _ ⟨?_,?_⟩;clear d K;·exact bq hb _
 clear hb hs;refine lit ?_;refine eU 4 fun K d=>?_;gi_wp2;refine Cl 20 (aw _ j1) ?_;rintro e ag ⟨aq,rfl,hs,hb⟩;replace J:=Hd ((J.out.go hb).add (fun V l=>hs.go l));refine d _ _ ⟨?_,?_⟩;clear d K;·exact bq hb _
 clear hb hs;refine lit ?_;obtain⟨aU,aY⟩:=aC ((ag).alloc (.cells #[.slice an.A an.n an.c,.slice none 0 0,.slice none 0 0,.slice none 0 0,.slice ao.A ao.n ao.c,.slice none 0 0,.slice none 0 0,.slice none 0 0,.slice ap.A ap.n ap.c,.slice none 0 0,.slice none 0 0,.slice none 0 0,.slice aq.A aq.n aq.c,.slice none 0 0,.slice none 0 0,.slice none 0 0] 42));have hb:Below (ag).heap.size ag aU:=by rw[<-aY];exact bel
 have z:Sl aL aU [] (some ⟨ag,0,none⟩) 4 4 exL:=by have k:=J.out.at_;rw[<-aY];exact EU
 replace J:=Hd (((J.out.map fun V k=>k.2.2.2.2).go hb).add (fun V l=>z.go l));refine eU 5 fun K d=>?_;gi_wp2;refine⟨bq hb _,?_⟩;clear hb z;refine lit ?_;have X:=abp (k:=0) (e:=0) (J.out.at_.2.2.2.on.rul j1) J.out.at_.1 (fun y B=>⟨(aaz B).1,(aaz B).2.1,(aaz B).2.2.1⟩) (aar (.inl rfl)) J.out.at_.2.2.2.t (x:=exX 1 false) rfl rfl rfl aa3 pt pt pt pt;refine eU 6 fun K d=>?_;gi_wp2;refine Cl 9 X ?_;clear X;rintro e az ⟨h,hb⟩;obtain⟨A3,n3,c3,rfl,Y⟩:=afB h (fun⟨y,B,g⟩=>by have:=(aaz B).2.2.2;omega);rw[agj,acr.1]at Y;obtain rfl:=Y.len.symm;replace J:=Hd (((J.out.map fun V k=>k.2).go hb).add (fun V l=>Y.go l));refine d _ _ ⟨?_,?_⟩;clear d K;·exact bq hb _
 clear hb Y h;refine lit ?_;refine ay 7 ?_;refine ay 8 ?_;refine ay 9 ?_;refine ay 10 ?_;refine iq 1 ?_;refine jW fun K d G O=>?_;gi_wp2;refine et _ ?_;simp only[cu];gi_wp2;clear E;have u:Below az az (az).drew:=pE.drew;replace J:=Hd (J.out.go u);clear u;have E:=ab7 J.out.at_.2.2.2.fr;refine aP [] 11 pk pk ?_;refine ay 0 ?_;refine eU 1 fun K d=>?_;gi_wp2;refine Cl 20 (aw _ j1) ?_;rintro e b4 ⟨ar,rfl,hs,hb⟩;replace J:=Hd ((J.out.go hb).add (fun V l=>hs.go l));refine d _ _ ⟨?_,?_⟩;clear d K;·exact bq hb _
 clear hb hs;refine lit ?_;refine eU 2 fun K d=>?_;gi_wp2;refine Cl 20 (aw _ j1) ?_;rintro e bU ⟨au,rfl,hs,hb⟩;replace J:=Hd ((J.out.go hb).add (fun V l=>hs.go l));refine d _ _ ⟨?_,?_⟩;clear d K;·exact bq hb _
 clear hb hs;refine lit ?_;refine eU 3 fun K d=>?_;gi_wp2;refine Cl 20 (aw _ j1) ?_;rintro e bV ⟨av,rfl,hs,hb⟩;replace J:=Hd ((J.out.go hb).add (fun V l=>hs.go l));refine d _ _ ⟨?_,?_⟩;clear d K;·exact bq hb _
 clear hb hs;refine lit ?_;refine eU 4 fun K d=>?_;gi_wp2;refine Cl 20 (aw _ j1) ?_;rintro e aa ⟨ax,rfl,hs,hb⟩;replace J:=Hd ((J.out.go hb).add (fun V l=>hs.go l));refine d _ _ ⟨?_,?_⟩;clear d K;·exact bq hb _
 clear hb hs;refine lit ?_;obtain⟨aZ,aX⟩:=aC ((aa).alloc (.cells #[.slice ar.A ar.n ar.c,.slice none 0 0,.slice none 0 0,.slice none 0 0,.slice au.A au.n au.c,.slice none 0 0,.slice none 0 0,.slice none 0 0,.slice av.A av.n av.c,.slice none 0 0,.slice none 0 0,.slice none 0 0,.slice ax.A ax.n ax.c,.slice none 0 0,.slice none 0 0,.slice none 0 0] 42));have hb:Below (aa).heap.size aa aZ:=by rw[<-aX];exact bel
 have z:Sl aL aZ [] (some ⟨aa,0,none⟩) 4 4 exL:=by have k:=J.out.at_;rw[<-aX];exact EU
 replace J:=Hd (((J.out.map fun V k=>k.2.2.2.2).go hb).add (fun V l=>z.go l));refine eU 5 fun K d=>?_;gi_wp2;refine⟨bq hb _,?_⟩;clear hb z;refine lit ?_;have X:=abp (k:=0) (e:=1) (J.out.at_.2.2.2.2.on.rul j1) J.out.at_.1 (fun y B=>⟨(aaz B).1,(aaz B).2.1,(aaz B).2.2.1⟩) (aar (.inl rfl)) J.out.at_.2.2.2.2.t (x:=exX 1 false) rfl rfl rfl aa3 pt pt pt pt;refine eU 6 fun K d=>?_;gi_wp2;refine Cl 9 X ?_;clear X;rintro e aA ⟨h,hb⟩;obtain⟨A4,n4,c4,rfl,Y⟩:=afB h (fun⟨y,B,g⟩=>by have:=(aaz B).2.2.2;omega);rw[agj,acr.2.1]at Y;obtain rfl:=Y.len.symm;replace J:=Hd (((J.out.map fun V k=>k.2).go hb).add (fun V l=>Y.go l));refine d _ _ ⟨?_,?_⟩;clear d K;·exact bq hb _
 clear hb Y h;refine lit ?_;refine ay 7 ?_;refine ay 8 ?_;refine ay 9 ?_;refine ay 10 ?_;refine iq 1 ?_;refine jW fun K d G O=>?_;gi_wp2;refine et _ ?_;simp only[cu];gi_wp2;clear E;have u:Below aA aA (aA).drew:=pE.drew;replace J:=Hd (J.out.go u);clear u;have E:=ab7 J.out.at_.2.2.2.2.fr;refine aP [] 8 pk pk ?_;refine ay 0 ?_;refine eU 1 fun K d=>?_;gi_wp2;refine Cl 20 (aw _ j1) ?_;rintro e ac ⟨s5,rfl,hs,hb⟩;replace J:=Hd ((J.out.go hb).add (fun V l=>hs.go l));refine d _ _ ⟨?_,?_⟩;clear d K;·exact bq hb _
 clear hb hs;refine lit ?_;obtain⟨aH,aV⟩:=aC ((ac).alloc (.cells #[.slice s5.A s5.n s5.c,.slice none 0 0,.slice none 0 0,.slice none 0 0] 42));have hb:Below (ac).heap.size ac aH:=by rw[<-aV];exact bel
 have z:Sl aL aH [] (some ⟨ac,0,none⟩) 1 1 [exC [1]]:=by have k:=J.out.at_;rw[<-aV];exact aa4 (cs:= [[_,_,_,_]]) (b_.nil _) 42 [exC [1]] (aaw (aa7 k.1) adf) pt
 replace J:=Hd (((J.out.map fun V k=>k.2).go hb).add (fun V l=>z.go l));refine eU 2 fun K d=>?_;gi_wp2;refine⟨bq hb _,?_⟩;clear hb z;refine lit ?_;have W:∀y,y∈ [exC [1]]->y∈exL:=fun y B=>by rw[bz.1 B];exact cw
 have X:=abp (k:=0) (e:=0) (J.out.at_.2.2.2.2.2.on.rul j1) J.out.at_.1 (fun y B=>⟨(aaz (W y B)).1,(aaz (W y B)).2.1,(aaz (W y B)).2.2.1⟩) (aar (.inl rfl)) J.out.at_.2.2.2.2.2.t (x:=exX 1 false) rfl rfl rfl aa3 pt pt pt pt;refine eU 3 fun K d=>?_;gi_wp2;refine Cl 9 X ?_;clear X;rintro e b6 ⟨h,hb⟩;obtain⟨A5,n5,c5,rfl,Y⟩:=afB h (fun⟨y,B,g⟩=>by have:=(aaz (W y B)).2.2.2;omega);rw[aiC,acr.2.2]at Y;obtain rfl:=Y.len.symm;replace J:=Hd (((J.out.map fun V k=>k.2).go hb).add (fun V l=>Y.go l));refine d _ _ ⟨?_,?_⟩;clear d K;·exact bq hb _
 clear hb Y h W;refine lit ?_;refine ay 4 ?_;refine ay 5 ?_;refine ay 6 ?_;refine ay 7 ?_;clear E;have P:=aW J.out.at_.2.2.2.2.2.fr;refine iq 1 ?_;refine jW fun K d G O=>?_;gi_wp2;refine et _ ?_;simp only[cu];gi_wp2;clear P;have X:=Ranks_nil (k:=0) (e:=0) (J.out.at_.2.2.2.2.2.on.rul j1) (aar (.inl rfl)) J.out.at_.2.2.2.2.2.t (x:=exX 1 false) rfl rfl rfl aa3 pt pt pt;refine Cl 9 X ?_;clear X;rintro e aB ⟨rfl,hb⟩;replace J:=Hd (J.out.go hb);clear hb;gi_wp2;have u:Below aB aB (aB).drew:=pE.drew;replace J:=Hd (J.out.go u);clear u;have E:=ab7 J.out.at_.2.2.2.2.2.fr;refine aP [] 7 pk pk ?_;refine ay 0 ?_;refine eU 1 fun K d=>?_;gi_wp2;refine Cl 20 (aw _ j1) ?_;rintro e b7 ⟨s6,rfl,hs,hb⟩;replace J:=Hd ((J.out.go hb).add (fun V l=>hs.go l));refine d _ _ ⟨?_,?_⟩;clear d K;·exact bq hb _
 clear hb hs;refine lit ?_;have X:=ad7 (i:=1) (t1:=s6) (t2:=dH) (t3:=dH) (t4:=dH) (J.out.at_.2.2.2.2.2.2.on.rul j1) (aar (.inl rfl)) J.out.at_.2.2.2.2.2.2.t (.inr pt);refine eU 2 fun K d=>?_;gi_wp2;refine Cl 10 X ?_;clear X;rintro e aD ⟨rfl,hb⟩;replace J:=Hd ((J.out.map fun V k=>k.2).go hb);refine d _ _ ⟨?_,?_⟩;clear d K;·exact bq hb _
 clear hb;refine lit ?_;refine ay 3 ?_;refine ay 4 ?_;refine ay 5 ?_;refine ay 6 ?_
 skip
 refine iq 1 ?_;refine jW fun K d G O=>?_;gi_wp2;refine et _ ?_;simp only[cu];gi_wp2;clear E;have u:Below aD aD (aD).drew:=pE.drew;replace J:=Hd (J.out.go u);clear u;have E:=ab7 J.out.at_.2.2.2.2.2.fr;refine aP [] 7 pk pk ?_;refine ay 0 ?_;refine eU 1 fun K d=>?_;gi_wp2;refine Cl 20 (aw _ j1) ?_;rintro e b8 ⟨s7,rfl,hs,hb⟩;replace J:=Hd ((J.out.go hb).add (fun V l=>hs.go l));refine d _ _ ⟨?_,?_⟩;clear d K;·exact bq hb _
 clear hb hs;refine lit ?_;have X:=adG (k:=0) (K:=170) (J.out.at_.2.2.2.2.2.2.on.rul j1) (adK J.out.at_.1) (aar (.inl rfl)) adx.1 pt J.out.at_.2.2.2.2.2.2.t pt;refine eU 2 fun K d=>?_;gi_wp2;refine Cl 10 X ?_;clear X;rintro e b9 ⟨rfl,hb⟩;replace J:=Hd ((J.out.map fun V k=>k.2).go hb);refine d _ _ ⟨?_,?_⟩;clear d K;·exact bq hb _
 clear hb;refine lit ?_;refine ay 3 ?_;refine ay 4 ?_;refine ay 5 ?_;refine ay 6 ?_
 skip
 refine iq 1 ?_;refine jW fun K d G O=>?_;gi_wp2;refine et _ ?_;simp only[cu];gi_wp2;clear E;refine Cl 19 (abX _) ?_;intro e aE I;unfold OnP at I;obtain⟨u,bX,a5,rfl,on⟩:=I;obtain⟨aI,bp,ah⟩:=dR (on.fr.a aE (onC u a5) 28);have hb:Below aE aE aI:=by rw[<-bp];exact bel
 have P:=aW ah;obtain⟨U,hU⟩:=aC (aI.setCell ⟨a5,5,none⟩ true);have H:=SaB.put (j:=5) (p:=1) (f:=true) J.out.at_.2.2.2.2.2.t on hb ah rfl rfl (Nat.ne_of_gt (on.fr.mJ 0)) hU;replace J:=Hd ((J.out.go H.bl).add (fun V l=>H.go l));clear hb on ah H;gi_wp2;clear P;have u:Below U U (U).drew:=pE.drew;replace J:=Hd (J.out.go u);clear u;have E:=ab7 J.out.at_.1.fr;refine aP [] 7 pk pk ?_;refine ay 0 ?_;refine eU 1 fun K d=>?_;gi_wp2;refine Cl 20 (aw _ j1) ?_;rintro e ca ⟨s8,rfl,hs,hb⟩;replace J:=Hd ((J.out.go hb).add (fun V l=>hs.go l));refine d _ _ ⟨?_,?_⟩;clear d K;·exact bq hb _
 clear hb hs;refine lit ?_;have X:=adH (k:=0) (J.out.at_.2.1.on.rul j1) (adK J.out.at_.1) (aar (.inl rfl)) adx.2 J.out.at_.2.1.t (x:=exX 1 true) rfl rfl rfl;refine eU 2 fun K d=>?_;gi_wp2;refine Cl 10 X ?_;clear X;rintro e cb ⟨rfl,hb⟩;replace J:=Hd ((J.out.map fun V k=>k.2).go hb);refine d _ _ ⟨?_,?_⟩;clear d K;·exact bq hb _
 clear hb;refine lit ?_;refine ay 3 ?_;refine ay 4 ?_;refine ay 5 ?_;refine ay 6 ?_
 skip
 refine iq 1 ?_;refine jW fun K d G O=>?_;gi_wp2;refine et _ ?_;simp only[cu];gi_wp2;clear E;replace J:=Hd (J.out.map fun V k=>k.2);refine Cl 19 (abX _) ?_;intro e aF I;unfold OnP at I;obtain⟨bf,bY,a6,rfl,on⟩:=I;obtain⟨aK,br,ai⟩:=dR (on.fr.a aF (onC bf a6) 28);have hb:Below aF aF aK:=by rw[<-br];exact bel
 have P:=aW ai;obtain⟨D,bC⟩:=aC (aK.setCell ⟨a6,1,none⟩ (.int .i64 7));have H:=SaB.put (j:=1) (p:=7) (f:=false) J.out.at_.2.2.2.2.2.t on hb ai rfl rfl (Nat.ne_of_gt (on.fr.mJ 0)) bC;have o4:=aW H.fr;obtain⟨N,aj⟩:=aC (D.alloc (.cells #[.int .i64 (-1),.int .i64 (-1),.int .i64 (-1),.int .i64 (-1),.int .i64 (-1),.int .i64 (-1),.int .i64 (-1)] 3));have ab:Below D D N:=by rw[<-aj];exact bel
 have aG:N.heap.size=D.heap.size+1:=by rw[<-aj];simp
 have m1:Sl Int N [] (some ⟨D,0,none⟩) 7 7 [-1,-1,-1,-1,-1,-1,-1]:=by rw[<-aj];exact aa4 (cs:= [[_], [_], [_], [_], [_], [_], [_]]) (b_.nil _) 3 [-1,-1,-1,-1,-1,-1,-1] (aaw ⟨rfl,j1⟩ (aaw ⟨rfl,j1⟩ (aaw ⟨rfl,j1⟩ (aaw ⟨rfl,j1⟩ (aaw ⟨rfl,j1⟩ (aaw ⟨rfl,j1⟩ (aaw ⟨rfl,j1⟩ adf))))))) pt
 obtain⟨R,ak⟩:=aC (N.alloc (.cells #[.slice (some ⟨D,0,none⟩) 7 7] 26));have al:Below N N R:=by rw[<-ak];exact bel
 have a7:R.heap.size=D.heap.size+1+1:=by rw[<-ak];simp[aG]
 have m2:Sl (List Int) R [] (some ⟨N,0,none⟩) 1 1 [[-1,-1,-1,-1,-1,-1,-1]]:=by rw[<-ak];exact aa4 (cs:= [[_]]) (b_.nil _) 26 [[-1,-1,-1,-1,-1,-1,-1]] (aaw ⟨_,_,_,rfl,m1⟩ adf) pt
 rw[aG]at m2;obtain⟨bo,bW,am,Q⟩:=fP (w:=R) ((Fr.nil R).a R [.slice (some ⟨D+1,0,none⟩) 1 1,.slice none 0 0,.slice none 0 0,.slice none 0 0] 42);rw[a7]at Q;have o5:=aW Q;have q1:=aN (Q.aQ 0 1);have q2:=aN (Q.aQ 0 2);have q3:=aN (Q.aQ 0 3);have a4:Below D D bo:=(ab.trans (al.mono ab.size)).trans (am.mono (cF ab.size al.size));have S:=H.go a4;have o6:=aW S.fr;have X:=abo (k:=0) (c:=toC (exC [-1,-1,-1,-1,-1,-1,-1])) (t1:=⟨some ⟨D+1,0,none⟩,1,1⟩) (t2:=dH) (t3:=dH) (t4:=dH) (S.on.rul j1) ⟨m2.go am,Sl.Es _ _,Sl.Es _ _,Sl.Es _ _⟩ aen (ac8 (.inr rfl) pt) (Pv aen) S.t (x:=exX 7 false) rfl rfl rfl aa3 pt pt;replace J:=Hd (J.out.go S.bl);have HX:=Hd X;clear hb on ai H m1 m2 ab al am a4 Q S X;gi_wp2;refine Cl 10 HX.out ?_;rintro e cc ⟨h,hb⟩;obtain rfl:=ahz h (by rw[afU];decide);replace J:=Hd (J.out.go hb);clear hb h HX P o4 o5 o6 q1 q2 q3 aG a7;gi_wp2;refine Cl 21 (Nk (M:= []) (x:=0) (b_.nil _) j1) ?_;rintro e cd ⟨bZ,rfl,a8,hb⟩;obtain⟨bM,bQ,bb,bI,bs,bj,bE,bw,rfl,F⟩:=QC.of a8;replace J:=Hd ((J.out.go hb).add (fun V l=>F.go l));clear hb a8 F;gi_wp2;refine Cl 21 (Nk (M:= []) (x:=2) (b_.nil _) j1) ?_;rintro e ce ⟨b0,rfl,a9,hb⟩;obtain⟨bN,bR,bg,bJ,bt,bk,bF,bx,rfl,F⟩:=QC.of a9;replace J:=Hd ((J.out.go hb).add (fun V l=>F.go l));clear hb a9 F;gi_wp2;refine Cl 21 (Nk (M:= []) (x:=4) (b_.nil _) j1) ?_;rintro e cf ⟨b2,rfl,a_,hb⟩;obtain⟨bO,bS,bh,bK,bu,bm,bG,bA,rfl,F⟩:=QC.of a_;replace J:=Hd ((J.out.go hb).add (fun V l=>F.go l));clear hb a_ F;gi_wp2;refine Cl 21 (Nk (M:= []) (x:=6) (b_.nil _) j1) ?_;rintro e Z ⟨b3,rfl,ba,hb⟩;obtain⟨bP,bT,bi,bL,bv,bn,bH,bB,rfl,F⟩:=QC.of ba;replace J:=Hd ((J.out.go hb).add (fun V l=>F.go l));clear hb ba F;obtain⟨aM,a0⟩:=aC (Z.alloc (.cells #[bM,.slice bb bI bs,bQ,.slice bj bE bw,bN,.slice bg bJ bt,bR,.slice bk bF bx,bO,.slice bh bK bu,bS,.slice bm bG bA,bP,.slice bi bL bv,bT,.slice bn bH bB] 48));have hb:Below Z Z aM:=by rw[<-a0];exact bel
 have z:Sl fC aM [] (some ⟨Z,0,none⟩) 4 4 ([(⟨0,1⟩:Rt),⟨2,1⟩,⟨4,1⟩,⟨6,1⟩].map jd):=by have k:=J.out.at_;rw[<-a0];exact aa4 (cs:= [[_,_,_,_], [_,_,_,_], [_,_,_,_], [_,_,_,_]]) (b_.nil _) 48 ([(⟨0,1⟩:Rt),⟨2,1⟩,⟨4,1⟩,⟨6,1⟩].map jd) (aaw (adg k.2.2.2.1) (aaw (adg k.2.2.1) (aaw (adg k.2.1) (aaw (adg k.1) adf)))) pt
 replace J:=Hd (((J.out.map fun V k=>k.2.2.2.2).go hb).add (fun V l=>z.go l));clear hb z;gi_wp2;refine Cl 22 (abR J.out.at_.2.2.2.2.2.1 J.out.at_.1 rfl) ?_;rintro e cg ⟨rfl,hb⟩;replace J:=Hd (J.out.go hb);clear hb;gi_wp2;have z:=(J.out.at_.1.cutFrom (k:=2) (A':=some ⟨Z,8,none⟩) pt (fun _ b o e=>by cases e;rfl)).nY (k:=1) pt;refine Cl 22 (abR J.out.at_.2.2.2.2.1 z rfl) ?_;clear z;rintro e ad ⟨rfl,hb⟩;replace J:=Hd (J.out.go hb);clear hb;obtain⟨aO,a1⟩:=aC (ad.alloc (.cells #[.int .i64 2,.int .i64 3] 3));have hb:Below ad ad aO:=by rw[<-a1];exact bel
 have z:Sl Int aO [] (some ⟨ad,0,none⟩) 2 2 [2,3]:=by rw[<-a1];exact aa4 (cs:= [[_], [_]]) (b_.nil _) 3 [2,3] (aaw ⟨rfl,j1⟩ (aaw ⟨rfl,j1⟩ adf)) pt
 replace J:=Hd ((J.out.go hb).add (fun V l=>z.go l));clear hb z;gi_wp2;have X:=abq _ _ _ _ _ _ _ _ _ J.out.at_.2.2.2.2.1 J.out.at_.1 pt;rw[show aaj [2,3] [2,3]=true by decide]at X;refine Cl 16 X ?_;clear X;rintro e ae ⟨rfl,hb⟩;replace J:=Hd (J.out.go hb);clear hb;obtain⟨aR,a2⟩:=aC (ae.alloc (.cells #[.int .i64 1,.int .i64 2,.int .i64 3] 3));have hb:Below ae ae aR:=by rw[<-a2];exact bel
 have z:Sl Int aR [] (some ⟨ae,0,none⟩) 3 3 [1,2,3]:=by rw[<-a2];exact aa4 (cs:= [[_], [_], [_]]) (b_.nil _) 3 [1,2,3] (aaw ⟨rfl,j1⟩ (aaw ⟨rfl,j1⟩ (aaw ⟨rfl,j1⟩ adf))) pt
 replace J:=Hd ((J.out.go hb).add (fun V l=>z.go l));clear hb z;gi_wp2;have X:=abq _ _ _ _ _ _ _ _ _ J.out.at_.2.2.2.2.1 J.out.at_.1 pt;rw[show aaj [1,2,3] [1,2,3]=true by decide]at X;refine Cl 16 X ?_;clear X;rintro e af ⟨rfl,hb⟩;replace J:=Hd (J.out.go hb);clear hb;obtain⟨aT,a3⟩:=aC (af.alloc (.cells #[.int .i64 1] 3));have hb:Below af af aT:=by rw[<-a3];exact bel
 have z:Sl Int aT [] (some ⟨af,0,none⟩) 1 1 [1]:=by rw[<-a3];exact aa4 (cs:= [[_]]) (b_.nil _) 3 [1] (aaw ⟨rfl,j1⟩ adf) pt
 replace J:=Hd ((J.out.go hb).add (fun V l=>z.go l));clear hb z;gi_wp2;have X:=abq _ _ _ _ _ _ _ _ _ J.out.at_.2.2.2.2.1 J.out.at_.1 pt;rw[show aaj [1] [1]=true by decide]at X;refine Cl 16 X ?_;clear X;rintro e ch ⟨rfl,hb⟩;replace J:=Hd (J.out.go hb);clear hb;gi_wp2;go_ret;exact⟨rfl,J.out.at_.2.2.2.2.2.2.2.2.2.bl⟩
instance:kJ aL:=⟨by
 intro w M x cs h u hu;obtain⟨t1,t2,t3,t4,rfl,hc2⟩:=aa2 h;simp at hu;rcases hu with rfl|rfl|rfl|rfl<;>rfl⟩
theorem aeX:(prog.info? 42).map (fun i=>(i.zero,i.size,i.bytes))=some (some (.agg #[.slice none 0 0,.slice none 0 0,.slice none 0 0,.slice none 0 0]),4,96):=pk
theorem aed:iU 42 (Rep.sz aL):=iU.mk' aeX rfl pj
structure KnB(w V:World)(r:aS)(s1 s2 s3 s4 s5 s6 s7:dK)(A:Option Addr)(n cp:Nat)(os:List aL):Prop where
 t:Tab V
 rl:dG V [] r s1 s2 s3 s4 s5 s6 s7
 cs:Sl aL V [] A n cp os
 fr:Fr w V [(w,aV r s1 s2 s3 s4 s5 s6 s7)]
section
variable {w V V':World}{r:aS}{s1 s2 s3 s4 s5 s6 s7:dK}{A:Option Addr}{n cp:Nat}{os:List aL}
structure KnR(r:aS)(k:Nat)(x:aJ)(os:List aL):Prop where
 snd:Sound r
 hx:r.rounds[k]?=some x
 hc:∀y,y∈os->f_ r k (toC y)/\yI r (toC y)/\vF r k (toC y)=0
 hp:x.2.2.2.2.1=false
 hf:x.2.2.2.2.2.1=false
 hl:abd r.aT.length (aaJ r.aT.length k (au x))=true
 cl:r.aT.length<=1000
 kl:k<=1000
theorem ahC{i en:Int}(h:FwL r os)(g:afD r i os en)(hn:os≠ []):∃(k:Nat) (x:aJ) (e:Nat),i=(k:Int)/\en=(e:Int)/\e<os.length/\KnR r k x os:=by
 obtain⟨o,k,x,e,rfl,hx,u,⟨z,B,D⟩,rfl,he⟩:=g;obtain⟨y,d⟩:=List.exists_mem_of_ne_nil os hn;have l:=h.2 y d;have hs:=afS l.fw.1 o;refine⟨k,x,e,rfl,rfl,he,hs.1,hx,fun y d=>?_,z,B,D,l.fw.1.fw.len.1,?_⟩;·have P:f_ r k (toC y):=⟨hs.1,k,x,rfl,hx,u y d⟩;exact⟨P,h.2 y d,Pv P⟩
 have:=(bu.1 hx).1;have:=l.fw.2;omega
end
def ScU(w':World)(N:Nat)(l:List Rt)(A:Option Addr)(n c:Nat)(k:Int):Prop:=(k=0/\N<=5040/\SlR w' [] A n c l)\/(k=2/\5040<N)
attribute [irreducible] ScU
def RkU(w':World)(P Q:Prop)(l:List Nat)(B:Option Addr)(m d:Nat)(k:Int):Prop:=(k=0/\P/\Sl Int w' [] B m d (l.map Int.ofNat))\/(k=2/\Q)
attribute [irreducible] RkU
end
def aa8(cs:List bT)(q:Nat×Nat)(ls:List (List (List Int))):List (List (List Int)):=ls.flatMap fun s=>(af (cs.getD q.1 aD)).map fun m=>aak s q m
def ab5(cs:List bT):List (Nat×Nat)->List (List (List Int))->List (List (List Int))
 | [],ls=>ls
 |q::L,ls=>ab5 cs L (aa8 cs q ls)
theorem acD(cs:List bT):∀(L:List (Nat×Nat)) (ls:List (List (List Int))),ab5 cs L ls=ls.flatMap (comps cs L)
 | [],ls=>by
   induction ls with
   |nil=>rfl
   |cons s ls ih=>rw[jb,<-ih];rfl
 |q::L,ls=>by
  rw[ab5,acD cs L,aa8]
  induction ls with
  |nil=>rfl
  |cons s ls ih=>rw[jb,mL,ih,jb,List.flatMap_map,comps]
theorem ab2{cs:List bT}{L:List (Nat×Nat)}{ls:List (List (List Int))}:ls.length<=(ab5 cs L ls).length:=by
 rw[acD]
 induction ls with
 |nil=>exact cf _
 |cons s ls ih=>have d:=aad cs L s;have g:=aaP cs L;rw[jb,cJ,eh];omega
def ShL(s t:List (List Int)):Prop:=s.length=t.length/\∀i,(s.getD i []).length=(t.getD i []).length
theorem ShL.put{s t:List (List Int)}{q:Nat×Nat}{m:Int}(h:ShL s t):ShL (aak s q m) t:=⟨aaQ.trans h.1,fun i=>by
 rw[aap];split;·rw[fR];exact h.2 i
 exact h.2 i⟩
theorem ShL.at_{s t:List (List Int)}(h:ShL s t){i:Nat}{l:List Int}(hl:t[i]?=some l):∃y,s[i]?=some y/\y.length=l.length:=by
 obtain⟨u,e⟩:=bu.1 hl;have d:=h.2 i;have hs:i<s.length:=by rw[h.1];exact u
 rw[cC,cC,hl,cd hs,eK,eK]at d;exact⟨_,cd hs,d⟩
def abf(C:List Int)(q:Nat×Nat)(ls:List (List (List Int)))(a j:Nat):List (List (List Int)):=((ls.take a).flatMap fun s=>C.map fun m=>aak s q m)++(C.take j).map fun m=>aak (ls.getD a []) q m
section
variable {C:List Int}{q:Nat×Nat}{ls:List (List (List Int))}{a j:Nat}{m:Int}{s t:List (List Int)}
theorem af6(h:C[j]?=some m):abf C q ls a j++ [aak (ls.getD a []) q m]=abf C q ls a (j+1):=by unfold abf;rw[dz,dm,h,ed];rfl
theorem afF(h:a<ls.length):abf C q ls a C.length=abf C q ls (a+1) 0:=by unfold abf;rw[fT,ia,dx,mH,dm,cd h,mL,cC,cd h];simp
theorem af7(cs:List bT)(h:C=af (cs.getD q.1 aD)):abf C q ls ls.length 0=aa8 cs q ls:=by unfold abf aa8;rw[fT,ia,dx,mH,h]
theorem af8{cs:List bT}(h:∀s,s∈ls->ShL s t):∀s,s∈aa8 cs q ls->ShL s t:=fun s hs=>by obtain⟨z,h1,h2⟩:=List.mem_flatMap.1 hs;obtain⟨m,-,rfl⟩:=eE.1 h2;exact(h z h1).put
theorem adL{ls:List (List (List Int))}:(ls.flatMap fun s=>C.map fun m=>aak s q m).length=ls.length*C.length:=by
 induction ls with
 |nil=>simp
 |cons s ls ih=>rw[jb,cJ,ih,ck,eh,fY,fh,pc]
theorem af9(ha:a<ls.length)(hj:j<=C.length):(abf C q ls a j).length<=ls.length*C.length:=by unfold abf;rw[cJ,adL,ck,cI,cI];have h:=dy C.length (show a+1<=ls.length by omega);rw[fY,fh]at h;have d:=dy C.length (show min a ls.length<=a by omega);omega
end
section
open Go.RowKit Go.Shelf
structure GrS(α:Type) [kJ α] (e:TypeId)(M:List Nat)(V wr:World)(v:Value)(xs:List α):Prop where
 own:bD α e wr M V.heap.size v xs.length xs
 hM:∀q,q∈M->q<V.heap.size
 bl:Below V V wr
section
variable {α:Type} [kJ α] {e:TypeId}{M:List Nat}{V wr wz:World}{v:Value}{xs:List α}
theorem GrS.nil(hM:∀q,q∈M->q<V.heap.size):GrS α e M V V (.slice none 0 0) []:=⟨bD.nil _ _ _,hM,bL _ _⟩
theorem GrS.go(h:GrS α e M V wr v xs)(hb:Below wr wr wz):GrS α e M V wz v xs:=⟨h.own.go hb,h.hM,h.bl.trans (hb.mono h.bl.size)⟩
theorem GrS.bel(h:GrS α e M V wr v xs):b_ (bP v++M) wr:=fun q hq=>by
 rcases cK.1 hq with hq|hq;·exact(h.own.lt (bJ.1 hq)).2
 exact bX (h.hM q hq) h.bl.size
theorem GrS.ge(h:GrS α e M V wr v xs):∀q,q∈bP v->V.heap.size<=q:=fun q hq=>(h.own.lt (bJ.1 hq)).1
theorem GrS.app{t:TypeId}(h:GrS α e M V wr v xs){x:α}{cs:List Value}(ht:prog.underlying t=some (.slice e))(hi:iU e (Rep.sz α))(hx:Rep.rd wr (bP v++M) x cs)(hn:xs.length<=1000):
 ∃A' n' c' w',(Builtin.append_ #[t,t] t #[v,.slice (some ⟨wr,0,none⟩) 1 1]).run prog (wr.alloc (.cells cs.toArray e))=.ok (.slice A' n' c') w'/\GrS α e M V w' (.slice A' n' c') (xs++ [x])/\(∀b,b<wr.heap.size->b∉bP v->b∉bP (.slice A' n' c')/\w'.heap[b]?=wr.heap[b]?)/\wr.heap.size<=w'.heap.size:=by
 obtain⟨v',w',z,T,i,d,-⟩:=h.own.app1 ht hi h.bl.size (fun q y=>bX (h.hM q y) h.bl.size) hx pj;have u:(xs++ [x]).length=xs.length+1:=po;have P:GrS α e M V w' v' (xs++ [x]):=⟨by rw[u];exact T,h.hM,h.bl.grown i h.bl.size (fun k o=>(h.own.lt o).1)⟩;obtain⟨A',c',rfl⟩:=P.own.shape;refine⟨A',_,c',w',z,P,fun b hb l=>⟨fun g=>?_,i.block b hb (fun e=>l (bJ.2 e.symm))⟩,i.size⟩;rcases d with d|d;·exact l (bJ.2 (by rw[<-d];exact bJ.1 g))
 ·rw[bJ,d]at g;cases g;omega
theorem GrS.sl(h:GrS α e M V wr v xs)(hn:xs.length<=1000):∃A c,v=.slice A xs.length c/\Sl α wr M A xs.length c xs:=h.own.sl pj h.hM
end
structure adM(wr:World)(v:Value)(b:Nat)(cs:List Value):Prop where
 lt:b<wr.heap.size
 no:b∉bP v
 c:∀i u,cs[i]?=some u->wr.cell? ⟨b,i,none⟩=some u
section
variable {wr wz:World}{v v':Value}{b:Nat}{cs:List Value}
theorem adM.go(h:adM wr v b cs)(hb:Below wr wr wz):adM wz v b cs:=⟨bX h.lt hb.size,h.no,fun i u hu=>(hb.cell (p:=⟨b,i,none⟩) h.lt).trans (h.c i u hu)⟩
theorem adM.app(h:adM wr v b cs)(hb:∀b,b<wr.heap.size->b∉bP v->b∉bP v'/\wz.heap[b]?=wr.heap[b]?)(hz:wr.heap.size<=wz.heap.size):adM wz v' b cs:=by obtain⟨d,g⟩:=hb b h.lt h.no;exact⟨bX h.lt hz,d,fun i u l=>by rw[<-h.c i u l];unfold World.cell?;simp only[g]⟩
end
attribute [local go_sem] cX
def cdP(c:dS)(s:List (List Int)):aL:=(s,c.bonus,c.malus,c.prev)
theorem Sl.af_{w:World}{M:List Nat}{x:aL}{A:Option Addr}{n c k:Nat}{l:List aL}(h:Sl aL w M A n c l)(hk:l[k]?=some x):∃b o,∃t1 t2 t3 t4:dK,A=some ⟨b,o,none⟩/\(w.cell? ⟨b,o+k*4,none⟩=some t1.v/\w.cell? ⟨b,o+k*4+1,none⟩=some t2.v/\w.cell? ⟨b,o+k*4+2,none⟩=some t3.v/\w.cell? ⟨b,o+k*4+3,none⟩=some t4.v)/\jE w M (toC x) t1 t2 t3 t4/\Sl (List Int) w M t1.A t1.n t1.c x.1:=by obtain⟨b,o,y,rfl,h,d⟩:=h.get hk;obtain⟨_,_,rfl,⟨i,u,G,rfl,g⟩,_,_,rfl,⟨A2,n2,c2,rfl,h2'⟩,_,_,rfl,⟨A3,n3,c3,rfl,h3⟩,A4,n4,c4,rfl,h4⟩:=h;exact⟨b,o,⟨i,u,G⟩,⟨A2,n2,c2⟩,⟨A3,n3,c3⟩,⟨A4,n4,c4⟩,rfl,⟨d.2 0 _ rfl,d.2 1 _ rfl,d.2 2 _ rfl,d.2 3 _ rfl⟩,⟨g.less pH,h2',h3,h4⟩,g⟩
structure FiJ(M:List Nat)(w wr:World)(r:aS)(c:dS)(s1 s2 s3 s4 s5 s6 s7 t1 t2 t3 t4:dK)(A:Option Addr)(n cp:Nat)(ls:List (List (List Int)))(L:List (Nat×Nat)):Prop where
 fr:Fr w wr [(w,aV r s1 s2 s3 s4 s5 s6 s7),(w+1,dI t1 t2 t3 t4)]
 sl:Sl aL wr M A n cp (ls.map (cdP c))
 ff:ab5 r.aT L ls=av r c
 sh:∀s,s∈ls->ShL s c.marks
section
variable {M:List Nat}{w:World}{r:aS}{c:dS}{s1 s2 s3 s4 s5 s6 s7 t1 t2 t3 t4:dK}{A:Option Addr}{n cp:Nat}{ls:List (List (List Int))}{L:List (Nat×Nat)}{wr wz:World}
theorem FiJ.len(h:FiJ M w wr r c s1 s2 s3 s4 s5 s6 s7 t1 t2 t3 t4 A n cp ls L)(hm:aae r c<=400):ls.length=n/\n<=400:=by have d:=h.sl.len;rw[ck]at d;have g:=ab2 (cs:=r.aT) (L:=L) (ls:=ls);rw[h.ff,av,aad]at g;unfold aae at hm;exact⟨d,pj⟩
theorem FiJ.ajS{q:Nat×Nat}(h:FiJ M w wr r c s1 s2 s3 s4 s5 s6 s7 t1 t2 t3 t4 A n cp ls (q::L))(hm:aae r c<=400){a j:Nat}(ha:a<n)(hj:j<=(af (r.aT.getD q.1 aD)).length):(abf (af (r.aT.getD q.1 aD)) q ls a j).length<=400:=by have g:=h.len hm;have i:=af9 (C:=af (r.aT.getD q.1 aD)) (q:=q) (ls:=ls) (a:=a) pj hj;have d:=ab2 (cs:=r.aT) (L:=L) (ls:=aa8 r.aT q ls);rw[show ab5 r.aT L (aa8 r.aT q ls)=av r c from h.ff,av,aad,aa8,adL]at d;unfold aae at hm;omega
theorem aef(hr:dG w [] r s1 s2 s3 s4 s5 s6 s7)(hM:b_ M w)(hc:jE w M c t1 t2 t3 t4)(hmk:Sl (List Int) w M t1.A t1.n t1.c c.marks)(hk:∀x,x∈r.aT->rC x)(hl:c.marks.length<=r.aT.length)(hrow:∀l,l∈c.marks->l.length<=1000)(hcn:r.aT.length<=1000)(hm:aae r c<=400):
 Calls prog 11 #[.agg (aV r s1 s2 s3 s4 s5 s6 s7).toArray,.agg (dI t1 t2 t3 t4).toArray] w fun e w'=>∃A n cp,e=.returned (.slice A n cp)/\Sl aL w' M A n cp ((av r c).map (cdP c))/\Below w w w':=by
 refine wid ?_;obtain⟨W,G,N⟩:=t1;obtain⟨A3,O,Q⟩:=s1;have hmk:Sl (List Int) w M W G N c.marks:=hmk;have aE:c.marks.length=G:=hmk.len;have aK:r.aT.length=O:=hr.aT.len;have a8:G<=1000:=pj;obtain⟨W1,ba,F1⟩:=dR (((Fr.nil w).a w (aV r ⟨A3,O,Q⟩ s2 s3 s4 s5 s6 s7) 28).a (w+1) (dI ⟨W,G,N⟩ t2 t3 t4) 42);have o1:=aW F1;obtain⟨W2,aX,au,F2⟩:=fP (w:=W1) (F1.a W1 (dI ⟨W,G,N⟩ t2 t3 t4) 42);have aw:=hc.go F1.bl;have o2:=aW (F1.go au);have S2:Sl aL W2 M (some ⟨W1,0,none⟩) 1 1 [cdP c c.marks]:=by rw[<-aX];exact acg (hM.le F1.bl.size) _ (acd (x:=cdP c c.marks) aw (hmk.go F1.bl))
 have J0:=Hd (show FiJ M w W2 r c ⟨A3,O,Q⟩ s2 s3 s4 s5 s6 s7 ⟨W,G,N⟩ t2 t3 t4 (some ⟨W1,0,none⟩) 1 1 [c.marks] (aa 0 (c.marks.drop 0))from⟨F2.only (fun x hx=>by simp at hx;rcases hx with hx|hx<;>simp[hx]),S2,by rw[acD];simp[av],fun s hs=>by rw[bz]at hs;subst hs;exact⟨rfl,fun _=>rfl⟩⟩);have H:=Zw hr hc hk hrow hm hmk;have HL:=fB aE aK hl;have aU:=Hd hM;clear F1 au F2 aw S2 hM hr hc hk hrow hm hmk aE aK hl;refine ent func11 ntmps11 ?_;gi_wp2;clear o1 o2;gi_loopw[4,18] (fun l i wr=>∃(k:Nat) (A:Option Addr) (n cp:Nat) (ls:List (List (List Int))),k<=G/\i=k/\l=.slice A n cp/\Hid (FiJ M w wr r c ⟨A3,O,Q⟩ s2 s3 s4 s5 s6 s7 ⟨W,G,N⟩ t2 t3 t4 A n cp ls (aa k (c.marks.drop k)))) (fun _ i _=>G-(intOf i).toNat);case atStart=>exact⟨0,_,_,_,_,cf _,rfl,rfl,J0⟩
 case round=>
  obtain⟨k,A,n,cp,ls,hk,rfl,rfl,D⟩:=hrel;obtain⟨V0,rfl⟩:∃V,V=wr:=⟨_,rfl⟩;by_cases aF:k<G
  ·obtain⟨l,hl⟩:=dW c.marks k (by rw[HL.a];exact aF);have bb:=H.d l (bh hl);obtain⟨b,o,B,m,d,rfl,ak,aj⟩:=H.y.tX hl;obtain rfl:l.length=m:=aj.len;obtain⟨z,hz⟩:=dW r.aT k (by have:=HL.out;omega);obtain⟨b3,P,al,z0,z1,z2,z3,z4,z5,z6⟩:=H.a.aT.IU hz;have al:A3=some ⟨b3,P,none⟩:=al;subst al;have aP:=H.c z (bh hz);have ai:r.aT.getD k aD=z:=by rw[cC,hz];rfl
   have c0:=(D.out.fr.bl.cell (bw w _ ak)).trans ak;have o2:=aW D.out.fr;have J1:=Hd (show FiJ M w V0 r c ⟨some ⟨b3,P,none⟩,O,Q⟩ s2 s3 s4 s5 s6 s7 ⟨some ⟨b,o,none⟩,G,N⟩ t2 t3 t4 A n cp ls (ao k 0 (l.drop 0)++aa (k+1) (c.marks.drop (k+1)))from⟨D.out.fr,D.out.sl,by
    have h:=D.out.ff;obtain⟨hi,e⟩:=bu.1 hl
    rwa [cL hi,e,aa]at h,D.out.sh⟩)
   have a9:k<O:=by have:=HL.out;omega
   have R:=fB hl aj aP;have HZ:=h_ z1 z2 z3 ai;clear D hl aj ak aP hz z0 z1 z2 z3 z4 z5 z6 ai;gi_wp2;clear o2 c0;gi_loopw[4,25] (fun l4 i wr=>∃(j:Nat) (A:Option Addr) (n cp:Nat) (ls:List (List (List Int))),j<=l.length/\i=.int .i64 j/\l4=.slice A n cp/\Hid (FiJ M w wr r c ⟨some ⟨b3,P,none⟩,O,Q⟩ s2 s3 s4 s5 s6 s7 ⟨some ⟨b,o,none⟩,G,N⟩ t2 t3 t4 A n cp ls (ao k j (l.drop j)++aa (k+1) (c.marks.drop (k+1))))) (fun _ i _=>l.length-(intOf i).toNat);case atStart=>exact⟨0,_,_,_,_,cf _,rfl,rfl,J1⟩
   case round=>
    obtain⟨j,A,n,cp,ls,hj,rfl,rfl,D⟩:=hrel;obtain⟨V,rfl⟩:∃V,V=wr:=⟨_,rfl⟩;by_cases am:j<l.length
    ·obtain⟨b2,o2,mk,rfl,m1,-,ah,hmk⟩:=(R.b.go D.out.fr.bl).pR am;by_cases ag:mk= -1;rotate_left
     ·have a6:(mk != -1)=true:=fu.2 ag;have F:=Hd (show FiJ M w V r c ⟨some ⟨b3,P,none⟩,O,Q⟩ s2 s3 s4 s5 s6 s7 ⟨some ⟨b,o,none⟩,G,N⟩ t2 t3 t4 A n cp ls (ao k (j+1) (l.drop (j+1))++aa (k+1) (c.marks.drop (k+1)))from⟨D.out.fr,D.out.sl,by
       have h:=D.out.ff
       rwa [ah,ao,if_neg ag]at h,D.out.sh⟩)
      clear D ah hmk;gi_wp2;exact⟨⟨j+1,_,_,_,_,pj,by go_num,rfl,F⟩,by simp[intOf];omega⟩
     have a6:(mk != -1)=false:=by rw[ag];rfl
     have F:=Hd (show FiJ M w V r c ⟨some ⟨b3,P,none⟩,O,Q⟩ s2 s3 s4 s5 s6 s7 ⟨some ⟨b,o,none⟩,G,N⟩ t2 t3 t4 A n cp ls ((k,j)::(ao k (j+1) (l.drop (j+1))++aa (k+1) (c.marks.drop (k+1))))from⟨D.out.fr,D.out.sl,by
      have h:=D.out.ff
      rwa [ah,ao,if_pos ag]at h,D.out.sh⟩)
     obtain⟨aH,a7⟩:=F.out.len H.e;have hP:∀a j':Nat,a<n->j'<=(af z).length->(abf (af z) (k,j) ls a j').length<=400:=fun a j' ha a5=>by have h:=F.out.ajS H.e ha (j:=j');rw[show r.aT.getD (k,j).1 aD=z from HZ.w]at h;exact h a5
     have HP:=Hd hP;clear D ah hmk hP;gi_wp2;clear m1;gi_loopw[9,34] (fun mv i wr=>∃(a:Nat) (I:Option Addr) (n' J:Nat),a<=n/\i=a/\mv=.slice I n' J/\Hid (GrS aL 42 M V wr (.slice I n' J) ((abf (af z) (k,j) ls a 0).map (cdP c)))) (fun _ i _=>n-(intOf i).toNat);case atStart=>exact⟨0,_,_,_,cf _,rfl,rfl,Hd (GrS.nil fun q hq=>bX (aU.out q hq) F.out.fr.bl.size)⟩
     case round=>as_aux_lemma=>
      obtain⟨a,I,n',J,ha,rfl,rfl,E⟩:=hrel;obtain⟨T,rfl⟩:∃V,V=wr:=⟨_,rfl⟩;by_cases az:a<n
      ·obtain⟨s,hs⟩:=dW ls a pj;have aN:(ls.map (cdP c))[a]?=some (cdP c s):=by rw[cM,hs];rfl
       obtain⟨b5,o5,u1,u2,u3,u4,rfl,⟨v0,v1,v2,v3⟩,hcd,hcm⟩:=F.out.sl.af_ aN;have aQ:=fun{p:Addr}{u:Value}(h:V.cell? p=some u)=>(E.out.bl.cell (bw V p h)).trans h;replace v0:=aQ v0;replace v1:=aQ v1;replace v2:=aQ v2;replace v3:=aQ v3;obtain⟨W5,CZ,ac,F5⟩:=fP (w:=T) ((Fr.nil T).a T (dI u1 u2 u3 u4) 42);have B5:adM W5 (.slice I n' J) T.heap.size (dI u1 u2 u3 u4):=⟨F5.mJ 0,fun hm=>by have:=E.out.bel _ (di _ hm);omega,fun i u hu=>(F5.at_ _ _ po i u hu).1⟩;obtain⟨y,hy,aO⟩:=(F.out.sh s (bh hs)).at_ R.a;have aM:ls.getD a []=s:=by rw[cC,hs];rfl
       have G5:=Hd2 (E.out.go ac) B5;have P:=aW (F.out.fr.go (E.out.bl.trans (ac.mono E.out.bl.size)));have X:=fun{p:Addr}{u:Value}(h:w.cell? p=some u)=>((F.out.fr.bl.trans ((E.out.bl.trans (ac.mono E.out.bl.size)).mono F.out.fr.bl.size)).cell (bw w p h)).trans h;have x1:=X HZ.a;have S:=Zw hcd hy aO aM hcm (F.out.sh s (bh hs)).1;clear hs aN hcd hcm aQ F5 ac B5 hy aO aM E X;gi_wp2;clear v0 v1 v2 v3 P x1;gi_loopw[9,12] (fun mv i wr=>∃(g:Nat) (I:Option Addr) (n' J:Nat),g<=(af z).length/\i=.int .i64 (z.2.1+z.2.2.2.1*(g:Int))/\mv=.slice I n' J/\Hid (GrS aL 42 M V wr (.slice I n' J) ((abf (af z) (k,j) ls a g).map (cdP c))/\adM wr (.slice I n' J) T.heap.size (dI u1 u2 u3 u4))) (fun _ i _=>(z.2.2.1+1-intOf i).toNat);case atStart=>exact⟨0,_,_,_,cf _,po,rfl,G5⟩
       case round=>as_aux_lemma=>
        obtain⟨g,I,n',J,hg,rfl,rfl,E⟩:=hrel;obtain⟨V4,rfl⟩:∃V,V=wr:=⟨_,rfl⟩;have Z:=F.out.fr.bl.trans (E.a.bl.mono F.out.fr.bl.size);have X:=fun{p:Addr}{u:Value}(h:w.cell? p=some u)=>(Z.cell (bw w p h)).trans h;have x2:=X HZ.b;have P:=aW (F.out.fr.go E.a.bl);clear X Z;by_cases aB:g<(af z).length
        ·obtain⟨a1,a2,a3⟩:=adA R.v aB;obtain⟨aY,aZ,a0,ay,-⟩:=R.v;have a4:=(abY R.v).2.2;obtain⟨m,hm⟩:=aC (z.2.1+z.2.2.2.1*(g:Int));rw[hm]at a1 a2 a3 |-;have im:i64 m:=pA;have hno:=E.u.no;have y0:=E.u.c 0 _ rfl;have y1:=E.u.c 1 _ rfl;have y2:=E.u.c 2 _ rfl;have y3:=E.u.c 3 _ rfl;have ax:=S.a.moreL _ E.a.ge;have aG:=S.e.moreL _ E.a.ge;have HW:=Hd (aee (M:=bP (.slice I n' J)++M) (w:=V4) (c:=mkC c s) (t1:=u1) (t2:=u2) (t3:=u3) (t4:=u4) (i:=k) (k:=j) (m:=m) E.a.bel (aG.go E.a.bl) S.b (by rw[S.c];exact am) im (by show s.length<=1000;have:=S.y;have:=HL.out;omega) (by rw[S.c];exact H.d l (bh R.a)));have HM:=Hd2 (ax.go E.a.bl) (show(af z)[g]?=some m from a1);have bd:IntKind.i64.wrap (m+z.2.2.2.1)=m+z.2.2.2.1:=by rw[cA];omega
         have a_:=HP.out a g az (cY aB);have aA:=cx a2;have ap:=fB hm a2 ay;clear ax aG hno hm a1 a2 a3 aY aZ a0 ay a4 im aF am az aH a7
         gi_wp2_with (first
          |(gi_at_builtin;refine c_ rfl fun K ar=>?_;refine aI _ _ _ rfl rfl rfl JR.out (ar _ _ ?_);clear ar K)
          |(refine Cl 17 HW.out ?_;rintro e w6 ⟨s',rfl,an,ad⟩;have aq:=E.a.go ad;have B6:=E.u.go ad;have ae:=HM.a.go ad;obtain⟨A7,n7,c7,w7,r7,Y,k7,q7⟩:=aq.app (x:=cdP c (aak (ls.getD a []) (k,j) m)) (cs:=dI s' u2 u3 u4) underlying29 aed (by
             rw[S.d];exact acd (x:=cdP c (aak s (k,j) m)) ⟨an.less pH,ae.bonus,ae.malus,ae.prev⟩ an) (by rw[ck];omega)
            have B7:=B6.app k7 q7;rw[show(abf (af z) (k,j) ls a g).map (cdP c)++ [cdP c (aak (ls.getD a []) (k,j) m)]=(abf (af z) (k,j) ls a (g+1)).map (cdP c) by rw[<-af6 HM.u,ed,nt]]at Y;have JR:=Hd r7;have aR:=Hd2 Y B7;have Z:=F.out.fr.bl.trans (Y.bl.mono F.out.fr.bl.size);have o4:=aW (F.out.fr.go Y.bl);have x3:=(Z.cell (bw w _ HZ.c)).trans HZ.c;clear aq B6 ae r7 Y k7 q7 B7 an ad Z P y0 y1 y2 y3 x2)
          |fail)
         exact⟨⟨g+1,_,_,_,pj,by rw[<-ap.a];simp[mj,Int.add_assoc],rfl,aR⟩,by have:=ap.u;simp[intOf];omega⟩
        ·obtain rfl:g=(af z).length:=pj;obtain⟨a1,a2,a3⟩:=abY R.v;obtain⟨m,hm⟩:=aC (z.2.1+z.2.2.2.1*(((af z).length:Nat):Int));rw[hm]at a1 |-;have HG:=Hd (show GrS aL 42 M V V4 (.slice I n' J) ((abf (af z) (k,j) ls (a+1) 0).map (cdP c)) by rw[<-afF pj];exact E.a);clear E;gi_wp2;exact⟨⟨a+1,_,_,_,pj,by go_num,rfl,HG⟩,by simp[intOf];omega⟩
      ·obtain rfl:a=n:=pj;have ai:=HZ.w;have e:=af7 (q:=(k,j)) (ls:=ls) r.aT (C:=af z) (by rw[show r.aT.getD (k,j).1 aD=z from ai]);rw[aH]at e;have ab:=E.out;rw[e]at ab;have aA:(aa8 r.aT (k,j) ls).length<=400:=by
        have h3:=ab2 (cs:=r.aT) (L:=ao k (j+1) (l.drop (j+1))++aa (k+1) (c.marks.drop (k+1))) (ls:=aa8 r.aT (k,j) ls);rw[show ab5 r.aT _ (aa8 r.aT (k,j) ls)=av r c from F.out.ff,av,aad]at h3;have:=H.e;unfold aae at this;omega
       obtain⟨A9,c9,e9,S9⟩:=ab.sl (by rw[ck];omega);cases e9;have J3:=Hd (show FiJ M w T r c ⟨some ⟨b3,P,none⟩,O,Q⟩ s2 s3 s4 s5 s6 s7 ⟨some ⟨b,o,none⟩,G,N⟩ t2 t3 t4 I _ J (aa8 r.aT (k,j) ls) (ao k (j+1) (l.drop (j+1))++aa (k+1) (c.marks.drop (k+1)))from⟨F.out.fr.go ab.bl,S9,F.out.ff,af8 F.out.sh⟩);clear E ab S9 e aA;gi_wp2;exact⟨⟨j+1,_,_,_,_,pj,by go_num,rfl,J3⟩,by simp[intOf];omega⟩
    ·obtain rfl:j=l.length:=pj;have F:=Hd (show FiJ M w V r c ⟨some ⟨b3,P,none⟩,O,Q⟩ s2 s3 s4 s5 s6 s7 ⟨some ⟨b,o,none⟩,G,N⟩ t2 t3 t4 A n cp ls (aa (k+1) (c.marks.drop (k+1)))from⟨D.out.fr,D.out.sl,by
      have h:=D.out.ff
      rwa [cB pD,ao,df]at h,D.out.sh⟩)
     clear D;gi_wp2;exact⟨⟨k+1,_,_,_,_,pj,by go_num,rfl,F⟩,by simp[intOf];omega⟩
  ·obtain rfl:k=G:=pj;have hf:=D.out.ff;rw[cB (by have:=HL.out;omega),aa,ab5]at hf;have hs:=D.out.sl;rw[hf]at hs;have HE:=Hd2 hs D.out.fr.bl;clear hf hs D;gi_wp2;go_ret;exact⟨_,_,_,rfl,HE.out⟩
end
end
