/- Lemmas. -/
import Derived.Test.YtfdmnogfflcllaaGreatDoorM49
import Derived.Test.YtfdmnogfflcllaaGreatDoorM16
import Derived.Test.YtfdmnogfflcllaaGreatDoorM50
set_option linter.unusedVariables false
set_option linter.unusedSimpArgs false
set_option maxRecDepth 100000
set_option maxHeartbeats 20000000
namespace Go.Proofs.YtfdmnogfflcllaaGreatDoor
open Go.Proofs.Tryz Go.RowKit Go.Shelf
theorem ET{p:Prop}(h:p:=by exact aaY (cs:= [[_,_,_,_], [_,_,_,_], [_,_,_,_], [_,_,_,_]]) (b_.nil _) 42 exL (aat (aa2 k.2.2.2.1) (aat (aa2 k.2.2.1) (aat (aa2 k.2.1) (aat (aa2 k.1) ac4)))) oR):p:=h
variable {a b n c m d:Nat}{M N:List Nat}{A B:Option Addr}{X Y:Prop}{s:dK}
section
attribute [local go_sem] cK
section
variable {r:aS}{s1 s2 s3 s4 s5 s6 s7:dK}{w:World}{k:Nat}{e:Int}{x:aJ}
theorem Ranks_nil(hr:dG w [] r s1 s2 s3 s4 s5 s6 s7)(hs:Sound r)(ht:Tab w)(hx:r.rounds[k]?=some x)(hp:x.2.2.2.2.1=false)(hf:x.2.2.2.2.2.1=false)(hlv:aa6 r.aT.length (aaL r.aT.length k (au x))=true)(hcl:r.aT.length<=1000)(hkl:k<=1000)(he:0<=e):
 Calls prog 9 #[.agg (aV r s1 s2 s3 s4 s5 s6 s7).toArray,.int .i64 k,.slice none 0 0,.int .i64 e] w fun e' w'=>e'=.returned (.tuple #[.slice none 0 0,.int .i64 1])/\Below w w w':=by
 refine wid ?_;obtain⟨W1,H,F1⟩:=dR ((((Fr.nil w).a w (aV r s1 s2 s3 s4 s5 s6 s7) 28).a (w+1) [.int .i64 e] 3).a (w+2) [.int .i64 0] 32);have z:=aW F1;have F:=Hd F1;have HB:=Hd (aa7 (hr.go F1.bl) hs (tab_below ht F1.bl) pf (bj.1 hx).1);have HL:=Hd (fun(V:World) (hb:Below w w V)=>aco (hr.go hb) hs hx hp hf hlv (tab_below ht hb) pf hcl hkl);have E:¬e<0:=oE;have P:decide (0<=e)=true:=cw he;have D:decide (e>=0)=true:=cw he;have G:decide (e<0)=false:=cE E;clear F1 hr hs ht hx hp hf hlv;refine qj func9 rfl ntmps9 ?_
 gi_wp2_with (first
  |(have g:=L.out;clear g;refine Cl 30 (aaq _ _) ?_;rintro e R ⟨rfl,rfl⟩)
  |(refine Cl 29 HB.out ?_;rintro e C ⟨rfl,l⟩;have U:=F.out.go l;have u:=aW U;obtain⟨J,I,F3⟩:=dR (U.a C (evV r s1 s2 s3 s4 s5 s6 s7 k) 79);have v:=aW F3;obtain⟨T,K,F4⟩:=dR (F3.a J [.slice none 0 0] 82);have h:=aW F4;replace F:=Hd F4;have HX:=Hd (HL.out _ F4.bl);have L:=Hd trivial;clear l U F3 F4)
  |fail)
 clear z u v h;gi_loopw[33] (fun i wr=>i=.int .i64 0/\T=wr) (fun i _=>0);case atStart=>exact⟨rfl,rfl⟩
 case round=>
  obtain⟨rfl,rfl⟩:=hrel;have h:=aW F.out
  gi_wp2_with (first
   |(have g:=q.out;clear g;refine Cl 30 (aaP _ _) ?_;rintro e W ⟨rfl,rfl⟩)
   |(refine Cl 32 HX.out ?_;rintro e S ⟨rfl,o⟩;have U:=F.out.go o;have y:=aW U;replace F:=Hd U;have q:=Hd trivial;clear o U)
   |fail)
  have t:=F.out.bl;have j:=F.out.aQ 2 0;have f3:=F.out.zN 2 0;clear h y;refine eM (f:=28) (args:=#[.pointer (some ⟨w+1+1,0,none⟩)]) oO oO oX (fun _ _=>bq) ?_;refine(aam ⟨w+1+1,0,none⟩ 1 0 [] _ j f3).mono ?_;rintro e' O Q ⟨rfl,rfl,rfl⟩;refine⟨.tuple #[.slice none 0 0,.int .i64 1],?_,rfl,t.setCell (p:=⟨w+1+1,0,none⟩) oS _⟩;simp[results,results9,go_sem,j]
end
def aag:List Int->List Int->Bool
 | [], []=>true
 |x::a,y::b=>if x=y then aag a b else false
 |_,_=>false
theorem acr:∀(a b:List Int),aag a b=true↔a=b
 | [], []=>by simp[aag]
 |x::a,y::b=>by
  simp only[aag];by_cases h:x=y;·simp[h,acr a b]
  simp[h]
 | [],_::_=>by simp[aag]
 |_::_, []=>by simp[aag]
theorem adS{a b:List Int}(h:a.length≠b.length):aag a b=false:=by rw[Bool.eq_false_iff];intro e;rw[acr]at e;exact h (by rw[e])
theorem abO(A B:Option Addr)(n c m d:Nat)(xs ys:List Int)(w:World)(hx:Sl Int w M A n c xs)(hy:Sl Int w N B m d ys)(hm:n<=1000000):
 CB 16 #[.slice A n c,.slice B m d] (.bool (aag xs ys)) w:=by
 refine(om (n:=10)).1 ?_;have H:=Hd hx;have G:=Hd hy;clear hx hy;by_cases u:n=m
 ·subst u;refine ent func16 rfl ntmps16 ?_;gi_wp2;gi_loopw[5] (fun i wr=>∃k:Nat,k<=n/\i=.int .i64 k/\Hid (aag (xs.drop k) (ys.drop k)=aag xs ys)/\Below w w wr) (fun i _=>n-(intOf i).toNat);case atStart=>exact⟨0,oE,rfl,rfl,bw _ _⟩
  case round=>
   obtain⟨k,E,rfl,v,hb⟩:=hrel;by_cases t:k<n
   ·obtain⟨b,o,x,rfl,I,_,l,_⟩:=(H.out.keep (a_ hb M)).pR t;obtain⟨b2,F,y,rfl,z,_,q,_⟩:=(G.out.keep (a_ hb N)).pR t;have g:=v.out;rw[l,q,aag]at g;have h:=Hd g;clear g l q;have C:=ah I;have D:=ah z;gi_wp2;refine ak [] [0,1,2,3,4,5,6,7,8] oF oF ?_;refine eH ?_;refine aK ?_;refine lit ?_;by_cases j:x=y
    ·rw[if_pos j]at h;subst j;gi_wp2;go_roundw;case rel=>exact⟨k+1,oE,by go_num,h.out,hb.drew⟩
     case measure=>simp[intOf];omega
    rw[if_neg j]at h;gi_wp2;go_ret;exact⟨wS h.out,hb.drew⟩
   ·have g:=v.out;rw[cA (by rw[H.out.len];omega),cA (by rw[G.out.len];omega),aag]at g;have h:=Hd g;clear g;gi_wp2;go_ret;exact⟨wS h.out,hb⟩
 ·have hs:aag xs ys=false:=by
    refine adS ?_;rw[H.out.len,G.out.len];exact u
  rw[hs];clear hs;refine ent func16 rfl ntmps16 ?_;gi_wp2;go_ret;exact⟨rfl,bw _ _⟩
abbrev I1(x:Int):Rt:=⟨x,1⟩
theorem Nk{x:Int}{w:World}(hM:b_ M w)(hx:i64 x):
 Calls prog 21 #[.int .i64 x] w fun e w'=>∃u,e=.returned u/\QW w' M u (I1 x)/\Below w w w':=by
 refine wid ?_;obtain⟨W1,T,F1⟩:=dR ((Fr.nil w).a4 w 48);refine op1 F1 ?_;intros;have y:b_ (w.heap.size::M) W1:=(hM.le F1.bl.size).cons (F1.mJ 0);have F:=Hd F1;have X:=Hd2 y hx;clear hM hx y F1;refine ent func21 rfl ntmps21 ?_
 gi_wp2_with (first
  |(refine⟨bq,?_⟩;gi_at_call 50;have K:=h.out;clear K;refine Cn (zC (M:=w::M) (n:=1) (X.a.le h.v) oV) ?_;rintro e S ⟨Z,rfl,G,j⟩;obtain⟨E,o,z,t,rfl,H⟩:=ZC.of G;have F3:=h.a.go j;refine op1 F3 ?_;intros;have g:=Hd2 F3 (show QC S (w.heap.size::M) (I1 x) D E l C q o z t from⟨h.b.go j,H⟩);clear G j F3 H)
  |(refine Cl 50 (zC (M:=w::M) (n:=x) X.a X.u) ?_;rintro e w2 ⟨U,rfl,W,i⟩;obtain⟨D,l,C,q,rfl,I⟩:=ZC.of W;have h:=fB (F.out.go i) I i.size;clear W i I)
  |fail)
 obtain⟨wF,L,O,P,Q,R,hQ,J⟩:=nN (M:=M) (g.a.aQ 0 0) (g.a.aQ 0 1) (g.a.aQ 0 2) (g.a.aQ 0 3) (x:=I1 x) g.u.num.sl g.u.den.sl g.u.num.neg g.u.den.neg g.a.bl pc;try rw[L]
 exact⟨rfl,.agg #[.bool D,.slice l C q,.bool E,.slice o z t],by simp[results,go_sem,O,P,Q,R],_,rfl,hQ,J⟩
theorem abD{xs ys:List fC}{w:World}(hx:Sl fC w M A n c xs)(hy:Sl fC w N B m d ys)(e:xs=ys):
 CB 22 #[.slice A n c,.slice B m d] (.bool true) w:=by
 refine wid ?_;subst e;have l1:=hx.len;have W:=hy.len;obtain rfl:n=m:=oE;have ab:=hx.small;have H:=Hd2 hx hy;clear hx hy W;refine ent func22 rfl ntmps22 ?_;gi_wp2;gi_loopw[5] (fun i wr=>∃k:Nat,k<=n/\i=.int .i64 k/\Hid (Below w w wr)) (fun i _=>n-(intOf i).toNat);case atStart=>exact⟨0,bO _,rfl,Hd pd⟩
 case round=>
  obtain⟨k,hk,rfl,g⟩:=hrel;by_cases aa:k<n
  ·obtain⟨x,j⟩:=dW xs k oE;obtain⟨b1,o1,D,Z,O,F,n2,Q,T,q,E,P,t,v,y⟩:=(H.a.go g.out).MG j;obtain⟨b2,o2,G,n3,R,I,n4,S,U,f0,f1,f2,f3,l,o⟩:=(H.u.go g.out).MG j;subst T;subst U;have x0:=ah q;have x1:=ah E;have x2:=ah P;have x3:=ah t;have y0:=ah f0;have y1:=ah f1;have y2:=ah f2;have y3:=ah f3;have XS:=zK (w:=wr.drew) (va:=.agg #[.bool x.1.1,.slice D Z O,.bool x.2.1,.slice F n2 Q]) (vb:=.agg #[.bool x.1.1,.slice G n3 R,.bool x.2.1,.slice I n4 S]) ⟨_,_,_,_,_,_,rfl,v.go (bw wr wr).drew,y.go (bw wr wr).drew⟩ ⟨_,_,_,_,_,_,rfl,l.go (bw wr wr).drew,o.go (bw wr wr).drew⟩;rw[cw rfl]at XS;have J:=Hd XS;clear j XS q E P t f0 f1 f2 f3 v y l o;gi_wp2;refine ak [] (List.range 10) oF oF ?_;refine eH ?_;refine aH fun K z=>aA rfl rfl wy fun L C=>?_;gi_wp2;refine Cl 13 J.out ?_;rintro e w4 ⟨rfl,h⟩;have HB:=Hd (g.out.trans (((bw wr wr).drew.trans h).mono g.out.size));refine C _ _ ⟨?_,z _ _ ?_⟩;clear C L z K;·exact a_ h _
   clear h x0 x1 x2 x3 y0 y1 y2 y3;refine lit ?_;refine eH ?_;refine aK ?_;refine lit ?_;gi_wp2;exact⟨⟨k+1,oE,by go_num,HB⟩,by simp[intOf];omega⟩
  ·gi_wp2;go_ret;exact⟨rfl,g.out⟩
theorem ac4{α:Type} [Rep α] {w:World}:Rds (α:=α) w M [] []:=trivial
theorem aat{α:Type} [Rep α] {w:World}{x:α}{xs:List α}{c:List Value}{cs:List (List Value)}(h:Rep.rd w M x c)(t:Rds w M xs cs):Rds w M (x::xs) (c::cs):=⟨h,t⟩
theorem ac5{w:World}{r:Rt}{p q:Bool}(h:QC w M r p q A n c B m d):Rep.rd w M (jd r) [.bool p,.slice A n c,.bool q,.slice B m d]:=by obtain⟨⟨rfl,g⟩,⟨rfl,h2⟩⟩:=h;exact JB (x:=jd r) g h2
structure SaB(w V:World)(p:Int)(f:Bool)(b1 bc be b5:Nat):Prop where
 t:Tab V
 bl:Below w w V
 on:OnS w V p f bc be b5
 fr:Fr w V [(b1,onC bc b5)]
section
variable {w V V':World}{p:Int}{f:Bool}{b1 bc be b5:Nat}
theorem SaB.go(h:SaB w V p f b1 bc be b5)(hb:Below V V V'):SaB w V' p f b1 bc be b5:=⟨tab_below h.t hb,h.bl.trans (hb.mono h.bl.size),h.on.go hb,h.fr.go hb⟩
theorem St.ofB(h:SaB w V p f b1 bc be b5):St V (fun U=>SaB w U p f b1 bc be b5):=by unfold St;exact fun U g=>h.go g
end
theorem SaB.put{u V0 V U:World}{bc be b5 b1:Nat}{j:Nat}{u0 v:Value}{p:Int}{f:Bool}(ht:Tab u)(on:OnS u V0 1 false bc be b5)(hb:Below V0 V0 V)(F:Fr u V ([(b5,abw 1 false be)]++ [(b1,onC bc b5)]))(hj:(abw 1 false be)[j]?=some u0)(hs:(abw 1 false be).set j v=abw p f be)(h1:b1≠b5)(hU:V.setCell ⟨b5,j,none⟩ v=U):SaB u U p f b1 bc be b5:=by subst hU;obtain⟨o,k⟩:=(on.go hb).put hj hs;have f2:=Fr.qY (L:= [(b1,onC bc b5)]) (b:=b5) (C:=abw 1 false be) (F.only (fun x hx=>by simp at hx |-;exact hx.symm)) (fun c h g=>by simp at g;rw[g.1];exact h1) hj v;exact⟨tab_below ht o.fr.bl,o.fr.bl,o,f2.hd⟩
theorem afX(h:(a<=b/\X)\/(b<a/\Y))(g:a<=b):X:=h.elim And.right (fun h=>absurd h.1 oE)
theorem ahd(h:(a<=b/\X)\/(b<a/\Y))(g:b<a):Y:=h.elim (fun h=>absurd h.1 oE) And.right
theorem afm{P Q:Prop}(h:(P/\X)\/(Q/\Y))(g:¬Q):X:=h.elim And.right (fun h=>absurd h.1 g)
theorem adv{w:World}{m:Int}(hs:Sl (List Int) w [] s.A s.n s.c [[m]]):jE w [] (toC (exC [m])) s dH dH dH:=⟨hs,Sl.Es _ _,Sl.Es _ _,Sl.Es _ _⟩
theorem aa2{w:World}{m:Int}(hs:Sl (List Int) w [] s.A s.n s.c [[m]]):Rep.rd w [] (exC [m]) (dI s dH dH dH):=acW (adv hs) hs
theorem adT{w:World}(ht:Tab w):CB 5 #[] (.bool true) w:=by
 refine wid ?_;have HT:=Hd ht;clear ht;refine ent func5 rfl ntmps5 ?_;gi_wp2;refine Cl 19 (abK _) ?_;intro e w2 H;unfold OnP at H;obtain⟨bc,be,b5,rfl,on⟩:=H;obtain⟨T,bC,F3⟩:=dR (((Fr.nil w).go on.fr.bl).a w2 (onC bc b5) 28);have hb:Below w2 w2 T:=by rw[<-bC];exact bel
 have P:=aW F3;have J:=Hd (St.ofB (show SaB w T 1 false w2.heap.size bc be b5 from⟨tab_below HT.out F3.bl,F3.bl,on.go hb,F3⟩));clear hb on F3;gi_wp2;clear P;have u:Below T T (T).drew:=pd.drew;replace J:=Hd (J.out.go u);clear u;have E:=abL J.out.at_.fr;refine aP [] 7 oF oF ?_;refine ay 0 ?_;refine eU 1 fun K l=>?_;gi_wp2;refine Cl 20 (aq _ j1) ?_;rintro e w4 ⟨s1,rfl,hs,hb⟩;replace J:=Hd ((J.out.go hb).add (fun V q=>hs.go q));refine l _ _ ⟨?_,?_⟩;clear l K;·exact a_ hb _
 clear hb hs;refine lit ?_;have X:=aaR (k:=0) (J.out.at_.2.on.rul j1) (adv J.out.at_.1) (abd (m:=(-1)) oE) (acZ (.inl rfl) oR) (Pv (abd (m:=(-1)) oE)) J.out.at_.2.t (x:=exX 1 false) rfl rfl rfl aaX oR oR;refine eU 2 fun K l=>?_;gi_wp2;refine Cl 10 X ?_;clear X;rintro e w5 ⟨h,hb⟩;obtain⟨A1,n1,c1,rfl,v⟩:=afX h (ab7 oE);rw[afT]at v;obtain rfl:=v.len.symm;replace J:=Hd (((J.out.map fun V k=>k.2).go hb).add (fun V q=>v.go q));refine l _ _ ⟨?_,?_⟩;clear l K;·exact a_ hb _
 clear hb v h;refine lit ?_;refine ay 3 ?_;refine ay 4 ?_;refine ay 5 ?_;refine ay 6 ?_
 skip
 refine iq 1 ?_;refine jW fun K l G O=>?_;gi_wp2;refine dC _ ?_;simp only[cu];gi_wp2;clear E;have u:Below w5 w5 (w5).drew:=pd.drew;replace J:=Hd (J.out.go u);clear u;have E:=abL J.out.at_.2.fr;refine aP [] 7 oF oF ?_;refine ay 0 ?_;refine eU 1 fun K l=>?_;gi_wp2;refine Cl 20 (aq _ j1) ?_;rintro e w6 ⟨s2,rfl,hs,hb⟩;replace J:=Hd ((J.out.go hb).add (fun V q=>hs.go q));refine l _ _ ⟨?_,?_⟩;clear l K;·exact a_ hb _
 clear hb hs;refine lit ?_;have X:=aaR (k:=0) (J.out.at_.2.2.on.rul j1) (adv J.out.at_.1) (abd (m:=2) oE) (acZ (.inl rfl) oR) (Pv (abd (m:=2) oE)) J.out.at_.2.2.t (x:=exX 1 false) rfl rfl rfl aaX oR oR;refine eU 2 fun K l=>?_;gi_wp2;refine Cl 10 X ?_;clear X;rintro e w7 ⟨h,hb⟩;obtain⟨A2,n2,c2,rfl,v⟩:=afX h (ab7 oE);rw[adk (m:=2) oE]at v;obtain rfl:=v.len.symm;replace J:=Hd (((J.out.map fun V k=>k.2).go hb).add (fun V q=>v.go q));refine l _ _ ⟨?_,?_⟩;clear l K;·exact a_ hb _
 clear hb v h;refine lit ?_;refine ay 3 ?_;refine ay 4 ?_;refine ay 5 ?_;refine ay 6 ?_
 skip
 refine iq 1 ?_;refine jW fun K l G O=>?_;gi_wp2;refine dC _ ?_;simp only[cu];gi_wp2;clear E;have u:Below w7 w7 (w7).drew:=pd.drew;replace J:=Hd (J.out.go u);clear u;have E:=abL J.out.at_.2.2.fr;refine aP [] 11 oF oF ?_;refine ay 0 ?_;refine eU 1 fun K l=>?_;gi_wp2;refine Cl 20 (aq _ j1) ?_;rintro e w8 ⟨an,rfl,hs,hb⟩;replace J:=Hd ((J.out.go hb).add (fun V q=>hs.go q));refine l _ _ ⟨?_,?_⟩;clear l K;·exact a_ hb _
 clear hb hs;refine lit ?_;refine eU 2 fun K l=>?_;gi_wp2;refine Cl 20 (aq _ j1) ?_;rintro e cj ⟨ao,rfl,hs,hb⟩;replace J:=Hd ((J.out.go hb).add (fun V q=>hs.go q));refine l _ _ ⟨?_,?_⟩;clear l K;·exact a_ hb _
 clear hb hs;refine lit ?_;refine eU 3 fun K l=>?_;gi_wp2;refine Cl 20 (aq _ j1) ?_;rintro e ck ⟨ap,rfl,hs,hb⟩;replace J:=Hd ((J.out.go hb).add (fun V q=>hs.go q));refine l _ _ ⟨?_,?_⟩;clear l K;·exact a_ hb _
 clear hb hs;refine lit ?_;refine eU 4 fun K l=>?_;gi_wp2;refine Cl 20 (aq _ j1) ?_;rintro e ag ⟨ar,rfl,hs,hb⟩;replace J:=Hd ((J.out.go hb).add (fun V q=>hs.go q));refine l _ _ ⟨?_,?_⟩;clear l K;·exact a_ hb _
 clear hb hs;refine lit ?_;obtain⟨aU,aZ⟩:=aC ((ag).alloc (.cells #[.slice an.A an.n an.c,.slice none 0 0,.slice none 0 0,.slice none 0 0,.slice ao.A ao.n ao.c,.slice none 0 0,.slice none 0 0,.slice none 0 0,.slice ap.A ap.n ap.c,.slice none 0 0,.slice none 0 0,.slice none 0 0,.slice ar.A ar.n ar.c,.slice none 0 0,.slice none 0 0,.slice none 0 0] 42));have hb:Below (ag).heap.size ag aU:=by rw[<-aZ];exact bel
 have z:Sl aM aU [] (some ⟨ag,0,none⟩) 4 4 exL:=by have k:=J.out.at_;rw[<-aZ];exact ET
 replace J:=Hd (((J.out.map fun V k=>k.2.2.2.2).go hb).add (fun V q=>z.go q));refine eU 5 fun K l=>?_;gi_wp2;refine⟨a_ hb _,?_⟩;clear hb z;refine lit ?_;have X:=aaS (k:=0) (e:=0) (J.out.at_.2.2.2.on.rul j1) J.out.at_.1 (fun y C=>⟨(aaz C).1,(aaz C).2.1,(aaz C).2.2.1⟩) (aap (.inl rfl)) J.out.at_.2.2.2.t (x:=exX 1 false) rfl rfl rfl aaX oR oR oR oR;refine eU 6 fun K l=>?_;gi_wp2;refine Cl 9 X ?_;clear X;rintro e az ⟨h,hb⟩;obtain⟨A3,n3,c3,rfl,v⟩:=afm h (fun⟨y,C,g⟩=>by have:=(aaz C).2.2.2;omega);rw[afU,ab9.1]at v;obtain rfl:=v.len.symm;replace J:=Hd (((J.out.map fun V k=>k.2).go hb).add (fun V q=>v.go q));refine l _ _ ⟨?_,?_⟩;clear l K;·exact a_ hb _
 clear hb v h;refine lit ?_;refine ay 7 ?_;refine ay 8 ?_;refine ay 9 ?_;refine ay 10 ?_;refine iq 1 ?_;refine jW fun K l G O=>?_;gi_wp2;refine dC _ ?_;simp only[cu];gi_wp2;clear E;have u:Below az az (az).drew:=pd.drew;replace J:=Hd (J.out.go u);clear u;have E:=abL J.out.at_.2.2.2.fr;refine aP [] 11 oF oF ?_;refine ay 0 ?_;refine eU 1 fun K l=>?_;gi_wp2;refine Cl 20 (aq _ j1) ?_;rintro e b4 ⟨au,rfl,hs,hb⟩;replace J:=Hd ((J.out.go hb).add (fun V q=>hs.go q));refine l _ _ ⟨?_,?_⟩;clear l K;·exact a_ hb _
 clear hb hs;refine lit ?_;refine eU 2 fun K l=>?_;gi_wp2;refine Cl 20 (aq _ j1) ?_;rintro e bW ⟨av,rfl,hs,hb⟩;replace J:=Hd ((J.out.go hb).add (fun V q=>hs.go q));refine l _ _ ⟨?_,?_⟩;clear l K;·exact a_ hb _
 clear hb hs;refine lit ?_;refine eU 3 fun K l=>?_;gi_wp2;refine Cl 20 (aq _ j1) ?_;rintro e bU ⟨aw,rfl,hs,hb⟩;replace J:=Hd ((J.out.go hb).add (fun V q=>hs.go q));refine l _ _ ⟨?_,?_⟩;clear l K;·exact a_ hb _
 clear hb hs;refine lit ?_;refine eU 4 fun K l=>?_;gi_wp2;refine Cl 20 (aq _ j1) ?_;rintro e aa ⟨ax,rfl,hs,hb⟩;replace J:=Hd ((J.out.go hb).add (fun V q=>hs.go q));refine l _ _ ⟨?_,?_⟩;clear l K;·exact a_ hb _
 clear hb hs;refine lit ?_;obtain⟨a0,aV⟩:=aC ((aa).alloc (.cells #[.slice au.A au.n au.c,.slice none 0 0,.slice none 0 0,.slice none 0 0,.slice av.A av.n av.c,.slice none 0 0,.slice none 0 0,.slice none 0 0,.slice aw.A aw.n aw.c,.slice none 0 0,.slice none 0 0,.slice none 0 0,.slice ax.A ax.n ax.c,.slice none 0 0,.slice none 0 0,.slice none 0 0] 42));have hb:Below (aa).heap.size aa a0:=by rw[<-aV];exact bel
 have z:Sl aM a0 [] (some ⟨aa,0,none⟩) 4 4 exL:=by have k:=J.out.at_;rw[<-aV];exact ET
 replace J:=Hd (((J.out.map fun V k=>k.2.2.2.2).go hb).add (fun V q=>z.go q));refine eU 5 fun K l=>?_;gi_wp2;refine⟨a_ hb _,?_⟩;clear hb z;refine lit ?_;have X:=aaS (k:=0) (e:=1) (J.out.at_.2.2.2.2.on.rul j1) J.out.at_.1 (fun y C=>⟨(aaz C).1,(aaz C).2.1,(aaz C).2.2.1⟩) (aap (.inl rfl)) J.out.at_.2.2.2.2.t (x:=exX 1 false) rfl rfl rfl aaX oR oR oR oR;refine eU 6 fun K l=>?_;gi_wp2;refine Cl 9 X ?_;clear X;rintro e aA ⟨h,hb⟩;obtain⟨A4,n4,c4,rfl,v⟩:=afm h (fun⟨y,C,g⟩=>by have:=(aaz C).2.2.2;omega);rw[afU,ab9.2.1]at v;obtain rfl:=v.len.symm;replace J:=Hd (((J.out.map fun V k=>k.2).go hb).add (fun V q=>v.go q));refine l _ _ ⟨?_,?_⟩;clear l K;·exact a_ hb _
 clear hb v h;refine lit ?_;refine ay 7 ?_;refine ay 8 ?_;refine ay 9 ?_;refine ay 10 ?_;refine iq 1 ?_;refine jW fun K l G O=>?_;gi_wp2;refine dC _ ?_;simp only[cu];gi_wp2;clear E;have u:Below aA aA (aA).drew:=pd.drew;replace J:=Hd (J.out.go u);clear u;have E:=abL J.out.at_.2.2.2.2.fr;refine aP [] 8 oF oF ?_;refine ay 0 ?_;refine eU 1 fun K l=>?_;gi_wp2;refine Cl 20 (aq _ j1) ?_;rintro e ac ⟨s5,rfl,hs,hb⟩;replace J:=Hd ((J.out.go hb).add (fun V q=>hs.go q));refine l _ _ ⟨?_,?_⟩;clear l K;·exact a_ hb _
 clear hb hs;refine lit ?_;obtain⟨aH,aX⟩:=aC ((ac).alloc (.cells #[.slice s5.A s5.n s5.c,.slice none 0 0,.slice none 0 0,.slice none 0 0] 42));have hb:Below (ac).heap.size ac aH:=by rw[<-aX];exact bel
 have z:Sl aM aH [] (some ⟨ac,0,none⟩) 1 1 [exC [1]]:=by have k:=J.out.at_;rw[<-aX];exact aaY (cs:= [[_,_,_,_]]) (b_.nil _) 42 [exC [1]] (aat (aa2 k.1) ac4) oR
 replace J:=Hd (((J.out.map fun V k=>k.2).go hb).add (fun V q=>z.go q));refine eU 2 fun K l=>?_;gi_wp2;refine⟨a_ hb _,?_⟩;clear hb z;refine lit ?_;have W:∀y,y∈ [exC [1]]->y∈exL:=fun y C=>by rw[bE.1 C];exact cd
 have X:=aaS (k:=0) (e:=0) (J.out.at_.2.2.2.2.2.on.rul j1) J.out.at_.1 (fun y C=>⟨(aaz (W y C)).1,(aaz (W y C)).2.1,(aaz (W y C)).2.2.1⟩) (aap (.inl rfl)) J.out.at_.2.2.2.2.2.t (x:=exX 1 false) rfl rfl rfl aaX oR oR oR oR;refine eU 3 fun K l=>?_;gi_wp2;refine Cl 9 X ?_;clear X;rintro e b6 ⟨h,hb⟩;obtain⟨A5,n5,c5,rfl,v⟩:=afm h (fun⟨y,C,g⟩=>by have:=(aaz (W y C)).2.2.2;omega);rw[aie,ab9.2.2]at v;obtain rfl:=v.len.symm;replace J:=Hd (((J.out.map fun V k=>k.2).go hb).add (fun V q=>v.go q));refine l _ _ ⟨?_,?_⟩;clear l K;·exact a_ hb _
 clear hb v h W;refine lit ?_;refine ay 4 ?_;refine ay 5 ?_;refine ay 6 ?_;refine ay 7 ?_;clear E;have P:=aW J.out.at_.2.2.2.2.2.fr;refine iq 1 ?_;refine jW fun K l G O=>?_;gi_wp2;refine dC _ ?_;simp only[cu];gi_wp2;clear P;have X:=Ranks_nil (k:=0) (e:=0) (J.out.at_.2.2.2.2.2.on.rul j1) (aap (.inl rfl)) J.out.at_.2.2.2.2.2.t (x:=exX 1 false) rfl rfl rfl aaX oR oR oR;refine Cl 9 X ?_;clear X;rintro e aB ⟨rfl,hb⟩;replace J:=Hd (J.out.go hb);clear hb;gi_wp2;have u:Below aB aB (aB).drew:=pd.drew;replace J:=Hd (J.out.go u);clear u;have E:=abL J.out.at_.2.2.2.2.2.fr;refine aP [] 7 oF oF ?_;refine ay 0 ?_;refine eU 1 fun K l=>?_;gi_wp2;refine Cl 20 (aq _ j1) ?_;rintro e b7 ⟨s6,rfl,hs,hb⟩;replace J:=Hd ((J.out.go hb).add (fun V q=>hs.go q));refine l _ _ ⟨?_,?_⟩;clear l K;·exact a_ hb _
 clear hb hs;refine lit ?_;have X:=adO (i:=1) (t1:=s6) (t2:=dH) (t3:=dH) (t4:=dH) (J.out.at_.2.2.2.2.2.2.on.rul j1) (aap (.inl rfl)) J.out.at_.2.2.2.2.2.2.t (.inr oR);refine eU 2 fun K l=>?_;gi_wp2;refine Cl 10 X ?_;clear X;rintro e aD ⟨rfl,hb⟩;replace J:=Hd ((J.out.map fun V k=>k.2).go hb);refine l _ _ ⟨?_,?_⟩;clear l K;·exact a_ hb _
 clear hb;refine lit ?_;refine ay 3 ?_;refine ay 4 ?_;refine ay 5 ?_;refine ay 6 ?_
 skip
 refine iq 1 ?_;refine jW fun K l G O=>?_;gi_wp2;refine dC _ ?_;simp only[cu];gi_wp2;clear E;have u:Below aD aD (aD).drew:=pd.drew;replace J:=Hd (J.out.go u);clear u;have E:=abL J.out.at_.2.2.2.2.2.fr;refine aP [] 7 oF oF ?_;refine ay 0 ?_;refine eU 1 fun K l=>?_;gi_wp2;refine Cl 20 (aq _ j1) ?_;rintro e b8 ⟨s7,rfl,hs,hb⟩;replace J:=Hd ((J.out.go hb).add (fun V q=>hs.go q));refine l _ _ ⟨?_,?_⟩;clear l K;·exact a_ hb _
 clear hb hs;refine lit ?_;have X:=ads (k:=0) (K:=170) (J.out.at_.2.2.2.2.2.2.on.rul j1) (adv J.out.at_.1) (aap (.inl rfl)) adi.1 oR J.out.at_.2.2.2.2.2.2.t oR;refine eU 2 fun K l=>?_;gi_wp2;refine Cl 10 X ?_;clear X;rintro e b9 ⟨rfl,hb⟩;replace J:=Hd ((J.out.map fun V k=>k.2).go hb);refine l _ _ ⟨?_,?_⟩;clear l K;·exact a_ hb _
 clear hb;refine lit ?_;refine ay 3 ?_;refine ay 4 ?_;refine ay 5 ?_;refine ay 6 ?_
 skip
 refine iq 1 ?_;refine jW fun K l G O=>?_;gi_wp2;refine dC _ ?_;simp only[cu];gi_wp2;clear E;refine Cl 19 (abK _) ?_;intro e aE H;unfold OnP at H;obtain⟨u,bX,a5,rfl,on⟩:=H;obtain⟨aI,bq,ah⟩:=dR (on.fr.a aE (onC u a5) 28);have hb:Below aE aE aI:=by rw[<-bq];exact bel
 have P:=aW ah;obtain⟨U,hU⟩:=aC (aI.setCell ⟨a5,5,none⟩ (.bool true));have I:=SaB.put (j:=5) (p:=1) (f:=true) J.out.at_.2.2.2.2.2.t on hb ah rfl rfl (Nat.ne_of_gt (on.fr.mJ 0)) hU;replace J:=Hd ((J.out.go I.bl).add (fun V q=>I.go q));clear hb on ah I;gi_wp2;clear P;have u:Below U U (U).drew:=pd.drew;replace J:=Hd (J.out.go u);clear u;have E:=abL J.out.at_.1.fr;refine aP [] 7 oF oF ?_;refine ay 0 ?_;refine eU 1 fun K l=>?_;gi_wp2;refine Cl 20 (aq _ j1) ?_;rintro e ca ⟨s8,rfl,hs,hb⟩;replace J:=Hd ((J.out.go hb).add (fun V q=>hs.go q));refine l _ _ ⟨?_,?_⟩;clear l K;·exact a_ hb _
 clear hb hs;refine lit ?_;have X:=adt (k:=0) (J.out.at_.2.1.on.rul j1) (adv J.out.at_.1) (aap (.inl rfl)) adi.2 J.out.at_.2.1.t (x:=exX 1 true) rfl rfl rfl;refine eU 2 fun K l=>?_;gi_wp2;refine Cl 10 X ?_;clear X;rintro e cb ⟨rfl,hb⟩;replace J:=Hd ((J.out.map fun V k=>k.2).go hb);refine l _ _ ⟨?_,?_⟩;clear l K;·exact a_ hb _
 clear hb;refine lit ?_;refine ay 3 ?_;refine ay 4 ?_;refine ay 5 ?_;refine ay 6 ?_
 skip
 refine iq 1 ?_;refine jW fun K l G O=>?_;gi_wp2;refine dC _ ?_;simp only[cu];gi_wp2;clear E;replace J:=Hd (J.out.map fun V k=>k.2);refine Cl 19 (abK _) ?_;intro e aF H;unfold OnP at H;obtain⟨bf,bY,a6,rfl,on⟩:=H;obtain⟨aK,br,ai⟩:=dR (on.fr.a aF (onC bf a6) 28);have hb:Below aF aF aK:=by rw[<-br];exact bel
 have P:=aW ai;obtain⟨D,bB⟩:=aC (aK.setCell ⟨a6,1,none⟩ (.int .i64 7));have I:=SaB.put (j:=1) (p:=7) (f:=false) J.out.at_.2.2.2.2.2.t on hb ai rfl rfl (Nat.ne_of_gt (on.fr.mJ 0)) bB;have o4:=aW I.fr;obtain⟨L,aj⟩:=aC (D.alloc (.cells #[.int .i64 (-1),.int .i64 (-1),.int .i64 (-1),.int .i64 (-1),.int .i64 (-1),.int .i64 (-1),.int .i64 (-1)] 3));have ab:Below D D L:=by rw[<-aj];exact bel
 have aG:L.heap.size=D.heap.size+1:=by rw[<-aj];simp
 have m1:Sl Int L [] (some ⟨D,0,none⟩) 7 7 [-1,-1,-1,-1,-1,-1,-1]:=by rw[<-aj];exact aaY (cs:= [[_], [_], [_], [_], [_], [_], [_]]) (b_.nil _) 3 [-1,-1,-1,-1,-1,-1,-1] (aat ⟨rfl,j1⟩ (aat ⟨rfl,j1⟩ (aat ⟨rfl,j1⟩ (aat ⟨rfl,j1⟩ (aat ⟨rfl,j1⟩ (aat ⟨rfl,j1⟩ (aat ⟨rfl,j1⟩ ac4))))))) oR
 obtain⟨R,ak⟩:=aC (L.alloc (.cells #[.slice (some ⟨D,0,none⟩) 7 7] 26));have al:Below L L R:=by rw[<-ak];exact bel
 have a7:R.heap.size=D.heap.size+1+1:=by rw[<-ak];simp[aG]
 have m2:Sl (List Int) R [] (some ⟨L,0,none⟩) 1 1 [[-1,-1,-1,-1,-1,-1,-1]]:=by rw[<-ak];exact aaY (cs:= [[_]]) (b_.nil _) 26 [[-1,-1,-1,-1,-1,-1,-1]] (aat ⟨_,_,_,rfl,m1⟩ ac4) oR
 rw[aG]at m2;obtain⟨bp,bV,am,Q⟩:=fP (w:=R) ((Fr.nil R).a R [.slice (some ⟨D+1,0,none⟩) 1 1,.slice none 0 0,.slice none 0 0,.slice none 0 0] 42);rw[a7]at Q;have o5:=aW Q;have q1:=aN (Q.aQ 0 1);have q2:=aN (Q.aQ 0 2);have q3:=aN (Q.aQ 0 3);have a4:Below D D bp:=(ab.trans (al.mono ab.size)).trans (am.mono (cD ab.size al.size));have S:=I.go a4;have o6:=aW S.fr;have X:=aaR (k:=0) (c:=toC (exC [-1,-1,-1,-1,-1,-1,-1])) (t1:=⟨some ⟨D+1,0,none⟩,1,1⟩) (t2:=dH) (t3:=dH) (t4:=dH) (S.on.rul j1) ⟨m2.go am,Sl.Es _ _,Sl.Es _ _,Sl.Es _ _⟩ ad2 (acZ (.inr rfl) oR) (Pv ad2) S.t (x:=exX 7 false) rfl rfl rfl aaX oR oR;replace J:=Hd (J.out.go S.bl);have HX:=Hd X;clear hb on ai I m1 m2 ab al am a4 Q S X;gi_wp2;refine Cl 10 HX.out ?_;rintro e cc ⟨h,hb⟩;obtain rfl:=ahd h (by rw[afB];decide);replace J:=Hd (J.out.go hb);clear hb h HX P o4 o5 o6 q1 q2 q3 aG a7;gi_wp2;refine Cl 21 (Nk (M:= []) (x:=0) (b_.nil _) j1) ?_;rintro e ce ⟨bZ,rfl,a8,hb⟩;obtain⟨bM,bQ,bg,bI,bs,bk,bD,bw,rfl,F⟩:=QC.of a8;replace J:=Hd ((J.out.go hb).add (fun V q=>F.go q));clear hb a8 F;gi_wp2;refine Cl 21 (Nk (M:= []) (x:=2) (b_.nil _) j1) ?_;rintro e cf ⟨b0,rfl,a9,hb⟩;obtain⟨bN,bR,bh,bJ,bt,bm,bF,bx,rfl,F⟩:=QC.of a9;replace J:=Hd ((J.out.go hb).add (fun V q=>F.go q));clear hb a9 F;gi_wp2;refine Cl 21 (Nk (M:= []) (x:=4) (b_.nil _) j1) ?_;rintro e cg ⟨b2,rfl,ba,hb⟩;obtain⟨bO,bS,bi,bK,bu,bn,bG,bz,rfl,F⟩:=QC.of ba;replace J:=Hd ((J.out.go hb).add (fun V q=>F.go q));clear hb ba F;gi_wp2;refine Cl 21 (Nk (M:= []) (x:=6) (b_.nil _) j1) ?_;rintro e Z ⟨b3,rfl,bb,hb⟩;obtain⟨bP,bT,bj,bL,bv,bo,bH,bA,rfl,F⟩:=QC.of bb;replace J:=Hd ((J.out.go hb).add (fun V q=>F.go q));clear hb bb F;obtain⟨aL,a1⟩:=aC (Z.alloc (.cells #[.bool bM,.slice bg bI bs,.bool bQ,.slice bk bD bw,.bool bN,.slice bh bJ bt,.bool bR,.slice bm bF bx,.bool bO,.slice bi bK bu,.bool bS,.slice bn bG bz,.bool bP,.slice bj bL bv,.bool bT,.slice bo bH bA] 48));have hb:Below Z Z aL:=by rw[<-a1];exact bel
 have z:Sl fC aL [] (some ⟨Z,0,none⟩) 4 4 ([(⟨0,1⟩:Rt),⟨2,1⟩,⟨4,1⟩,⟨6,1⟩].map jd):=by have k:=J.out.at_;rw[<-a1];exact aaY (cs:= [[_,_,_,_], [_,_,_,_], [_,_,_,_], [_,_,_,_]]) (b_.nil _) 48 ([(⟨0,1⟩:Rt),⟨2,1⟩,⟨4,1⟩,⟨6,1⟩].map jd) (aat (ac5 k.2.2.2.1) (aat (ac5 k.2.2.1) (aat (ac5 k.2.1) (aat (ac5 k.1) ac4)))) oR
 replace J:=Hd (((J.out.map fun V k=>k.2.2.2.2).go hb).add (fun V q=>z.go q));clear hb z;gi_wp2;refine Cl 22 (abD J.out.at_.2.2.2.2.2.1 J.out.at_.1 rfl) ?_;rintro e ch ⟨rfl,hb⟩;replace J:=Hd (J.out.go hb);clear hb;gi_wp2;have z:=(J.out.at_.1.cutFrom (k:=2) (A':=some ⟨Z,8,none⟩) oR (fun _ b o e=>by cases e;rfl)).nY (k:=1) oR;refine Cl 22 (abD J.out.at_.2.2.2.2.1 z rfl) ?_;clear z;rintro e ad ⟨rfl,hb⟩;replace J:=Hd (J.out.go hb);clear hb;obtain⟨aO,a2⟩:=aC (ad.alloc (.cells #[.int .i64 2,.int .i64 3] 3));have hb:Below ad ad aO:=by rw[<-a2];exact bel
 have z:Sl Int aO [] (some ⟨ad,0,none⟩) 2 2 [2,3]:=by rw[<-a2];exact aaY (cs:= [[_], [_]]) (b_.nil _) 3 [2,3] (aat ⟨rfl,j1⟩ (aat ⟨rfl,j1⟩ ac4)) oR
 replace J:=Hd ((J.out.go hb).add (fun V q=>z.go q));clear hb z;gi_wp2;have X:=abO _ _ _ _ _ _ _ _ _ J.out.at_.2.2.2.2.1 J.out.at_.1 oR;rw[show aag [2,3] [2,3]=true by decide]at X;refine Cl 16 X ?_;clear X;rintro e ae ⟨rfl,hb⟩;replace J:=Hd (J.out.go hb);clear hb;obtain⟨aR,a3⟩:=aC (ae.alloc (.cells #[.int .i64 1,.int .i64 2,.int .i64 3] 3));have hb:Below ae ae aR:=by rw[<-a3];exact bel
 have z:Sl Int aR [] (some ⟨ae,0,none⟩) 3 3 [1,2,3]:=by rw[<-a3];exact aaY (cs:= [[_], [_], [_]]) (b_.nil _) 3 [1,2,3] (aat ⟨rfl,j1⟩ (aat ⟨rfl,j1⟩ (aat ⟨rfl,j1⟩ ac4))) oR
 replace J:=Hd ((J.out.go hb).add (fun V q=>z.go q));clear hb z;gi_wp2;have X:=abO _ _ _ _ _ _ _ _ _ J.out.at_.2.2.2.2.1 J.out.at_.1 oR;rw[show aag [1,2,3] [1,2,3]=true by decide]at X;refine Cl 16 X ?_;clear X;rintro e af ⟨rfl,hb⟩;replace J:=Hd (J.out.go hb);clear hb;obtain⟨aT,aY⟩:=aC (af.alloc (.cells #[.int .i64 1] 3));have hb:Below af af aT:=by rw[<-aY];exact bel
 have z:Sl Int aT [] (some ⟨af,0,none⟩) 1 1 [1]:=by rw[<-aY];exact aaY (cs:= [[_]]) (b_.nil _) 3 [1] (aat ⟨rfl,j1⟩ ac4) oR
 replace J:=Hd ((J.out.go hb).add (fun V q=>z.go q));clear hb z;gi_wp2;have X:=abO _ _ _ _ _ _ _ _ _ J.out.at_.2.2.2.2.1 J.out.at_.1 oR;rw[show aag [1] [1]=true by decide]at X;refine Cl 16 X ?_;clear X;rintro e ci ⟨rfl,hb⟩;replace J:=Hd (J.out.go hb);clear hb;gi_wp2;go_ret;exact⟨rfl,J.out.at_.2.2.2.2.2.2.2.2.2.bl⟩
end
