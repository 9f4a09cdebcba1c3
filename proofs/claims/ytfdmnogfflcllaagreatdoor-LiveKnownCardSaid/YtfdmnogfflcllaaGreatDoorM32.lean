/- Lemmas. -/
import Derived.Test.YtfdmnogfflcllaaGreatDoorM31
set_option linter.unusedVariables false
set_option linter.unusedSimpArgs false
set_option maxRecDepth 100000
set_option maxHeartbeats 20000000
namespace Go.Proofs.YtfdmnogfflcllaaGreatDoor
open Go.Proofs.Tryz Go.RowKit Go.Shelf
theorem yJ{p:Prop}(h:p:=by
 gi_wp2_with (first
  |(refine Cl 52 S.out ?_;rintro e W C;obtain⟨b,rfl,hb,f⟩:=C.of;have t:=Hd (F.out.go f);have U:=aW t.out;clear hb f C;cases b)
  |(refine⟨bq,?_⟩))
 all_goals first
  |exact(gK (by assumption)).elim
  |(go_ret;exact Says.no (by first|rfl|simp[*]) t.out.bl)):p:=h
theorem EH{p:Prop}(h:p:=by refine ent func100 rfl ntmps100 ?_;gi_wp2;go_ret;exact⟨by rw[a.out];first|rfl|(simp;omega),by exact bel⟩):p:=h
variable {M:List Nat}{q:Bool}{A:Option Addr}{n c:Nat}{l:List Int}{w:World}{r:aS}{s:List (List Int)}
section
attribute [local go_sem] cK
def zF(l:List Int):Bool:=decide (l.length<=4)||(decide (2048<l.length)&&decide (l.length<=2052))
def MK(x:fC):Bool:=zF x.1.2&&zF x.2.2
theorem ML(hs:Sl Int w M A n c l):
 CB 100 #[.agg #[.bool q,.slice A n c],.int .i64 4] (.bool (zF l)) w:=by
 refine wid ?_;have g:=hs.small;obtain⟨Z,d⟩:=aC (zF l);have HZ:=Hd (show Z=(decide (n<=4)||(decide (2048<n)&&decide (n<=2052))) by rw[<-d,zF,hs.len]);rw[d];clear d hs;by_cases b:n<=4
 ·have a:=Hd (show Z=true by rw[HZ.out,cw b];rfl);refine ent func100 rfl ntmps100 ?_;gi_wp2
  all_goals first
   |exact(gK (by assumption)).elim
   |(go_ret;exact⟨by rw[a.out];first|rfl|simp[*],by exact bel⟩)
 by_cases e:2048<n
 ·by_cases f:n<=2052;·have a:=Hd (show Z=true by rw[HZ.out,cw e,cw f];simp);exact EH
  have a:=Hd (show Z=false by rw[HZ.out,cE b,cE f];simp);exact EH
 ·have a:=Hd (show Z=false by rw[HZ.out,cE b,cE e];simp);exact EH
theorem TK{p:Bool}{B:Option Addr}{m d:Nat}{k:List Int}(hx:Sl Int w M A n c l)(hy:Sl Int w M B m d k):
 CB 53 #[.agg #[.bool p,.slice A n c,.bool q,.slice B m d],.int .i64 4] (.bool (zF l&&zF k)) w:=by
 refine wid ?_;obtain⟨W1,y,F1⟩:=dR ((Fr.nil w).a w [.bool p,.slice A n c,.bool q,.slice B m d] 48);have z:=aW F1;have F:=Hd F1;have X:=Hd2 (fun V (hb:Below w w V)=>ML (q:=p) (hx.go hb)) (fun V (hb:Below w w V)=>ML (q:=q) (hy.go hb));obtain⟨o,h⟩:=aC (zF l);obtain⟨W,i⟩:=aC (zF k);rw[h,i]at X |-;clear F1 hx hy h i;cases o
 all_goals
  refine ent func53 rfl ntmps53 ?_
  gi_wp2_with (first
   |(have g:=L.out;clear g;have b:=X.u _ F.out.bl;refine Cl 100 b ?_;clear b;rintro e j ⟨rfl,f⟩;replace F:=Hd (F.out.go f);clear f)
   |(have b:=X.a _ F.out.bl;refine Cl 100 b ?_;clear b;rintro e j ⟨rfl,f⟩;replace F:=Hd (F.out.go f);have t:=aW F.out;have L:=Hd trivial;clear f)
   |(refine⟨bq,?_⟩))
  go_ret;exact⟨rfl,F.out.bl⟩
def f_(r:aS)(i:Int)(c:dS):Prop:=Sound r/\∃(k:Nat) (x:aJ),i=(k:Int)/\r.rounds[k]?=some x/\kS r k x.2.1 c=true
theorem MN{x:aJ}(h:Dj r x){c:bT}(hc:c∈r.aT):c.2.2.2.2.2.1<=127:=by have b:=h.2.2.2.1 c hc;have d:=h.1;rw[eB oE]at b;omega
theorem MO(K:Int):K=0\/(K !=0)=true:=(Decidable.em (K=0)).imp id fo.2
def zG(l:List Int):Nat:=l.count (-1)
def eY:List (List Int)->Nat
 | []=>0
 |l::s=>zG l+eY s
theorem Et(h:eY s=0):∀l,l∈s->∀m,m∈l->m≠ -1:=by
 induction s with
 |nil=>intro l a;cases a
 |cons l s ih=>
  rw[eY]at h;intro b a m k;rcases cB.1 a with rfl|a;·rintro rfl;have:=List.count_pos_iff.2 k;have d:zG b=0:=oE;unfold zG at d;omega
  ·exact ih oE b a m k
theorem Py(h:¬eY s=0):∃l,l∈s/\ -1∈l:=by
 induction s with
 |nil=>exact absurd rfl h
 |cons l s ih=>
  rw[eY]at h;by_cases d:zG l=0;·obtain⟨b,a,D⟩:=ih oE;exact⟨b,bz _ a,D⟩
  ·exact⟨l,cd,List.count_pos_iff.1 (Nat.pos_of_ne_zero d)⟩
structure yI(r:aS)(c:dS):Prop where
 fw:Sm r/\r.rounds.length<=12
 parts:∀x,x∈r.rounds->nodes (au x)<=60
 lens:c.marks.length<=70/\c.bonus.length<=70/\c.malus.length<=70/\c.prev.length<=10
 mark:∀l,l∈c.marks->l.length<=20
 prev:∀q,q∈c.prev->MK q=true
def TP(w:World)(R:List (Nat×List Value))(Q:Nat->Prop)(n:Nat)(i:Value)(wr:World):Prop:=∃k:Nat,k<=n/\i=.int .i64 k/\Hid (Q k)/\Hid (Fr w wr R)
attribute [irreducible] TP
theorem zH{s1 s2 s3 s4 s5 s6 s7:dK}{c:dS}{t1 t2 t3 t4:dK}(hr:dG w M r s1 s2 s3 s4 s5 s6 s7)(hc:jE w M c t1 t2 t3 t4):
 Calls prog 23 #[.agg (aV r s1 s2 s3 s4 s5 s6 s7).toArray,.agg (dI t1 t2 t3 t4).toArray] w (Says (yI r c) w):=by
 refine wid ?_;obtain⟨P,hP⟩:=aC (yI r c);rw[hP];obtain⟨A5,K,c5⟩:=s5;obtain⟨X,E,c1⟩:=t1;obtain⟨Y,G,c4⟩:=t4;have h5:Sl aJ w M A5 K c5 r.rounds:=hr.rounds;have h1:Sl (List Int) w [] X E c1 c.marks:=hc.marks;have h4:Sl fC w M Y G c4 c.prev:=hc.prev;have JC:=h5.small;obtain⟨W1,aj,F1⟩:=dR (((Fr.nil w).a w (aV r s1 s2 s3 s4 ⟨A5,K,c5⟩ s6 s7) 28).a (w+1) (dI ⟨X,E,c1⟩ t2 t3 ⟨Y,G,c4⟩) 42);have T:=aW F1;have HX:=Hd (fun V (hb:Below w w V)=>Sv (hr.go hb));have F:=Hd F1;have H:=fB h5 h1 h4;have HL:=oK h5.len h1.len h4.len hc.bonus.len hc.malus.len;clear F1 hr hc h5 h1 h4;obtain⟨R,hR⟩:∃R:List (Nat×List Value), [(w.heap.size,aV r s1 s2 s3 s4 ⟨A5,K,c5⟩ s6 s7),(w+1,dI ⟨X,E,c1⟩ t2 t3 ⟨Y,G,c4⟩)]=R:=⟨_,rfl⟩;have L:=Hd (show ∀V,Fr w V R↔Fr w V [(w,aV r s1 s2 s3 s4 ⟨A5,K,c5⟩ s6 s7),(w+1,dI ⟨X,E,c1⟩ t2 t3 ⟨Y,G,c4⟩)]from fun V=>by rw[hR]);have F0:=Hd ((L.out _).2 F.out);have HP:=Hd hP;obtain⟨Q5,ZT⟩:∃Q:Nat->Prop,∀k,Q k↔∀x,x∈r.rounds.take k->nodes (au x)<=60:=⟨_,fun _=>oA⟩;obtain⟨Q1,ac⟩:∃Q:Nat->Prop,∀k,Q k↔∀x,x∈c.marks.take k->x.length<=20:=⟨_,fun _=>oA⟩;obtain⟨Q4,Vt⟩:∃Q:Nat->Prop,∀k,Q k↔∀x,x∈c.prev.take k->MK x=true:=⟨_,fun _=>oA⟩;have Qq:=Hd ZT;have sD:=Hd ac;have Z:=Hd Vt;clear hR hP ZT ac Vt;refine ent func23 rfl ntmps23 ?_;gi_wp2;clear T;gi_loopw[5] (fun i wr=>TP w R Q5 K i wr) (fun i _=>K-(intOf i).toNat);case atStart=>unfold TP;exact⟨0,bO _,rfl,Hd ((Qq.out 0).2 oO),F0⟩
 case round=>
  unfold TP at hrel;obtain⟨k,hk,rfl,D,I⟩:=hrel;have F:=Hd ((L.out _).1 I.out);have T:=aW F.out;have S:=Hd (HX.out _ F.out.bl);by_cases J:k<K
  ·by_cases ak:k<20
   ·obtain⟨y,N⟩:=dW r.rounds k (by rw[HL.a];exact J);obtain⟨b1,u1,D1,m1,e1,rfl,-,⟨x6,x7,x8,x9,al⟩,-,-,-,hs1⟩:=(H.a.go F.out.bl).iw N;have ab:=Hd (yR (au y) hs1 (show 60<=100000 by omega));obtain⟨z,O⟩:=aC (qU (nodes (au y)) 60);rw[O]at ab;have HZ:=Hd2 O N;clear O N hs1;by_cases hg:((z:Nat):Int)>60
    all_goals gi_wp2_with (first
     |(refine Cl 51 ab.out ?_;rintro e W ⟨rfl,f⟩;have t:=Hd (F.out.go f);clear f)
     |fail)
    ·go_ret;exact Says.no rfl t.out.bl
    exact⟨by unfold TP;exact⟨k+1,oE,by go_num,Hd ((Qq.out _).2 (bY HZ.u ((Qq.out k).1 D.out) (by have h:=HZ.a;unfold qU at h;omega))),Hd ((L.out _).2 t.out)⟩,by simp[intOf];omega⟩
   have ag:=Hd (show ¬r.rounds.length<=12 by rw[HL.a];omega)
   gi_wp2_with (first
    |(refine Cl 52 S.out ?_;rintro e W C;obtain⟨b,rfl,hb,f⟩:=C.of;have t:=Hd (F.out.go f);have U:=aW t.out;have HB:=Hd hb;clear hb f C;cases b;rotate_left;·exact absurd (HB.out oY).2 ag.out)
    |(refine⟨bq,?_⟩))
   go_ret;exact Says.no (by first|rfl|simp[*]) t.out.bl
  ·obtain rfl:k=K:=oE;have ai:=Hd (show ∀x,x∈r.rounds->nodes (au x)<=60 by have h:=(Qq.out k).1 D.out;rwa [bL (by rw[HL.a];exact bh _)]at h);clear hk J D;by_cases g1:((E:Nat):Int)>70;·exact yJ
   by_cases g2:((t2.n:Nat):Int)>70;·exact yJ
   by_cases g3:((t3.n:Nat):Int)>70;·exact yJ
   by_cases g4:((G:Nat):Int)>10;·exact yJ
   gi_wp2_with (first
    |(refine Cl 52 S.out ?_;rintro e W C;obtain⟨b,rfl,hb,f⟩:=C.of;have t:=Hd (F.out.go f);have U:=aW t.out;have HB:=Hd hb;clear hb f C;cases b)
    |(refine⟨bq,?_⟩))
   all_goals try exact(gK (by assumption)).elim
   ·go_ret;exact Says.no (by first|rfl|simp[*]) t.out.bl
   have ah:=Hd ((L.out _).2 t.out);clear T U F I;gi_loopw[6] (fun i wr=>TP w R Q1 E i wr) (fun i _=>E-(intOf i).toNat);case atStart=>unfold TP;exact⟨0,bO _,rfl,Hd ((sD.out 0).2 oO),ah⟩
   case round=>
    unfold TP at hrel;obtain⟨j,hj,rfl,D,I⟩:=hrel;have F:=Hd ((L.out _).1 I.out);have T:=aW F.out;by_cases J:j<E
    ·obtain⟨l,hl⟩:=dW c.marks j (by rw[HL.b];exact J);obtain⟨b,o,B,m,d,rfl,c0,af⟩:=(H.b.go F.out.bl).tX hl;have HT:=Hd2 hl af.len;clear hl af;by_cases hm:((m:Nat):Int)>20;·gi_wp2;go_ret;exact Says.no rfl F.out.bl
     gi_wp2;exact⟨by unfold TP;exact⟨j+1,oE,by go_num,Hd ((sD.out _).2 (bY HT.a ((sD.out j).1 D.out) (by rw[HT.u];omega))),I⟩,by simp[intOf];omega⟩
    ·obtain rfl:j=E:=oE;have Dx:=Hd (show ∀x,x∈c.marks->x.length<=20 by have h:=(sD.out j).1 D.out;rwa [bL (by rw[HL.b];exact bh _)]at h);clear hj J D;gi_wp2;clear T F;gi_loopw[7] (fun i wr=>TP w R Q4 G i wr) (fun i _=>G-(intOf i).toNat);case atStart=>unfold TP;exact⟨0,bO _,rfl,Hd ((Z.out 0).2 oO),I⟩
     case round=>
      unfold TP at hrel;obtain⟨g,hg,rfl,D,I⟩:=hrel;have F:=Hd ((L.out _).1 I.out);have T:=aW F.out;by_cases J:g<G
      ·obtain⟨y,N⟩:=dW c.prev g (by rw[HL.c];exact J);obtain⟨b,o,E1,n1,a1,E2,n2,a2,rfl,x0,x1,x2,x3,ad,ae⟩:=(H.v.go F.out.bl).MG N;have aa:=Hd (TK (p:=y.1.1) (q:=y.2.1) ad ae);obtain⟨z,O⟩:=aC (zF y.1.2&&zF y.2.2);rw[O]at aa;have HY:=Hd2 N (show MK y=z from O);clear N O ad ae;cases z
       all_goals gi_wp2_with (first
        |(refine Cl 53 aa.out ?_;rintro e w3 ⟨rfl,f⟩;have F3:=Hd (F.out.go f);clear f)
        |fail)
       ·go_ret;exact Says.no rfl F3.out.bl
       exact⟨by unfold TP;exact⟨g+1,oE,by go_num,Hd ((Z.out _).2 (bY HY.a ((Z.out g).1 D.out) HY.u)),Hd ((L.out _).2 F3.out)⟩,by simp[intOf];omega⟩
      ·obtain rfl:g=G:=oE;have HE:=Hd (show P by
        have h:=(Z.out g).1 D.out;rw[bL (by rw[HL.c];exact bh _)]at h;have l1:=HL.out;rw[<-HP.out];exact⟨HB.out oY,ai.out,⟨oE,oE,oE,oE⟩,Dx.out,h⟩)
       clear hg J D;gi_wp2;go_ret;exact Says.yes rfl HE.out F.out.bl
end
