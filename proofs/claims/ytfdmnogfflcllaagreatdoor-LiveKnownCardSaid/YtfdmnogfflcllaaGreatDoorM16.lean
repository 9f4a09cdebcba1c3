/- Lemmas. -/
import Derived.Test.YtfdmnogfflcllaaGreatDoorM14
import Derived.Test.YtfdmnogfflcllaaGreatDoorM15
set_option linter.unusedVariables false
set_option linter.unusedSimpArgs false
set_option maxRecDepth 100000
set_option maxHeartbeats 20000000
namespace Go.Proofs.YtfdmnogfflcllaaGreatDoor
open Go.Proofs.Tryz Go.RowKit Go.Shelf
variable {M N:List Nat}
section
attribute [local go_sem] cK
theorem take_same{l m:List Int}{k:Nat}{x:Int}(h:l.take k=m.take k)(h1:l[k]?=some x)(h2:m[k]?=some x):l.take (k+1)=m.take (k+1):=by rw[take_snoc h1,take_snoc h2,h]
theorem zJ(q1 q2:Bool)(A B:Option Addr)(n c m d:Nat)(l1 l2:List Int)(w:World)(hx:Sl Int w M A n c l1)(hy:Sl Int w N B m d l2):
 CB 44 #[.agg #[.bool q1,.slice A n c],.agg #[.bool q2,.slice B m d]] (.bool (decide ((q1,l1)=(q2,l2)))) w:=by
 refine wid ?_;have j:=hx.len;have h:=hy.len;have Q:=hx.small;have R:=hy.small;obtain⟨W1,O,F1⟩:=dR (((Fr.nil w).a w [.bool q1,.slice A n c] 46).a (w+1) [.bool q2,.slice B m d] 46);have U:=F1;refine op1 U ?_;intros;have X:=Hd2 hx hy;have F:=Hd F1;clear hx hy F1 U;by_cases l:q1=q2
 ·subst l;by_cases G:n=m
  ·subst G;have HN:=Hd2 j h;clear j h;refine ent func44 rfl ntmps44 ?_;gi_wp2;gi_loopw[5] (fun i wr=>∃k:Nat,k<=n/\i=.int .i64 k/\Hid (l1.take k=l2.take k)/\Hid (Fr w wr [(w, [.bool q1,.slice A n c]),(w+1, [.bool q1,.slice B n d])])) (fun i _=>n-(intOf i).toNat);case atStart=>exact⟨0,bO _,rfl,Hd rfl,F.out⟩
   case round=>
    obtain⟨k,P,rfl,S,t⟩:=hrel;have b:=t.out;refine op1 b ?_;intros;have g:=t.out.drew;refine op1 g ?_;intros;have p:=b.nth 0;have q:=b.nth 1;by_cases D:k<n
    ·obtain⟨b1,T,x,rfl,z,-,-,H⟩:=(X.a.go b.bl).pR D;obtain⟨b2,V,y,rfl,C,-,-,J⟩:=(X.u.go b.bl).pR D;have v1:=ah z;have v2:=ah C;have v3:=ah (p 1 _ rfl);have W:=ah (q 1 _ rfl);have HX:=Hd2 H J;clear z C H J p q;by_cases I:x=y;·subst I;have L:=Hd (take_same S.out HX.a HX.u);have o:=Hd g;clear b g;gi_wp2;refine aP [] 11 oF oF ?_;refine ay 0 ?_;refine ay 1 ?_;refine ay 2 ?_;refine ay 3 ?_;refine ay 4 ?_;refine ay 5 ?_;refine ay 6 ?_;refine ay 7 ?_;refine ay 8 ?_;refine ay 9 ?_;refine ay 10 ?_;refine iq 0 ?_;refine dC _ ?_;simp only[cu];gi_wp2;exact⟨⟨k+1,oE,by go_num,L,o⟩,by simp[intOf];omega⟩
     have E:decide ((q1,l1)=(q1,l2))=false:=cE (fun e=>by have K:=(lE e).2;have s:=HX.a;rw[K,HX.u]at s;exact I (eW s).symm);have r:=Hd E;have o:=Hd g.bl;clear E b g;gi_wp2;refine aP [] 11 oF oF ?_;refine ay 0 ?_;refine ay 1 ?_;refine ay 2 ?_;refine ay 3 ?_;refine ay 4 ?_;refine ay 5 ?_;refine ay 6 ?_;refine ay 7 ?_;refine ay 8 ?_;refine ay 9 ?_;refine ay 10 ?_;refine iq 0 ?_;refine dC _ ?_;simp only[cu];gi_wp2;go_ret;exact⟨by first|(rw[r.out];done)|(rw[r.out];rfl),o.out⟩
    ·obtain rfl:k=n:=oE;have v:l1=l2:=by
      have:=S.out
      rwa [bL (by rw[HN.a];exact bh _),bL (by rw[HN.u];exact bh _)]at this
     have f:=Hd (show decide ((q1,l1)=(q1,l2))=true by rw[v];simp);have HB:=Hd b.bl;clear b g v p q;gi_wp2;go_ret;exact⟨by first|(rw[f.out];done)|(rw[f.out];rfl),HB.out⟩
  have f:=Hd (show decide ((q1,l1)=(q1,l2))=false from cE (fun e=>G (by rw[<-j,<-h,(lE e).2])));clear j h;refine ent func44 rfl ntmps44 ?_;gi_wp2;go_ret;exact⟨by first|(rw[f.out];done)|(rw[f.out];rfl),F.out.bl⟩
 ·have f:=Hd (show decide ((q1,l1)=(q2,l2))=false from cE (fun e=>l (lE e).1));clear j h;cases q1<;>cases q2
  case neg.false.false=>exact absurd rfl l
  case neg.true.true=>exact absurd rfl l
  all_goals(
  clear l;refine ent func44 rfl ntmps44 ?_;gi_wp2;go_ret;exact⟨by first|(rw[f.out];done)|(rw[f.out];rfl),F.out.bl⟩)
theorem zK{va vb:Value}{x y:fC}{w:World}(ha:RV w M va x)(hb:RV w N vb y):
 CB 13 #[va,vb] (.bool (decide (x=y))) w:=by
 refine wid ?_;obtain⟨l,s,C,v,G,A,rfl,a1,a2⟩:=ha;obtain⟨m,t,q,z,H,B,rfl,b1,b2⟩:=hb;obtain⟨⟨d,j⟩,⟨q1,k1⟩⟩:=x;obtain⟨⟨f,k⟩,⟨q2,k2⟩⟩:=y;simp only at a1 a2 b1 b2 |-;obtain⟨W1,K,F1⟩:=dR (((Fr.nil w).a w [.bool d,.slice l s C,.bool q1,.slice v G A] 48).a (w+1) [.bool f,.slice m t q,.bool q2,.slice z H B] 48);refine op1 F1 ?_;intros;have X:=h_ (a1.go F1.bl) (a2.go F1.bl) (b1.go F1.bl) (b2.go F1.bl);have F:=Hd F1;clear a1 a2 b1 b2 F1;by_cases h:(d,j)=(f,k)
 ·have o:=Hd (cw h);have D:decide (((d,j),(q1,k1))=((f,k),(q2,k2)))=decide ((q1,k1)=(q2,k2)):=by rw[h];simp
  obtain⟨V,r⟩:=aC (decide (((d,j),(q1,k1))=((f,k),(q2,k2))));rw[r];have p:=Hd (D.symm.trans r);clear h D r;refine ent func13 rfl ntmps13 ?_
  gi_wp2_with (first
   |(refine⟨bq,?_⟩;gi_at_call 44;have I:=g.out;clear I;refine Cn (zJ q1 q2 v z G A H B k1 k2 _ (X.b.go g.u) (X.w.go g.u)) ?_;rintro e L ⟨rfl,E⟩;rw[p.out];have Y:=Hd (g.a.go E);clear E)
   |(refine Cl 44 (zJ d f l m s C t q j k _ X.a X.c) ?_;rintro e J ⟨rfl,i⟩;rw[o.out];have n:=F.out.go i;refine op1 n ?_;intros;have g:=Hd2 n i;clear i n)
   |fail)
  go_ret;exact⟨rfl,Y.out.bl⟩
 ·have o:=Hd (cE h);have p:=Hd (show decide (((d,j),(q1,k1))=((f,k),(q2,k2)))=false from cE (fun e=>h (lE e).1));clear h;refine ent func13 rfl ntmps13 ?_
  gi_wp2_with (first
   |(refine Cl 44 (zJ d f l m s C t q j k _ X.a X.c) ?_;rintro e J ⟨rfl,i⟩;rw[o.out];have g:=Hd (F.out.go i);clear i)
   |(refine⟨bq,?_⟩))
  go_ret;exact⟨by rw[p.out];rfl,g.out.bl⟩
end
