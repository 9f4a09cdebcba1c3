/- Lemmas -/
import Derived.Test.YtfdmnogfflcllaaGreatDoorM21
set_option linter.all false
set_option maxRecDepth 100000
set_option maxHeartbeats 0
namespace Go.Proofs.YtfdmnogfflcllaaGreatDoor
open Go.Proofs.Tryz
theorem akE{p:Prop}(h:p:=by
 clear mk G I J;rcases F with rfl|rfl;·exact kM
 exact kM):p:=h
theorem akF{p:Prop}(h:p:=by
 refine ent func107 ntmps107 ?_
 gi_wp2_with (first
  |(refine Cl 105 (aj _ _ _ _) ?_;rintro e b ⟨rfl,rfl⟩;rw[R.out])
  |(refine⟨bO,?_⟩))
 go_ret;exact ab.no (by first|rfl|simp[*]) HN.out HF.out.bl):p:=h
theorem akH{p:Prop}(h:p:=by
 first
  |omega
  |(have g:=R.out;simp at g;omega)
  |(rcases h with h|h|h|⟨-,-,h⟩;·exact f h
    ·exact j h
    ·exact l h
    ·exact hs h)):p:=h
theorem kM{p:Prop}(h:p:=by
 refine ent func154 ntmps154 ?_;gi_wp2;refine ak [] [0,1,2,3,4,5,6] pk pk ?_;refine eH ?_;refine aH fun K f=>aA rfl rfl wy fun z j=>?_;gi_wp2;refine Cl 191 (bH _ _) ?_;rintro e o ⟨rfl,rfl⟩;rw[q.out];refine j _ _ ⟨?_,f _ _ ?_⟩;clear j z f K;·exact cG _ _
 refine lit ?_;refine eH ?_;refine aK ?_;refine lit ?_
 gi_wp2_with (first
  |(have g:=N.out;clear g;refine Cl 105 (aj _ _ _ _) ?_;rintro e o ⟨rfl,rfl⟩;rw[E.out])
  |(refine Cl 105 (aj _ _ _ _) ?_;rintro e o ⟨rfl,rfl⟩;rw[D.out];have N:=Hd trivial)
  |(refine⟨bO,?_⟩))
 go_ret;exact ab.no (by first|rfl|simp[*]) C.out HF.out.bl.drew):p:=h
theorem tZ{p:Prop}(h:p:=by
 obtain⟨j,X,rfl,S,f⟩:=hrel;have o3:=aW f.out;by_cases J:j<m
 ·obtain⟨y,q⟩:=dW l j (by rw[HL.out];exact J);obtain⟨b,o,B,m',d',rfl,⟨p0,p1,p2,p3,p4⟩,-,hys⟩:=(Q.u.go f.out.bl).qQ q;have T:=Hd (Q.a y (bh q) hys);have HY:=Hd q;clear q hys
  gi_wp2_with (first
   |(refine Cl 154 T.out ?_;rintro e D N;obtain⟨b,rfl,hb,I⟩:=N.of;have F:=Hd (f.out.go I);have HB:=Hd hb;clear hb I N;cases b)
   |fail)
  ·go_ret;exact ab.no rfl (by rw[<-E.a];exact fun h=>hno HB (fun z C=>h z (by rw[lW];exact bE _ (qF (bh HY.out) C)))) F.out.bl
  exact⟨⟨j+1,pj,by go_num,Hd (bY HY.out S.out (HB.out.1 pC)),F⟩,by simp[intOf];omega⟩
 obtain rfl:j=m:=pj;have V:=Hd (show P by rw[<-E.a];refine o_ (Dw E.u) (fun z C=>S.out z ?_);rw[bR (by rw[HL.out];exact bj _)];exact C);clear X J;gi_wp2;go_ret;exact ab.yes rfl V.out f.out.bl):p:=h
theorem t_{p:Prop}(h:p:=by
 have HN:=Hd (show ¬rC (s,lo,b,j,f,l,rv)from fun h=>by
  have h:0<=lo/\lo<b/\b<=1000/\1<=j/\(b-lo).tmod j=0/\1<=f/\f<=3/\0<=l/\(l=0\/f=2):=h
  first
   |omega
   |(have g:=R.out;simp at g;omega))
 refine ent func106 ntmps106 ?_
 gi_wp2_with (first
  |(refine Cl 105 (aj _ _ _ _) ?_;rintro e o ⟨rfl,rfl⟩;rw[R.out])
  |(refine⟨bO,?_⟩))
 go_ret;exact ab.no (by first|rfl|simp[*]) HN.out HF.out.bl):p:=h
theorem zQ{p:Prop}(h:p:=by exact⟨false,false,by rw[b];rfl,fun _=>F pj pj,fun e=>(by cases e),fun _=>⟨(a pj).1,fun _=>(a pj).2 pj pj⟩⟩):p:=h
theorem z_{p:Prop}(h:p:=by
 obtain⟨y,g⟩:=dW l j (by rw[HL.out];exact G);obtain⟨b,o,B,Y,X,rfl,⟨p0,p1,p2,p3,p4⟩,-,hys⟩:=(H.u.go f.out.bl).qQ g;have J:=Hd (H.a y (bh g) (at_:=at_) hys);have HY:=Hd g;clear g hys
 gi_wp2_with (first
  |(refine Cl 58 J.out ?_;rintro e w2 I;obtain⟨b,rfl,hb,F⟩:=I.of;have C:=Hd (f.out.go F);have HB:=Hd hb;clear hb F I;cases b)
  |fail)
 ·exact⟨⟨j+1,pj,by go_num,Hd (bY HY.out S.out (HB.out.1 pC)),C⟩,by simp[intOf];omega⟩
 go_ret;exact mZ.yes rfl (by rw[<-D.out];intro h;have E:=HB.out.2 (fun z q=>h z (by rw[lW];exact bE _ (qF (bh HY.out) q)));cases E) C.out.bl):p:=h
theorem Aw{p:Prop}(h:p:=by have HN:=Hd (show ¬sZ (k,s,n)from fun h=>by have h:k=1\/k=2\/k=5\/((k=3\/k=4\/k=6)/\n=0/\s.toList= []):=h;exact akH);exact akF):p:=h
theorem AZ{p:Prop}(h:p:=by
 gi_wp2;refine ak [] [0,1,2,3,4,5,6,7,8,9,10,11,12,13,14,15,16,17,18] pk pk ?_;repeat(first|refine jR ?_|refine dY ?_|refine jS ?_|refine dY ?_ rfl rfl (dU rfl (by(simp[yielded];rfl))))
 refine aK ?_;refine lit ?_;gi_wp2;go_ret;exact ab.no rfl (fun h=>by have D:=(F.out h).2.2.2.1 c (bh K.a);have O:=(F.out h).1;rw[K.u,eO pj]at D;omega) V.out.bl):p:=h
theorem FH{p:Prop}(h:p:=by have b:(l.length:Int)=0:=b;exact⟨false,true,by rw[b];rfl,fun e=>(by cases e),fun e=>(by cases e),fun _=>⟨(a pj).1,fun e=>(by cases e)⟩⟩):p:=h
theorem Uj{p:Prop}(h:p:=by exact⟨true,false,by rw[b];rfl,fun _=>F pj pj,fun _=>f pj,fun e=>(by cases e)⟩):p:=h
theorem Y2{p:Prop}(h:p:=by gi_wp2;go_ret;exact⟨by rw[HM.out];first|rfl|simp[C],HB.out⟩):p:=h
variable {y x:aU}{t:TypeId}{p:Prop}{w':World}{M M':List Nat}{A B:Option Addr}{m c n d i:Nat}{r:aS}{s1 s2 s3 s4 s5 s6 s7:dK}{nm:ByteArray}{ks:List bK}{ts:List dA}
def mV(k:Int):Int:=if k=1\/k=2\/k=3\/k=4\/k=5 then 0 else if k=8 then 1 else if k=6\/k=7\/k=9\/k=10 then 2 else if k=11 then 4 else-1
structure Jg(y:aU):Prop where
 len:((y.l.length:Nat):Int)=mV y.kind
 num:(y.kind=1\/y.kind=8)->0<=y.n/\y.n<=1099511627776/\1<=y.d/\y.d<=1099511627776
 no:¬(y.kind=1\/y.kind=8)->y.d=0/\(¬y.kind=2->¬y.kind=5->y.n=0)
 name:¬y.kind=2->¬y.kind=5->y.name.toList= []
theorem Dw(h:Jg y):pX y:=by
 obtain⟨b,f,a,F⟩:=h;obtain⟨k,s,n,d,l⟩:=y;simp only[aU.kind,aU.name,aU.n,aU.d,aU.l]at b f a F;have g:k=1\/k=2\/k=3\/k=4\/k=5\/k=6\/k=7\/k=8\/k=9\/k=10\/k=11:=by
  unfold mV at b
  repeat' split at b
  all_goals omega
 unfold pX;simp only[aU.kind,aU.name,aU.n,aU.d,aU.l];rcases g with rfl|rfl|rfl|rfl|rfl|rfl|rfl|rfl|rfl|rfl|rfl;·have b:(l.length:Int)=0:=b;exact Uj
 ·exact FH
 ·have b:(l.length:Int)=0:=b;exact zQ
 ·have b:(l.length:Int)=0:=b;exact zQ
 ·exact FH
 ·have b:(l.length:Int)=2:=b;exact zQ
 ·have b:(l.length:Int)=2:=b;exact zQ
 ·have b:(l.length:Int)=1:=b;exact Uj
 ·have b:(l.length:Int)=2:=b;exact zQ
 ·have b:(l.length:Int)=2:=b;exact zQ
 have b:(l.length:Int)=4:=b;exact zQ
theorem Qn{y:aU}:∀{l:List aU},y∈Ah l->∃z,z∈l/\y∈iZ z
 | [],h=>by rw[Ah]at h;cases h
 |x::l,h=>by
  rw[Ah]at h;rcases cK.1 h with h|h;·exact⟨x,cw,h⟩
  obtain⟨z,a,b⟩:=Qn h;exact⟨z,bE _ a,b⟩
theorem o_{Q:aU->Prop}(h:Q x)(hl:∀z,z∈x.l->∀y,y∈iZ z->Q y):∀y,y∈iZ x->Q y:=by
 intro y g;rw[lW]at g;rcases cD.1 g with rfl|g;·exact h
 obtain⟨z,a,b⟩:=Qn g;exact hl z a y b
theorem bY{α:Type}{Q:α->Prop}{l:List α}{k:Nat}{y:α}(hy:l[k]?=some y)(h:∀z,z∈l.take k->Q z)(hq:Q y):∀z,z∈l.take (k+1)->Q z:=by
 intro z a;rw[dm,hy]at a;rcases cK.1 a with a|a;·exact h z a
 rw[iA,bz]at a;rw[a];exact hq
theorem Qo:∀(l:List Int) (a:Int),(∀x,x∈l->0<=x)->(∀x,l[0]?=some x->x<=a)->(∀(i:Nat) (x y:Int),l[i]?=some x->l[i+1]?=some y->y<=x)->pW a l
 | [],_,_,_,_=>bO
 |n::l,a,h0,h1,h2=>⟨h0 n cw,h1 n rfl,Qo l n (fun x hx=>h0 x (bE _ hx)) (fun x hx=>h2 0 n x rfl (by simpa using hx)) (fun i x y hx hy=>h2 (i+1) x y (by simpa using hx) (by simpa using hy))⟩
theorem Yo{t p:Int}(h1:t<=256)(h2:2*t<p)(hp:1<=p):t<(p+1).tdiv 2:=by rw[eO pj];omega
section
open Go.RowKit Go.Shelf
attribute [local go_sem] cX
def Says(p:Prop)(w:World)(e:Ending)(w':World):Prop:=∃b:Bool,e=.returned b/\(b=true->p)/\Below w w w'
attribute [irreducible] Says
theorem Says.no{w:World}{e:Ending}(h:e=.returned false)(hb:Below w w w'):Says p w e w':=by unfold Says;exact⟨false,h,fun e=>(by cases e),hb⟩
theorem Says.yes{w:World}{e:Ending}(h:e=.returned true)(hp:p)(hb:Below w w w'):Says p w e w':=by unfold Says;exact⟨true,h,fun _=>hp,hb⟩
theorem Says.of{w:World}{e:Ending}(h:Says p w e w'):∃b:Bool,e=.returned b/\(b=true->p)/\Below w w w':=by unfold Says at h;exact h
def ab(p:Prop)(w:World)(e:Ending)(w':World):Prop:=∃b:Bool,e=.returned b/\(b=true↔p)/\Below w w w'
attribute [irreducible] ab
theorem ab.no{w:World}{e:Ending}(h:e=.returned false)(hn:¬p)(hb:Below w w w'):ab p w e w':=by unfold ab;exact⟨false,h,⟨fun e=>(by cases e),fun h=>absurd h hn⟩,hb⟩
theorem ab.yes{w:World}{e:Ending}(h:e=.returned true)(hp:p)(hb:Below w w w'):ab p w e w':=by unfold ab;exact⟨true,h,⟨fun _=>hp,fun _=>rfl⟩,hb⟩
theorem ab.of{w:World}{e:Ending}(h:ab p w e w'):∃b:Bool,e=.returned b/\(b=true↔p)/\Below w w w':=by unfold ab at h;exact h
theorem hno{q:Prop}(h:Hid (q↔p))(hp:p)(hq:¬q:=by simp):False:=hq (h.out.2 hp)
theorem aj(n low high:Int)(w:World):Calls prog 105 #[n,low,high] w fun e w'=>e=.returned (.bool (decide (low<=n)&&decide (n<=high)))/\w=w':=by
 refine wid ?_;by_cases a:low<=n;·refine ent func105 ntmps105 ?_;gi_wp2;go_ret;exact⟨by simp[a],rfl⟩
 refine ent func105 ntmps105 ?_;gi_wp2;go_ret;have b:¬low<=n:=pj;exact⟨by simp[b],rfl⟩
theorem RS(x:bT)(w:World):Calls prog 106 #[.agg #[x.1,x.2.1,x.2.2.1,x.2.2.2.1,x.2.2.2.2.1,x.2.2.2.2.2.1,x.2.2.2.2.2.2]] w (ab (rC x) w):=by
 obtain⟨s,lo,b,j,f,l,rv⟩:=x;refine wid ?_;obtain⟨q,C⟩:=aC (decide (1<=f)&&decide (f<=3));have R:=Hd C;obtain⟨W1,I,F1⟩:=dR ((Fr.nil w).a w [s,lo,b,j,f,l,rv] 59);refine op1 F1 ?_;intros;have HF:=Hd F1;clear F1 C;by_cases a1:lo<0;·exact t_
 by_cases a2:b<=lo;·exact t_
 by_cases a3:1000<b;·exact t_
 by_cases G:j<1;·exact t_
 have n5:¬j=0:=pj;have J:IntKind.i64.wrap (b-lo)=b-lo:=by rw[cA];omega
 obtain⟨t,X⟩:=aC ((b-lo).tmod j);have n7:t.natAbs<=1000:=by rw[<-X,Int.natAbs_tmod];exact cF (Nat.mod_le _ _) pj
 have K:IntKind.i64.wrap t=t:=by rw[cA];omega
 by_cases D:t=0;rotate_left;·exact t_
 subst D;have z:=Hd X;cases q;·exact t_
 by_cases H:0<=l;rotate_left;·exact t_
 have HB:=Hd (show 1<=f/\f<=3 by have h:=R.out;simpa using h);by_cases E:l=0
 ·subst E;refine ent func106 ntmps106 ?_
  gi_wp2_with (first
   |(refine Cl 105 (aj _ _ _ _) ?_;rintro e o ⟨rfl,rfl⟩;rw[R.out])
   |(refine⟨bO,?_⟩))
  go_ret;exact ab.yes (by first|rfl|simp[*]) ⟨pj,pj,pj,pj,z.out,HB.out.1,HB.out.2,pj,.inl rfl⟩ HF.out.bl
 by_cases F:f=2
 ·subst F;refine ent func106 ntmps106 ?_
  gi_wp2_with (first
   |(refine Cl 105 (aj _ _ _ _) ?_;rintro e o ⟨rfl,rfl⟩;rw[R.out])
   |(refine⟨bO,?_⟩))
  go_ret;exact ab.yes (by first|rfl|simp[*]) ⟨pj,pj,pj,pj,z.out,HB.out.1,HB.out.2,pj,.inr rfl⟩ HF.out.bl
 exact t_
theorem bH(k:Int)(w:World):Calls prog 191 #[k] w fun e w'=>e=.returned (.int .i64 (mV k))/\w=w':=by
 refine wid ?_;by_cases h:k=1\/k=2\/k=3\/k=4\/k=5\/k=6\/k=7\/k=8\/k=9\/k=10\/k=11
 ·rcases h with rfl|rfl|rfl|rfl|rfl|rfl|rfl|rfl|rfl|rfl|rfl
  all_goals
   refine ent func191 ntmps191 ?_;gi_wp2;go_ret;exact⟨rfl,rfl⟩
 simp only[not_or]at h;obtain⟨b,j,s,F,l,o,q,z,C,f,g⟩:=h;have a:=Hd (show mV k= -1 by unfold mV;rw[if_neg pj,if_neg pj,if_neg pj,if_neg pj]);refine ent func191 ntmps191 ?_;gi_wp2;go_ret;exact⟨by rw[a.out];rfl,rfl⟩
theorem Oi(x:bK)(w:World):Calls prog 107 #[.agg #[x.1,x.2.1,x.2.2]] w (ab (sZ x) w):=by
 obtain⟨k,s,n⟩:=x;refine wid ?_;obtain⟨q,o⟩:=aC (decide (1<=k)&&decide (k<=6));have R:=Hd o;obtain⟨W1,F,F1⟩:=dR ((Fr.nil w).a w [k,s,n] 113);refine op1 F1 ?_;intros;have HF:=Hd F1;clear F1 o;by_cases h:k=1\/k=2\/k=5
 ·have E:=Hd h;rcases h with rfl|rfl|rfl
  all_goals
   cases q;·exact absurd R.out pt
   ·refine ent func107 ntmps107 ?_
    gi_wp2_with (first
     |(refine Cl 105 (aj _ _ _ _) ?_;rintro e b ⟨rfl,rfl⟩;rw[R.out])
     |(refine⟨bO,?_⟩))
    go_ret;exact ab.yes (by first|rfl|simp[*]) (by unfold sZ;omega) HF.out.bl
 simp only[not_or]at h;obtain⟨f,j,l⟩:=h;cases q;·exact Aw
 have HB:=Hd (show 1<=k/\k<=6 by have h:=R.out;simpa using h);by_cases D:n=0;rotate_left;·exact Aw
 subst D;by_cases hs:s.toList= []
 ·have C:s.toList.isEmpty=true:=by simpa using hs
  have z:=Hd hs;clear hs;refine ent func107 ntmps107 ?_
  gi_wp2_with (first
   |(refine Cl 105 (aj _ _ _ _) ?_;rintro e b ⟨rfl,rfl⟩;rw[R.out])
   |(refine⟨bO,?_⟩))
  go_ret;exact ab.yes (by first|rfl|simp[*]) (.inr (.inr (.inr ⟨by have:=HB.out;omega,rfl,z.out⟩))) HF.out.bl
 have C:s.toList.isEmpty=false:=by simpa using hs
 have HN:=Hd (show ¬sZ (k,s,(0:Int))from fun h=>by have h:k=1\/k=2\/k=5\/((k=3\/k=4\/k=6)/\(0:Int)=0/\s.toList= []):=h;exact akH);exact akF
theorem afR(h:pX y):Jg y:=by
 obtain⟨z,C,h,g,j,F⟩:=h;obtain⟨k,s,n,d,l⟩:=y;simp only[aU.kind,aU.name,aU.n,aU.d,aU.l]at h g j F;simp only[vT,qZ]at h
 repeat' split at h
 all_goals first
  |(cases h;done)
  |(exfalso;simp at h;done)
  |skip
 all_goals
  rename_i e;simp only[mz]at h;simp at h;obtain⟨f,O,o⟩:=h;subst e;subst O;subst o;constructor;·first|exact f.symm|(subst f;rfl)
  ·show(_\/_)->0<=n/\n<=1099511627776/\1<=d/\d<=1099511627776;first|exact fun _=>j rfl|(intro q;exfalso;revert q;simp only[aU.kind];decide)
  ·show ¬(_\/_)->d=0/\(¬_=(2:Int)->¬_=(5:Int)->n=0)
   first
    |exact fun _=>⟨(F rfl).1,fun _ _=>(F rfl).2 rfl⟩
    |exact fun _=>⟨(F rfl).1,fun a b=>absurd rfl a⟩
    |exact fun _=>⟨(F rfl).1,fun a b=>absurd rfl b⟩
    |exact fun a=>absurd (.inl rfl) a
    |exact fun a=>absurd (.inr rfl) a
  ·show ¬_=(2:Int)->¬_=(5:Int)->s.toList= []
   first
    |exact fun _ _=>g rfl
    |exact fun a b=>absurd rfl a
    |exact fun a b=>absurd rfl b
def RxC(x:aU):Prop:=∀{M:List Nat}{A:Option Addr}{m c:Nat}{w:World},Sl aU w M A m c x.l->Calls prog 154 #[.agg #[x.kind,x.name,x.n,x.d,.slice A m c]] w (ab (∀y,y∈iZ x->pX y) w)
theorem Jh(k:Int)(s:ByteArray)(n d:Int)(l:List aU)(ih:∀y,y∈l->RxC y)(hok:Jg (.mk k s n d l)){w:World}(hs:Sl aU w M A m c l):
 Calls prog 154 #[.agg #[k,s,n,d,.slice A m c]] w (ab (∀y,y∈iZ (.mk k s n d l)->pX y) w):=by
 refine wid ?_;have hl:=hs.len;have af:=hs.small;obtain⟨P,hP⟩:=aC (∀y,y∈iZ (.mk k s n d l)->pX y);rw[hP];have E:=Hd2 hP hok;obtain⟨ar,ad⟩:=aC (mV k);have HA:=Hd ad;have e0:((m:Nat):Int)=ar:=by rw[<-ad,<-hl];exact hok.len
 obtain⟨q1,aa⟩:=aC (decide (0<=n)&&decide (n<=1099511627776));obtain⟨q2,ac⟩:=aC (decide (1<=d)&&decide (d<=1099511627776));have sD:=Hd aa;have zU:=Hd ac;obtain⟨W1,ae,F1⟩:=dR ((Fr.nil w).a w [k,s,n,d,.slice A m c] 66);have o1:=aW F1;have o2:=aW F1.drew;have v0:=ah (F1.aQ 0 0);have v4:=ah (F1.aQ 0 4);have HF:=Hd F1;have Q:=Hd2 ih hs;have HL:=Hd hl;subst e0;clear F1 hs ih hl hP ad;have Y:(k=1\/k=8)\/(k=2\/k=5)\/(k=3\/k=4\/k=6\/k=7\/k=9\/k=10\/k=11):=by
  have h:=hok.len;unfold mV at h;simp only[aU.kind]at h
  repeat' split at h
  all_goals omega
 rcases Y with Y|Y|Y
 ·have O:=hok.num Y;have Z:=hok.name (by show ¬k=2;omega) (by show ¬k=5;omega);simp only[aU.n,aU.d,aU.name]at O Z;have he:s.toList.isEmpty=true:=by simpa using Z
  obtain rfl:true=q1:=by rw[<-aa];simp;omega
  obtain rfl:true=q2:=by rw[<-ac];simp;omega
  clear O Z hok aa ac;rcases Y with rfl|rfl
  ·refine ent func154 ntmps154 ?_;gi_wp2;refine ak [] [0,1,2,3,4,5,6] pk pk ?_;refine eH ?_;refine aH fun K G=>aA rfl rfl wy fun W H=>?_;gi_wp2;refine Cl 191 (bH _ _) ?_;rintro e D ⟨rfl,rfl⟩;rw[HA.out];refine H _ _ ⟨?_,G _ _ ?_⟩;clear H W G K;·exact cG _ _
   refine lit ?_;refine eH ?_;refine aK ?_;refine lit ?_
   gi_wp2_with (first
    |(have g:=R.out;clear g;refine Cl 105 (aj _ _ _ _) ?_;rintro e D ⟨rfl,rfl⟩;rw[zU.out])
    |(refine Cl 105 (aj _ _ _ _) ?_;rintro e D ⟨rfl,rfl⟩;rw[sD.out];have R:=Hd trivial)
    |(refine⟨bO,?_⟩))
   gi_loopw[4] (fun i wr=>∃j:Nat,j<=m/\i=j/\Hid (∀z,z∈l.take j->∀y,y∈iZ z->pX y)/\Hid (Fr w wr [(w, [.int .i64 1,s,n,d,.slice A m c])])) (fun i _=>m-(intOf i).toNat);case atStart=>exact⟨0,cf _,rfl,Hd po,Hd HF.out.drew⟩
   case round=>exact tZ
  refine ent func154 ntmps154 ?_;gi_wp2;refine ak [] [0,1,2,3,4,5,6] pk pk ?_;refine eH ?_;refine aH fun K G=>aA rfl rfl wy fun W H=>?_;gi_wp2;refine Cl 191 (bH _ _) ?_;rintro e D ⟨rfl,rfl⟩;rw[HA.out];refine H _ _ ⟨?_,G _ _ ?_⟩;clear H W G K;·exact cG _ _
  refine lit ?_;refine eH ?_;refine aK ?_;refine lit ?_
  gi_wp2_with (first
   |(have g:=R.out;clear g;refine Cl 105 (aj _ _ _ _) ?_;rintro e D ⟨rfl,rfl⟩;rw[zU.out])
   |(refine Cl 105 (aj _ _ _ _) ?_;rintro e D ⟨rfl,rfl⟩;rw[sD.out];have R:=Hd trivial)
   |(refine⟨bO,?_⟩))
  gi_loopw[4] (fun i wr=>∃j:Nat,j<=m/\i=j/\Hid (∀z,z∈l.take j->∀y,y∈iZ z->pX y)/\Hid (Fr w wr [(w, [.int .i64 8,s,n,d,.slice A m c])])) (fun i _=>m-(intOf i).toNat);case atStart=>exact⟨0,cf _,rfl,Hd po,Hd HF.out.drew⟩
  case round=>exact tZ
 ·have O:=hok.no (by show ¬(k=1\/k=8);omega);simp only[aU.n,aU.d,aU.name]at O;obtain rfl:=O.1;clear O hok aa ac;rcases Y with rfl|rfl
  ·refine ent func154 ntmps154 ?_;gi_wp2;refine ak [] [0,1,2,3,4,5,6] pk pk ?_;refine eH ?_;refine aH fun K G=>aA rfl rfl wy fun W H=>?_;gi_wp2;refine Cl 191 (bH _ _) ?_;rintro e D ⟨rfl,rfl⟩;rw[HA.out];refine H _ _ ⟨?_,G _ _ ?_⟩;clear H W G K;·exact cG _ _
   refine lit ?_;refine eH ?_;refine aK ?_;refine lit ?_
   gi_wp2_with (first
    |(have g:=R.out;clear g;refine Cl 105 (aj _ _ _ _) ?_;rintro e D ⟨rfl,rfl⟩;rw[zU.out])
    |(refine Cl 105 (aj _ _ _ _) ?_;rintro e D ⟨rfl,rfl⟩;rw[sD.out];have R:=Hd trivial)
    |(refine⟨bO,?_⟩))
   gi_loopw[4] (fun i wr=>∃j:Nat,j<=m/\i=j/\Hid (∀z,z∈l.take j->∀y,y∈iZ z->pX y)/\Hid (Fr w wr [(w, [.int .i64 2,s,n,.int .i64 0,.slice A m c])])) (fun i _=>m-(intOf i).toNat);case atStart=>exact⟨0,cf _,rfl,Hd po,Hd HF.out.drew⟩
   case round=>exact tZ
  refine ent func154 ntmps154 ?_;gi_wp2;refine ak [] [0,1,2,3,4,5,6] pk pk ?_;refine eH ?_;refine aH fun K G=>aA rfl rfl wy fun W H=>?_;gi_wp2;refine Cl 191 (bH _ _) ?_;rintro e D ⟨rfl,rfl⟩;rw[HA.out];refine H _ _ ⟨?_,G _ _ ?_⟩;clear H W G K;·exact cG _ _
  refine lit ?_;refine eH ?_;refine aK ?_;refine lit ?_
  gi_wp2_with (first
   |(have g:=R.out;clear g;refine Cl 105 (aj _ _ _ _) ?_;rintro e D ⟨rfl,rfl⟩;rw[zU.out])
   |(refine Cl 105 (aj _ _ _ _) ?_;rintro e D ⟨rfl,rfl⟩;rw[sD.out];have R:=Hd trivial)
   |(refine⟨bO,?_⟩))
  gi_loopw[4] (fun i wr=>∃j:Nat,j<=m/\i=j/\Hid (∀z,z∈l.take j->∀y,y∈iZ z->pX y)/\Hid (Fr w wr [(w, [.int .i64 5,s,n,.int .i64 0,.slice A m c])])) (fun i _=>m-(intOf i).toNat);case atStart=>exact⟨0,cf _,rfl,Hd po,Hd HF.out.drew⟩
  case round=>exact tZ
 ·have O:=hok.no (by show ¬(k=1\/k=8);omega);have r3:=O.2 (by show ¬k=2;omega) (by show ¬k=5;omega);have Z:=hok.name (by show ¬k=2;omega) (by show ¬k=5;omega);simp only[aU.n,aU.d,aU.name]at O Z r3;have he:s.toList.isEmpty=true:=by simpa using Z
  obtain rfl:=O.1;obtain rfl:=r3;have k1:¬k=1:=pj;have k2:¬k=2:=pj;have k5:¬k=5:=pj;have k8:¬k=8:=pj;have ag:(k==1)=false:=cU.2 k1;have ai:(k==2)=false:=cU.2 k2;have al:(k==5)=false:=cU.2 k5;have am:(k==8)=false:=cU.2 k8;clear O Z hok aa ac Y;refine ent func154 ntmps154 ?_;gi_wp2;refine ak [] [0,1,2,3,4,5,6] pk pk ?_;refine eH ?_;refine aH fun K G=>aA rfl rfl wy fun W H=>?_;gi_wp2;refine Cl 191 (bH _ _) ?_;rintro e D ⟨rfl,rfl⟩;rw[HA.out];refine H _ _ ⟨?_,G _ _ ?_⟩;clear H W G K;·exact cG _ _
  refine lit ?_;refine eH ?_;refine aK ?_;refine lit ?_
  gi_wp2_with (first
   |(have g:=R.out;clear g;refine Cl 105 (aj _ _ _ _) ?_;rintro e D ⟨rfl,rfl⟩;rw[zU.out])
   |(refine Cl 105 (aj _ _ _ _) ?_;rintro e D ⟨rfl,rfl⟩;rw[sD.out];have R:=Hd trivial)
   |(refine⟨bO,?_⟩))
  gi_loopw[4] (fun i wr=>∃j:Nat,j<=m/\i=j/\Hid (∀z,z∈l.take j->∀y,y∈iZ z->pX y)/\Hid (Fr w wr [(w, [k,s,.int .i64 0,.int .i64 0,.slice A m c])])) (fun i _=>m-(intOf i).toNat);case atStart=>exact⟨0,cf _,rfl,Hd po,Hd HF.out.drew⟩
  case round=>exact tZ
theorem Oj(k:Int)(s:ByteArray)(n d:Int)(l:List aU)(hnn:¬Jg (.mk k s n d l)){w:World}(hs:Sl aU w M A m c l):
 Calls prog 154 #[.agg #[k,s,n,d,.slice A m c]] w (ab (∀y,y∈iZ (.mk k s n d l)->pX y) w):=by
 refine wid ?_;have Y:=hs.len;obtain⟨P,R⟩:=aC (∀y,y∈iZ (.mk k s n d l)->pX y);rw[R];have C:=Hd (show ¬P from by rw[<-R];exact fun h=>hnn (afR (h _ (by rw[lW];exact cw))));obtain⟨ar,Q⟩:=aC (mV k);have q:=Hd Q;obtain⟨Z,I⟩:=aC (decide (0<=n)&&decide (n<=1099511627776));obtain⟨q2,J⟩:=aC (decide (1<=d)&&decide (d<=1099511627776));have D:=Hd I;have E:=Hd J;obtain⟨W1,ag,F1⟩:=dR ((Fr.nil w).a w [k,s,n,d,.slice A m c] 66);have o1:=aW F1;have o2:=aW F1.drew;have v0:=ah (F1.aQ 0 0);have v4:=ah (F1.aQ 0 4);have HF:=Hd F1;clear F1 hs R;by_cases e0:((m:Nat):Int)=ar;rotate_left;·clear I J Q;exact kM
 subst e0;have F:((k=1\/k=8)\/(k=2\/k=5)\/(¬k=1/\¬k=8/\¬k=2/\¬k=5)):=pj;have HN:=Hd hnn;have mk:(((k=1\/k=8)->0<=n/\n<=1099511627776/\1<=d/\d<=1099511627776))->(¬(k=1\/k=8)->d=0/\(¬k=2->¬k=5->n=0))->(¬k=2->¬k=5->s.toList= [])->False:=fun a b c=>hnn ⟨by show((l.length:Nat):Int)=mV k;rw[Y,Q],a,b,c⟩;clear Y Q hnn;by_cases G:s.toList= []
 ·have he:s.toList.isEmpty=true:=by simpa using G
  rcases F with F|F|⟨T,X,V,W⟩
  ·cases Z;·exact akE
   cases q2;·exact akE
   exact(mk (fun _=>by simp at I J;omega) (fun h=>absurd F h) (fun _ _=>G)).elim
  ·by_cases H:d=0;·exact(mk (fun h=>by omega) (fun _=>⟨H,fun a b=>by omega⟩) (fun _ _=>G)).elim
   have S:(d !=0)=true:=fu.2 H;exact akE
  have ac:(k==1)=false:=cU.2 T;have ad:(k==2)=false:=cU.2 V;have ae:(k==5)=false:=cU.2 W;have af:(k==8)=false:=cU.2 X;by_cases H:d=0
  ·subst H;by_cases O:n=0;·exact(mk (fun h=>by omega) (fun _=>⟨rfl,fun a b=>O⟩) (fun _ _=>G)).elim
   have aa:(n !=0)=true:=fu.2 O;clear mk G I J;exact kM
  have S:(d !=0)=true:=fu.2 H;clear mk G I J;exact kM
 ·have he:s.toList.isEmpty=false:=by simpa using G
  rcases F with F|F|⟨T,X,V,W⟩
  ·clear mk G I J;cases Z
   ·rcases F with rfl|rfl;·exact kM
    exact kM
   cases q2
   ·rcases F with rfl|rfl;·exact kM
    exact kM
   rcases F with rfl|rfl;·exact kM
   exact kM
  ·by_cases H:d=0;·exact(mk (fun h=>by omega) (fun _=>⟨H,fun a b=>by omega⟩) (fun a b=>by omega)).elim
   have S:(d !=0)=true:=fu.2 H;exact akE
  have ac:(k==1)=false:=cU.2 T;have ad:(k==2)=false:=cU.2 V;have ae:(k==5)=false:=cU.2 W;have af:(k==8)=false:=cU.2 X;clear mk G I J;by_cases H:d=0
  ·subst H;by_cases O:n=0;·subst O;exact kM
   have aa:(n !=0)=true:=fu.2 O;exact kM
  have S:(d !=0)=true:=fu.2 H;exact kM
theorem KQ(x:aU):RxC x:=by
 induction x using iY with
 |_ x ih=>
 intro M A m c w hs;obtain⟨k,s,n,d,l⟩:=x;by_cases h:Jg (.mk k s n d l);·exact Jh k s n d l ih h hs
 exact Oj k s n d l h hs
theorem ac0:∀{l:List Int}{a:Int},pW a l->(∀x,x∈l->0<=x/\x<=a)/\∀(i:Nat) (x y:Int),l[i]?=some x->l[i+1]?=some y->y<=x
 | [],_,_=>⟨fun x hx=>(by cases hx),fun i x y hx=>(by simp at hx)⟩
 |n::l,a,h=>by
  obtain⟨h0,h1,h2⟩:=h;obtain⟨g1,g2⟩:=ac0 h2;refine⟨fun x hx=>?_,fun i x y hx hy=>?_⟩
  ·rcases cD.1 hx with rfl|hx;·exact⟨h0,h1⟩
   have:=g1 x hx;omega
  match i,hx,hy with
  |0,hx,hy=>cases hx;exact(g1 y (bh (show l[0]?=some y by simpa using hy))).2
  |i+1,hx,hy=>exact g2 i x y (by simpa using hx) (by simpa using hy)
theorem tq{a lo hi:Int}(h:(decide (lo<=a)&&decide (a<=hi))=true):lo<=a/\a<=hi:=by simpa using h
theorem nC{l:List bW}{w:World}(hs:Sl bW w M A n c l):
 Calls prog 103 #[.slice A n c] w (ab (∀x,x∈l->mQ x) w):=by
 refine wid ?_;obtain⟨P,f⟩:=aC (∀x,x∈l->mQ x);rw[f];have W:=hs.small;have H:=fB hs hs.len f;clear hs f;refine ent func103 ntmps103 ?_;gi_wp2;gi_loopw[3] (fun i wr=>∃k:Nat,k<=n/\i=k/\w=wr/\Hid (∀x,x∈l.take k->mQ x)) (fun i _=>n-(intOf i).toNat);case atStart=>exact⟨0,cf _,rfl,rfl,Hd po⟩
 case round=>
  obtain⟨k,J,rfl,rfl,S⟩:=hrel;by_cases z:k<n
  ·obtain⟨y,q⟩:=dW l k (by rw[H.b];exact z);obtain⟨b,o,T,rfl,s,j⟩:=H.a.get q;obtain⟨rfl,-⟩:=aaI s;have v1:w.cell? ⟨b,o+k*3+1,none⟩=some (.int .i64 y.2.1):=j.2 1 _ rfl;have v2:w.cell? ⟨b,o+k*3+2,none⟩=some (.int .i64 y.2.2):=j.2 2 _ rfl;obtain⟨K,C⟩:=aC (decide (0<=y.2.1)&&decide (y.2.1<=1048576));obtain⟨O,D⟩:=aC (decide (1<=y.2.2)&&decide (y.2.2<=100));have R:=fB C D q;clear s j q C D;cases K<;>cases O
   all_goals
    gi_wp2_with (first
     |(have g:=N.out;clear g;refine Cl 105 (aj _ _ _ _) ?_;rintro e Q ⟨rfl,rfl⟩;rw[R.b])
     |(refine Cl 105 (aj _ _ _ _) ?_;rintro e Q ⟨rfl,rfl⟩;rw[R.out.1];have N:=Hd trivial)
     |(refine⟨bO,?_⟩))
   iterate 3
    ·go_ret;exact ab.no rfl (by rw[<-H.v];intro h;have I:=h _ (bh R.v);have V:0<=y.2.1/\y.2.1<=1048576/\1<=y.2.2/\y.2.2<=100:=I;have F:=R.out.1;have G:=R.b;simp at F G;omega) pE
   exact⟨⟨k+1,pj,by go_num,bO,Hd (bY R.v S.out ⟨(tq R.out.1).1,(tq R.out.1).2,(tq R.b).1,(tq R.b).2⟩)⟩,by simp[intOf];omega⟩
  ·obtain rfl:k=n:=pj;have E:=Hd (show P by rw[<-H.v];intro x hx;refine S.out x ?_;rw[bR (by rw[H.b];exact bj _)];exact hx);clear J z;gi_wp2;go_ret;exact ab.yes rfl E.out pE
theorem nD{l:List Int}{w:World}(hs:Sl Int w M A n c l):
 Calls prog 104 #[.slice A n c] w (ab (pW 1099511627776 l) w):=by
 refine wid ?_;obtain⟨P,G⟩:=aC (pW 1099511627776 l);rw[G];have ac:=hs.small;have H:=fB hs hs.len G;clear hs G;refine ent func104 ntmps104 ?_;gi_wp2;gi_loopw[3] (fun i wr=>∃k:Nat,k<=n/\i=k/\Hid (Below w w wr)/\Hid ((∀x,x∈l.take k->0<=x/\x<=1099511627776)/\∀(i:Nat) (x y:Int),i+1<k->l[i]?=some x->l[i+1]?=some y->y<=x)) (fun i _=>n-(intOf i).toNat);case atStart=>exact⟨0,cf _,rfl,Hd pE,Hd ⟨po,fun i x y O=>by omega⟩⟩
 case round=>
  obtain⟨k,hk,rfl,F,S⟩:=hrel;by_cases Q:k<n
  ·obtain⟨b,o,y,rfl,E,-,-,q⟩:=(H.a.go F.out).pR Q;obtain⟨q1,T⟩:=aC (decide (0<=y)&&decide (y<=1099511627776));have R:=Hd2 T q;have D:=Hd F.out.drew;have v0:=ah E;clear T q;cases q1
   ·clear E;gi_wp2;refine ak [] [0,1,2,3,4,5,6,7,8,9,10,11,12,13,14,15,16,17,18,19,20,21] pk pk ?_;repeat(first|refine jR ?_|refine dY ?_|refine jS ?_|refine dY ?_ rfl rfl (dU rfl (by(simp[yielded];rfl))))
    refine aH fun K f=>aA rfl rfl wy fun s g=>?_;gi_wp2;refine Cl 105 (aj _ _ _ _) ?_;rintro e I ⟨rfl,rfl⟩;rw[R.out.1];refine g _ _ ⟨?_,f _ _ ?_⟩;clear g s f K;·exact cG _ _
    refine lit ?_;repeat(first|refine jR ?_|refine dY ?_|refine jS ?_|refine dY ?_ rfl rfl (dU rfl (by(simp[yielded];rfl))))
    refine aK ?_;refine lit ?_;gi_wp2;go_ret;exact ab.no rfl (by rw[<-H.v];intro h;have C:=(ac0 h).1 _ (bh R.out.2);have Y:=R.out.1;simp at Y;omega) D.out
   rcases eC k with rfl|hp
   ·simp only[eB]at v0;clear E;gi_wp2;refine ak [] [0,1,2,3,4,5,6,7,8,9,10,11,12,13,14,15,16,17,18,19,20,21] pk pk ?_;repeat(first|refine jR ?_|refine dY ?_|refine jS ?_|refine dY ?_ rfl rfl (dU rfl (by(simp[yielded];rfl))))
    refine aH fun K f=>aA rfl rfl wy fun s g=>?_;gi_wp2;refine Cl 105 (aj _ _ _ _) ?_;rintro e I ⟨rfl,rfl⟩;rw[R.out.1];refine g _ _ ⟨?_,f _ _ ?_⟩;clear g s f K;·exact cG _ _
    refine lit ?_;repeat(first|refine jR ?_|refine dY ?_|refine jS ?_|refine dY ?_ rfl rfl (dU rfl (by(simp[yielded];rfl))))
    refine aK ?_;refine lit ?_;gi_wp2;exact⟨⟨1,pj,by go_num,D,Hd ⟨bY R.out.2 S.a (tq R.out.1),fun i x y O=>by omega⟩⟩,by simp[intOf];omega⟩
   obtain⟨j,rfl⟩:∃j,k=j+1:=⟨k-1,pj⟩;obtain⟨b2,o2,z,X,J,-,-,V⟩:=(H.a.go F.out).pR (show j<n by omega);cases X;have v1:=ah J;have n1:IntKind.i64.wrap ((j:Nat):Int)=((j:Nat):Int):=by rw[cA];omega
   have n3:0<((j+1:Nat):Int):=pj;have HZ:=Hd V;have aa:j<n:=pj;clear E J V hp;by_cases N:z<y
   ·have Z:decide (z<y)=true:=cx N;gi_wp2;refine ak [] [0,1,2,3,4,5,6,7,8,9,10,11,12,13,14,15,16,17,18,19,20,21] pk pk ?_;repeat(first|refine jR ?_|refine dY ?_|refine jS ?_|refine dY ?_ rfl rfl (dU rfl (by(simp[yielded];rfl))))
    refine aH fun K f=>aA rfl rfl wy fun s g=>?_;gi_wp2;refine Cl 105 (aj _ _ _ _) ?_;rintro e I ⟨rfl,rfl⟩;rw[R.out.1];refine g _ _ ⟨?_,f _ _ ?_⟩;clear g s f K;·exact cG _ _
    refine lit ?_;repeat(first|refine jR ?_|refine dY ?_|refine jS ?_|refine dY ?_ rfl rfl (dU rfl (by(simp[yielded];rfl))))
    refine aK ?_;refine lit ?_;gi_wp2;go_ret;exact ab.no rfl (by rw[<-H.v];intro h;have C:=(ac0 h).2 _ _ _ HZ.out R.out.2;omega) D.out
   have Z:decide (z<y)=false:=cE N;gi_wp2;refine ak [] [0,1,2,3,4,5,6,7,8,9,10,11,12,13,14,15,16,17,18,19,20,21] pk pk ?_;repeat(first|refine jR ?_|refine dY ?_|refine jS ?_|refine dY ?_ rfl rfl (dU rfl (by(simp[yielded];rfl))))
   refine aH fun K f=>aA rfl rfl wy fun s g=>?_;gi_wp2;refine Cl 105 (aj _ _ _ _) ?_;rintro e I ⟨rfl,rfl⟩;rw[R.out.1];refine g _ _ ⟨?_,f _ _ ?_⟩;clear g s f K;·exact cG _ _
   refine lit ?_;repeat(first|refine jR ?_|refine dY ?_|refine jS ?_|refine dY ?_ rfl rfl (dU rfl (by(simp[yielded];rfl))))
   refine aK ?_;refine lit ?_;gi_wp2;exact⟨⟨j+1+1,pj,by go_num,D,Hd ⟨bY R.out.2 S.a (tq R.out.1),fun i x y' O hx q=>by
    by_cases e:i=j;·subst e;rw[HZ.out]at hx;rw[R.out.2]at q;cases hx;cases q;omega
    exact S.u i x y' pj hx q⟩⟩,by simp[intOf];omega⟩
  ·obtain rfl:k=n:=pj;have W:=Hd (show P by
    rw[<-H.v];have C:=S.a;rw[bR (by rw[H.b];exact bj _)]at C;exact Qo l _ (fun x hx=>(C x hx).1) (fun x hx=>(C x (bh hx)).2) (fun i x y hx q=>S.u i x y (by have:=(bu.1 q).1;rw[H.b]at this;exact this) hx q))
   clear hk Q;gi_wp2;go_ret;exact ab.yes rfl W.out F.out
theorem Ol{w:World}(hs:Sl aU w M A m c x.l):
 CB 153 #[.agg #[x.kind,x.name,x.n,x.d,.slice A m c],.agg #[.int .i64 0,.string ⟨#[]⟩,.int .i64 0,.int .i64 0,.slice none 0 0]] (.bool (fE x (.mk 0 ⟨#[]⟩ 0 0 []))) w:=
 He x (y:=.mk 0 ⟨#[]⟩ 0 0 []) (M':= []) hs Sl.nil0
theorem empty_of{s:ByteArray}(h:s.toList= []):s=⟨#[]⟩:=by
 have f:=gT List.toArray h;obtain⟨a⟩:=s;have b:a.toList= []:=by rw[<-Lib.toList_data] ;exact h
 have:a=#[]:=by simpa using b
 rw[this]
theorem Ji{yn yt:ByteArray}{yp yq yc yno:Int}{wQ zo:Bool}{ys:aU}{w:World}(hr:dG w M r s1 s2 s3 s4 s5 s6 s7)(hc:∀c,c∈r.aT->rC c)(hs:Sl aU w M B m d ys.l):
 Calls prog 108 #[.agg (aV r s1 s2 s3 s4 s5 s6 s7).toArray,.agg #[yn,yp,yq,yc,wQ,zo,ys.kind,ys.name,ys.n,ys.d,.slice B m d,yt,yno]] w (ab (Dj r (yn,yp,yq,yc,wQ,zo,ys,yt,yno)) w):=by
 refine wid ?_;obtain⟨T,J,W⟩:=s1;have D:Sl bT w M T J W r.aT:=hr.aT;have F:=Hd (show Dj r (yn,yp,yq,yc,wQ,zo,ys,yt,yno)->(1<=yp/\yp<=256)/\(1<=yq/\yq<=4096)/\(1<=yc/\yc<=3)/\(∀c,c∈r.aT->c.2.2.2.2.2.1<(yp+1).tdiv 2)/\(wQ=true->ys.kind=0/\ys.name.toList= []/\ys.n=0/\ys.d=0/\ys.l= [])/\(wQ=false->∀y,y∈iZ ys->pX y)from fun h=>h);obtain⟨P,Q⟩:=aC (Dj r (yn,yp,yq,yc,wQ,zo,ys,yt,yno));rw[Q];rw[Q]at F;have al:=D.small;obtain⟨W1,ai,F1⟩:=dR (((Fr.nil w).a w (aV r ⟨T,J,W⟩ s2 s3 s4 s5 s6 s7) 28).a (w+1) [yn,yp,yq,yc,wQ,zo,ys.kind,ys.name,ys.n,ys.d,.slice B m d,yt,yno] 68);have HF:=Hd F1;have o1:=aW F1;have H:=h_ D D.len hc Q;have HS:=Hd hs;clear F1 D hc Q hr hs;refine ent func108 ntmps108 ?_;gi_wp2;gi_loopw[5] (fun i wr=>∃k:Nat,k<=J/\i=k/\Hid (∀c,c∈r.aT.take k->c.2.2.2.2.2.1<=256/\2*c.2.2.2.2.2.1<yp)/\Hid (Fr w wr [(w,aV r ⟨T,J,W⟩ s2 s3 s4 s5 s6 s7),(w+1, [yn,yp,yq,yc,wQ,zo,ys.kind,ys.name,ys.n,ys.d,.slice B m d,yt,yno])])) (fun i _=>J-(intOf i).toNat);case atStart=>exact⟨0,cf _,rfl,Hd po,HF⟩
 case round=>
  obtain⟨k,hk,rfl,Y,q⟩:=hrel;have o2:=aW q.out;by_cases ad:k<J
  ·obtain⟨c,S⟩:=dW r.aT k (by rw[H.b];exact ad);obtain⟨b,o,es,rfl,ac,ae⟩:=(H.a.go q.out.bl).get S;obtain⟨rfl,-⟩:=lT ac;obtain⟨t,X⟩:=aC c.2.2.2.2.2.1;have aa:=H.c c (bh S);have am:0<=t:=by rw[<-X];exact aa.2.2.2.2.2.2.2.1
   have v0:=ah (show wr.cell? ⟨b,o+k*7+5,none⟩=some (.int .i64 t) by rw[<-X];exact ae.2 5 _ rfl);have v1:=ah (q.out.aQ 0 1);have v2:=ah (q.out.aQ 1 1);have K:=Hd2 S X;have V:=Hd q.out.drew;clear S ac ae X aa;by_cases G:256<t;·have af:decide (256<t)=true:=cx G;exact AZ
   have n1:IntKind.i64.wrap (2*t)=2*t:=by rw[cA];omega
   have af:decide (256<t)=false:=cE G;by_cases g2:yp<=2*t;·have ag:decide (yp<=2*t)=true:=cx g2;exact AZ
   have ag:decide (yp<=2*t)=false:=cE g2;gi_wp2;refine ak [] [0,1,2,3,4,5,6,7,8,9,10,11,12,13,14,15,16,17,18] pk pk ?_;repeat(first|refine jR ?_|refine dY ?_|refine jS ?_|refine dY ?_ rfl rfl (dU rfl (by(simp[yielded];rfl))))
   refine aK ?_;refine lit ?_;gi_wp2;exact⟨⟨k+1,pj,by go_num,Hd (bY K.a Y.out (by rw[K.u];omega)),V⟩,by simp[intOf];omega⟩
  ·obtain rfl:k=J:=pj;have HT:=Hd (show ∀c,c∈r.aT->c.2.2.2.2.2.1<=256/\2*c.2.2.2.2.2.1<yp by have h:=Y.out;rwa [bR (by rw[H.b];exact bj _)]at h);obtain⟨qa,ha⟩:=aC (decide (1<=yp)&&decide (yp<=256));obtain⟨qb,hb⟩:=aC (decide (1<=yq)&&decide (yq<=4096));obtain⟨qc,hc⟩:=aC (decide (1<=yc)&&decide (yc<=3));obtain⟨z,Z⟩:=aC (fE ys (.mk 0 ⟨#[]⟩ 0 0 []));have HX:=Hd2 (Ol (HS.out.go q.out.bl)) (KQ ys (HS.out.go q.out.bl));rw[Z]at HX;have R:=fB ha hb hc;have HZ:=Hd Z;clear hk ad Y ha hb hc Z;cases qa
   ·gi_wp2_with (first
      |(have g:=E.out;clear g;refine Cl 105 (aj _ _ _ _) ?_;rintro e j ⟨rfl,rfl⟩;rw[R.v])
      |(have g:=N.out;clear g;refine Cl 105 (aj _ _ _ _) ?_;rintro e j ⟨rfl,rfl⟩;rw[R.b];have E:=Hd trivial)
      |(refine Cl 105 (aj _ _ _ _) ?_;rintro e j ⟨rfl,rfl⟩;rw[R.out.1];have N:=Hd trivial)
      |(refine Cl 153 HX.out.1 ?_;rintro e j ⟨rfl,f⟩;have C:=Hd (q.out.go f);clear f)
      |(refine Cl 154 HX.out.2 ?_;rintro e j I;obtain⟨b,rfl,hb,f⟩:=I.of;have C:=Hd (q.out.go f);have HB:=Hd hb;clear hb f I;cases b)
      |(refine⟨bO,?_⟩))
    go_ret;exact ab.no rfl (fun h=>by have D:=(F.out h).1;have G:=R.out.1;simp at G;omega) q.out.bl
   cases qb
   ·gi_wp2_with (first
      |(have g:=E.out;clear g;refine Cl 105 (aj _ _ _ _) ?_;rintro e j ⟨rfl,rfl⟩;rw[R.v])
      |(have g:=N.out;clear g;refine Cl 105 (aj _ _ _ _) ?_;rintro e j ⟨rfl,rfl⟩;rw[R.b];have E:=Hd trivial)
      |(refine Cl 105 (aj _ _ _ _) ?_;rintro e j ⟨rfl,rfl⟩;rw[R.out.1];have N:=Hd trivial)
      |(refine Cl 153 HX.out.1 ?_;rintro e j ⟨rfl,f⟩;have C:=Hd (q.out.go f);clear f)
      |(refine Cl 154 HX.out.2 ?_;rintro e j I;obtain⟨b,rfl,hb,f⟩:=I.of;have C:=Hd (q.out.go f);have HB:=Hd hb;clear hb f I;cases b)
      |(refine⟨bO,?_⟩))
    go_ret;exact ab.no rfl (fun h=>by have D:=(F.out h).2.1;have G:=R.b;simp at G;omega) q.out.bl
   cases qc
   ·gi_wp2_with (first
      |(have g:=E.out;clear g;refine Cl 105 (aj _ _ _ _) ?_;rintro e j ⟨rfl,rfl⟩;rw[R.v])
      |(have g:=N.out;clear g;refine Cl 105 (aj _ _ _ _) ?_;rintro e j ⟨rfl,rfl⟩;rw[R.b];have E:=Hd trivial)
      |(refine Cl 105 (aj _ _ _ _) ?_;rintro e j ⟨rfl,rfl⟩;rw[R.out.1];have N:=Hd trivial)
      |(refine Cl 153 HX.out.1 ?_;rintro e j ⟨rfl,f⟩;have C:=Hd (q.out.go f);clear f)
      |(refine Cl 154 HX.out.2 ?_;rintro e j I;obtain⟨b,rfl,hb,f⟩:=I.of;have C:=Hd (q.out.go f);have HB:=Hd hb;clear hb f I;cases b)
      |(refine⟨bO,?_⟩))
    go_ret;exact ab.no rfl (fun h=>by have D:=(F.out h).2.2.1;have G:=R.v;simp at G;omega) q.out.bl
   have HP:=Hd (fun(a:wQ=true->ys.kind=0/\ys.name.toList= []/\ys.n=0/\ys.d=0/\ys.l= []) (b:wQ=false->∀y,y∈iZ ys->pX y)=>(show P by rw[<-H.w];exact⟨tq R.out.1,tq R.b,tq R.v,fun c hc=>Yo (HT.out c hc).1 (HT.out c hc).2 (tq R.out.1).1,a,b⟩));cases wQ
   ·gi_wp2_with (first
      |(have g:=E.out;clear g;refine Cl 105 (aj _ _ _ _) ?_;rintro e j ⟨rfl,rfl⟩;rw[R.v])
      |(have g:=N.out;clear g;refine Cl 105 (aj _ _ _ _) ?_;rintro e j ⟨rfl,rfl⟩;rw[R.b];have E:=Hd trivial)
      |(refine Cl 105 (aj _ _ _ _) ?_;rintro e j ⟨rfl,rfl⟩;rw[R.out.1];have N:=Hd trivial)
      |(refine Cl 153 HX.out.1 ?_;rintro e j ⟨rfl,f⟩;have C:=Hd (q.out.go f);clear f)
      |(refine Cl 154 HX.out.2 ?_;rintro e j I;obtain⟨b,rfl,hb,f⟩:=I.of;have C:=Hd (q.out.go f);have HB:=Hd hb;clear hb f I;cases b)
      |(refine⟨bO,?_⟩))
    ·go_ret;exact ab.no rfl (fun h=>hno HB ((F.out h).2.2.2.2.2 pC)) C.out.bl
    go_ret;exact ab.yes rfl (HP.out (fun h=>by cases h) (fun _=>HB.out.1 pC)) C.out.bl
   cases z
   ·gi_wp2_with (first
      |(have g:=E.out;clear g;refine Cl 105 (aj _ _ _ _) ?_;rintro e j ⟨rfl,rfl⟩;rw[R.v])
      |(have g:=N.out;clear g;refine Cl 105 (aj _ _ _ _) ?_;rintro e j ⟨rfl,rfl⟩;rw[R.b];have E:=Hd trivial)
      |(refine Cl 105 (aj _ _ _ _) ?_;rintro e j ⟨rfl,rfl⟩;rw[R.out.1];have N:=Hd trivial)
      |(refine Cl 153 HX.out.1 ?_;rintro e j ⟨rfl,f⟩;have C:=Hd (q.out.go f);clear f)
      |(refine Cl 154 HX.out.2 ?_;rintro e j I;obtain⟨b,rfl,hb,f⟩:=I.of;have C:=Hd (q.out.go f);have HB:=Hd hb;clear hb f I;cases b)
      |(refine⟨bO,?_⟩))
    go_ret;exact ab.no rfl (fun h=>by
     have D:=(F.out h).2.2.2.2.1 pC;have O:fE ys (.mk 0 ⟨#[]⟩ 0 0 [])=true:=by rw[GZ];obtain⟨k,s,n,d,l⟩:=ys;simp only[aU.kind,aU.name,aU.n,aU.d,aU.l]at D;obtain⟨rfl,h3,rfl,rfl,rfl⟩:=D;rw[empty_of h3]
     rw[HZ.out]at O;cases O) C.out.bl
   gi_wp2_with (first
    |(have g:=E.out;clear g;refine Cl 105 (aj _ _ _ _) ?_;rintro e j ⟨rfl,rfl⟩;rw[R.v])
    |(have g:=N.out;clear g;refine Cl 105 (aj _ _ _ _) ?_;rintro e j ⟨rfl,rfl⟩;rw[R.b];have E:=Hd trivial)
    |(refine Cl 105 (aj _ _ _ _) ?_;rintro e j ⟨rfl,rfl⟩;rw[R.out.1];have N:=Hd trivial)
    |(refine Cl 153 HX.out.1 ?_;rintro e j ⟨rfl,f⟩;have C:=Hd (q.out.go f);clear f)
    |(refine Cl 154 HX.out.2 ?_;rintro e j I;obtain⟨b,rfl,hb,f⟩:=I.of;have C:=Hd (q.out.go f);have HB:=Hd hb;clear hb f I;cases b)
    |(refine⟨bO,?_⟩))
   go_ret;exact ab.yes rfl (HP.out (fun _=>by have h:=(GZ ys _).1 HZ.out;rw[h];exact⟨rfl,by simp[aU.name,Lib.toList_data],rfl,rfl,rfl⟩) (fun h=>by cases h)) C.out.bl
def KR(w:World)(R:List Value)(Q:Nat->Prop)(n:Nat)(i:Value)(wr:World):Prop:=∃k:Nat,k<=n/\i=k/\Hid (Q k)/\Hid (Fr w wr [(w.heap.size,R)])
attribute [irreducible] KR
theorem Om{w:World}(hr:dG w M r s1 s2 s3 s4 s5 s6 s7):
 Calls prog 55 #[.agg (aV r s1 s2 s3 s4 s5 s6 s7).toArray] w (ab (F15 r) w):=by
 refine wid ?_;obtain⟨A1,G,c1⟩:=s1;obtain⟨A4,W,c4⟩:=s4;obtain⟨A5,J,c5⟩:=s5;obtain⟨A7,q7,c7⟩:=s7;have l:Sl bT w M A1 G c1 r.aT:=hr.aT;have h4:Sl dA w M A4 W c4 r.ties:=hr.ties;have h5:Sl aJ w M A5 J c5 r.rounds:=hr.rounds;have h7:Sl Int w M A7 q7 c7 r.points:=hr.points;obtain⟨P,hP⟩:=aC (F15 r);rw[hP];have m1:=l.small;have m4:=h4.small;have m5:=h5.small;obtain⟨qb,yK⟩:=aC (decide (0<=r.best)&&decide (r.best<=64));obtain⟨best,Qp⟩:=aC r.best;have HQ:=Hd2 yK Qp;obtain⟨W1,aG,F1⟩:=dR ((Fr.nil w).a w [r.name,.slice A1 G c1,.slice s2.A s2.n s2.c,.slice s3.A s3.n s3.c,.slice A4 W c4,.slice A5 J c5,.slice s6.A s6.n s6.c,.slice A7 q7 c7,best] 28);have F:=Hd F1;have s:=aW F1;have H:=h_ l h4 h5 h7;have HL:=h_ l.len h4.len h5.len h7.len;have q:=Hd2 hr hP;show CallsIn _ _ _ _ #[.agg #[r.name,.slice A1 G c1,.slice s2.A s2.n s2.c,.slice s3.A s3.n s3.c,.slice A4 W c4,.slice A5 J c5,.slice s6.A s6.n s6.c,.slice A7 q7 c7,r.best]] _ _;rw[Qp];rw[Qp]at yK;clear F1 l h4 h5 h7 hP hr Qp;by_cases z1:G=0
 ·subst z1;refine ent func55 ntmps55 ?_;gi_wp2_with (first|(refine⟨bO,?_⟩))
  go_ret;exact ab.no rfl (by rw[<-q.u];exact fun h=>h.c0 (de.1 HL.a)) F.out.bl
 by_cases z5:J=0
 ·subst z5;refine ent func55 ntmps55 ?_;gi_wp2_with (first|(refine⟨bO,?_⟩))
  go_ret;exact ab.no rfl (by rw[<-q.u];exact fun h=>h.r0 (de.1 HL.c)) F.out.bl
 obtain⟨R,hR⟩:∃R:List Value, [.string r.name,.slice A1 G c1,.slice s2.A s2.n s2.c,.slice s3.A s3.n s3.c,.slice A4 W c4,.slice A5 J c5,.slice s6.A s6.n s6.c,.slice A7 q7 c7,.int .i64 best]=R:=⟨_,rfl⟩;have X:=Hd (show ∀V,Fr w V [(w.heap.size,R)]↔Fr w V [(w, [r.name,.slice A1 G c1,.slice s2.A s2.n s2.c,.slice s3.A s3.n s3.c,.slice A4 W c4,.slice A5 J c5,.slice s6.A s6.n s6.c,.slice A7 q7 c7,best])]from fun V=>by rw[hR]);obtain⟨Q1,ao⟩:∃Q:Nat->Prop,∀k,Q k↔∀c,c∈r.aT.take k->rC c:=⟨_,fun _=>pg⟩;obtain⟨Q4,Vt⟩:∃Q:Nat->Prop,∀k,Q k↔∀t,t∈r.ties.take k->t.2≠ []/\∀k,k∈t.2->sZ k:=⟨_,fun _=>pg⟩;obtain⟨Q5,ZT⟩:∃Q:Nat->Prop,∀k,Q k↔∀x,x∈r.rounds.take k->Dj r x:=⟨_,fun _=>pg⟩;have sD:=Hd ao;have Fg:=Hd Vt;have Qq:=Hd ZT;clear ao Vt ZT hR;have b1:(((G:Nat):Int)==0)=false:=cU.2 pj;have b5:(((J:Nat):Int)==0)=false:=cU.2 pj;obtain⟨zb,ax⟩:=aC (best==0);obtain⟨z7,aw⟩:=aC (((q7:Nat):Int)==0);have HZ:=Hd2 ax aw;have ay:=Hd (show zb=true↔r.best=0 by rw[<-ax,HQ.out.2];simp);have aD:=Hd (show z7=true↔r.points= [] by rw[<-aw];have:=HL.w;rw[<-de,this];simp);by_cases aa:zb=z7;rotate_left
 ·have ag:=Hd (show ¬(r.best=0↔r.points= [])from fun h=>aa (by
    have l:=ay.out;have h2:=aD.out;rw[<-h,<-l]at h2;cases zb<;>cases z7<;>simp at h2 |-))
  cases zb<;>cases z7
  case neg.false.false=>exact absurd rfl aa
  case neg.true.true=>exact absurd rfl aa
  all_goals
   clear aa;refine ent func55 ntmps55 ?_
   gi_wp2_with (first
    |(have g:=T.out;clear g;refine Cl 105 (aj _ _ _ _) ?_;rintro e C ⟨rfl,rfl⟩;rw[yK];cases qb)
    |(have g:=S.out;clear g;refine Cl 104 (nD (q.a.points.go F.out.bl)) ?_;rintro e C I;obtain⟨b,rfl,hb,f⟩:=I.of;have T:=Hd hb;replace F:=Hd (F.out.go f);have s:=aW F.out;clear hb f I;cases b)
    |(have g:=O.out;clear g;refine Cl 104 (nD (q.a.prizes.go F.out.bl)) ?_;rintro e C I;obtain⟨b,rfl,hb,f⟩:=I.of;have S:=Hd hb;replace F:=Hd (F.out.go f);have s:=aW F.out;clear hb f I;cases b)
    |(have g:=N.out;clear g;refine Cl 103 (nC (q.a.malus.go F.out.bl)) ?_;rintro e C I;obtain⟨b,rfl,hb,f⟩:=I.of;have O:=Hd hb;replace F:=Hd (F.out.go f);have s:=aW F.out;clear hb f I;cases b)
    |(refine Cl 103 (nC (q.a.bonus.go F.out.bl)) ?_;rintro e C I;obtain⟨b,rfl,hb,f⟩:=I.of;have N:=Hd hb;replace F:=Hd (F.out.go f);have s:=aW F.out;clear hb f I;cases b)
    |(refine⟨bO,?_⟩))
   all_goals try(go_ret;exact ab.no rfl (by
    rw[<-q.u];intro h
    first
     |exact iG (N.out.2 h.bonus)
     |exact False.elim (N.out.2 h.bonus)
     |exact iG (O.out.2 h.malus)
     |exact False.elim (O.out.2 h.malus)
     |exact iG (S.out.2 h.prizes)
     |exact False.elim (S.out.2 h.prizes)
     |exact iG (T.out.2 h.points)
     |exact False.elim (T.out.2 h.points)
     |exact ag.out h.bp
     |(have g:=HQ.out.1;have l:=h.best;rw[cx l.1,cx l.2]at g;cases g)) F.out.bl;done)
 subst aa;have ag:=Hd (bO);refine ent func55 ntmps55 ?_
 gi_wp2_with (first
  |(have g:=T.out;clear g;refine Cl 105 (aj _ _ _ _) ?_;rintro e C ⟨rfl,rfl⟩;rw[yK];cases qb)
  |(have g:=S.out;clear g;refine Cl 104 (nD (q.a.points.go F.out.bl)) ?_;rintro e C I;obtain⟨b,rfl,hb,f⟩:=I.of;have T:=Hd hb;replace F:=Hd (F.out.go f);have s:=aW F.out;clear hb f I;cases b)
  |(have g:=O.out;clear g;refine Cl 104 (nD (q.a.prizes.go F.out.bl)) ?_;rintro e C I;obtain⟨b,rfl,hb,f⟩:=I.of;have S:=Hd hb;replace F:=Hd (F.out.go f);have s:=aW F.out;clear hb f I;cases b)
  |(have g:=N.out;clear g;refine Cl 103 (nC (q.a.malus.go F.out.bl)) ?_;rintro e C I;obtain⟨b,rfl,hb,f⟩:=I.of;have O:=Hd hb;replace F:=Hd (F.out.go f);have s:=aW F.out;clear hb f I;cases b)
  |(refine Cl 103 (nC (q.a.bonus.go F.out.bl)) ?_;rintro e C I;obtain⟨b,rfl,hb,f⟩:=I.of;have N:=Hd hb;replace F:=Hd (F.out.go f);have s:=aW F.out;clear hb f I;cases b)
  |(refine⟨bO,?_⟩))
 all_goals try(go_ret;exact ab.no rfl (by
  rw[<-q.u];intro h
  first
   |exact iG (N.out.2 h.bonus)
   |exact False.elim (N.out.2 h.bonus)
   |exact iG (O.out.2 h.malus)
   |exact False.elim (O.out.2 h.malus)
   |exact iG (S.out.2 h.prizes)
   |exact False.elim (S.out.2 h.prizes)
   |exact iG (T.out.2 h.points)
   |exact False.elim (T.out.2 h.points)
   |exact ag.out h.bp
   |(have g:=HQ.out.1;have l:=h.best;rw[cx l.1,cx l.2]at g;cases g)) F.out.bl;done)
 have al:=Hd (show r.best=0↔r.points= [] by
  have l:=HZ.a;have h2:=HZ.u;have h3:=HL.w;rw[HQ.out.2];constructor
  ·intro e;rw[e]at l;rw[<-l]at h2;have:((q7:Nat):Int)=0:=by simpa using h2
   exact de.1 pj
  intro e;rw[e]at h3;have h4:q7=0:=by simpa using h3.symm
  rw[h4]at h2;rw[<-h2]at l;simpa using l)
 have HI:=Zw (N.out.1 pC) (O.out.1 pC) (S.out.1 pC) (T.out.1 pC) (show 0<=r.best/\r.best<=64 from tq HQ.out.1) al.out;have HC:=Hd2 (show r.aT≠ [] by intro e;have:=HL.a;rw[e]at this;exact z1 (by simpa using this.symm)) (show r.rounds≠ [] by intro e;have:=HL.c;rw[e]at this;exact z5 (by simpa using this.symm));have F0:=Hd ((X.out _).2 F.out);clear s N O S T al F;gi_loopw[3] (fun i wr=>KR w R Q1 G i wr) (fun i _=>G-(intOf i).toNat);case atStart=>unfold KR;exact⟨0,cf _,rfl,Hd ((sD.out 0).2 po),F0⟩
 case round=>
  unfold KR at hrel;obtain⟨k,hk,rfl,E,D⟩:=hrel;have F:=Hd ((X.out _).1 D.out);have s:=aW F.out;by_cases Y:k<G
  ·obtain⟨c,ai⟩:=dW r.aT k (by rw[HL.a];exact Y);obtain⟨b,o,es,rfl,aq,Z⟩:=(H.a.go F.out.bl).get ai;obtain⟨rfl,-⟩:=lT aq;have v0:wr.cell? ⟨b,o+k*7,none⟩=some (.string c.1):=Z.2 0 _ rfl;have v1:wr.cell? ⟨b,o+k*7+1,none⟩=some (.int .i64 c.2.1):=Z.2 1 _ rfl;have v2:wr.cell? ⟨b,o+k*7+2,none⟩=some (.int .i64 c.2.2.1):=Z.2 2 _ rfl;have v3:wr.cell? ⟨b,o+k*7+3,none⟩=some (.int .i64 c.2.2.2.1):=Z.2 3 _ rfl;have v4:wr.cell? ⟨b,o+k*7+4,none⟩=some (.int .i64 c.2.2.2.2.1):=Z.2 4 _ rfl;have v5:wr.cell? ⟨b,o+k*7+5,none⟩=some (.int .i64 c.2.2.2.2.2.1):=Z.2 5 _ rfl;have v6:wr.cell? ⟨b,o+k*7+6,none⟩=some (.bool c.2.2.2.2.2.2):=Z.2 6 _ rfl;have am:=Hd ai;clear ai aq Z
   gi_wp2_with (first
    |(refine Cl 106 (RS c _) ?_;rintro e C I;obtain⟨b,rfl,hb,f⟩:=I.of;have HX:=Hd hb;replace F:=Hd (F.out.go f);have s:=aW F.out;clear hb f I;cases b)
    |fail)
   ·go_ret;exact ab.no rfl (by rw[<-q.u];exact fun h=>hno HX (h.aT _ (bh am.out))) F.out.bl
   exact⟨by unfold KR;exact⟨k+1,pj,by go_num,Hd ((sD.out _).2 (bY am.out ((sD.out k).1 E.out) (HX.out.1 pC))),Hd ((X.out _).2 F.out)⟩,by simp[intOf];omega⟩
  ·obtain rfl:k=G:=pj;have Dx:=Hd (show ∀c,c∈r.aT->rC c by have h:=(sD.out k).1 E.out;rwa [bR (by rw[HL.a];exact bj _)]at h);clear hk Y E;gi_wp2;clear s F;gi_loopw[4] (fun i wr=>KR w R Q4 W i wr) (fun i _=>W-(intOf i).toNat);case atStart=>unfold KR;exact⟨0,cf _,rfl,Hd ((Fg.out 0).2 po),D⟩
   case round=>
    unfold KR at hrel;obtain⟨j,hj,rfl,E,D⟩:=hrel;have F:=Hd ((X.out _).1 D.out);have s:=aW F.out;by_cases Y:j<W
    ·obtain⟨t,af⟩:=dW r.ties j (by rw[HL.b];exact Y);obtain⟨b,o,B,m,d,rfl,⟨p0,p1⟩,hks⟩:=(H.b.go F.out.bl).n_ af;have ae:=hks.len;have aL:=hks.small;obtain⟨ks,Fh⟩:=aC t.2;rw[Fh]at hks ae;obtain⟨V,rfl⟩:∃V,V=wr:=⟨_,rfl⟩;have z:=oK af Fh hks ae p1;by_cases av:m=0;·subst av;clear af Fh hks ae;gi_wp2;go_ret;exact ab.no rfl (by rw[<-q.u];intro h;have l:=(h.ties t (bh z.a)).1;rw[z.b]at l;exact l (de.1 z.d)) F.out.bl
     have aI:(((m:Nat):Int)==0)=false:=cU.2 pj;obtain⟨Q6,ap⟩:∃Q:Nat->Prop,∀k,Q k↔∀y,y∈ks.take k->sZ y:=⟨_,fun _=>pg⟩;have ac:=Hd ap;clear af Fh hks ae ap;gi_wp2;clear s;gi_loopw[5] (fun i wr=>KR w R Q6 m i wr/\Hid (Below V V wr)) (fun i _=>m-(intOf i).toNat);case atStart=>exact⟨by unfold KR;exact⟨0,cf _,rfl,Hd ((ac.out 0).2 po),D⟩,Hd pE⟩
     case round=>
      obtain⟨hrel,hV⟩:=hrel;unfold KR at hrel;obtain⟨g,hg,rfl,hG,D⟩:=hrel;have F:=Hd ((X.out _).1 D.out);have s:=aW F.out;have p1:=(bq hV.out []).cell po z.x;by_cases ar:g<m
      ·obtain⟨y,hy⟩:=dW ks g (by rw[z.d];exact ar);obtain⟨b3,o3,rfl,y0,y1,y2⟩:=(z.c.go hV.out).xQ hy;have HY:=Hd hy;clear hy
       gi_wp2_with (first
        |(refine Cl 107 (Oi y _) ?_;rintro e C I;obtain⟨b,rfl,hb,f⟩:=I.of;have HX:=Hd hb;replace F:=Hd (F.out.go f);have aF:=Hd (hV.out.trans (f.mono hV.out.size));clear hb f I;cases b)
        |fail)
       ·go_ret;exact ab.no rfl (by rw[<-q.u];intro h;refine hno HX ((h.ties t (bh z.a)).2 y ?_);rw[z.b];exact bh HY.out) F.out.bl
       exact⟨⟨by unfold KR;exact⟨g+1,pj,by go_num,Hd ((ac.out _).2 (bY HY.out ((ac.out g).1 hG.out) (HX.out.1 pC))),Hd ((X.out _).2 F.out)⟩,aF⟩,by simp[intOf];omega⟩
      ·obtain rfl:g=m:=pj;have aB:=Hd (show t.2≠ []/\∀y,y∈t.2->sZ y by
        rw[z.b];refine⟨fun e=>av (by have:=z.d;rw[e]at this;exact this.symm),?_⟩;have h:=(ac.out g).1 hG.out
        rwa [bR (by rw[z.d];exact bj _)]at h)
       clear hg ar hG hV;gi_wp2;exact⟨by unfold KR;exact⟨j+1,pj,by go_num,Hd ((Fg.out _).2 (bY z.a ((Fg.out j).1 E.out) aB.out)),D⟩,by simp[intOf];omega⟩
    ·obtain rfl:j=W:=pj;have XZ:=Hd (show ∀t,t∈r.ties->t.2≠ []/\∀k,k∈t.2->sZ k by have h:=(Fg.out j).1 E.out;rwa [bR (by rw[HL.b];exact bj _)]at h);clear hj Y E;gi_wp2;clear s F;gi_loopw[6] (fun i wr=>KR w R Q5 J i wr) (fun i _=>J-(intOf i).toNat);case atStart=>unfold KR;exact⟨0,cf _,rfl,Hd ((Qq.out 0).2 po),D⟩
     case round=>
      unfold KR at hrel;obtain⟨g,hg,rfl,E,D⟩:=hrel;have F:=Hd ((X.out _).1 D.out);have s:=aW F.out;by_cases Y:g<J
      ·obtain⟨y,hy⟩:=dW r.rounds g (by rw[HL.c];exact Y);obtain⟨b1,u1,D1,m1,e1,rfl,⟨x0,x1,x2,x3,x4,x5⟩,⟨x6,x7,x8,x9,x10⟩,⟨x11,x12⟩,-,-,hs1⟩:=(H.c.go F.out.bl).iw hy;obtain⟨yn,yp,yq,yc,wQ,zo,ys,yt,yno⟩:=y;simp only[au]at x0 x1 x2 x3 x4 x5 x6 x7 x8 x9 x10 x11 x12 hs1;have ad:=Ji (yn:=yn) (yt:=yt) (yp:=yp) (yq:=yq) (yc:=yc) (yno:=yno) (wQ:=wQ) (zo:=zo) ((q.a.go F.out.bl).go pE.drew) Dx.out (hs1.go pE.drew);simp only[aV]at ad;rw[HQ.out.2]at ad;have aE:=Hd ad;clear ad;have HD:=Hd F.out.drew;have HY:=Hd hy;have v0:=ah x0;have v1:=ah x1;have v2:=ah x2;have v3:=ah x3;have v4:=ah x4;have v5:=ah x5;have v6:=ah x6;have v7:=ah x7;have v8:=ah x8;have v9:=ah x9;have aN:=ah x10;have aO:=ah x11;have aP:=ah x12;have u0:=ah (F.out.aQ 0 0);have aM:=ah (F.out.aQ 0 1);have u2:=ah (F.out.aQ 0 2);have u3:=ah (F.out.aQ 0 3);have u4:=ah (F.out.aQ 0 4);have u5:=ah (F.out.aQ 0 5);have u6:=ah (F.out.aQ 0 6);have u7:=ah (F.out.aQ 0 7);have u8:=ah (F.out.aQ 0 8);clear hy hs1 x0 x1 x2 x3 x4 x5 x6 x7 x8 x9 x10 x11 x12;gi_wp2;refine ak [] [0,1,2,3,4,5,6,7] pk pk ?_;refine eH ?_;refine aH fun K hK=>aA rfl rfl wy fun K' an=>?_;gi_wp2;refine Cl 108 aE.out ?_;rintro e C I;obtain⟨b,rfl,hb,f⟩:=I.of;have HX:=Hd hb;have F2:=Hd (HD.out.go f);refine an _ _ ⟨?_,hK _ _ ?_⟩;clear an K' hK K;·exact bq f _
       clear hb f I;cases b;·refine lit ?_;refine eH ?_;refine aK ?_;refine lit ?_;gi_wp2;go_ret;exact ab.no rfl (by rw[<-q.u];exact fun h=>hno HX (h.rounds _ (bh HY.out))) F2.out.bl
       refine lit ?_;refine eH ?_;refine aK ?_;refine lit ?_;gi_wp2;exact⟨by unfold KR;exact⟨g+1,pj,by go_num,Hd ((Qq.out _).2 (bY HY.out ((Qq.out g).1 E.out) (HX.out.1 pC))),Hd ((X.out _).2 F2.out)⟩,by simp[intOf];omega⟩
      ·obtain rfl:g=J:=pj;have az:=Hd (show ∀x,x∈r.rounds->Dj r x by have h:=(Qq.out g).1 E.out;rwa [bR (by rw[HL.c];exact bj _)]at h);clear hg Y E;gi_wp2;go_ret;exact ab.yes rfl (by rw[<-q.u];exact⟨HC.a,HC.u,Dx.out,HI.a,HI.b,HI.c,HI.d,HI.e,HI.y,XZ.out,az.out⟩) F.out.bl
theorem Sl.Vu{w:World}{k:Nat}{l:List Bool}{x:Bool}(h:Sl Bool w M A n c l)(hk:l[k]?=some x):∃b o,A=some ⟨b,o,none⟩/\w.cell? ⟨b,o+k,none⟩=some (.bool x):=by obtain⟨b,o,a,rfl,f,g⟩:=h.get hk;have s:a=_:=f;subst s;have F:=g.2 0 _ rfl;rw[show Rep.sz Bool=1 from rfl,gP]at F;exact⟨b,o,rfl,F⟩
def Dy(f:Nat->Bool)(k:bK):Bool:=decide (k.1=5)&&f k.2.2.toNat
theorem Oo{bs:List Bool}(f:Nat->Bool){w:World}(hs:Sl bK w M B m d ks)(hb:Sl Bool w M' A n c bs)(hf:∀u,u<n->bs[u]?=some (f u))(hr:∀k,k∈ks->k.1=5->∃u:Nat,k.2.2=(u:Int)/\u<n):
 CB 109 #[.agg #[nm,.slice B m d],.slice A n c] (.bool (ks.any (Dy f))) w:=by
 refine wid ?_;have T:=hs.small;have V:=hb.small;obtain⟨W1,C,F1⟩:=dR ((Fr.nil w).a w [nm,.slice B m d] 142);have H:=oK (hs.go F1.bl) hs.len (hb.go F1.bl) hf hr;have HB:=Hd F1.bl;have W:=aW F1;clear F1 hs hb hf hr;refine ent func109 ntmps109 ?_;gi_wp2;gi_loopw[5] (fun i wr=>∃k:Nat,k<=m/\i=k/\W1=wr/\Hid ((ks.take k).any (Dy f)=false)) (fun i _=>m-(intOf i).toNat);case atStart=>exact⟨0,cf _,rfl,by first|rfl|exact C|exact C.symm,Hd po⟩
 case round=>
  obtain⟨k,N,rfl,rfl,S⟩:=hrel;by_cases F:k<m
  ·obtain⟨y,g⟩:=dW ks k (by rw[H.b];exact F);obtain⟨b,o,rfl,I,J,Q⟩:=H.a.xQ g;have l:=xI (Dy f) g;obtain⟨s,G,P⟩:=y;simp only at I J Q;by_cases j:s=5
   ·subst j;obtain⟨u,rfl,O⟩:=H.x _ (bh g) rfl;have D:=H.d u O;obtain⟨b2,X,rfl,K⟩:=H.c.Vu D;obtain⟨z,q⟩:=aC (f u);rw[q]at K;have HY:=fB l (show Dy f (5,G,(u:Int))=z by simp[Dy,q]) g;clear l g D q;cases z;·gi_wp2;exact⟨⟨k+1,pj,by go_num,bO,Hd (by rw[HY.a,S.out,HY.b];rfl)⟩,by simp[intOf];omega⟩
    have E:=Hd (show ks.any (Dy f)=true from iS.2 ⟨_,bh HY.v,HY.b⟩);gi_wp2;go_ret;exact⟨by rw[E.out];rfl,HB.out⟩
   have R:(s==5)=false:=cU.2 j;have HY:=Hd2 l (show Dy f (s,G,P)=false by simp[Dy,j]);clear l g j;gi_wp2_with (first|(refine⟨bO,?_⟩))
   exact⟨⟨k+1,pj,by go_num,bO,Hd (by rw[HY.a,S.out,HY.u];rfl)⟩,by simp[intOf];omega⟩
  ·obtain rfl:k=m:=pj;have E:=Hd (show ks.any (Dy f)=false by have h:=S.out;rwa [bR (by rw[H.b];exact bj _)]at h);clear N F;gi_wp2;go_ret;exact⟨by rw[E.out];rfl,HB.out⟩
def uV(f:Nat->Nat)(k:bK):Nat:=if k.1=5 then f k.2.2.toNat else 1
theorem Vw{f:Nat->Nat}{l:List bK}{k:Nat}{y:bK}(h:l[k]?=some y):((l.take (k+1)).map (uV f)).sum=((l.take k).map (uV f)).sum+uV f y:=by rw[dm,h];simp
theorem cnt_le{f:Nat->Nat}(hf:∀u,f u<=33):∀l:List bK,(l.map (uV f)).sum<=33*l.length
 | []=>by simp
 |k::l=>by
  have h1:=cnt_le hf l;have h2:uV f k<=33:=by unfold uV;split;exact hf _;omega
  simp only[eV,mC,eh];omega
theorem count_any{of:List Int}(f:Nat->Nat){w:World}(hs:Sl bK w M B m d ks)(hb:Sl Int w M' A n c of)(hf:∀u,u<n->of[u]?=some ((f u:Nat):Int))(h33:∀u,f u<=33)(hr:∀k,k∈ks->k.1=5->∃u:Nat,k.2.2=(u:Int)/\u<n)(hm:m<=1000):
 CB 110 #[.agg #[nm,.slice B m d],.slice A n c] (.int .i64 ((min ((ks.map (uV f)).sum) 33:Nat):Int)) w:=by
 refine wid ?_;have ac:=hb.small;obtain⟨W1,I,F1⟩:=dR ((Fr.nil w).a w [nm,.slice B m d] 142);have H:=oK (hs.go F1.bl) hs.len (hb.go F1.bl) hf hr;have E:=Hd h33;have HB:=Hd F1.bl;have o1:=aW F1;clear F1 hs hb hf hr h33;refine ent func110 ntmps110 ?_;gi_wp2;gi_loopw[5,6] (fun v i wr=>∃k s:Nat,k<=m/\v=.int .i64 (s:Int)/\i=k/\W1=wr/\Hid (((ks.take k).map (uV f)).sum=s)) (fun _ i _=>m-(intOf i).toNat);case atStart=>exact⟨0,0,cf _,rfl,rfl,by first|rfl|exact I|exact I.symm,Hd po⟩
 case round=>
  obtain⟨k,s,W,rfl,rfl,rfl,S⟩:=hrel;have Y:s<=33000:=by have V:=cnt_le E.out (ks.take k);rw[S.out,cI]at V;omega
  by_cases K:k<m
  ·obtain⟨y,g⟩:=dW ks k (by rw[H.b];exact K);obtain⟨b,o,rfl,P,Q,R⟩:=H.a.xQ g;have l:=Vw (f:=f) g;obtain⟨D,O,X⟩:=y;simp only at P Q R;by_cases j:D=5
   ·subst j;obtain⟨u,rfl,N⟩:=H.x _ (bh g) rfl;have J:=H.d u N;obtain⟨b2,o2,x,rfl,T,-,-,G⟩:=H.c.pR N;rw[J]at G;cases G;obtain⟨z,q⟩:=aC (f u);have Z:z<=33:=by rw[<-q];exact E.out u
    rw[q]at T;have HY:=Hd2 l (show uV f (5,O,(u:Int))=z by simp[uV,q]);clear l g J q;gi_wp2;exact⟨⟨k+1,s+z,pj,by go_num,by go_num,bO,Hd (by rw[HY.a,S.out,HY.u])⟩,by simp[intOf];omega⟩
   have aa:(D==5)=false:=cU.2 j;have HY:=Hd2 l (show uV f (D,O,X)=1 by simp[uV,j]);clear l g j;gi_wp2;exact⟨⟨k+1,s+1,pj,by go_num,by go_num,bO,Hd (by rw[HY.a,S.out,HY.u])⟩,by simp[intOf];omega⟩
  ·obtain rfl:k=m:=pj;have F:=Hd (show(ks.map (uV f)).sum=s by have h:=S.out;rwa [bR (by rw[H.b];exact bj _)]at h);clear W K;by_cases ab:s<=33;·have C:min (s:Int) 33=(s:Int):=pj;have HM:=Hd (show((min ((ks.map (uV f)).sum) 33:Nat):Int)=(s:Int) by rw[F.out];omega);exact Y2
   have C:min (s:Int) 33=33:=pj;have HM:=Hd (show((min ((ks.map (uV f)).sum) 33:Nat):Int)=33 by rw[F.out];omega);exact Y2
theorem RX:(prog.info? 4).map (fun i=>(i.zero,i.size,i.bytes))=some (some (.bool false),1,1):=pk
theorem Dz:iU 4 (Rep.sz Bool):=iU.mk' RX rfl pj
theorem RY:iU 3 (Rep.sz Int):=iU.mk' qo rfl pj
def Vx(r:aS):Prop:=∀t,t∈r.ties->∀k,k∈t.2->k.1=5->∃u:Nat,k.2.2=(u:Int)/\u<r.ties.length
theorem agH(hc:xY r=0):Vx r:=by intro t X k j g;obtain⟨o,f⟩:=Dl hc;obtain⟨-,-,-,b⟩:=Dn o;unfold xX at f;rw[cS,cT]at f;unfold Yc at b;rw[cS,cT]at b;have O:iW (dP r) (dQ r) (jF r) k=k:=cW (cT.1 (f.1 t X) k j);have a:=cT.1 (b.1 t X) k j;obtain⟨kd,nm,n⟩:=k;simp only at g;subst g;unfold iW at O;unfold I_ at a;simp only[if_neg (show ¬(5:Int)=1 by omega),if_neg (show ¬(5:Int)=2 by omega),mf]at O a;have q:=cW a;have s:dO (jF r) nm=n:=gT (fun x:bK=>x.2.2) O;have l:=oW (jF r) nm;rw[ck]at l;exact⟨n.toNat,by show n=_;omega,pj⟩
structure yg{α:Type} [kJ α] (e:TypeId)(w u:World)(L:List (Nat×List Value))(v:Value)(k:Nat)(xs:List α)(wr:World):Prop where
 own:bD α e wr [] u.heap.size v k xs
 fr:Fr w wr L
 bb:Below u u wr
 hL:∀b vs,(b,vs)∈L->b<u.heap.size
 hW:w.heap.size<=u.heap.size
section
variable {α:Type} [kJ α] {e:TypeId}{w u wr wz:World}{k:Nat}{L:List (Nat×List Value)}{v:Value}{xs:List α}
theorem yg.go(h:yg e w u L v k xs wr)(hb:Below wr wr wz):yg e w u L v k xs wz:=⟨h.own.go hb,h.fr.go hb,h.bb.trans (hb.mono h.bb.size),h.hL,h.hW⟩
theorem yg.app(h:yg e w u L v k xs wr)(ht:prog.underlying t=some (.slice e))(hi:iU e (Rep.sz α)){x:α}{cs:List Value}(hx:Rep.rd wr (bP v++ []) x cs)(hn:k<=100000):
 ∃v' w',(Builtin.append_ #[t,t] t #[v,.slice (some ⟨wr,0,none⟩) 1 1]).run prog (wr.alloc (.cells cs.toArray e))=.ok v' w'/\yg e w u L v' (k+1) (xs++ [x]) w':=by
 obtain⟨v',w',j,T,f,-,-⟩:=h.own.app1 ht hi h.bb.size (b_.nil _) hx hn;exact⟨v',w',j,T,h.fr.ZI f (fun q a=>⟨cF h.hW (h.own.lt a).1,fun b vs g e=>by have l:=(h.own.lt a).1;have o:=h.hL b vs g;omega⟩),h.bb.grown f h.bb.size (fun q a=>(h.own.lt a).1),h.hL,h.hW⟩
theorem yg.lit{w1:World}(h:Fr w w1 L)(e:TypeId):yg (α:=α) e w w1 L (.slice (some ⟨w1,0,none⟩) 0 0) 0 [] (w1.alloc (.cells #[] e)):=⟨bD.lit _ _ pD,h.go (by exact bel),by exact bel,h.lt,h.bl.size⟩
theorem yg.sl(h:yg e w u L v k xs wr)(hn:k<=100000):∃A c,v=.slice A k c/\Sl α wr [] A k c xs:=h.own.sl pj pH
end
def RZ{α:Type} [kJ α] (e:TypeId)(w u:World)(L:List (Nat×List Value))(F:Nat->List α)(n:Nat)(v i:Value)(wr:World):Prop:=∃k:Nat,k<=n/\i=k/\Hid (yg e w u L v k (F k) wr)
def Yp{α:Type} [Rep α] (w:World)(L:List (Nat×List Value))(F:Nat->List α)(n:Nat)(v i:Value)(wr:World):Prop:=∃(k:Nat) (A:Option Addr) (c:Nat),k<=n/\i=k/\v=.slice A n c/\Hid (Sl α wr [] A n c (F k))/\Hid (Fr w wr L)
attribute [irreducible] RZ Yp
theorem ou{α:Type}(f:Nat->α)(k:Nat):(List.range (k+1)).map f=(List.range k).map f++ [f k]:=by rw[oR,ed];rfl
theorem yh{α:Type}(f:Nat->α){u:Nat}(h:u<n):((List.range n).map f)[u]?=some (f u):=by simp[h]
theorem agI{t:Nat}{x:dA}(h:ts[i]?=some x):vw ts (t+1) i=x.2.any (Dy (vw ts t)):=by rw[vw,h];rfl
theorem Jj{w:World}(hr:dG w M r s1 s2 s3 s4 s5 s6 s7)(hf:Vx r)(hl:s4.n<=1000):
 Calls prog 56 #[.agg (aV r s1 s2 s3 s4 s5 s6 s7).toArray] w fun e w'=>∃A c,e=.returned (.slice A s4.n c)/\Sl Bool w' [] A s4.n c ((List.range s4.n).map (vw r.ties s4.n))/\Below w w w':=by
 refine wid ?_;obtain⟨E,n,G⟩:=s4;have N:Sl dA w M E n G r.ties:=hr.ties;obtain⟨L,O⟩:∃L:List (Nat×List Value), [(w.heap.size,aV r s1 s2 s3 ⟨E,n,G⟩ s5 s6 s7)]=L:=⟨_,rfl⟩;obtain⟨W1,ad,F1⟩:=dR ((Fr.nil w).a w (aV r s1 s2 s3 ⟨E,n,G⟩ s5 s6 s7) 28);have HL:=Hd (show ∀V,Fr w V L->Fr w V [(w,aV r s1 s2 s3 ⟨E,n,G⟩ s5 s6 s7)]from fun V h=>by rw[O];exact h);have F1:Fr w W1 L:=by rw[<-O];exact F1
 obtain⟨W2,ac⟩:=aC (W1.alloc (.cells #[] 4));have W:=Hd (show yg (α:=Bool) 4 w W1 L (.slice (some ⟨W1,0,none⟩) 0 0) 0 ((List.range 0).map (vw r.ties 0)) W2 by rw[<-ac];exact yg.lit F1 _);have H:=h_ N N.len hf hl;have HN:n<=1000:=hl;have o1:=aW (HL.out _ F1);have o2:=aW (HL.out _ W.out.fr);clear F1 N hr hf hl O;refine ent func56 ntmps56 ?_;gi_wp2;gi_loopw[3,4] (fun v i wr=>RZ (α:=Bool) 4 w W1 L (fun k=>(List.range k).map (vw r.ties 0)) n v i wr) (fun _ i _=>n-(intOf i).toNat);case atStart=>unfold RZ;exact⟨0,cf _,rfl,W⟩
 case round=>
  unfold RZ at hrel;obtain⟨k,hk,rfl,f⟩:=hrel;have J:=aW (HL.out _ f.out.fr);by_cases Q:k<n
  ·obtain⟨v',wA,D,s⟩:=f.out.app (x:=true) (cs:= [true]) underlying54 Dz rfl pj;have q:=Hd2 D s;have o4:=aW (HL.out _ s.fr);clear D s
   gi_wp2_with (first
    |(have g:=q;clear g;gi_at_builtin;refine c_ rfl fun K C=>?_;have X:=q.out.1;refine aI _ _ _ rfl rfl rfl X (C _ _ ?_);clear C K X)
    |fail)
   exact⟨by unfold RZ;exact⟨k+1,pj,by go_num,Hd (by have h:yg _ _ _ _ _ _ ((List.range k).map (vw r.ties 0)++ [vw r.ties 0 k]) _:=q.out.2;rw[<-ou]at h;exact h)⟩,by simp[intOf];omega⟩
  ·obtain rfl:k=n:=pj;obtain⟨A,c,rfl,Y⟩:=f.out.sl pj;have l:=Hd2 Y f.out.fr;clear hk Q f Y o1 o2;obtain⟨V0,rfl⟩:∃V,V=wr:=⟨_,rfl⟩;gi_wp2;clear J;gi_loopw[3,5] (fun v i wr=>Yp (α:=Bool) w L (fun t=>(List.range k).map (vw r.ties t)) k v i wr) (fun _ i _=>k-(intOf i).toNat);case atStart=>unfold Yp;exact⟨0,A,c,cf _,rfl,rfl,Hd l.a,Hd l.u⟩
   case round=>
    unfold Yp at hrel;obtain⟨t,A,c,ht,rfl,rfl,P,I⟩:=hrel;have J:=aW (HL.out _ I.out);by_cases Q:t<k
    ·obtain⟨F,rfl⟩:∃V,V=wr:=⟨_,rfl⟩;obtain⟨VB,ab⟩:=aC (F.alloc (.cells #[] 4));have RB:=Hd (show yg (α:=Bool) 4 w F L (.slice (some ⟨F,0,none⟩) 0 0) 0 ((List.range 0).map (vw r.ties (t+1))) VB by rw[<-ab];exact yg.lit I.out _);have o5:=aW (HL.out _ RB.out.fr);gi_wp2;clear J o5;gi_loopw[6,7] (fun v i wr=>RZ (α:=Bool) 4 w F L (fun j=>(List.range j).map (vw r.ties (t+1))) k v i wr) (fun _ i _=>k-(intOf i).toNat);case atStart=>unfold RZ;exact⟨0,cf _,rfl,RB⟩
     case round=>
      unfold RZ at hrel;obtain⟨j,hj,rfl,f⟩:=hrel;have J:=aW (HL.out _ f.out.fr);by_cases aa:j<k
      ·obtain⟨x,hx⟩:=dW r.ties j (by rw[H.b];exact aa);obtain⟨b,o,B,m',d',rfl,⟨p0,p1⟩,hks⟩:=(H.a.go f.out.fr.bl).n_ hx;have T:=Hd (Oo (nm:=x.1) (vw r.ties t) hks (P.out.go f.out.bb) (fun u R=>yh _ R) (fun y hy h5=>by
        obtain⟨u,e,R⟩:=H.c x (bh hx) y hy h5;exact⟨u,e,by rw[<-H.b];exact R⟩))
       obtain⟨z,S⟩:=aC (x.2.any (Dy (vw r.ties t)));have HZ:=Hd ((agI (t:=t) hx).trans S);rw[S]at T;clear hx hks S
       gi_wp2_with (first
        |(have g:=q;clear g;gi_at_builtin;refine c_ rfl fun K C=>?_;have X:=q.out.1;refine aI _ _ _ rfl rfl rfl X (C _ _ ?_);clear C K X)
        |(refine Cl 109 T.out ?_;rintro e w3 ⟨rfl,Z⟩;obtain⟨v',wA,D,s⟩:=(f.out.go Z).app (x:=z) (cs:= [z]) underlying54 Dz rfl pj;have q:=Hd2 D s;have o4:=aW (HL.out _ s.fr);clear D s Z)
        |fail)
       exact⟨by unfold RZ;exact⟨j+1,pj,by go_num,Hd (by have h:=q.out.2;rw[<-HZ.out,<-ou]at h;exact h)⟩,by simp[intOf];omega⟩
      ·obtain rfl:j=k:=pj;obtain⟨A',c',rfl,Y⟩:=f.out.sl pj;have l:=Hd2 Y f.out.fr;clear hj aa f Y;gi_wp2;exact⟨by unfold Yp;exact⟨t+1,A',c',pj,by go_num,rfl,Hd l.a,Hd l.u⟩,by simp[intOf];omega⟩
    ·obtain rfl:t=k:=pj;have l:=Hd2 P.out I.out.bl;clear ht Q P I;gi_wp2;go_ret;exact⟨A,c,rfl,l.a,l.u⟩
theorem agJ{t:Nat}{x:dA}(h:ts[i]?=some x):KJ ts (t+1) i=min ((x.2.map (uV (KJ ts t))).sum) 33:=by rw[KJ,h];rfl
theorem Vy(ts:List dA):∀t i,KJ ts t i<=33
 |0,_=>by simp[KJ]
 |t+1,i=>by
  unfold KJ;split;·omega
  omega
def qH(ts:List dA)(t u:Nat):Int:=((KJ ts t u:Nat):Int)
theorem Oq(ts:List dA)(n:Nat):List.replicate n (0:Int)=(List.range n).map (qH ts 0):=by
 apply jx;·simp
 intro i b a;simp[qH,KJ]
theorem Vz{w:World}(hr:dG w M r s1 s2 s3 s4 s5 s6 s7)(hf:Vx r)(hl:s4.n<=1000)(hk:∀t,t∈r.ties->t.2.length<=1000):
 Calls prog 57 #[.agg (aV r s1 s2 s3 s4 s5 s6 s7).toArray] w fun e w'=>∃A c,e=.returned (.slice A s4.n c)/\Sl Int w' [] A s4.n c ((List.range s4.n).map (qH r.ties s4.n))/\Below w w w':=by
 refine wid ?_;obtain⟨q,n,C⟩:=s4;have J:Sl dA w M q n C r.ties:=hr.ties;obtain⟨L,N⟩:∃L:List (Nat×List Value), [(w.heap.size,aV r s1 s2 s3 ⟨q,n,C⟩ s5 s6 s7)]=L:=⟨_,rfl⟩;obtain⟨W1,af,F1⟩:=dR ((Fr.nil w).a w (aV r s1 s2 s3 ⟨q,n,C⟩ s5 s6 s7) 28);have HL:=Hd (show ∀V,Fr w V L->Fr w V [(w,aV r s1 s2 s3 ⟨q,n,C⟩ s5 s6 s7)]from fun V h=>by rw[N];exact h);have F1:Fr w W1 L:=by rw[<-N];exact F1
 have HN:n<=1000:=hl;have I:((List.replicate n (0:Int)).map (Value.int .i64)).toArray=Array.replicate n (Value.int .i64 0):=po;have mk:=qR (t:=26) underlying26 n pj;rw[I]at mk;obtain⟨R,T⟩:=aC (W1.alloc (.cells (Array.replicate n (Value.int .i64 0)) 3));have f:=Hd2 (show Sl Int R [] (some ⟨W1,0,none⟩) n n ((List.range n).map (qH r.ties 0)) by rw[<-Oq,<-T,<-I];exact(show Row _ _ _ from lz W1 _).sl po po pj (fun x hx=>by rw[(List.mem_replicate.1 hx).2];unfold i64;omega)) (show Fr w R L by rw[<-T];exact F1.go (by exact bel));have H:=h_ J J.len hf hk;have o1:=aW (HL.out _ F1);have o2:=aW (HL.out _ f.u);clear F1 J hr hf hl N hk I;refine ent func57 ntmps57 ?_;gi_wp2;clear o1 o2;gi_loopw[3,4] (fun v i wr=>Yp (α:=Int) w L (fun t=>(List.range n).map (qH r.ties t)) n v i wr) (fun _ i _=>n-(intOf i).toNat);case atStart=>unfold Yp;exact⟨0,_,_,cf _,rfl,rfl,Hd f.a,Hd f.u⟩
 case round=>
  unfold Yp at hrel;obtain⟨t,A,c,ht,rfl,rfl,O,D⟩:=hrel;have o3:=aW (HL.out _ D.out);by_cases ae:t<n
  ·obtain⟨s,rfl⟩:∃V,V=wr:=⟨_,rfl⟩;obtain⟨VB,ab⟩:=aC (s.alloc (.cells #[] 3));have RB:=Hd (show yg (α:=Int) 3 w s L (.slice (some ⟨s,0,none⟩) 0 0) 0 ((List.range 0).map (qH r.ties (t+1))) VB by rw[<-ab];exact yg.lit D.out _);have o5:=aW (HL.out _ RB.out.fr);gi_wp2;clear o3 o5;gi_loopw[5,6] (fun v i wr=>RZ (α:=Int) 3 w s L (fun j=>(List.range j).map (qH r.ties (t+1))) n v i wr) (fun _ i _=>n-(intOf i).toNat);case atStart=>unfold RZ;exact⟨0,cf _,rfl,RB⟩
   case round=>
    unfold RZ at hrel;obtain⟨j,hj,rfl,l⟩:=hrel;have o3:=aW (HL.out _ l.out.fr);by_cases Y:j<n
    ·obtain⟨x,hx⟩:=dW r.ties j (by rw[H.b];exact Y);obtain⟨b,o,B,m',d',rfl,⟨p0,p1⟩,hks⟩:=(H.a.go l.out.fr.bl).n_ hx;have ac:=H.w x (bh hx);have ad:=hks.len;have F:=Hd (count_any (nm:=x.1) (KJ r.ties t) hks (O.out.go l.out.bb) (fun u P=>yh (qH r.ties t) P) (Vy r.ties t) (fun y hy h5=>by
      obtain⟨u,e,P⟩:=H.c x (bh hx) y hy h5;exact⟨u,e,by rw[<-H.b];exact P⟩) pj)
     rw[<-agJ (t:=t) hx]at F;obtain⟨z,Q⟩:=aC (KJ r.ties (t+1) j);have aa:=Vy r.ties (t+1) j;rw[Q]at F aa;have HZ:=Hd Q;clear hx hks Q ac ad
     gi_wp2_with (first
      |(have g:=E;clear g;gi_at_builtin;refine c_ rfl fun K S=>?_;have X:=E.out.1;refine aI _ _ _ rfl rfl rfl X (S _ _ ?_);clear S K X)
      |(refine Cl 110 F.out ?_;rintro e w3 ⟨rfl,W⟩;obtain⟨v',wA,r1,G⟩:=(l.out.go W).app (x:=((z:Nat):Int)) (cs:= [.int .i64 ((z:Nat):Int)]) underlying26 RY ⟨rfl,pA⟩ pj;have E:=Hd2 r1 G;have o4:=aW (HL.out _ G.fr);clear r1 G W)
      |fail)
     exact⟨by unfold RZ;exact⟨j+1,pj,by go_num,Hd (by have h:yg _ _ _ _ _ _ ((List.range j).map (qH r.ties (t+1))++ [((z:Nat):Int)]) _:=E.out.2;rw[show((z:Nat):Int)=qH r.ties (t+1) j by rw[qH,HZ.out],<-ou]at h;exact h)⟩,by simp[intOf];omega⟩
    ·obtain rfl:j=n:=pj;obtain⟨A',c',rfl,Z⟩:=l.out.sl pj;have f:=Hd2 Z l.out.fr;clear hj Y l Z;gi_wp2;exact⟨by unfold Yp;exact⟨t+1,A',c',pj,by go_num,rfl,Hd f.a,Hd f.u⟩,by simp[intOf];omega⟩
  ·obtain rfl:t=n:=pj;have f:=Hd2 O.out D.out.bl;clear ht ae O D;gi_wp2;go_ret;exact⟨A,c,rfl,f.a,f.u⟩
def mZ(p:Prop)(w:World)(e:Ending)(w':World):Prop:=∃b:Bool,e=.returned b/\(b=false↔p)/\Below w w w'
attribute [irreducible] mZ
theorem mZ.yes{w:World}{e:Ending}(h:e=.returned true)(hn:¬p)(hb:Below w w w'):mZ p w e w':=by unfold mZ;exact⟨true,h,⟨fun e=>(by cases e),fun h=>absurd h hn⟩,hb⟩
theorem mZ.no{w:World}{e:Ending}(h:e=.returned false)(hp:p)(hb:Below w w w'):mZ p w e w':=by unfold mZ;exact⟨false,h,⟨fun _=>hp,fun _=>rfl⟩,hb⟩
theorem mZ.of{w:World}{e:Ending}(h:mZ p w e w'):∃b:Bool,e=.returned b/\(b=false↔p)/\Below w w w':=by unfold mZ at h;exact h
def Qr(at_:Int)(y:aU):Prop:=y.kind=5->y.n<at_
def LtC(x:aU):Prop:=∀{M:List Nat}{A:Option Addr}{m c:Nat}{at_:Int}{w:World},Sl aU w M A m c x.l->Calls prog 58 #[.agg #[x.kind,x.name,x.n,x.d,.slice A m c],at_] w (mZ (∀y,y∈iZ x->Qr at_ y) w)
theorem R_(x:aU):LtC x:=by
 induction x using iY with
 |_ x ih=>
 intro M A m c at_ w hs;obtain⟨k,s,n,d,l⟩:=x;simp only[aU.kind,aU.name,aU.n,aU.d,aU.l]at hs |-;refine wid ?_;have T:=hs.len;have ac:=hs.small;obtain⟨P,O⟩:=aC (∀y,y∈iZ (.mk k s n d l)->Qr at_ y);rw[O];obtain⟨W1,ab,F1⟩:=dR ((Fr.nil w).a w [k,s,n,d,.slice A m c] 66);have o1:=aW F1;have D:=Hd O;have HF:=Hd F1;have V:∀y,y∈l->LtC y:=ih;have H:=Hd2 V hs;have HL:=Hd T;clear F1 hs ih V T O;by_cases N:k=5
 ·subst N;by_cases R:at_<=n;·have hnd:decide (at_<=n)=true:=cx R;have W:=Hd R;refine ent func58 ntmps58 ?_;gi_wp2;go_ret;exact mZ.yes (by first|rfl|simp[*]) (by rw[<-D.out];intro h;have E:=h _ (by rw[lW];exact cw) rfl;have h2:n<at_:=E;have:=W.out;omega) HF.out.bl
  have hnd:decide (at_<=n)=false:=cE R;have HN:=Hd (show n<at_ by omega);refine ent func58 ntmps58 ?_;gi_wp2_with (first|(refine⟨bO,?_⟩))
  gi_loopw[5] (fun i wr=>∃j:Nat,j<=m/\i=j/\Hid (∀z,z∈l.take j->∀y,y∈iZ z->Qr at_ y)/\Hid (Fr w wr [(w, [.int .i64 5,s,n,d,.slice A m c])])) (fun i _=>m-(intOf i).toNat);case atStart=>exact⟨0,cf _,rfl,Hd po,HF⟩
  case round=>
   obtain⟨j,Q,rfl,S,f⟩:=hrel;have Z:=aW f.out;by_cases G:j<m;·exact z_
   ·obtain rfl:j=m:=pj;have K:=Hd (show P by
     rw[<-D.out];refine o_ (fun _=>HN.out) (fun z q=>S.out z ?_);rw[bR (by rw[HL.out];exact bj _)];exact q)
    clear Q G;gi_wp2;go_ret;exact mZ.no rfl K.out f.out.bl
 have aa:(k==5)=false:=cU.2 N;refine ent func58 ntmps58 ?_;gi_wp2_with (first|(refine⟨bO,?_⟩))
 gi_loopw[5] (fun i wr=>∃j:Nat,j<=m/\i=j/\Hid (∀z,z∈l.take j->∀y,y∈iZ z->Qr at_ y)/\Hid (Fr w wr [(w, [k,s,n,d,.slice A m c])])) (fun i _=>m-(intOf i).toNat);case atStart=>exact⟨0,cf _,rfl,Hd po,HF⟩
 case round=>
  obtain⟨j,Q,rfl,S,f⟩:=hrel;have Z:=aW f.out;by_cases G:j<m;·exact z_
  ·obtain rfl:j=m:=pj;have K:=Hd (show P by
    rw[<-D.out];refine o_ (fun e=>absurd e N) (fun z q=>S.out z ?_);rw[bR (by rw[HL.out];exact bj _)];exact q)
   clear Q G;gi_wp2;go_ret;exact mZ.no rfl K.out f.out.bl
theorem bD.ajb{e:TypeId}{w:World}{base:Nat}{v:Value}{xs:List bK}(h:bD bK e w M base v n xs)(M':List Nat):bD bK e w M' base v n xs:=by obtain⟨cs,f,g⟩:=h.ex;refine⟨h.len,cs,f,fun k x j=>?_⟩;obtain⟨q,a,b⟩:=g k x j;obtain⟨rfl,l,o⟩:=rd_key a;exact⟨_,⟨[_],_,rfl,⟨rfl,l⟩, [_],_,rfl,rfl,⟨rfl,o⟩⟩,b⟩
theorem yg.ahX{α:Type} [kJ α] {e:TypeId}{w u wr:World}{k:Nat}{L:List (Nat×List Value)}{v:Value}{xs ys:List α}(h:yg e w u L v k xs wr)(ht:prog.underlying t=some (.slice e))(hi:iU e (Rep.sz α))(hy:Sl α wr (bP v++ []) A m c ys)(hn:k+m<=100000):
 ∃v' w',(Builtin.append_ #[t,t] t #[v,.slice A m c]).run prog wr=.ok v' w'/\yg e w u L v' (k+m) (xs++ys) w'/\Keeps (bP v) wr w':=by
 obtain⟨i,z,l,o,s,C,D⟩:=hi;have j:(k+m)*i.bytes<=140737488355328:=cF (fS hn D) pt;obtain⟨v',w',E,T,f,H⟩:=h.own.uy (ty:=t) h.bb.size ht l o s C hy j pj;exact⟨v',w',E,⟨T,h.fr.ZI f (fun q a=>⟨cF h.hW (h.own.lt a).1,fun b vs g e=>by have F:=(h.own.lt a).1;have G:=h.hL b vs g;omega⟩),h.bb.grown f h.bb.size (fun q a=>(h.own.lt a).1),h.hL,h.hW⟩,f.size,fun q a g=>f.block q a (fun e=>g (bJ.2 e.symm))⟩
def XeC(r:aS)(i:Nat):Prop:=∀{M M':List Nat}{s1 s2 s3 s4 s5 s6 s7:dK}{w:World},dG w M r s1 s2 s3 s4 s5 s6 s7->b_ M' w->Calls prog 59 #[.agg (aV r s1 s2 s3 s4 s5 s6 s7).toArray,.int .i64 (i:Int)] w fun e w'=>∃A m c,e=.returned (.slice A m c)/\Sl bK w' M' A m c (Jd r i)/\Below w w w'
def XwR(r:aS)(ks:List bK)(w u:World)(L:List (Nat×List Value))(n:Nat)(v i:Value)(wr:World):Prop:=∃(k:Nat) (v0:Value),k<=n/\v0=v/\i=k/\Hid (yg 113 w u L v0 (zf r (ks.take k)).length (zf r (ks.take k)) wr)
attribute [irreducible] XwR
theorem yg.nil{α:Type} [kJ α] {w w1:World}{L:List (Nat×List Value)}(h:Fr w w1 L)(e:TypeId):yg (α:=α) e w w1 L (.slice none 0 0) 0 [] w1:=⟨bD.nil _ _ _,h,bL _ _,h.lt,h.bl.size⟩
theorem Fj{rk:Nat->Nat}(T:T16 r rk)(i:Nat)(ih:∀j,rk j<rk i->j<r.ties.length->XeC r j)(hi:i<r.ties.length):XeC r i:=by
 intro M M' s1 s2 s3 s4 s5 s6 s7 w hr hM;refine wid ?_;obtain⟨R,n,W⟩:=s4;have h4:Sl dA w M R n W r.ties:=hr.ties;have an:=h4.len;obtain⟨t,P⟩:=dW r.ties i hi;have aB:i<n:=pj;have aD:n<=16:=by rw[<-an];exact T.few
 obtain⟨L,hL⟩:∃L:List (Nat×List Value), [(w.heap.size,aV r s1 s2 s3 ⟨R,n,W⟩ s5 s6 s7)]=L:=⟨_,rfl⟩;obtain⟨W1,aA,F1⟩:=dR ((Fr.nil w).a w (aV r s1 s2 s3 ⟨R,n,W⟩ s5 s6 s7) 28);have HL:=Hd (show ∀V,Fr w V L->Fr w V [(w,aV r s1 s2 s3 ⟨R,n,W⟩ s5 s6 s7)]from fun V h=>by rw[hL];exact h);have E:Fr w W1 L:=by rw[<-hL];exact F1
 clear F1;obtain⟨b,o,B,m,d,rfl,⟨p0,p1⟩,hks⟩:=(h4.go E.bl).n_ P;obtain⟨ks,N⟩:=aC t.2;rw[N]at hks;have ak:=hks.len;have aE:m<=32:=by have:=T.keys t (bh P);rw[N]at this;omega
 have aj:Jd r i=zf r ks:=by rw[acN T P,N];rfl
 have au:=Hd ((HL.out _ E).mJ 0);have R0:=Hd (show yg (α:=bK) 113 w W1 L (.slice none 0 0) 0 [] W1 from yg.nil E _);have H:=oK hr P N hks ak;have O:=fB T aj (T.len i hi);have IH:=Hd ih;have HM:=Hd2 hM E.bl.size;have o1:=aW (HL.out _ E);clear E h4 hr P hks N ak hL aj ih hM T an;refine ent func59 ntmps59 ?_;gi_wp2;clear o1;gi_loopw[5,7] (fun v i wr=>XwR r ks w W1 L m v i wr) (fun _ i _=>m-(intOf i).toNat);case atStart=>unfold XwR;exact⟨0,_,cf _,rfl,rfl,R0⟩
 case round=>
  unfold XwR at hrel;obtain⟨k,v,hk,rfl,rfl,f⟩:=hrel;obtain⟨V,rfl⟩:∃V,V=wr:=⟨_,rfl⟩;have o3:=aW (HL.out _ f.out.fr);have ab:(zf r (ks.take k)).length<=32:=by have h1:=Vk r ks k;have h2:=O.v;rw[O.b]at h2;omega
  by_cases am:k<m
  ·obtain⟨y,J⟩:=dW ks k (by rw[H.x];exact am);obtain⟨b3,ZU,rfl,ah,aq,ar⟩:=H.d.xQ J;have aw:=bw W1 _ ah;have y0:=(bq f.out.bb []).cell po ah;have y1:=(bq f.out.bb []).cell po aq;have y2:=(bq f.out.bb []).cell po ar;clear ah aq ar;have D:=KI r J;obtain⟨yk,ys,yn⟩:=y;simp only at y0 y1 y2;by_cases Y:yk=5
   ·subst Y;obtain⟨u,rfl,hu,ao⟩:=O.a.ref i t H.b (5,ys,yn) (by rw[H.c];exact bh J) rfl;simp only[mf,fv]at D;have l:∀q,q<W1.heap.size->q∉bP v:=fun q I hm=>by have:=(f.out.own.lt (bJ.1 hm)).1;omega
    have C:w.heap.size<W1.heap.size:=au.out;obtain⟨wd,ag⟩:=aC V.drew;have aa:Below V V wd:=by rw[<-ag];exact pE.drew
    have av:=Hd (f.out.go aa);have HC:=Hd (IH.out u ao hu (M:=M) (M':=bP v) (H.a.go (f.out.fr.bl.trans (aa.mono f.out.fr.bl.size))) (fun q I=>bX (f.out.own.lt (bJ.1 I)).2 aa.size));have s:=HL.out _ f.out.fr;have u0:=aF (l _ C) (s.aQ 0 0);have u1:=aF (l _ C) (s.aQ 0 1);have u2:=aF (l _ C) (s.aQ 0 2);have u3:=aF (l _ C) (s.aQ 0 3);have u4:=aF (l _ C) (s.aQ 0 4);have u5:=aF (l _ C) (s.aQ 0 5);have u6:=aF (l _ C) (s.aQ 0 6);have u7:=aF (l _ C) (s.aQ 0 7);have u8:=aF (l _ C) (s.aQ 0 8);have x2:=aF (l _ aw) y2;have yT:=Hd ag;have S:=fB D ab (O.a.len u hu);clear J D ao aa s ag l ab;gi_wp2;refine aP (bP v) 9 pk pk ?_;refine ay 0 ?_;refine ay 1 ?_;refine ay 2 ?_;refine ay 3 ?_;refine ay 4 ?_;refine ay 5 ?_;refine ay 6 ?_;rw[yT.out];refine eU 7 fun K G=>?_;gi_wp2;refine Cl 59 HC.out ?_;rintro e w2 ⟨A2,m2,c2,rfl,af,ad⟩;refine G _ _ ⟨?_,?_⟩;clear G K;·exact bq ad _
    refine lit ?_;have al:=af.len;obtain⟨v',wA,Q,z,kA⟩:=(av.out.go ad).ahX (t:=110) underlying110 aaM (af.less (fun q I=>by simpa using I)) (by have:=S.b;have:=S.v;omega);rw[<-S.a]at z;have F:=Hd2 Q (show yg (α:=bK) 113 w W1 L v' (zf r (ks.take (k+1))).length (zf r (ks.take (k+1))) wA by
     have e:(zf r (ks.take (k+1))).length=(zf r (ks.take k)).length+m2:=by rw[S.a,cJ,al]
     rw[e];exact z)
    have o4:=aW (HL.out _ z.fr);clear z af al ad Q;refine oQ 8 [] pk (dN pt rfl ?_ (fun K G=>?_) gU);·exact wy
    refine aI _ _ _ rfl rfl rfl F.out.1 (G _ _ ⟨kA,?_⟩);clear G K;refine lit ?_;refine iq 1 ?_;refine jW fun K G K' ac=>?_;gi_wp2;refine et _ ?_;simp only[cu];gi_wp2;exact⟨by unfold XwR;exact⟨k+1,_,pj,rfl,by go_num,Hd F.out.2⟩,by simp[intOf];omega⟩
   have az:(yk==5)=false:=cU.2 Y;rw[if_neg Y]at D;obtain⟨b9,o9,ax,e9,ai,-⟩:=(H.d).get J;have ae:=(rd_key ai).2;obtain⟨v',wA,Q,z⟩:=f.out.app (x:=(yk,ys,yn)) (cs:= [yk,ys,yn]) underlying110 aaM ⟨[_],_,rfl,⟨rfl,ae.1⟩, [_],_,rfl,rfl,⟨rfl,ae.2⟩⟩ pj;rw[<-D]at z;have F:=Hd2 Q (show yg (α:=bK) 113 w W1 L v' (zf r (ks.take (k+1))).length (zf r (ks.take (k+1))) wA by
    have e:(zf r (ks.take (k+1))).length=(zf r (ks.take k)).length+1:=by rw[D];simp
    rw[e];exact z)
   have o4:=aW (HL.out _ z.fr);clear J D Q z ai e9 ae Y ab
   gi_wp2_with (first
    |(have g:=F;clear g;gi_at_builtin;refine c_ rfl fun K ac=>?_;have X:=F.out.1;refine aI _ _ _ rfl rfl rfl X (ac _ _ ?_);clear ac K X)
    |fail)
   exact⟨by unfold XwR;exact⟨k+1,_,pj,rfl,by go_num,Hd F.out.2⟩,by simp[intOf];omega⟩
  ·obtain rfl:k=m:=pj;have Z:=f.out;rw[bR (by rw[H.x];exact bj _)]at Z ab;obtain⟨A9,c9,rfl,ap⟩:=(Z.own.ajb M').sl pj (fun q I=>bX (HM.a q I) HM.u);have HE:=Hd2 ap Z.fr.bl;clear hk am Z ap f;gi_wp2;go_ret;exact⟨A9,_,c9,rfl,by rw[O.b];exact HE.a,HE.u⟩
theorem yj{r:aS}{rk:Nat->Nat}(T:T16 r rk):∀(N i:Nat),rk i<N->i<r.ties.length->XeC r i
 |0,_,h,_=>by omega
 |N+1,i,h,hi=>Fj T i (fun j hj hl=>yj T N j pj hl) hi
end
