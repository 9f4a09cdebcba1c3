/- Lemmas. -/
import Derived.Test.YtfdmnogfflcllaaGreatDoorM27
set_option linter.unusedVariables false
set_option linter.unusedSimpArgs false
set_option maxRecDepth 100000
set_option maxHeartbeats 20000000
namespace Go.Proofs.YtfdmnogfflcllaaGreatDoor
open Go.Proofs.Tryz
theorem aj3{p:Prop}(h:p:=by
 clear mk x B C;rcases v with rfl|rfl;·exact kM
 exact kM):p:=h
theorem aj6{p:Prop}(h:p:=by
 refine ent func107 rfl ntmps107 ?_
 gi_wp2_with (first
  |(refine Cl 105 (aj _ _ _ _) ?_;rintro e b ⟨rfl,rfl⟩;rw[Z.out])
  |(refine⟨bq,?_⟩))
 go_ret;exact ab.no (by first|rfl|simp[*]) HN.out HF.out.bl):p:=h
theorem aj8{p:Prop}(h:p:=by
 first
  |omega
  |(have g:=Z.out;simp at g;omega)
  |(rcases h with h|h|h|⟨-,-,h⟩;·exact d h
    ·exact f h
    ·exact K h
    ·exact hs h)):p:=h
theorem kM{p:Prop}(h:p:=by
 refine ent func154 rfl ntmps154 ?_;gi_wp2;refine ak [] [0,1,2,3,4,5,6] oF oF ?_;refine eH ?_;refine aH fun K f=>aA rfl rfl wy fun o i=>?_;gi_wp2;refine Cl 191 (bH _ _) ?_;rintro e j ⟨rfl,rfl⟩;rw[q.out];refine i _ _ ⟨?_,f _ _ ?_⟩;clear i o f K;·exact cF _ _
 refine lit ?_;refine eH ?_;refine aK ?_;refine lit ?_
 gi_wp2_with (first
  |(have g:=L.out;clear g;refine Cl 105 (aj _ _ _ _) ?_;rintro e j ⟨rfl,rfl⟩;rw[u.out])
  |(refine Cl 105 (aj _ _ _ _) ?_;rintro e j ⟨rfl,rfl⟩;rw[t.out];have L:=Hd trivial)
  |(refine⟨bq,?_⟩))
 go_ret;exact ab.no (by first|rfl|simp[*]) r.out HF.out.bl.drew):p:=h
theorem tY{p:Prop}(h:p:=by
 obtain⟨j,R,rfl,Q,x⟩:=hrel;have o3:=aW x.out;by_cases F:j<m
 ·obtain⟨y,f⟩:=dW l j (by rw[HL.out];exact F);obtain⟨b,o,B,m',Z,rfl,⟨p0,p1,p2,p3,p4⟩,-,hys⟩:=(I.u.go x.out.bl).qQ f;have J:=Hd (I.a y (aR f) hys);have HY:=Hd f;clear f hys
  gi_wp2_with (first
   |(refine Cl 154 J.out ?_;rintro e r H;obtain⟨b,rfl,hb,E⟩:=H.of;have v:=Hd (x.out.go E);have HB:=Hd hb;clear hb E H;cases b)
   |fail)
  ·go_ret;exact ab.no rfl (by rw[<-t.a];exact fun h=>hno HB (fun z q=>h z (by rw[lW];exact bz _ (qF (aR HY.out) q)))) v.out.bl
  exact⟨⟨j+1,oE,by go_num,Hd (bY HY.out Q.out (HB.out.1 oY)),v⟩,by simp[intOf];omega⟩
 obtain rfl:j=m:=oE;have N:=Hd (show P by rw[<-t.a];refine o_ (Dw t.u) (fun z q=>Q.out z ?_);rw[bL (by rw[HL.out];exact bh _)];exact q);clear R F;gi_wp2;go_ret;exact ab.yes rfl N.out x.out.bl):p:=h
theorem tZ{p:Prop}(h:p:=by
 have HN:=Hd (show ¬rC (s,lo,b,f,d,i,rv)from fun h=>by
  have h:0<=lo/\lo<b/\b<=1000/\1<=f/\(b-lo).tmod f=0/\1<=d/\d<=3/\0<=i/\(i=0\/d=2):=h
  first
   |omega
   |(have g:=Z.out;simp at g;omega))
 refine ent func106 rfl ntmps106 ?_
 gi_wp2_with (first
  |(refine Cl 105 (aj _ _ _ _) ?_;rintro e j ⟨rfl,rfl⟩;rw[Z.out])
  |(refine⟨bq,?_⟩))
 go_ret;exact ab.no (by first|rfl|simp[*]) HN.out HF.out.bl):p:=h
theorem zQ{p:Prop}(h:p:=by exact⟨false,false,by rw[b];rfl,fun _=>D oE oE,fun e=>(by cases e),fun _=>⟨(r oE).1,fun _=>(r oE).2 oE oE⟩⟩):p:=h
theorem Ap{p:Prop}(h:p:=by have HN:=Hd (show ¬sZ (k,s,n)from fun h=>by have h:k=1\/k=2\/k=5\/((k=3\/k=4\/k=6)/\n=0/\s.toList= []):=h;exact aj8);exact aj6):p:=h
theorem EU{p:Prop}(h:p:=by have b:(l.length:Int)=0:=b;exact⟨false,true,by rw[b];rfl,fun e=>(by cases e),fun e=>(by cases e),fun _=>⟨(r oE).1,fun e=>(by cases e)⟩⟩):p:=h
theorem TQ{p:Prop}(h:p:=by exact⟨true,false,by rw[b];rfl,fun _=>D oE oE,fun _=>a oE,fun e=>(by cases e)⟩):p:=h
variable {y:aU}{p:Prop}{w w':World}{e:Ending}{M:List Nat}{A:Option Addr}{m c:Nat}
def mV(k:Int):Int:=if k=1\/k=2\/k=3\/k=4\/k=5 then 0 else if k=8 then 1 else if k=6\/k=7\/k=9\/k=10 then 2 else if k=11 then 4 else-1
structure Jg(y:aU):Prop where
 len:((y.l.length:Nat):Int)=mV y.kind
 num:(y.kind=1\/y.kind=8)->0<=y.n/\y.n<=1099511627776/\1<=y.d/\y.d<=1099511627776
 no:¬(y.kind=1\/y.kind=8)->y.d=0/\(¬y.kind=2->¬y.kind=5->y.n=0)
 name:¬y.kind=2->¬y.kind=5->y.name.toList= []
theorem Dw(h:Jg y):pX y:=by
 obtain⟨b,a,r,D⟩:=h;obtain⟨k,s,n,d,l⟩:=y;simp only[aU.kind,aU.name,aU.n,aU.d,aU.l]at b a r D;have f:k=1\/k=2\/k=3\/k=4\/k=5\/k=6\/k=7\/k=8\/k=9\/k=10\/k=11:=by
  unfold mV at b
  repeat' split at b
  all_goals omega
 unfold pX;simp only[aU.kind,aU.name,aU.n,aU.d,aU.l];rcases f with rfl|rfl|rfl|rfl|rfl|rfl|rfl|rfl|rfl|rfl|rfl;·have b:(l.length:Int)=0:=b;exact TQ
 ·exact EU
 ·have b:(l.length:Int)=0:=b;exact zQ
 ·have b:(l.length:Int)=0:=b;exact zQ
 ·exact EU
 ·have b:(l.length:Int)=2:=b;exact zQ
 ·have b:(l.length:Int)=2:=b;exact zQ
 ·have b:(l.length:Int)=1:=b;exact TQ
 ·have b:(l.length:Int)=2:=b;exact zQ
 ·have b:(l.length:Int)=2:=b;exact zQ
 have b:(l.length:Int)=4:=b;exact zQ
theorem Qn{y:aU}:∀{l:List aU},y∈Ah l->∃z,z∈l/\y∈iZ z
 | [],h=>by rw[Ah]at h;cases h
 |x::l,h=>by
  rw[Ah]at h;rcases cR.1 h with h|h;·exact⟨x,cd,h⟩
  obtain⟨z,a,b⟩:=Qn h;exact⟨z,bz _ a,b⟩
theorem o_{Q:aU->Prop}{x:aU}(h:Q x)(hl:∀z,z∈x.l->∀y,y∈iZ z->Q y):∀y,y∈iZ x->Q y:=by
 intro y g;rw[lW]at g;rcases cB.1 g with rfl|g;·exact h
 obtain⟨z,a,b⟩:=Qn g;exact hl z a y b
theorem bY{α:Type}{Q:α->Prop}{l:List α}{k:Nat}{y:α}(hy:l[k]?=some y)(h:∀z,z∈l.take k->Q z)(hq:Q y):∀z,z∈l.take (k+1)->Q z:=by
 intro z a;rw[eo,hy]at a;rcases cR.1 a with a|a;·exact h z a
 rw[ja,bE]at a;rw[a];exact hq
theorem Qo:∀(l:List Int) (a:Int),(∀x,x∈l->0<=x)->(∀x,l[0]?=some x->x<=a)->(∀(i:Nat) (x y:Int),l[i]?=some x->l[i+1]?=some y->y<=x)->pW a l
 | [],_,_,_,_=>bq
 |n::l,a,h0,h1,h2=>⟨h0 n cd,h1 n rfl,Qo l n (fun x hx=>h0 x (bz _ hx)) (fun x hx=>h2 0 n x rfl (by simpa using hx)) (fun i x y hx hy=>h2 (i+1) x y (by simpa using hx) (by simpa using hy))⟩
theorem Yo{t p:Int}(h1:t<=256)(h2:2*t<p)(hp:1<=p):t<(p+1).tdiv 2:=by rw[eB oE];omega
section
open Go.RowKit Go.Shelf
attribute [local go_sem] cK
def Says(p:Prop)(w:World)(e:Ending)(w':World):Prop:=∃b,e=.returned (.bool b)/\(b=true->p)/\Below w w w'
attribute [irreducible] Says
theorem Says.no(h:e=.returned (.bool false))(hb:Below w w w'):Says p w e w':=by unfold Says;exact⟨false,h,fun e=>(by cases e),hb⟩
theorem Says.yes(h:e=.returned (.bool true))(hp:p)(hb:Below w w w'):Says p w e w':=by unfold Says;exact⟨true,h,fun _=>hp,hb⟩
theorem Says.of(h:Says p w e w'):∃b,e=.returned (.bool b)/\(b=true->p)/\Below w w w':=by unfold Says at h;exact h
def ab(p:Prop)(w:World)(e:Ending)(w':World):Prop:=∃b,e=.returned (.bool b)/\(b=true↔p)/\Below w w w'
attribute [irreducible] ab
theorem ab.no(h:e=.returned (.bool false))(hn:¬p)(hb:Below w w w'):ab p w e w':=by unfold ab;exact⟨false,h,⟨fun e=>(by cases e),fun h=>absurd h hn⟩,hb⟩
theorem ab.yes(h:e=.returned (.bool true))(hp:p)(hb:Below w w w'):ab p w e w':=by unfold ab;exact⟨true,h,⟨fun _=>hp,fun _=>rfl⟩,hb⟩
theorem ab.of(h:ab p w e w'):∃b,e=.returned (.bool b)/\(b=true↔p)/\Below w w w':=by unfold ab at h;exact h
theorem hno{q:Prop}(h:Hid (q↔p))(hp:p)(hq:¬q:=by simp):False:=hq (h.out.2 hp)
theorem aj(n low high:Int)(w:World):Calls prog 105 #[.int .i64 n,.int .i64 low,.int .i64 high] w fun e w'=>e=.returned (.bool (decide (low<=n)&&decide (n<=high)))/\w=w':=by
 refine wid ?_;by_cases q:low<=n;·refine ent func105 rfl ntmps105 ?_;gi_wp2;go_ret;exact⟨by simp[q],rfl⟩
 refine ent func105 rfl ntmps105 ?_;gi_wp2;go_ret;have a:¬low<=n:=oE;exact⟨by simp[a],rfl⟩
theorem RS(x:bT)(w:World):Calls prog 106 #[.agg #[.string x.1,.int .i64 x.2.1,.int .i64 x.2.2.1,.int .i64 x.2.2.2.1,.int .i64 x.2.2.2.2.1,.int .i64 x.2.2.2.2.2.1,.bool x.2.2.2.2.2.2]] w (ab (rC x) w):=by
 obtain⟨s,lo,b,f,d,i,rv⟩:=x;refine wid ?_;obtain⟨q,l⟩:=aC (decide (1<=d)&&decide (d<=3));have Z:=Hd l;obtain⟨W1,B,F1⟩:=dR ((Fr.nil w).a w [.string s,.int .i64 lo,.int .i64 b,.int .i64 f,.int .i64 d,.int .i64 i,.bool rv] 59);refine op1 F1 ?_;intros;have HF:=Hd F1;clear F1 l;by_cases a1:lo<0;·exact tZ
 by_cases a2:b<=lo;·exact tZ
 by_cases a3:1000<b;·exact tZ
 by_cases v:f<1;·exact tZ
 have n5:¬f=0:=oE;have C:IntKind.i64.wrap (b-lo)=b-lo:=by rw[bR];omega
 obtain⟨t,S⟩:=aC ((b-lo).tmod f);have n7:t.natAbs<=1000:=by rw[<-S,Int.natAbs_tmod];exact cD (Nat.mod_le _ _) oE
 have D:IntKind.i64.wrap t=t:=by rw[bR];omega
 by_cases n:t=0;rotate_left;·exact tZ
 subst n;have k:=Hd S;cases q;·exact tZ
 by_cases z:0<=i;rotate_left;·exact tZ
 have HB:=Hd (show 1<=d/\d<=3 by have h:=Z.out;simpa using h);by_cases o:i=0
 ·subst o;refine ent func106 rfl ntmps106 ?_
  gi_wp2_with (first
   |(refine Cl 105 (aj _ _ _ _) ?_;rintro e j ⟨rfl,rfl⟩;rw[Z.out])
   |(refine⟨bq,?_⟩))
  go_ret;exact ab.yes (by first|rfl|simp[*]) ⟨oE,oE,oE,oE,k.out,HB.a,HB.u,oE,.inl rfl⟩ HF.out.bl
 by_cases r:d=2
 ·subst r;refine ent func106 rfl ntmps106 ?_
  gi_wp2_with (first
   |(refine Cl 105 (aj _ _ _ _) ?_;rintro e j ⟨rfl,rfl⟩;rw[Z.out])
   |(refine⟨bq,?_⟩))
  go_ret;exact ab.yes (by first|rfl|simp[*]) ⟨oE,oE,oE,oE,k.out,HB.a,HB.u,oE,.inr rfl⟩ HF.out.bl
 exact tZ
theorem bH(k:Int)(w:World):Calls prog 191 #[.int .i64 k] w fun e w'=>e=.returned (.int .i64 (mV k))/\w=w':=by
 refine wid ?_;by_cases h:k=1\/k=2\/k=3\/k=4\/k=5\/k=6\/k=7\/k=8\/k=9\/k=10\/k=11
 ·rcases h with rfl|rfl|rfl|rfl|rfl|rfl|rfl|rfl|rfl|rfl|rfl
  all_goals
   refine ent func191 rfl ntmps191 ?_;gi_wp2;go_ret;exact⟨rfl,rfl⟩
 simp only[not_or]at h;obtain⟨b,g,r,D,K,i,j,l,n,d,f⟩:=h;have a:=Hd (show mV k= -1 by unfold mV;rw[if_neg oE,if_neg oE,if_neg oE,if_neg oE]);refine ent func191 rfl ntmps191 ?_;gi_wp2;go_ret;exact⟨by rw[a.out];rfl,rfl⟩
theorem Oi(x:bK)(w:World):Calls prog 107 #[.agg #[.int .i64 x.1,.string x.2.1,.int .i64 x.2.2]] w (ab (sZ x) w):=by
 obtain⟨k,s,n⟩:=x;refine wid ?_;obtain⟨q,i⟩:=aC (decide (1<=k)&&decide (k<=6));have Z:=Hd i;obtain⟨W1,t,F1⟩:=dR ((Fr.nil w).a w [.int .i64 k,.string s,.int .i64 n] 113);refine op1 F1 ?_;intros;have HF:=Hd F1;clear F1 i;by_cases h:k=1\/k=2\/k=5
 ·have r:=Hd h;rcases h with rfl|rfl|rfl
  all_goals
   cases q;·exact absurd Z.out oR
   ·refine ent func107 rfl ntmps107 ?_
    gi_wp2_with (first
     |(refine Cl 105 (aj _ _ _ _) ?_;rintro e b ⟨rfl,rfl⟩;rw[Z.out])
     |(refine⟨bq,?_⟩))
    go_ret;exact ab.yes (by first|rfl|simp[*]) (by unfold sZ;omega) HF.out.bl
 simp only[not_or]at h;obtain⟨d,f,K⟩:=h;cases q;·exact Ap
 have HB:=Hd (show 1<=k/\k<=6 by have h:=Z.out;simpa using h);by_cases o:n=0;rotate_left;·exact Ap
 subst o;by_cases hs:s.toList= []
 ·have l:s.toList.isEmpty=true:=by simpa using hs
  have j:=Hd hs;clear hs;refine ent func107 rfl ntmps107 ?_
  gi_wp2_with (first
   |(refine Cl 105 (aj _ _ _ _) ?_;rintro e b ⟨rfl,rfl⟩;rw[Z.out])
   |(refine⟨bq,?_⟩))
  go_ret;exact ab.yes (by first|rfl|simp[*]) (.inr (.inr (.inr ⟨by have:=HB.out;omega,rfl,j.out⟩))) HF.out.bl
 have l:s.toList.isEmpty=false:=by simpa using hs
 have HN:=Hd (show ¬sZ (k,s,(0:Int))from fun h=>by have h:k=1\/k=2\/k=5\/((k=3\/k=4\/k=6)/\(0:Int)=0/\s.toList= []):=h;exact aj8);exact aj6
theorem afy(h:pX y):Jg y:=by
 obtain⟨o,q,h,g,r,D⟩:=h;obtain⟨k,s,n,d,l⟩:=y;simp only[aU.kind,aU.name,aU.n,aU.d,aU.l]at h g r D;simp only[vT,qZ]at h
 repeat' split at h
 all_goals first
  |(cases h;done)
  |(exfalso;simp at h;done)
  |skip
 all_goals
  rename_i e;simp only[me]at h;simp at h;obtain⟨f,N,i⟩:=h;subst e;subst N;subst i;constructor;·first|exact f.symm|(subst f;rfl)
  ·show(_\/_)->0<=n/\n<=1099511627776/\1<=d/\d<=1099511627776;first|exact fun _=>r rfl|(intro j;exfalso;revert j;simp only[aU.kind];decide)
  ·show ¬(_\/_)->d=0/\(¬_=(2:Int)->¬_=(5:Int)->n=0)
   first
    |exact fun _=>⟨(D rfl).1,fun _ _=>(D rfl).2 rfl⟩
    |exact fun _=>⟨(D rfl).1,fun a b=>absurd rfl a⟩
    |exact fun _=>⟨(D rfl).1,fun a b=>absurd rfl b⟩
    |exact fun a=>absurd (.inl rfl) a
    |exact fun a=>absurd (.inr rfl) a
  ·show ¬_=(2:Int)->¬_=(5:Int)->s.toList= []
   first
    |exact fun _ _=>g rfl
    |exact fun a b=>absurd rfl a
    |exact fun a b=>absurd rfl b
def RxC(x:aU):Prop:=∀{M:List Nat}{A:Option Addr}{m c:Nat}{w:World},Sl aU w M A m c x.l->Calls prog 154 #[.agg #[.int .i64 x.kind,.string x.name,.int .i64 x.n,.int .i64 x.d,.slice A m c]] w (ab (∀y,y∈iZ x->pX y) w)
theorem Jh(k:Int)(s:ByteArray)(n d:Int)(l:List aU)(ih:∀y,y∈l->RxC y)(hok:Jg (.mk k s n d l))(hs:Sl aU w M A m c l):
 Calls prog 154 #[.agg #[.int .i64 k,.string s,.int .i64 n,.int .i64 d,.slice A m c]] w (ab (∀y,y∈iZ (.mk k s n d l)->pX y) w):=by
 refine wid ?_;have hl:=hs.len;have ad:=hs.small;obtain⟨P,hP⟩:=aC (∀y,y∈iZ (.mk k s n d l)->pX y);rw[hP];have t:=Hd2 hP hok;obtain⟨ar,aa⟩:=aC (mV k);have T:=Hd aa;have e0:((m:Nat):Int)=ar:=by rw[<-aa,<-hl];exact hok.len
 obtain⟨q1,U⟩:=aC (decide (0<=n)&&decide (n<=1099511627776));obtain⟨q2,W⟩:=aC (decide (1<=d)&&decide (d<=1099511627776));have X:=Hd U;have Y:=Hd W;obtain⟨W1,ac,F1⟩:=dR ((Fr.nil w).a w [.int .i64 k,.string s,.int .i64 n,.int .i64 d,.slice A m c] 66);have o1:=aW F1;have o2:=aW F1.drew;have v0:=ah (F1.aQ 0 0);have v4:=ah (F1.aQ 0 4);have HF:=Hd F1;have I:=Hd2 ih hs;have HL:=Hd hl;subst e0;clear F1 hs ih hl hP aa;have S:(k=1\/k=8)\/(k=2\/k=5)\/(k=3\/k=4\/k=6\/k=7\/k=9\/k=10\/k=11):=by
  have h:=hok.len;unfold mV at h;simp only[aU.kind]at h
  repeat' split at h
  all_goals omega
 rcases S with S|S|S
 ·have G:=hok.num S;have V:=hok.name (by show ¬k=2;omega) (by show ¬k=5;omega);simp only[aU.n,aU.d,aU.name]at G V;have he:s.toList.isEmpty=true:=by simpa using V
  obtain rfl:true=q1:=by rw[<-U];simp;omega
  obtain rfl:true=q2:=by rw[<-W];simp;omega
  clear G V hok U W;rcases S with rfl|rfl
  ·refine ent func154 rfl ntmps154 ?_;gi_wp2;refine ak [] [0,1,2,3,4,5,6] oF oF ?_;refine eH ?_;refine aH fun K C=>aA rfl rfl wy fun O D=>?_;gi_wp2;refine Cl 191 (bH _ _) ?_;rintro e r ⟨rfl,rfl⟩;rw[T.out];refine D _ _ ⟨?_,C _ _ ?_⟩;clear D O C K;·exact cF _ _
   refine lit ?_;refine eH ?_;refine aK ?_;refine lit ?_
   gi_wp2_with (first
    |(have g:=L.out;clear g;refine Cl 105 (aj _ _ _ _) ?_;rintro e r ⟨rfl,rfl⟩;rw[Y.out])
    |(refine Cl 105 (aj _ _ _ _) ?_;rintro e r ⟨rfl,rfl⟩;rw[X.out];have L:=Hd trivial)
    |(refine⟨bq,?_⟩))
   gi_loopw[4] (fun i wr=>∃j:Nat,j<=m/\i=.int .i64 j/\Hid (∀z,z∈l.take j->∀y,y∈iZ z->pX y)/\Hid (Fr w wr [(w, [.int .i64 1,.string s,.int .i64 n,.int .i64 d,.slice A m c])])) (fun i _=>m-(intOf i).toNat);case atStart=>exact⟨0,bO _,rfl,Hd oO,Hd HF.out.drew⟩
   case round=>exact tY
  refine ent func154 rfl ntmps154 ?_;gi_wp2;refine ak [] [0,1,2,3,4,5,6] oF oF ?_;refine eH ?_;refine aH fun K C=>aA rfl rfl wy fun O D=>?_;gi_wp2;refine Cl 191 (bH _ _) ?_;rintro e r ⟨rfl,rfl⟩;rw[T.out];refine D _ _ ⟨?_,C _ _ ?_⟩;clear D O C K;·exact cF _ _
  refine lit ?_;refine eH ?_;refine aK ?_;refine lit ?_
  gi_wp2_with (first
   |(have g:=L.out;clear g;refine Cl 105 (aj _ _ _ _) ?_;rintro e r ⟨rfl,rfl⟩;rw[Y.out])
   |(refine Cl 105 (aj _ _ _ _) ?_;rintro e r ⟨rfl,rfl⟩;rw[X.out];have L:=Hd trivial)
   |(refine⟨bq,?_⟩))
  gi_loopw[4] (fun i wr=>∃j:Nat,j<=m/\i=.int .i64 j/\Hid (∀z,z∈l.take j->∀y,y∈iZ z->pX y)/\Hid (Fr w wr [(w, [.int .i64 8,.string s,.int .i64 n,.int .i64 d,.slice A m c])])) (fun i _=>m-(intOf i).toNat);case atStart=>exact⟨0,bO _,rfl,Hd oO,Hd HF.out.drew⟩
  case round=>exact tY
 ·have G:=hok.no (by show ¬(k=1\/k=8);omega);simp only[aU.n,aU.d,aU.name]at G;obtain rfl:=G.1;clear G hok U W;rcases S with rfl|rfl
  ·refine ent func154 rfl ntmps154 ?_;gi_wp2;refine ak [] [0,1,2,3,4,5,6] oF oF ?_;refine eH ?_;refine aH fun K C=>aA rfl rfl wy fun O D=>?_;gi_wp2;refine Cl 191 (bH _ _) ?_;rintro e r ⟨rfl,rfl⟩;rw[T.out];refine D _ _ ⟨?_,C _ _ ?_⟩;clear D O C K;·exact cF _ _
   refine lit ?_;refine eH ?_;refine aK ?_;refine lit ?_
   gi_wp2_with (first
    |(have g:=L.out;clear g;refine Cl 105 (aj _ _ _ _) ?_;rintro e r ⟨rfl,rfl⟩;rw[Y.out])
    |(refine Cl 105 (aj _ _ _ _) ?_;rintro e r ⟨rfl,rfl⟩;rw[X.out];have L:=Hd trivial)
    |(refine⟨bq,?_⟩))
   gi_loopw[4] (fun i wr=>∃j:Nat,j<=m/\i=.int .i64 j/\Hid (∀z,z∈l.take j->∀y,y∈iZ z->pX y)/\Hid (Fr w wr [(w, [.int .i64 2,.string s,.int .i64 n,.int .i64 0,.slice A m c])])) (fun i _=>m-(intOf i).toNat);case atStart=>exact⟨0,bO _,rfl,Hd oO,Hd HF.out.drew⟩
   case round=>exact tY
  refine ent func154 rfl ntmps154 ?_;gi_wp2;refine ak [] [0,1,2,3,4,5,6] oF oF ?_;refine eH ?_;refine aH fun K C=>aA rfl rfl wy fun O D=>?_;gi_wp2;refine Cl 191 (bH _ _) ?_;rintro e r ⟨rfl,rfl⟩;rw[T.out];refine D _ _ ⟨?_,C _ _ ?_⟩;clear D O C K;·exact cF _ _
  refine lit ?_;refine eH ?_;refine aK ?_;refine lit ?_
  gi_wp2_with (first
   |(have g:=L.out;clear g;refine Cl 105 (aj _ _ _ _) ?_;rintro e r ⟨rfl,rfl⟩;rw[Y.out])
   |(refine Cl 105 (aj _ _ _ _) ?_;rintro e r ⟨rfl,rfl⟩;rw[X.out];have L:=Hd trivial)
   |(refine⟨bq,?_⟩))
  gi_loopw[4] (fun i wr=>∃j:Nat,j<=m/\i=.int .i64 j/\Hid (∀z,z∈l.take j->∀y,y∈iZ z->pX y)/\Hid (Fr w wr [(w, [.int .i64 5,.string s,.int .i64 n,.int .i64 0,.slice A m c])])) (fun i _=>m-(intOf i).toNat);case atStart=>exact⟨0,bO _,rfl,Hd oO,Hd HF.out.drew⟩
  case round=>exact tY
 ·have G:=hok.no (by show ¬(k=1\/k=8);omega);have r3:=G.2 (by show ¬k=2;omega) (by show ¬k=5;omega);have V:=hok.name (by show ¬k=2;omega) (by show ¬k=5;omega);simp only[aU.n,aU.d,aU.name]at G V r3;have he:s.toList.isEmpty=true:=by simpa using V
  obtain rfl:=G.1;obtain rfl:=r3;have k1:¬k=1:=oE;have k2:¬k=2:=oE;have k5:¬k=5:=oE;have k8:¬k=8:=oE;have ae:(k==1)=false:=cU.2 k1;have af:(k==2)=false:=cU.2 k2;have ag:(k==5)=false:=cU.2 k5;have ai:(k==8)=false:=cU.2 k8;clear G V hok U W S;refine ent func154 rfl ntmps154 ?_;gi_wp2;refine ak [] [0,1,2,3,4,5,6] oF oF ?_;refine eH ?_;refine aH fun K C=>aA rfl rfl wy fun O D=>?_;gi_wp2;refine Cl 191 (bH _ _) ?_;rintro e r ⟨rfl,rfl⟩;rw[T.out];refine D _ _ ⟨?_,C _ _ ?_⟩;clear D O C K;·exact cF _ _
  refine lit ?_;refine eH ?_;refine aK ?_;refine lit ?_
  gi_wp2_with (first
   |(have g:=L.out;clear g;refine Cl 105 (aj _ _ _ _) ?_;rintro e r ⟨rfl,rfl⟩;rw[Y.out])
   |(refine Cl 105 (aj _ _ _ _) ?_;rintro e r ⟨rfl,rfl⟩;rw[X.out];have L:=Hd trivial)
   |(refine⟨bq,?_⟩))
  gi_loopw[4] (fun i wr=>∃j:Nat,j<=m/\i=.int .i64 j/\Hid (∀z,z∈l.take j->∀y,y∈iZ z->pX y)/\Hid (Fr w wr [(w, [.int .i64 k,.string s,.int .i64 0,.int .i64 0,.slice A m c])])) (fun i _=>m-(intOf i).toNat);case atStart=>exact⟨0,bO _,rfl,Hd oO,Hd HF.out.drew⟩
  case round=>exact tY
theorem Oj(k:Int)(s:ByteArray)(n d:Int)(l:List aU)(hnn:¬Jg (.mk k s n d l))(hs:Sl aU w M A m c l):
 Calls prog 154 #[.agg #[.int .i64 k,.string s,.int .i64 n,.int .i64 d,.slice A m c]] w (ab (∀y,y∈iZ (.mk k s n d l)->pX y) w):=by
 refine wid ?_;have O:=hs.len;obtain⟨P,F⟩:=aC (∀y,y∈iZ (.mk k s n d l)->pX y);rw[F];have r:=Hd (show ¬P from by rw[<-F];exact fun h=>hnn (afy (h _ (by rw[lW];exact cd))));obtain⟨S,E⟩:=aC (mV k);have q:=Hd E;obtain⟨Q,B⟩:=aC (decide (0<=n)&&decide (n<=1099511627776));obtain⟨R,C⟩:=aC (decide (1<=d)&&decide (d<=1099511627776));have t:=Hd B;have u:=Hd C;obtain⟨W1,aa,F1⟩:=dR ((Fr.nil w).a w [.int .i64 k,.string s,.int .i64 n,.int .i64 d,.slice A m c] 66);have o1:=aW F1;have o2:=aW F1.drew;have v0:=ah (F1.aQ 0 0);have v4:=ah (F1.aQ 0 4);have HF:=Hd F1;clear F1 hs F;by_cases T:((m:Nat):Int)=S;rotate_left;·clear B C E;exact kM
 subst T;have v:((k=1\/k=8)\/(k=2\/k=5)\/(¬k=1/\¬k=8/\¬k=2/\¬k=5)):=oE;have HN:=Hd hnn;have mk:(((k=1\/k=8)->0<=n/\n<=1099511627776/\1<=d/\d<=1099511627776))->(¬(k=1\/k=8)->d=0/\(¬k=2->¬k=5->n=0))->(¬k=2->¬k=5->s.toList= [])->False:=fun a b c=>hnn ⟨by show((l.length:Nat):Int)=mV k;rw[O,E],a,b,c⟩;clear O E hnn;by_cases x:s.toList= []
 ·have U:s.toList.isEmpty=true:=by simpa using x
  rcases v with v|v|⟨H,N,I,J⟩
  ·cases Q;·exact aj3
   cases R;·exact aj3
   exact(mk (fun _=>by simp at B C;omega) (fun h=>absurd v h) (fun _ _=>x)).elim
  ·by_cases z:d=0;·exact(mk (fun h=>by omega) (fun _=>⟨z,fun a b=>by omega⟩) (fun _ _=>x)).elim
   have G:(d !=0)=true:=fo.2 z;exact aj3
  have W:(k==1)=false:=cU.2 H;have X:(k==2)=false:=cU.2 I;have Y:(k==5)=false:=cU.2 J;have Z:(k==8)=false:=cU.2 N;by_cases z:d=0
  ·subst z;by_cases D:n=0;·exact(mk (fun h=>by omega) (fun _=>⟨rfl,fun a b=>D⟩) (fun _ _=>x)).elim
   have V:(n !=0)=true:=fo.2 D;clear mk x B C;exact kM
  have G:(d !=0)=true:=fo.2 z;clear mk x B C;exact kM
 ·have U:s.toList.isEmpty=false:=by simpa using x
  rcases v with v|v|⟨H,N,I,J⟩
  ·clear mk x B C;cases Q
   ·rcases v with rfl|rfl;·exact kM
    exact kM
   cases R
   ·rcases v with rfl|rfl;·exact kM
    exact kM
   rcases v with rfl|rfl;·exact kM
   exact kM
  ·by_cases z:d=0;·exact(mk (fun h=>by omega) (fun _=>⟨z,fun a b=>by omega⟩) (fun a b=>by omega)).elim
   have G:(d !=0)=true:=fo.2 z;exact aj3
  have W:(k==1)=false:=cU.2 H;have X:(k==2)=false:=cU.2 I;have Y:(k==5)=false:=cU.2 J;have Z:(k==8)=false:=cU.2 N;clear mk x B C;by_cases z:d=0
  ·subst z;by_cases D:n=0;·subst D;exact kM
   have V:(n !=0)=true:=fo.2 D;exact kM
  have G:(d !=0)=true:=fo.2 z;exact kM
theorem KQ(x:aU):RxC x:=by
 induction x using iY with
 |_ x ih=>
 intro M A m c w hs;obtain⟨k,s,n,d,l⟩:=x;by_cases h:Jg (.mk k s n d l);·exact Jh k s n d l ih h hs
 exact Oj k s n d l h hs
end
